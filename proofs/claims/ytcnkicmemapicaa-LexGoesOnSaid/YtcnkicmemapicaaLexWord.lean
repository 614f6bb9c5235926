/- What Words of lex, and of its reference, come to: the same word, place and truth. Plain bytes and numbers. -/
import Derived.Test.YtcnkicmemapicaaLexNum
import Derived.Test.YtcnkicmemapicaaFlexWords
import Derived.Test.YtcnkicmemapicaaFzelligeref22Words
import Derived.Lib.Strings
namespace Go.Proofs.Ytcnkicmemapicaa.Lex
open Go Go.RowKit Go.Proofs.YtcnkicmemapicaaW.PrintWords Go.Proofs.Ytcnkicmemapicaa.F

/-- How many bytes two lists have in common at their beginnings. -/
def cl : List UInt8 → List UInt8 → Nat
  | a :: x, b :: y => if a = b then cl x y + 1 else 0
  | _, _ => 0
theorem cl_le : ∀ x y : List UInt8, cl x y ≤ x.length ∧ cl x y ≤ y.length
  | [], y => by simp [cl]
  | a :: x, [] => by simp [cl]
  | a :: x, b :: y => by
    have := cl_le x y
    simp only [cl, List.length_cons]
    split <;> omega
theorem take_cl : ∀ (x y : List UInt8) (n : Nat), n ≤ x.length → n ≤ y.length → (x.take n = y.take n ↔ n ≤ cl x y)
  | x, y, 0, _, _ => by simp
  | [], y, n + 1, h, _ => by simp at h
  | a :: x, [], n + 1, _, h => by simp at h
  | a :: x, b :: y, n + 1, h, h' => by
    have := take_cl x y n (by simpa using h) (by simpa using h')
    simp only [List.take_succ_cons, List.cons.injEq, cl]
    by_cases e : a = b
    · rw [if_pos e]
      constructor
      · rintro ⟨_, h⟩
        have := this.1 h
        omega
      · intro h
        exact ⟨e, this.2 (by omega)⟩
    · rw [if_neg e]
      constructor
      · rintro ⟨h, _⟩; exact absurd h e
      · intro h; omega
theorem bt_nat (s : ByteArray) (n : Nat) (h : n < s.size) : bt s (n : Int) = ((s.data.toList.getD n 0).toNat : Int) := by
  unfold bt
  rw [dif_pos (by simpa using h)]
  simp only [Int.toNat_natCast]
  congr 2
  have h' : n < s.data.toList.length := by rw [Array.length_toList]; exact h
  rw [List.getD_eq_getElem?_getD, List.getElem?_eq_getElem h']
  rfl
theorem size_len (s : ByteArray) : s.data.toList.length = s.size := by rw [Array.length_toList]; rfl
theorem drop_cons {l : List UInt8} {n : Nat} (h : n < l.length) : l.drop n = l.getD n 0 :: l.drop (n + 1) := by
  rw [List.drop_eq_getElem_cons h]
  simp [List.getD_eq_getElem?_getD, List.getElem?_eq_getElem h]
theorem cl_nil (x : List UInt8) : cl x [] = 0 := by cases x <;> rfl

theorem common_l0 (u v : ByteArray) (hu : u.size ≤ 1000) : ∀ (d k n : Nat), u.size - n = d → n ≤ u.size → n ≤ v.size → d + 1 < k →
    lex_common.l0 k u v (n : Int) = some ((n + cl (u.data.toList.drop n) (v.data.toList.drop n) : Nat) : Int) := by
  intro d
  induction d with
  | zero =>
    intro k n hd h1 h2 hk
    obtain ⟨k, rfl⟩ : ∃ m, k = m + 1 := ⟨k - 1, by omega⟩
    rw [lex_common.l0, if_neg (by omega), List.drop_eq_nil_of_le (by rw [size_len]; omega)]
    rfl
  | succ d ih =>
    intro k n hd h1 h2 hk
    obtain ⟨k, rfl⟩ : ∃ m, k = m + 1 := ⟨k - 1, by omega⟩
    rw [lex_common.l0, if_pos (by omega)]
    by_cases h3 : n < v.size
    · rw [if_pos (by omega), if_pos (by omega), bt_nat u n (by omega), bt_nat v n h3, drop_cons (show n < u.data.toList.length by rw [size_len]; omega), drop_cons (show n < v.data.toList.length by rw [size_len]; omega)]
      simp only [cl]
      by_cases e : u.data.toList.getD n 0 = v.data.toList.getD n 0
      · rw [e, if_pos rfl, if_pos rfl, w64 (by omega) (by omega), show ((n : Int) + 1) = ((n + 1 : Nat) : Int) by omega, ih k (n + 1) (by omega) (by omega) (by omega) (by omega)]
        congr 2
        omega
      · rw [if_neg (fun h => e (UInt8.toNat_inj.1 (by omega))), if_neg e]
        rfl
    · rw [if_neg (by omega), List.drop_eq_nil_of_le (show v.data.toList.length ≤ n by rw [size_len]; omega), cl_nil]
      rfl
theorem common_f (u v : ByteArray) (hu : u.size ≤ 1000) {k : Nat} (hk : 2000 < k) : lex_common.f k u v = some ((cl u.data.toList v.data.toList : Nat) : Int) := by
  unfold lex_common.f
  have := common_l0 u v hu u.size k 0 (by omega) (by omega) (by omega) (by omega)
  rw [List.drop_zero, List.drop_zero, Nat.zero_add] at this
  exact this
theorem prefix_f (u v : ByteArray) : strings_HasPrefix.f u v = some (decide (v.data.toList.length ≤ cl u.data.toList v.data.toList)) := by
  unfold strings_HasPrefix.f stringslite_HasPrefix.f
  have hc := cl_le u.data.toList v.data.toList
  by_cases h : (u.size : Int) ≥ (v.size : Int)
  · rw [if_pos h, if_pos (by omega), if_pos (by omega), Option.bind_some, Lib.extract_toList, Lib.toList_data, List.drop_zero, Nat.sub_zero, show ((v.size : Int)).toNat = v.data.toList.length by rw [size_len]; omega]
    congr 1
    have := take_cl u.data.toList v.data.toList v.data.toList.length (by rw [size_len, size_len]; omega) (Nat.le_refl _)
    rw [List.take_length] at this
    by_cases e : List.take v.data.toList.length u.data.toList = v.data.toList
    · rw [decide_eq_true (this.1 e), e, beq_self_eq_true]
    · rw [decide_eq_false (fun h => e (this.2 h)), beq_eq_false_iff_ne.2 e]
  · rw [if_neg h, Option.bind_some]
    congr 1
    refine (decide_eq_false ?_).symm
    rw [size_len] at *
    rw [size_len] at hc
    omega

/-- The first word that stands at the beginning of U, and how long it is. -/
def first (U : List UInt8) : List ByteArray → Nat → Option (Nat × Nat)
  | [], _ => none
  | w :: ws, i => if w.data.toList.length ≤ cl U w.data.toList then some (i, w.size) else first U ws (i + 1)
/-- How far any word goes on. -/
def far (U : List UInt8) : List ByteArray → Nat
  | [] => 0
  | w :: ws => max (cl U w.data.toList) (far U ws)
def out (at_ : Nat) (r : Option (Nat × Nat)) (m : Nat) : Int × Int × Bool := match r with
  | some (i, l) => ((i : Int), ((at_ + l : Nat) : Int), true)
  | none => (-1, ((at_ + m : Nat) : Int), false)
theorem rd_drop {ws : List ByteArray} {i : Nat} (h : i < ws.length) : ws.drop i = rdOf ByteArray.empty ws (i : Int) :: ws.drop (i + 1) := by
  rw [List.drop_eq_getElem_cons h]
  simp [rdOf, List.getD_eq_getElem?_getD, List.getElem?_eq_getElem h]
theorem far_le (U : List UInt8) : ∀ ws : List ByteArray, far U ws ≤ U.length
  | [] => by simp [far]
  | w :: ws => by
    have := far_le U ws
    have := cl_le U w.data.toList
    simp only [far]
    omega
theorem mx_nat (a b : Nat) : mx (a : Int) (b : Int) = ((max a b : Nat) : Int) := by unfold mx; split <;> omega

theorem words_l0 (s : ByteArray) (hs : s.size ≤ 1000) (a : Nat) (ha : a ≤ s.size) (ws : List ByteArray) (hw : ws.length ≤ 100) (hl : ∀ w, w ∈ ws → w.size ≤ 1000) : ∀ (d k i f : Nat), ws.length - i = d → i ≤ ws.length → d + 2002 < k → f ≤ 2000 →
    lex_Words.l0 k s (a : Int) (f : Int) ws (ws.length : Int) (i : Int) = some (out a (first (s.data.toList.drop a) (ws.drop i) i) (max f (far (s.data.toList.drop a) (ws.drop i)))) := by
  intro d
  induction d with
  | zero =>
    intro k i f hd hi hk hf
    obtain ⟨k, rfl⟩ : ∃ m, k = m + 1 := ⟨k - 1, by omega⟩
    rw [lex_Words.l0, if_neg (by omega), List.drop_eq_nil_of_le (show ws.length ≤ i by omega)]
    simp only [first, far, out, Nat.max_zero]
    rw [w64 (by omega) (by omega)]
    congr 1
  | succ d ih =>
    intro k i f hd hi hk hf
    obtain ⟨k, rfl⟩ : ∃ m, k = m + 1 := ⟨k - 1, by omega⟩
    have hw' := hl (rdOf ByteArray.empty ws (i : Int)) (by
      have h : i < ws.length := by omega
      have e : rdOf ByteArray.empty ws (i : Int) = ws[i] := by simp [rdOf, List.getD_eq_getElem?_getD, List.getElem?_eq_getElem h]
      rw [e]
      exact List.getElem_mem h)
    rw [lex_Words.l0, if_pos (by omega), if_pos (by omega), if_pos (by omega), if_pos (by omega), if_pos (by omega), prefix_f, Option.bind_some, rd_drop (show i < ws.length by omega)]
    have eU : (s.extract ((a : Int)).toNat s.size).data.toList = s.data.toList.drop a := by
      rw [Lib.extract_data, show ((a : Int)).toNat = a by omega, List.take_of_length_le (by rw [List.length_drop, size_len]; omega)]
    rw [eU]
    simp only [first, far]
    by_cases h : (rdOf ByteArray.empty ws (i : Int)).data.toList.length ≤ cl (s.data.toList.drop a) (rdOf ByteArray.empty ws (i : Int)).data.toList
    · rw [if_pos (decide_eq_true h), if_pos h]
      simp only [out]
      rw [w64 (by omega) (by omega)]
      congr 1
    · have hc := cl_le (s.data.toList.drop a) (rdOf ByteArray.empty ws (i : Int)).data.toList
      rw [List.length_drop, size_len, size_len] at hc
      rw [if_neg (by rw [decide_eq_true_eq]; exact h), if_neg h, common_f _ _ (by rw [ByteArray.size_extract]; omega) (by omega), Option.bind_some, eU, mx_nat, w64 (x := (i : Int) + 1) (by omega) (by omega), show ((i : Int) + 1) = ((i + 1 : Nat) : Int) by omega, ih k (i + 1) _ (by omega) (by omega) (by omega) (by omega), Nat.max_assoc]
/-- Words of lex. -/
theorem words_f (s : ByteArray) (hs : s.size ≤ 1000) (a : Int) (ws : List ByteArray) (hw : ws.length ≤ 100) (hl : ∀ w, w ∈ ws → w.size ≤ 1000) {k : Nat} (hk : 4000 < k) :
    lex_Words.f k s a ws = some (out (at_ s a).toNat (first (s.data.toList.drop (at_ s a).toNat) ws 0) (far (s.data.toList.drop (at_ s a).toNat) ws)) := by
  have hb := at_le s a
  unfold lex_Words.f
  rw [within_f, Option.bind_some]
  have := words_l0 s hs (at_ s a).toNat (by omega) ws hw hl ws.length k 0 0 (by omega) (by omega) (by omega) (by omega)
  rw [List.drop_zero, Nat.zero_max, show (((at_ s a).toNat : Nat) : Int) = at_ s a by omega] at this
  exact this
end Go.Proofs.Ytcnkicmemapicaa.Lex
