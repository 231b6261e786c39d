/-
  What a new object's writes are, word by word. No program here.
-/
import Derived.Test.YthdijbkcjmeilaaObj
namespace Go
open Go.RowKit
theorem writes_get (i : Int) (f : Nat → Nat × Nat) {n k : Nat} (hk : k < n) : (writes i f n)[k * 2]? = some (.int .i64 (i * 8 + k)) ∧ (writes i f n)[k * 2 + 1]? = some (cx (f k)) := by
  induction n with
  | zero => omega
  | succ n ih =>
    have hl := writes_length i f n
    by_cases h : k < n
    · obtain ⟨h1, h2⟩ := ih h
      exact ⟨by rw [writes, List.getElem?_append_left (by omega), h1], by rw [writes, List.getElem?_append_left (by omega), h2]⟩
    · obtain rfl : k = n := by omega
      exact ⟨by rw [writes, List.getElem?_append_right (by omega), hl, Nat.sub_self]; rfl, by rw [writes, List.getElem?_append_right (by omega), hl, Nat.add_sub_cancel_left]; rfl⟩
theorem objWrites_length (s : Shp) (kind : Int) (got : List Int) (side : Bool) (n : Nat) : (objWrites s kind got side n).length = n * 16 := by
  induction n with
  | zero => rfl
  | succ n ih => rw [objWrites, List.length_append, ih, writes_length]; omega
/-- The k-th write of the i-th fragment. -/
theorem objWrites_get (s : Shp) (kind : Int) (got : List Int) (side : Bool) {n i k : Nat} (hi : i < n) (hk : k < 8) :
    (objWrites s kind got side n)[(i * 8 + k) * 2]? = some (.int .i64 (got.getD i 0 * 8 + k)) ∧ (objWrites s kind got side n)[(i * 8 + k) * 2 + 1]? = (objRow s kind got side i)[k]? := by
  induction n with
  | zero => omega
  | succ n ih =>
    have hl := objWrites_length s kind got side n
    by_cases h : i < n
    · obtain ⟨h1, h2⟩ := ih h
      exact ⟨by rw [objWrites, List.getElem?_append_left (by omega), h1], by rw [objWrites, List.getElem?_append_left (by omega), h2]⟩
    · obtain rfl : i = n := by omega
      obtain ⟨h1, h2⟩ := writes_get (got.getD i 0) (rowF (objRow s kind got side i)) hk
      have hr := objRow_length s kind got side i
      refine ⟨?_, ?_⟩
      · rw [objWrites, List.getElem?_append_right (by omega), hl, show (i * 8 + k) * 2 - i * 16 = k * 2 by omega, h1]
      · rw [objWrites, List.getElem?_append_right (by omega), hl, show (i * 8 + k) * 2 + 1 - i * 16 = k * 2 + 1 by omega, h2, List.getElem?_eq_getElem (by omega)]
        have hc := (objRow_cx s kind got side i _ (List.getElem_mem (show k < (objRow s kind got side i).length by omega))).cx
        rw [← hc]
        unfold rowF
        rw [List.getD_eq_getElem?_getD, List.getElem?_eq_getElem (by omega)]
        rfl
theorem putFields_zero (s : Shp) (frag : Int) (vs : List Value) (n : Nat) : (putFields s frag vs n)[0]? = vs[0]? := by
  induction n with
  | zero => rfl
  | succ n ih =>
    by_cases h : s.hasField n = true ∧ Shp.placeF n = frag
    · have := Shp.placeW_bd n (by omega)
      rw [putFields_yes h, List.getElem?_set_ne (by omega), ih]
    · rw [putFields_no h, ih]
theorem Shp.place_inj {a b : Nat} (h : placeF a = placeF b) (h' : placeW a = placeW b) : a = b := by
  unfold placeF placeW at *
  by_cases h1 : (a : Int) < 6 <;> by_cases h2 : (b : Int) < 6
  · rw [if_pos h1, if_pos h2] at h'; omega
  · rw [if_pos h1, if_neg h2] at h; omega
  · rw [if_neg h1, if_pos h2] at h; omega
  · rw [if_neg h1, if_neg h2] at h h'; omega
theorem putFields_field {s : Shp} {k : Nat} (hk : s.hasField k = true) (vs : List Value) (hv : vs.length = 8) {n : Nat} (hn : k < n) : (putFields s (Shp.placeF k) vs n)[(Shp.placeW k).toNat]? = some (wBlank (s.refs.getD k false)) := by
  have hb := Shp.placeW_bd k (by omega)
  induction n with
  | zero => omega
  | succ n ih =>
    by_cases h : s.hasField n = true ∧ Shp.placeF n = Shp.placeF k
    · rw [putFields_yes h]
      by_cases hkn : k = n
      · subst hkn
        rw [List.getElem?_set_self (by rw [putFields_length]; omega)]
      · have hb2 := Shp.placeW_bd n (by omega)
        rw [List.getElem?_set_ne (fun e => hkn (Shp.place_inj h.2.symm (by omega))), ih (by omega)]
    · rw [putFields_no h]
      refine ih ?_
      by_cases hkn : k = n
      · subst hkn; exact absurd ⟨hk, rfl⟩ h
      · omega
/-- The first word of a fragment: the link. -/
theorem objRow_link (s : Shp) (kind : Int) (got : List Int) (side : Bool) (i : Nat) : (objRow s kind got side i)[0]? = some (if i + 1 < got.length then wRef (got.getD (i + 1) 0) else wNone) := by
  unfold objRow
  rw [putFields_zero]
  rfl
/-- The word of a field. -/
theorem objRow_field (s : Shp) (kind : Int) (got : List Int) (side : Bool) {i k : Nat} (hk : s.hasField k = true) (hi : Shp.placeF k = i) : (objRow s kind got side i)[(Shp.placeW k).toNat]? = some (wBlank (s.refs.getD k false)) := by
  unfold objRow
  rw [← hi]
  refine putFields_field hk _ rfl ?_
  have this := hk
  unfold Shp.hasField at this
  simp only [Bool.and_eq_true, decide_eq_true_eq] at this
  unfold Shp.len at this
  omega
end Go
