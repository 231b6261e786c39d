/-
  sporef6.Object: plain: rows of eight, one behind the other. No program here.
-/
import Derived.Test.YthdijbkcjmeilaaObj
import Derived.Test.YthdijbkcjmeilaaLaid
namespace Go
open Go.RowKit
/-- Rows of eight. -/
def flat8 (R : Nat → List Value) (n : Nat) : List Value := (List.range n).flatMap R
theorem flat8_succ (R : Nat → List Value) (n : Nat) : flat8 R (n + 1) = flat8 R n ++ R n := by
  unfold flat8
  rw [List.range_succ, List.flatMap_append, List.flatMap_singleton]
theorem flat8_len {R : Nat → List Value} (h : ∀ j, (R j).length = 8) (n : Nat) : (flat8 R n).length = 8 * n := by
  induction n with
  | zero => rfl
  | succ n ih => rw [flat8_succ, List.length_append, ih, h]; omega
theorem flat8_congr {R R' : Nat → List Value} {n : Nat} (h : ∀ j, j < n → R j = R' j) : flat8 R n = flat8 R' n := by
  induction n with
  | zero => rfl
  | succ n ih => rw [flat8_succ, flat8_succ, ih (fun j hj => h j (by omega)), h n (by omega)]
theorem flat8_get {R : Nat → List Value} (h : ∀ j, (R j).length = 8) {n j k : Nat} (hj : j < n) (hk : k < 8) : (flat8 R n)[j * 8 + k]? = (R j)[k]? := by
  induction n with
  | zero => omega
  | succ n ih =>
    have hl := flat8_len h n
    rw [flat8_succ]
    by_cases hjn : j < n
    · rw [List.getElem?_append_left (by omega), ih hjn]
    · obtain rfl : j = n := by omega
      rw [List.getElem?_append_right (by omega), hl, show j * 8 + k - 8 * j = k by omega]
theorem flat8_set {R : Nat → List Value} (h : ∀ j, (R j).length = 8) {n j k : Nat} (hj : j < n) (hk : k < 8) (v : Value) : (flat8 R n).set (j * 8 + k) v = flat8 (fun i => if i = j then (R i).set k v else R i) n := by
  induction n with
  | zero => omega
  | succ n ih =>
    have hl := flat8_len h n
    rw [flat8_succ, flat8_succ]
    by_cases hjn : j < n
    · rw [List.set_append_left _ _ (by omega), ih hjn, if_neg (by omega)]
    · obtain rfl : j = n := by omega
      rw [List.set_append_right _ _ (by omega), hl, show j * 8 + k - 8 * j = k by omega, if_pos rfl]
      congr 1
      exact flat8_congr fun i hi => by rw [if_neg (by omega)]
theorem flat8_zero (n : Nat) : flat8 (fun _ => [wZero, wZero, wZero, wZero, wZero, wZero, wZero, wZero]) n = List.replicate (8 * n) wZero := by
  induction n with
  | zero => rfl
  | succ n ih => rw [flat8_succ, ih, show 8 * (n + 1) = 8 * n + 8 by omega, ← List.replicate_append_replicate]; rfl
/-- The rows behind the first loop's k rounds. -/
def linkRow (got : List Int) (j : Nat) : List Value := [if j + 1 < got.length then wRef (got.getD (j + 1) 0) else wNone, wZero, wZero, wZero, wZero, wZero, wZero, wZero]
def linkTo (got : List Int) (k : Nat) (j : Nat) : List Value := if j < k then linkRow got j else [wZero, wZero, wZero, wZero, wZero, wZero, wZero, wZero]
/-- The rows behind k fields. -/
def fieldTo (s : Shp) (kind : Int) (got : List Int) (side : Bool) (k : Nat) (j : Nat) : List Value := putFields s j (objInit kind got side j) k
theorem linkTo_len (got : List Int) (k j : Nat) : (linkTo got k j).length = 8 := by unfold linkTo; split <;> rfl
theorem fieldTo_len (s : Shp) (kind : Int) (got : List Int) (side : Bool) (k j : Nat) : (fieldTo s kind got side k j).length = 8 := putFields_length _ _ _ _
theorem flat8_link0 (got : List Int) (n : Nat) : flat8 (linkTo got 0) n = List.replicate (8 * n) wZero := (flat8_congr fun j hj => if_neg (by omega)).trans (flat8_zero n)
theorem linkTo_some {got : List Int} {n k : Nat} (hk : k < n) (h : k + 1 < got.length) :
    ((flat8 (linkTo got k) n).set (k * 8 + 0) wNone).set (k * 8 + 0) (wRef (got.getD (k + 1) 0)) = flat8 (linkTo got (k + 1)) n := by
  rw [List.set_set, flat8_set (linkTo_len got k) hk (by omega)]
  refine flat8_congr fun j hj => ?_
  by_cases hjk : j = k
  · subst hjk
    rw [if_pos rfl]
    unfold linkTo linkRow
    rw [if_neg (by omega), if_pos (by omega), if_pos h]
    rfl
  · rw [if_neg hjk]
    unfold linkTo
    by_cases h1 : j < k
    · rw [if_pos h1, if_pos (by omega)]
    · rw [if_neg h1, if_neg (by omega)]
theorem linkTo_none {got : List Int} {n k : Nat} (hk : k < n) (h : ¬ k + 1 < got.length) :
    (flat8 (linkTo got k) n).set (k * 8 + 0) wNone = flat8 (linkTo got (k + 1)) n := by
  rw [flat8_set (linkTo_len got k) hk (by omega)]
  refine flat8_congr fun j hj => ?_
  by_cases hjk : j = k
  · subst hjk
    rw [if_pos rfl]
    unfold linkTo linkRow
    rw [if_neg (by omega), if_pos (by omega), if_neg h]
    rfl
  · rw [if_neg hjk]
    unfold linkTo
    by_cases h1 : j < k
    · rw [if_pos h1, if_pos (by omega)]
    · rw [if_neg h1, if_neg (by omega)]
theorem headTo (s : Shp) {kind : Int} {got : List Int} {side : Bool} {n : Nat} (hn : 0 < n) :
    (flat8 (linkTo got n) n).set (0 * 8 + 1) (wHead kind (if side then 1 else 0)) = flat8 (fieldTo s kind got side 0) n := by
  rw [flat8_set (linkTo_len got n) hn (by omega)]
  refine flat8_congr fun j hj => ?_
  show _ = objInit kind got side j
  unfold linkTo linkRow objInit
  rw [if_pos hj]
  by_cases h0 : j = 0
  · rw [if_pos h0, if_pos h0]; rfl
  · rw [if_neg h0, if_neg h0]
theorem fieldTo_succ {s : Shp} {kind : Int} {got : List Int} {side : Bool} {n k p q : Nat} (hf : s.hasField k = true) (hp : Shp.placeF k = p) (hq : Shp.placeW k = q) (hpn : p < n) (hq8 : q < 8) :
    (flat8 (fieldTo s kind got side k) n).set (p * 8 + q) (wBlank (s.refs.getD k false)) = flat8 (fieldTo s kind got side (k + 1)) n := by
  rw [flat8_set (fieldTo_len s kind got side k) hpn hq8]
  refine flat8_congr fun j hj => ?_
  unfold fieldTo
  by_cases hjp : j = p
  · rw [if_pos hjp, putFields_yes ⟨hf, by rw [hp, hjp]⟩, hq, Int.toNat_natCast]
  · rw [if_neg hjp, putFields_no (fun h => hjp (by have := h.2; omega))]
theorem row_f {l : List Value} (hl : l.length = 8) (hc : ∀ v ∈ l, IsCx v) {i : Nat} (hi : i < 8) : l[i]? = some (cx (rowF l i)) := by
  rw [List.getElem?_eq_getElem (by omega)]
  have h := (hc _ (List.getElem_mem (show i < l.length by omega))).cx
  unfold rowF
  rw [List.getD_eq_getElem?_getD, List.getElem?_eq_getElem (by omega), Option.getD_some, h]
theorem putFields_like {s t : Shp} (h1 : s.arr = t.arr) (h2 : s.refs = t.refs) (frag : Int) (vs : List Value) (n : Nat) : putFields s frag vs n = putFields t frag vs n := by
  obtain ⟨a, A, c, r⟩ := s
  obtain ⟨b, B, d, q⟩ := t
  simp only at h1 h2
  subst h1 h2
  induction n with
  | zero => rfl
  | succ n ih =>
    unfold putFields
    rw [ih]
    rfl
theorem objWrites_like {s t : Shp} (h1 : s.arr = t.arr) (h2 : s.refs = t.refs) (kind : Int) (got : List Int) (side : Bool) (n : Nat) : objWrites s kind got side n = objWrites t kind got side n := by
  induction n with
  | zero => rfl
  | succ n ih =>
    unfold objWrites
    rw [ih]
    unfold objRow
    rw [putFields_like h1 h2, h2]
end Go
