/-
  What a new object's fragments hold. No program here.
-/
import Derived.Test.YthdijbkcjmeilaaRow
import Derived.Test.YthdijbkcjmeilaaDist
namespace Go
open Go.RowKit

def cxOf : Value → Nat × Nat
  | .complex _ a b => (a, b)
  | _ => (0, 0)
def IsCx (v : Value) : Prop := ∃ a b, v = .complex .f64 a b
theorem IsCx.cx {v : Value} (h : IsCx v) : Go.cx (cxOf v) = v := by
  obtain ⟨a, b, rfl⟩ := h
  rfl
theorem isCx_none : IsCx wNone := ⟨_, _, rfl⟩
theorem isCx_zero : IsCx wZero := ⟨_, _, rfl⟩
theorem isCx_ref (i : Int) : IsCx (wRef i) := by unfold wRef; split <;> exact ⟨_, _, rfl⟩
theorem isCx_head (k m : Int) : IsCx (wHead k m) := by unfold wHead; split <;> exact ⟨_, _, rfl⟩
theorem isCx_whole (n : Int) : IsCx (wWhole n) := by unfold wWhole; split <;> exact ⟨_, _, rfl⟩
theorem isCx_blank (b : Bool) : IsCx (wBlank b) := by cases b <;> exact ⟨_, _, rfl⟩
theorem isCx_put (s : Shp) (frag : Int) (vs : List Value) (h : ∀ v ∈ vs, IsCx v) : ∀ k, ∀ v ∈ putFields s frag vs k, IsCx v
  | 0 => h
  | k + 1 => fun v hv => by
    unfold putFields at hv
    split at hv
    · rcases List.mem_or_eq_of_mem_set hv with hv | rfl
      · exact isCx_put s frag vs h k v hv
      · exact isCx_blank _
    · exact isCx_put s frag vs h k v hv
/-- A row of eight words, as a function. -/
def rowF (l : List Value) (k : Nat) : Nat × Nat := cxOf (l.getD k wZero)
theorem cxs_rowF {l : List Value} (hl : l.length = 8) (h : ∀ v ∈ l, IsCx v) : cxs (rowF l) = l := by
  apply List.ext_getElem?
  intro k
  unfold cxs
  rw [List.getElem?_map]
  by_cases hk : k < 8
  · rw [List.getElem?_range hk, List.getElem?_eq_getElem (by omega)]
    simp only [Option.map_some, Option.some.injEq, rowF, List.getD, List.getElem?_eq_getElem (show k < l.length by omega), Option.getD_some]
    exact (h _ (List.getElem_mem _)).cx
  · rw [List.getElem?_eq_none (by simp; omega), List.getElem?_eq_none (by omega)]
    rfl

def objInit (kind : Int) (got : List Int) (side : Bool) (j : Nat) : List Value :=
  [if j + 1 < got.length then wRef (got.getD (j + 1) 0) else wNone, if j = 0 then wHead kind (if side then 1 else 0) else wZero, wZero, wZero, wZero, wZero, wZero, wZero]
def objRow (s : Shp) (kind : Int) (got : List Int) (side : Bool) (j : Nat) : List Value := putFields s j (objInit kind got side j) s.refs.length
theorem objRow_length (s : Shp) (kind : Int) (got : List Int) (side : Bool) (j : Nat) : (objRow s kind got side j).length = 8 := putFields_length _ _ _ _
theorem objRow_cx (s : Shp) (kind : Int) (got : List Int) (side : Bool) (j : Nat) : ∀ v ∈ objRow s kind got side j, IsCx v := by
  refine isCx_put _ _ _ (fun v hv => ?_) _
  simp only [objInit, List.mem_cons, List.not_mem_nil, or_false] at hv
  rcases hv with rfl | rfl | rfl | rfl | rfl | rfl | rfl | rfl
  · split
    · exact isCx_ref _
    · exact isCx_none
  · split
    · exact isCx_head _ _
    · exact isCx_zero
  all_goals exact isCx_zero
def objWrites (s : Shp) (kind : Int) (got : List Int) (side : Bool) : Nat → List Value
  | 0 => []
  | j + 1 => objWrites s kind got side j ++ writes (got.getD j 0) (rowF (objRow s kind got side j)) 8
end Go
