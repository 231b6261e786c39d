/-
  The writes of a new object, of a new array: addresses and words, within memory. No walk here.
-/
import Derived.Test.YtmgkfpmmlibmcaaFill
import Derived.Test.YtmgkfpmmlibmcaaOnceP
namespace Go.Proofs.Ytmgkfpmmlibmcaa
open Go Go.RowKit
set_option linter.unusedVariables false
theorem cxOf_cx (p : Nat × Nat) : cxOf (cx p) = p := rfl
def arrV (s : Shp) (kind n at_ : Int) (got : List Int) (i : Nat) : Nat × Nat := cxOf ((arrWrites s kind n at_ got).getD (i * 2 + 1) wZero)
theorem arrV_frag (s : Shp) (kind n at_ : Int) (got : List Int) {i k : Nat} (hi : i < got.length) (hk : k < 8) : arrV s kind n at_ got (i * 8 + k) = (if i = 0 then sentF kind n at_ got else dataF s) k := by
  unfold arrV
  rw [List.getD_eq_getElem?_getD, (arrWrites_frag s kind n at_ got hi hk).2]
  rfl
theorem isCx_spineV (got : List Int) (k : Nat) : IsCx (spineV got k) := by
  unfold spineV
  split
  · exact isCx_ref _
  · split
    · exact isCx_whole _
    · exact isCx_ref _
theorem wr_array {c : Cnf} {is : Bool} {s : Shp} {n : Int} {got : List Int} {kind at_ : Int} (h : arrE c is s n got at_ = 0) : Wr (arrWrites s kind n at_ got) (arrLen n got) (onceAt got at_) (arrV s kind n at_ got) := by
  obtain ⟨h0, hb⟩ := arrE_fine h
  obtain ⟨z1, z2, z3, z4⟩ := arr_size h0
  have hd := sData_bd n
  refine ⟨arrWrites_length _ _ _ _ _ (by omega), (once_array (kind := kind) h).2, fun i hi => ?_⟩
  by_cases h1 : i < 8 * got.length
  · have e := (arrWrites_frag s kind n at_ got (i := i / 8) (k := i % 8) (by omega) (by omega)).2
    rw [show (i / 8 * 8 + i % 8) * 2 + 1 = i * 2 + 1 by omega] at e
    unfold arrV
    rw [List.getD_eq_getElem?_getD, e]
    rfl
  · unfold arrLen at hi
    split at hi
    · rename_i h2
      have e := (arrWrites_spine s kind n at_ got h2 (by omega) (k := i - 8 * got.length) (by omega)).2
      rw [show (8 * got.length + (i - 8 * got.length)) * 2 + 1 = i * 2 + 1 by omega] at e
      unfold arrV
      rw [List.getD_eq_getElem?_getD, e]
      simp only [Option.getD_some]
      congr 1
      exact (isCx_spineV got _).cx.symm
    · omega
theorem begins_in {c : Cnf} {a n : Int} (h : beginsAt c a n = true) : 8 * c.frags ≤ a ∧ a + n ≤ c.frags * 8 + c.spine + c.spine := by
  unfold beginsAt cOf at h
  split at h
  · simp at h
  · rename_i h0
    obtain ⟨⟨_, _⟩, ⟨_, _⟩, ⟨_, _⟩, _⟩ := Cnf.ranged (Cnf.check_zero (show c.check = 0 by omega)).1
    split at h
    · simp at h
    · split at h
      · simp at h; omega
      · split at h
        · simp at h; omega
        · split at h <;> simp at h
theorem once_in {c : Cnf} {is : Bool} {s : Shp} {n : Int} {got : List Int} {at_ : Int} (h : arrE c is s n got at_ = 0) : ∀ i, i < arrLen n got → inB (onceAt got at_ i) (cWords c).toNat = true := by
  intro i hi
  obtain ⟨h0, hb⟩ := arrE_fine h
  obtain ⟨z1, z2, z3, z4⟩ := arr_size h0
  have hf := wrongE_fine h0
  obtain ⟨⟨_, _⟩, ⟨_, _⟩, ⟨_, _⟩, _⟩ := Cnf.ranged (Cnf.check_zero hf.1).1
  have hw : cWords c = c.frags * 8 + c.spine + c.spine + c.globals := by unfold cWords; rw [if_pos hf.1]
  unfold inB onceAt
  apply decide_eq_true
  split
  · rename_i h1
    have := got_bd h0 (i / 8) (by omega)
    omega
  · unfold arrLen at hi
    split at hi
    · rename_i h1 h2
      have h3 := begins_in (hb h2)
      have h4 := arrMode_one h2
      have h5 : s.spine n = sData n + 2 := by unfold Shp.spine; rw [z3, z4]; simp; omega
      omega
    · omega
def objV (s : Shp) (kind : Int) (got : List Int) (i : Nat) : Nat × Nat := cxOf ((objWrites s kind got (isSide got) got.length).getD (i * 2 + 1) wZero)
theorem wr_object {c : Cnf} {is : Bool} {s : Shp} {got : List Int} {kind at_ : Int} (h : wrongE c is s 0 false got = 0) : Wr (objWrites s kind got (isSide got) got.length) (8 * got.length) (onceAt got at_) (objV s kind got) := by
  refine ⟨by rw [objWrites_length]; omega, (once_object (kind := kind) (at_ := at_) (n := 0) h).2, fun i hi => ?_⟩
  have e := (objWrites_get s kind got (isSide got) (n := got.length) (i := i / 8) (k := i % 8) (by omega) (by omega)).2
  rw [show (i / 8 * 8 + i % 8) * 2 + 1 = i * 2 + 1 by omega] at e
  have hl := objRow_length s kind got (isSide got) (i / 8)
  rw [List.getElem?_eq_getElem (show i % 8 < (objRow s kind got (isSide got) (i / 8)).length by omega)] at e
  unfold objV
  rw [List.getD_eq_getElem?_getD, e]
  simp only [Option.getD_some]
  congr 1
  exact (objRow_cx s kind got (isSide got) (i / 8) _ (List.getElem_mem _)).cx.symm
theorem objV_row (s : Shp) (kind : Int) (got : List Int) {i k : Nat} (hi : i < got.length) (hk : k < 8) : (objRow s kind got (isSide got) i)[k]? = some (cx (objV s kind got (i * 8 + k))) := by
  have e := (objWrites_get s kind got (isSide got) (n := got.length) hi hk).2
  have hl := objRow_length s kind got (isSide got) i
  have hx : (objRow s kind got (isSide got) i)[k]? = some ((objRow s kind got (isSide got) i)[k]'(by omega)) := List.getElem?_eq_getElem _
  rw [hx] at e ⊢
  unfold objV
  rw [List.getD_eq_getElem?_getD, e]
  simp only [Option.getD_some]
  congr 1
  exact (objRow_cx s kind got (isSide got) i _ (List.getElem_mem _)).cx.symm
theorem once_in_obj {c : Cnf} {is : Bool} {s : Shp} {got : List Int} {at_ : Int} (h : wrongE c is s 0 false got = 0) : ∀ i, i < 8 * got.length → inB (onceAt got at_ i) (cWords c).toNat = true := by
  intro i hi
  have hf := wrongE_fine h
  obtain ⟨⟨_, _⟩, ⟨_, _⟩, ⟨_, _⟩, _⟩ := Cnf.ranged (Cnf.check_zero hf.1).1
  have hw : cWords c = c.frags * 8 + c.spine + c.spine + c.globals := by unfold cWords; rw [if_pos hf.1]
  unfold inB onceAt
  apply decide_eq_true
  rw [if_pos hi]
  have := got_bd h (i / 8) (by omega)
  omega
/-- The word of a fragment, behind all writes. -/
theorem put_frag {c : Cnf} {got : List Int} {at_ words : Int} {m : Nat} {V : Nat → Nat × Nat} (ho : Once got at_ words m (onceAt got at_)) (hm : 8 * got.length ≤ m) (hb : ∀ i, i < m → inB (onceAt got at_ i) (cWords c).toNat = true) {i k : Nat} (hi : i < got.length) (hk : k < 8) :
    (memPut ⟨List.replicate (cWords c).toNat (0, 0), 0⟩ (onceAt got at_) V m).peek (got.getD i 0 * 8 + k) = V (i * 8 + k) := by
  have h := memPut_peek (m := ⟨List.replicate (cWords c).toNat (0, 0), 0⟩) (V := V) (n := m) (fun i hi => by simpa using hb i hi) ho.diff m (Nat.le_refl _) (i * 8 + k) (by omega)
  have e : onceAt got at_ (i * 8 + k) = got.getD i 0 * 8 + k := by
    unfold onceAt
    rw [if_pos (by omega), show (i * 8 + k) / 8 = i by omega, show (i * 8 + k) % 8 = k by omega]
  rw [← e]
  exact h
end Go.Proofs.Ytmgkfpmmlibmcaa
