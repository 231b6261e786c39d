/-
  Merged: XFill, XOnceP, XWr.
-/
import Derived.Test.YthdijbkcjmeilaaFill0
import Derived.Test.YthdijbkcjmeilaaArray
/-
  What a plan's writes leave in memory.
-/
namespace Go.Proofs.Ythdijbkcjmeilaa
open Go Go.RowKit
set_option linter.unusedVariables false
set_option linter.unnecessarySimpa false
set_option linter.unusedSimpArgs false
set_option maxHeartbeats 2000000
/-- Writes: addresses and words. -/
structure Wr (xs : List Value) (m : Nat) (AT : Nat → Int) (V : Nat → Nat × Nat) : Prop where
  len : xs.length = m * 2
  at_ : ∀ i, i < m → xs[i * 2]? = some (.int .i64 (AT i))
  w : ∀ i, i < m → xs[i * 2 + 1]? = some (.complex .f64 (V i).1 (V i).2)
end Go.Proofs.Ythdijbkcjmeilaa
/-
  PlanOnce: each word once. No walk here.
-/
namespace Go.Proofs.Ythdijbkcjmeilaa
open Go Go.RowKit
set_option linter.unusedVariables false
def onceAt (got : List Int) (at_ : Int) (i : Nat) : Int := if i < 8 * got.length then got.getD (i / 8) 0 * 8 + (i % 8 : Nat) else at_ + (i - 8 * got.length : Nat)
structure Once (got : List Int) (at_ words : Int) (m : Nat) (AT : Nat → Int) : Prop where
  len : (m : Int) = 8 * got.length + words
  bd : ∀ i, i < m → 0 ≤ AT i ∧ AT i ≤ 200000
  within : ∀ i, i < m → (at_ ≤ AT i ∧ AT i < at_ + words) ∨ ∃ k, k < got.length ∧ AT i / 8 = got.getD k 0
  diff : ∀ i, i < m → ∀ k, k < i → AT k ≠ AT i
  words : 0 ≤ words ∧ words ≤ 1000 ∧ (0 < words → 0 ≤ at_ ∧ at_ ≤ 100000)
theorem once_of {got : List Int} {at_ F : Int} {q : Nat} (hg : ∀ k, k < got.length → 0 ≤ got.getD k 0 ∧ got.getD k 0 < F) (hn : got.Nodup) (hF : F ≤ 1024) (hq : q ≤ 1000) (hw : 0 < q → 8 * F ≤ at_ ∧ at_ ≤ 100000 ∧ 0 ≤ F) : Once got at_ q (8 * got.length + q) (onceAt got at_) := by
  have hin : ∀ i, i < 8 * got.length → i / 8 < got.length := fun i hi => by omega
  refine ⟨by omega, fun i hi => ?_, fun i hi => ?_, fun i hi k hk => ?_, by omega, by omega, fun h => by omega⟩
  · unfold onceAt
    split
    · rename_i h
      have := hg _ (hin i h)
      omega
    · omega
  · unfold onceAt
    split
    · rename_i h
      have := hg _ (hin i h)
      exact Or.inr ⟨i / 8, hin i h, by omega⟩
    · exact Or.inl (by omega)
  · unfold onceAt
    by_cases h1 : k < 8 * got.length
    · have g1 := hg _ (hin k h1)
      by_cases h2 : i < 8 * got.length
      · have g2 := hg _ (hin i h2)
        rw [if_pos h1, if_pos h2]
        intro e
        have e1 : got.getD (k / 8) 0 = got.getD (i / 8) 0 := by omega
        have e2 : k / 8 = i / 8 := by
          have a1 := hin k h1
          have a2 := hin i h2
          rw [List.getD_eq_getElem?_getD, List.getD_eq_getElem?_getD, List.getElem?_eq_getElem a1, List.getElem?_eq_getElem a2] at e1
          exact (List.getElem_inj hn).1 e1
        omega
      · rw [if_pos h1, if_neg h2]
        omega
    · rw [if_neg h1, if_neg (by omega)]
      omega
theorem begins_bd2 {c : Cnf} {a n : Int} (h : beginsAt c a n = true) : 8 * c.frags ≤ a ∧ a ≤ 100000 ∧ 0 ≤ c.frags := by
  unfold beginsAt cOf at h
  split at h
  · simp at h
  · rename_i h0
    obtain ⟨⟨_, _⟩, ⟨_, _⟩, ⟨_, _⟩, _⟩ := Cnf.ranged (Cnf.check_zero (show c.check = 0 by omega)).1
    split at h
    · simp at h
    · split at h
      · omega
      · split at h
        · omega
        · split at h <;> simp at h
theorem nodup_of {got : List Int} (h : twiceIn got = false) : got.Nodup := by
  unfold twiceIn at h
  simpa using h
theorem got_bd {c : Cnf} {is : Bool} {s : Shp} {n : Int} {arr : Bool} {got : List Int} (h : wrongE c is s n arr got = 0) : ∀ k, k < got.length → 0 ≤ got.getD k 0 ∧ got.getD k 0 < c.frags := fun k hk => by
  have h2 : fragOk c (got.getD k 0) = true := List.all_eq_true.1 (wrongE_fine h).2.1 _ (by rw [List.getD_eq_getElem?_getD, List.getElem?_eq_getElem hk]; exact List.getElem_mem hk)
  have h3 : c.check = 0 ∧ 0 ≤ got.getD k 0 ∧ got.getD k 0 < c.frags := by simpa [fragOk] using h2
  omega
/-- So many words besides the fragments'. -/
def onceWords (s : Shp) (n : Int) (got : List Int) : Int := if (s.arr && decide (0 < s.spine n) && !isSide got) = true then s.spine n else 0
theorem once_object {c : Cnf} {is : Bool} {s : Shp} {got : List Int} {kind at_ n : Int} (h : wrongE c is s 0 false got = 0) :
    Once got at_ (onceWords s n got) (8 * got.length) (onceAt got at_) ∧ ∀ i, i < 8 * got.length → (objWrites s kind got (isSide got) got.length)[i * 2]? = some (.int .i64 (onceAt got at_ i)) := by
  have hf := wrongE_fine h
  have hr := (Cnf.ranged (Cnf.check_zero hf.1).1).1
  have hw : onceWords s n got = (0 : Nat) := by unfold onceWords; rw [hf.2.2.2.1]; rfl
  refine ⟨by rw [hw]; exact once_of (F := c.frags) (q := 0) (got_bd h) (nodup_of hf.2.2.2.2.2.2) (by omega) (by omega) (by omega), fun i hi => ?_⟩
  have := (objWrites_get s kind got (isSide got) (n := got.length) (i := i / 8) (k := i % 8) (by omega) (by omega)).1
  rw [show (i / 8 * 8 + i % 8) * 2 = i * 2 by omega] at this
  rw [this]
  unfold onceAt
  rw [if_pos hi]
theorem once_array {c : Cnf} {is : Bool} {s : Shp} {got : List Int} {kind at_ n : Int} (h : arrE c is s n got at_ = 0) :
    Once got at_ (onceWords s n got) (arrLen n got) (onceAt got at_) ∧ ∀ i, i < arrLen n got → (arrWrites s kind n at_ got)[i * 2]? = some (.int .i64 (onceAt got at_ i)) := by
  obtain ⟨h0, hb⟩ := arrE_fine h
  have hf := wrongE_fine h0
  have hr := (Cnf.ranged (Cnf.check_zero hf.1).1).1
  obtain ⟨z1, z2, z3, z4⟩ := arr_size h0
  have hd := sData_bd n
  have hsp : s.spine n = if sData n ≤ 4 then 0 else sData n + 2 := by
    unfold Shp.spine
    rw [z3, z4]
    simp
  have hm : arrMode n got = if sData n ≤ 4 then 0 else if isSide got = true then 2 else 1 := rfl
  have hw : onceWords s n got = ((if arrMode n got = 1 then got.length + 1 else 0 : Nat) : Int) := by
    unfold onceWords
    rw [z4, hsp, hm]
    by_cases h4 : sData n ≤ 4
    · rw [if_pos h4, if_pos h4]; simp
    · rw [if_neg h4, if_neg h4]
      cases isSide got
      · simp; omega
      · simp
  refine ⟨?_, fun i hi => ?_⟩
  · rw [hw]
    unfold arrLen
    refine once_of (F := c.frags) (got_bd h0) (nodup_of hf.2.2.2.2.2.2) (by omega) (by split <;> omega) (fun h => ?_)
    split at h
    · rename_i h1
      have := begins_bd2 (hb h1)
      omega
    · omega
  · unfold onceAt
    split
    · rename_i h1
      have := (arrWrites_frag s kind n at_ got (i := i / 8) (k := i % 8) (by omega) (by omega)).1
      rw [show (i / 8 * 8 + i % 8) * 2 = i * 2 by omega] at this
      rw [this]
    · rename_i h1
      unfold arrLen at hi
      split at hi
      · rename_i h2
        have := (arrWrites_spine s kind n at_ got h2 (by omega) (k := i - 8 * got.length) (by omega)).1
        rw [show (8 * got.length + (i - 8 * got.length)) * 2 = i * 2 by omega] at this
        rw [this]
      · omega
/-- What became of the writes. -/
def OnceGot (got : List Int) (at_ words : Int) (w0 : World) (l e : Value) (w : World) : Prop :=
  ∃ (A : Option Addr) (m cap : Nat) (ev : Int), l = .slice A m cap ∧ e = .int .i64 ev ∧ Ext w0 w ∧ (ev ≠ 0 → m = 0) ∧ (ev = 0 → Once got at_ words m (onceAt got at_) ∧ ∃ xs, CellsAt w A xs ∧ xs.length = m * 2 ∧ ∀ i, i < m → xs[i * 2]? = some (.int .i64 (onceAt got at_ i)))
def anyTo (got : List Int) (b : Bool) (x : Int) (j : Nat) : Bool := b || (List.range j).any fun k => decide (x = got.getD k 0)
theorem anyTo_succ (got : List Int) (b : Bool) (x : Int) (j : Nat) : anyTo got b x (j + 1) = (anyTo got b x j || decide (x = got.getD j 0)) := by
  unfold anyTo; rw [List.range_succ, List.any_append, Bool.or_assoc]; simp
theorem anyTo_zero (got : List Int) (b : Bool) (x : Int) : anyTo got b x 0 = b := by simp [anyTo]
theorem anyTo_all {got : List Int} {at_ words : Int} {m : Nat} {AT : Nat → Int} (h : Once got at_ words m AT) {i : Nat} (hi : i < m) : anyTo got (decide (at_ ≤ AT i) && decide (AT i < at_ + words)) (AT i / 8) got.length = true := by
  unfold anyTo
  rcases h.within i hi with ⟨h1, h2⟩ | ⟨k, h1, h2⟩
  · rw [decide_eq_true h1, decide_eq_true h2]; rfl
  · rw [Bool.or_eq_true]
    exact Or.inr (List.any_eq_true.2 ⟨k, List.mem_range.2 h1, decide_eq_true h2⟩)
end Go.Proofs.Ythdijbkcjmeilaa
/-
  The writes of a new object, of a new array: addresses and words, within memory. No walk here.
-/
namespace Go.Proofs.Ythdijbkcjmeilaa
open Go Go.RowKit
set_option linter.unusedVariables false
theorem cxOf_cx (p : Nat × Nat) : cxOf (cx p) = p := rfl
def arrV (s : Shp) (kind n at_ : Int) (got : List Int) (i : Nat) : Nat × Nat := cxOf ((arrWrites s kind n at_ got).getD (i * 2 + 1) wZero)
theorem arrV_frag (s : Shp) (kind n at_ : Int) (got : List Int) {i k : Nat} (hi : i < got.length) (hk : k < 8) : arrV s kind n at_ got (i * 8 + k) = (if i = 0 then sentF kind n at_ got else dataF s) k := by
  unfold arrV
  rw [List.getD_eq_getElem?_getD, (arrWrites_frag s kind n at_ got hi hk).2]
  rfl
theorem isCx_spineV (got : List Int) (k : Nat) : IsCx (spineV got k) := by
  unfold spineV
  split
  · exact isCx_ref _
  · split
    · exact isCx_whole _
    · exact isCx_ref _
theorem wr_array {c : Cnf} {is : Bool} {s : Shp} {n : Int} {got : List Int} {kind at_ : Int} (h : arrE c is s n got at_ = 0) : Wr (arrWrites s kind n at_ got) (arrLen n got) (onceAt got at_) (arrV s kind n at_ got) := by
  obtain ⟨h0, hb⟩ := arrE_fine h
  obtain ⟨z1, z2, z3, z4⟩ := arr_size h0
  have hd := sData_bd n
  refine ⟨arrWrites_length _ _ _ _ _ (by omega), (once_array (kind := kind) h).2, fun i hi => ?_⟩
  by_cases h1 : i < 8 * got.length
  · have e := (arrWrites_frag s kind n at_ got (i := i / 8) (k := i % 8) (by omega) (by omega)).2
    rw [show (i / 8 * 8 + i % 8) * 2 + 1 = i * 2 + 1 by omega] at e
    unfold arrV
    rw [List.getD_eq_getElem?_getD, e]
    rfl
  · unfold arrLen at hi
    split at hi
    · rename_i h2
      have e := (arrWrites_spine s kind n at_ got h2 (by omega) (k := i - 8 * got.length) (by omega)).2
      rw [show (8 * got.length + (i - 8 * got.length)) * 2 + 1 = i * 2 + 1 by omega] at e
      unfold arrV
      rw [List.getD_eq_getElem?_getD, e]
      simp only [Option.getD_some]
      congr 1
      exact (isCx_spineV got _).cx.symm
    · omega
theorem begins_in {c : Cnf} {a n : Int} (h : beginsAt c a n = true) : 8 * c.frags ≤ a ∧ a + n ≤ c.frags * 8 + c.spine + c.spine := by
  unfold beginsAt cOf at h
  split at h
  · simp at h
  · rename_i h0
    obtain ⟨⟨_, _⟩, ⟨_, _⟩, ⟨_, _⟩, _⟩ := Cnf.ranged (Cnf.check_zero (show c.check = 0 by omega)).1
    split at h
    · simp at h
    · split at h
      · simp at h; omega
      · split at h
        · simp at h; omega
        · split at h <;> simp at h
theorem once_in {c : Cnf} {is : Bool} {s : Shp} {n : Int} {got : List Int} {at_ : Int} (h : arrE c is s n got at_ = 0) : ∀ i, i < arrLen n got → inB (onceAt got at_ i) (cWords c).toNat = true := by
  intro i hi
  obtain ⟨h0, hb⟩ := arrE_fine h
  obtain ⟨z1, z2, z3, z4⟩ := arr_size h0
  have hf := wrongE_fine h0
  obtain ⟨⟨_, _⟩, ⟨_, _⟩, ⟨_, _⟩, _⟩ := Cnf.ranged (Cnf.check_zero hf.1).1
  have hw : cWords c = c.frags * 8 + c.spine + c.spine + c.globals := by unfold cWords; rw [if_pos hf.1]
  unfold inB onceAt
  apply decide_eq_true
  split
  · rename_i h1
    have := got_bd h0 (i / 8) (by omega)
    omega
  · unfold arrLen at hi
    split at hi
    · rename_i h1 h2
      have h3 := begins_in (hb h2)
      have h4 := arrMode_one h2
      have h5 : s.spine n = sData n + 2 := by unfold Shp.spine; rw [z3, z4]; simp; omega
      omega
    · omega
def objV (s : Shp) (kind : Int) (got : List Int) (i : Nat) : Nat × Nat := cxOf ((objWrites s kind got (isSide got) got.length).getD (i * 2 + 1) wZero)
theorem wr_object {c : Cnf} {is : Bool} {s : Shp} {got : List Int} {kind at_ : Int} (h : wrongE c is s 0 false got = 0) : Wr (objWrites s kind got (isSide got) got.length) (8 * got.length) (onceAt got at_) (objV s kind got) := by
  refine ⟨by rw [objWrites_length]; omega, (once_object (kind := kind) (at_ := at_) (n := 0) h).2, fun i hi => ?_⟩
  have e := (objWrites_get s kind got (isSide got) (n := got.length) (i := i / 8) (k := i % 8) (by omega) (by omega)).2
  rw [show (i / 8 * 8 + i % 8) * 2 + 1 = i * 2 + 1 by omega] at e
  have hl := objRow_length s kind got (isSide got) (i / 8)
  rw [List.getElem?_eq_getElem (show i % 8 < (objRow s kind got (isSide got) (i / 8)).length by omega)] at e
  unfold objV
  rw [List.getD_eq_getElem?_getD, e]
  simp only [Option.getD_some]
  congr 1
  exact (objRow_cx s kind got (isSide got) (i / 8) _ (List.getElem_mem _)).cx.symm
theorem objV_row (s : Shp) (kind : Int) (got : List Int) {i k : Nat} (hi : i < got.length) (hk : k < 8) : (objRow s kind got (isSide got) i)[k]? = some (cx (objV s kind got (i * 8 + k))) := by
  have e := (objWrites_get s kind got (isSide got) (n := got.length) hi hk).2
  have hl := objRow_length s kind got (isSide got) i
  have hx : (objRow s kind got (isSide got) i)[k]? = some ((objRow s kind got (isSide got) i)[k]'(by omega)) := List.getElem?_eq_getElem _
  rw [hx] at e ⊢
  unfold objV
  rw [List.getD_eq_getElem?_getD, e]
  simp only [Option.getD_some]
  congr 1
  exact (objRow_cx s kind got (isSide got) i _ (List.getElem_mem _)).cx.symm
theorem once_in_obj {c : Cnf} {is : Bool} {s : Shp} {got : List Int} {at_ : Int} (h : wrongE c is s 0 false got = 0) : ∀ i, i < 8 * got.length → inB (onceAt got at_ i) (cWords c).toNat = true := by
  intro i hi
  have hf := wrongE_fine h
  obtain ⟨⟨_, _⟩, ⟨_, _⟩, ⟨_, _⟩, _⟩ := Cnf.ranged (Cnf.check_zero hf.1).1
  have hw : cWords c = c.frags * 8 + c.spine + c.spine + c.globals := by unfold cWords; rw [if_pos hf.1]
  unfold inB onceAt
  apply decide_eq_true
  rw [if_pos hi]
  have := got_bd h (i / 8) (by omega)
  omega
/-- The word of a fragment, behind all writes. -/
theorem put_frag {c : Cnf} {got : List Int} {at_ words : Int} {m : Nat} {V : Nat → Nat × Nat} (ho : Once got at_ words m (onceAt got at_)) (hm : 8 * got.length ≤ m) (hb : ∀ i, i < m → inB (onceAt got at_ i) (cWords c).toNat = true) {i k : Nat} (hi : i < got.length) (hk : k < 8) :
    (memPut ⟨List.replicate (cWords c).toNat (0, 0), 0⟩ (onceAt got at_) V m).peek (got.getD i 0 * 8 + k) = V (i * 8 + k) := by
  have h := memPut_peek (m := ⟨List.replicate (cWords c).toNat (0, 0), 0⟩) (V := V) (n := m) (fun i hi => by simpa using hb i hi) ho.diff m (Nat.le_refl _) (i * 8 + k) (by omega)
  have e : onceAt got at_ (i * 8 + k) = got.getD i 0 * 8 + k := by
    unfold onceAt
    rw [if_pos (by omega), show (i * 8 + k) / 8 = i by omega, show (i * 8 + k) % 8 = k by omega]
  rw [← e]
  exact h
end Go.Proofs.Ythdijbkcjmeilaa
