/-
  What a new array's writes are, word by word. No walk here.
-/
import Derived.Test.YtmgkfpmmlibmcaaArray
import Derived.Test.YtmgkfpmmlibmcaaLaid
namespace Go.Proofs.Ytmgkfpmmlibmcaa
open Go Go.RowKit
set_option linter.unusedVariables false
theorem fragWrites_length (f0 f : Nat → Nat × Nat) (got : List Int) (j : Nat) : (fragWrites f0 f got j).length = j * 16 := by
  induction j with
  | zero => rfl
  | succ j ih => rw [fragWrites, List.length_append, ih, writes_length]; omega
theorem fragWrites_get (f0 f : Nat → Nat × Nat) (got : List Int) {n i k : Nat} (hi : i < n) (hk : k < 8) :
    (fragWrites f0 f got n)[(i * 8 + k) * 2]? = some (.int .i64 (got.getD i 0 * 8 + k)) ∧ (fragWrites f0 f got n)[(i * 8 + k) * 2 + 1]? = some (cx ((if i = 0 then f0 else f) k)) := by
  induction n with
  | zero => omega
  | succ n ih =>
    have hl := fragWrites_length f0 f got n
    by_cases h : i < n
    · obtain ⟨h1, h2⟩ := ih h
      exact ⟨by rw [fragWrites, List.getElem?_append_left (by omega), h1], by rw [fragWrites, List.getElem?_append_left (by omega), h2]⟩
    · obtain rfl : i = n := by omega
      obtain ⟨h1, h2⟩ := writes_get (got.getD i 0) (if i = 0 then f0 else f) hk
      refine ⟨?_, ?_⟩
      · rw [fragWrites, List.getElem?_append_right (by omega), hl, show (i * 8 + k) * 2 - i * 16 = k * 2 by omega, h1]
      · rw [fragWrites, List.getElem?_append_right (by omega), hl, show (i * 8 + k) * 2 + 1 - i * 16 = k * 2 + 1 by omega, h2]
theorem spineW_length (got : List Int) (at_ : Int) (k : Nat) : (spineW got at_ k).length = (k + 2) * 2 := by
  induction k with
  | zero => rfl
  | succ k ih => rw [spineW, List.length_append, ih]; simp; omega
/-- The k-th word of a spine. -/
def spineV (got : List Int) (k : Nat) : Value := if k = 0 then wRef (got.getD 0 0) else if k = 1 then wWhole ((got.length : Int) - 1) else wRef (got.getD (k - 1) 0)
theorem spineW_get (got : List Int) (at_ : Int) {n k : Nat} (hk : k < n + 2) : (spineW got at_ n)[k * 2]? = some (.int .i64 (at_ + k)) ∧ (spineW got at_ n)[k * 2 + 1]? = some (spineV got k) := by
  induction n with
  | zero =>
    rcases (show k = 0 ∨ k = 1 by omega) with rfl | rfl
    · exact ⟨by simp [spineW], by simp [spineW, spineV]⟩
    · exact ⟨by simp [spineW], by simp [spineW, spineV]⟩
  | succ n ih =>
    have hl := spineW_length got at_ n
    by_cases h : k < n + 2
    · obtain ⟨h1, h2⟩ := ih h
      exact ⟨by rw [spineW, List.getElem?_append_left (by omega), h1], by rw [spineW, List.getElem?_append_left (by omega), h2]⟩
    · obtain rfl : k = n + 2 := by omega
      refine ⟨?_, ?_⟩
      · rw [spineW, List.getElem?_append_right (by omega), hl, Nat.sub_self]
        show some _ = _
        congr 2
        omega
      · rw [spineW, List.getElem?_append_right (by omega), hl, Nat.add_sub_cancel_left]
        show some _ = _
        unfold spineV
        rw [if_neg (by omega), if_neg (by omega)]
        rfl
theorem arrWrites_length (s : Shp) (kind n at_ : Int) (got : List Int) (hg : 1 ≤ got.length) : (arrWrites s kind n at_ got).length = arrLen n got * 2 := by
  unfold arrWrites arrLen arrFrags
  rw [List.length_append, fragWrites_length]
  split
  · rw [spineW_length]; omega
  · simp only [List.length_nil]; omega
theorem arrWrites_frag (s : Shp) (kind n at_ : Int) (got : List Int) {i k : Nat} (hi : i < got.length) (hk : k < 8) :
    (arrWrites s kind n at_ got)[(i * 8 + k) * 2]? = some (.int .i64 (got.getD i 0 * 8 + k)) ∧ (arrWrites s kind n at_ got)[(i * 8 + k) * 2 + 1]? = some (cx ((if i = 0 then sentF kind n at_ got else dataF s) k)) := by
  obtain ⟨h1, h2⟩ := fragWrites_get (sentF kind n at_ got) (dataF s) got hi hk
  have hl := fragWrites_length (sentF kind n at_ got) (dataF s) got got.length
  unfold arrWrites arrFrags
  exact ⟨by rw [List.getElem?_append_left (by omega), h1], by rw [List.getElem?_append_left (by omega), h2]⟩
theorem arrWrites_spine (s : Shp) (kind n at_ : Int) (got : List Int) (hm : arrMode n got = 1) (hg : 1 ≤ got.length) {k : Nat} (hk : k < got.length + 1) :
    (arrWrites s kind n at_ got)[(8 * got.length + k) * 2]? = some (.int .i64 (at_ + k)) ∧ (arrWrites s kind n at_ got)[(8 * got.length + k) * 2 + 1]? = some (spineV got k) := by
  obtain ⟨h1, h2⟩ := spineW_get got at_ (n := got.length - 1) (k := k) (by omega)
  have hl := fragWrites_length (sentF kind n at_ got) (dataF s) got got.length
  unfold arrWrites arrFrags
  rw [if_pos hm]
  exact ⟨by rw [List.getElem?_append_right (by omega), hl, show (8 * got.length + k) * 2 - got.length * 16 = k * 2 by omega, h1], by rw [List.getElem?_append_right (by omega), hl, show (8 * got.length + k) * 2 + 1 - got.length * 16 = k * 2 + 1 by omega, h2]⟩
/-- The words of the first fragment. -/
theorem sentF_get (kind n at_ : Int) (got : List Int) {k : Nat} (hk : k < 8) : some (cx (sentF kind n at_ got k)) = (sentWords kind n (arrMode n got) got at_)[k]? := by
  have hl := sentWords_length kind n (arrMode n got) got at_
  have h := cxs_rowF hl (sentWords_cx kind n (arrMode n got) got at_)
  have e : (cxs (sentF kind n at_ got))[k]? = (sentWords kind n (arrMode n got) got at_)[k]? := by unfold sentF; rw [h]
  rw [← e]
  unfold cxs
  rw [List.getElem?_map, List.getElem?_range hk]
  rfl
/-- One behind the other from the first on. -/
def runTo (l : List Int) (k : Nat) : Bool := (List.range k).all fun i => decide (l.getD (i + 1) 0 = l.getD 0 0 + (i + 1 : Nat))
theorem runTo_succ (l : List Int) (k : Nat) : runTo l (k + 1) = (runTo l k && decide (l.getD (k + 1) 0 = l.getD 0 0 + (k + 1 : Nat))) := by
  unfold runTo; rw [List.range_succ, List.all_append]; simp
theorem runTo_get {l : List Int} {k : Nat} (h : runTo l k = true) : ∀ i, i ≤ k → l.getD i 0 = l.getD 0 0 + (i : Nat) := by
  intro i hi
  cases i with
  | zero => simp
  | succ i =>
    have := List.all_eq_true.1 h i (List.mem_range.2 (by omega))
    simpa using this
theorem runTo_side {l : List Int} (hb : ∀ i, i < l.length → l.getD i 0 < 1024) : ∀ k, k < l.length → runTo l k = sideTo l k
  | 0, _ => rfl
  | k + 1, hk => by
    have ih := runTo_side hb k (by omega)
    rw [runTo_succ, sideTo_succ, ← ih]
    cases h : runTo l k
    · rfl
    · have h1 := runTo_get h k (Nat.le_refl _)
      have h2 := hb k (by omega)
      rw [Bool.true_and, Bool.true_and]
      apply decide_eq_decide.2
      omega
theorem run_side {l : List Int} (hb : ∀ i, i < l.length → l.getD i 0 < 1024) (h : 1 ≤ l.length) : runTo l (l.length - 1) = isSide l := runTo_side hb _ (by omega)
end Go.Proofs.Ytmgkfpmmlibmcaa
