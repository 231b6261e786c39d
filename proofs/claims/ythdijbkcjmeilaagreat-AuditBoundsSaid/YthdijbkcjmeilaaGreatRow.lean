/-
  A whole block that is written anew; the cells of an array of words. No program here.
-/
import Derived.Test.YthdijbkcjmeilaaGreatScope
namespace Go
open Go.RowKit

def World.putBlk (w : World) (b : Nat) (o : Obj) : World := { w with heap := w.heap.setIfInBounds b o }
section
variable (w : World) {b : Nat} {o p : Obj}
@[simp] theorem World.size_putBlk : (w.putBlk b o).heap.size = w.heap.size := by simp [World.putBlk]
theorem World.row_put (h : b < w.heap.size) : (w.putBlk b o).heap[b]? = some o := by
  simp [World.putBlk, h]
theorem World.row_put_other {k : Nat} (h : b ≠ k) : (w.putBlk b o).heap[k]? = w.heap[k]? := by
  simp [World.putBlk, h]
theorem World.putBlk_self (h : w.heap[b]? = some o) : w.putBlk b o = w := by
  have e : w.heap.setIfInBounds b o = w.heap := by
    apply Array.ext_getElem?
    intro i
    by_cases hi : b = i
    · subst hi
      rw [h]
      simp [(Array.getElem?_eq_some_iff.1 h).1]
    · simp [hi]
  simp only [World.putBlk, e]
theorem World.putBlk_putBlk : (w.putBlk b o).putBlk b p = w.putBlk b p := by
  simp [World.putBlk]
theorem World.putBlk_patch {X : Extra} (h : b < w.heap.size) : (w.patch X).putBlk b o = (w.putBlk b o).patch X := by
  simp only [World.putBlk, World.patch, World.mk.injEq, and_true]
  apply Array.ext_getElem?
  intro i
  by_cases hi : i < w.heap.size <;> by_cases hb : b = i
  · subst hb; simp [h, Array.getElem?_append]
  · simp [hb, hi, Array.getElem?_append]
  · omega
  · simp [hb, hi, Array.getElem?_append]
theorem World.putBlk_alloc (h : b < w.heap.size) : (w.alloc p).putBlk b o = (w.putBlk b o).alloc p := by
  simp only [World.putBlk, World.alloc, World.mk.injEq, and_true]
  apply Array.ext_getElem?
  intro i
  by_cases hi : i < w.heap.size <;> by_cases hb : b = i
  · subst hb
    have hn : b ≠ w.heap.size := by omega
    have hs : b < (w.heap.push p).size := by simp; omega
    rw [Array.getElem?_setIfInBounds_self, if_pos hs, Array.getElem?_push, if_neg (by rw [Array.size_setIfInBounds]; exact hn), Array.getElem?_setIfInBounds_self, if_pos h]
  · simp [hb, Array.getElem?_push]
  · omega
  · simp [hb, Array.getElem?_push]
theorem World.putBlk_alloc_new {n : Nat} (h : n = w.heap.size) : (w.alloc p).putBlk n o = w.alloc o := by
  subst h
  simp only [World.putBlk, World.alloc, World.mk.injEq, and_true]
  apply Array.ext_getElem?
  intro i
  by_cases hb : w.heap.size = i
  · subst hb; simp
  · have hn : i ≠ w.heap.size := fun e => hb e.symm
    simp [hb, hn, Array.getElem?_push]
theorem World.row_alloc_new : (w.alloc o).heap[w.heap.size]? = some o := by
  show (w.heap.push o)[w.heap.size]? = some o
  simp
theorem World.row_alloc_past {k : Nat} (h : k < w.heap.size) : (w.alloc o).heap[k]? = w.heap[k]? := by
  show (w.heap.push o)[k]? = w.heap[k]?
  rw [Array.getElem?_push, if_neg (by omega)]
theorem World.setCell_row {c : Array Value} {t : TypeId} {f : Nat × Nat} {i : Nat} {v : Value} (h : w.heap[b]? = some (.cells c t f)) : w.setCell ⟨b, i, none⟩ v = w.putBlk b (.cells (c.setIfInBounds i v) t f) := by
  simp only [World.putBlk, World.setCell, World.mk.injEq, and_true]
  apply Array.ext_getElem?
  intro j
  have hb := (Array.getElem?_eq_some_iff.1 h).1
  by_cases hj : b = j
  · subst hj
    rw [Array.getElem?_modify, h]
    simp [hb]
  · rw [Array.getElem?_modify]
    simp [hj]
end
theorem CellsAt.putBlk {w : World} {A : Option Addr} {vs : List Value} {b : Nat} {o : Obj} (h : CellsAt w A vs) (hp : ∀ a, A = some a → 0 < vs.length → b ≠ a.block) : CellsAt (w.putBlk b o) A vs := fun i u hi => by
  have hv : 0 < vs.length := by have := (List.getElem?_eq_some_iff.1 hi).1; omega
  obtain ⟨k, q, hA, hb, hc⟩ := h i u hi
  refine ⟨k, q, hA, by rw [World.size_putBlk]; exact hb, ?_⟩
  rw [← hc]
  exact World.cell?_of_block (World.row_put_other _ (show b ≠ k from hp _ hA hv))
theorem Shp.Ok.putBlk {w : World} {s : Shp} {b : Nat} {o : Obj} (h : s.Ok w) (hp : ∀ a, s.A = some a → 0 < s.refs.length → b ≠ a.block) : s.Ok (w.putBlk b o) :=
  ⟨h.refs.putBlk (fun a ha hl => hp a ha (by simpa using hl)), h.len, h.max⟩
theorem row_cell {w : World} {b i : Nat} {l : List Value} {t : TypeId} {v : Value} (h : w.heap[b]? = some (.cells l.toArray t)) (hi : l[i]? = some v) : w.cell? ⟨b, i, none⟩ = some v := by
  simp only [World.cell?, h]
  simpa using hi
theorem row_live {w : World} {b i : Nat} {l : List Value} {t : TypeId} (h : w.heap[b]? = some (.cells l.toArray t)) : w.frozen? ⟨b, i, none⟩ = false := by
  simp [World.frozen?, h]


/-- The fields ahead of the k-th, laid into the words of a fragment. -/
def putFields (s : Shp) (frag : Int) (vs : List Value) : Nat → List Value
  | 0 => vs
  | k + 1 => if s.hasField k = true ∧ Shp.placeF k = frag then (putFields s frag vs k).set (Shp.placeW k).toNat (wBlank (s.refs.getD k false)) else putFields s frag vs k
theorem putFields_length (s : Shp) (frag : Int) (vs : List Value) : ∀ k, (putFields s frag vs k).length = vs.length
  | 0 => rfl
  | k + 1 => by
    have := putFields_length s frag vs k
    unfold putFields
    split
    · rw [List.length_set, this]
    · exact this
theorem putFields_no {s : Shp} {frag : Int} {vs : List Value} {k : Nat} (h : ¬ (s.hasField k = true ∧ Shp.placeF k = frag)) : putFields s frag vs (k + 1) = putFields s frag vs k := if_neg h
theorem putFields_yes {s : Shp} {frag : Int} {vs : List Value} {k : Nat} (h : s.hasField k = true ∧ Shp.placeF k = frag) : putFields s frag vs (k + 1) = (putFields s frag vs k).set (Shp.placeW k).toNat (wBlank (s.refs.getD k false)) := if_pos h
/-- The eight words of a fragment, and what is written of the first k. -/
def cx (p : Nat × Nat) : Value := .complex .f64 p.1 p.2
def cxs (f : Nat → Nat × Nat) : List Value := (List.range 8).map fun j => cx (f j)
def writes (i : Int) (f : Nat → Nat × Nat) : Nat → List Value
  | 0 => []
  | k + 1 => writes i f k ++ [.int .i64 (i * 8 + k), cx (f k)]
theorem writes_length (i : Int) (f : Nat → Nat × Nat) : ∀ k, (writes i f k).length = k * 2
  | 0 => rfl
  | k + 1 => by rw [writes, List.length_append, writes_length i f k]; simp; omega
theorem Shp.placeW_bd (k : Int) (h : 0 ≤ k) : 1 ≤ placeW k ∧ placeW k ≤ 7 := by
  unfold placeW
  split <;> omega
end Go
