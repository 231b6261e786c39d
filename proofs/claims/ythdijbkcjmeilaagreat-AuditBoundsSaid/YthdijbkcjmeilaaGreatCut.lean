/-
  A world without what stands behind a block. No program here.
-/
import Derived.Test.YthdijbkcjmeilaaGreatRow
namespace Go
open Go.RowKit
def World.upTo (w : World) (n : Nat) : World := { w with heap := w.heap.extract 0 n }
theorem World.size_upTo (w : World) {n : Nat} (h : n ≤ w.heap.size) : (w.upTo n).heap.size = n := by
  simp [World.upTo]; omega
theorem World.heap_upTo (w : World) {n k : Nat} (hk : k < n) : (w.upTo n).heap[k]? = w.heap[k]? := by
  simp only [World.upTo, Array.getElem?_extract]
  simp
  omega
theorem World.cell_upTo (w : World) {n k o : Nat} (hk : k < n) : (w.upTo n).cell? ⟨k, o, none⟩ = w.cell? ⟨k, o, none⟩ := by
  simp only [World.cell?, World.heap_upTo w hk]
theorem ext_upTo (w : World) {n : Nat} (h : n ≤ w.heap.size) : Ext (w.upTo n) w :=
  ext_of_below ⟨rfl, rfl, rfl, by rw [World.size_upTo w h]; exact h, fun k hk => by rw [World.size_upTo w h] at hk; rw [World.heap_upTo w hk]⟩
theorem Ext.upTo {a w : World} (he : Ext a w) {n : Nat} (hn : a.heap.size ≤ n) (h : n ≤ w.heap.size) : Ext a (w.upTo n) := by
  obtain ⟨b1, b2, b3, b4, b5⟩ := he.below
  exact ext_of_below ⟨b1, b2, b3, by rw [World.size_upTo w h]; exact hn, fun k hk => by rw [World.heap_upTo w (by omega)]; exact b5 k hk⟩
theorem CellsAt.upTo {w : World} {A : Option Addr} {vs : List Value} (hc : CellsAt w A vs) {n : Nat} (h : n ≤ w.heap.size) (ha : ∀ a, A = some a → 0 < vs.length → a.block < n) : CellsAt (w.upTo n) A vs := by
  intro i v hi
  obtain ⟨b, o, rfl, hb, hv⟩ := hc i v hi
  have hn := ha _ rfl (by have := (List.getElem?_eq_some_iff.1 hi).1; omega)
  exact ⟨b, o, rfl, by rw [World.size_upTo w h]; exact hn, by rw [World.cell_upTo w hn]; exact hv⟩
theorem Shp.Ok.upTo {w : World} {s : Shp} (hs : s.Ok w) {n : Nat} (h : n ≤ w.heap.size) (ha : ∀ a, s.A = some a → 0 < s.refs.length → a.block < n) : s.Ok (w.upTo n) :=
  ⟨hs.refs.upTo h (fun a h1 h2 => ha a h1 (by simpa using h2)), hs.len, hs.max⟩
theorem own_lower {w : World} {b b' : Nat} {T : TypeId} {size : Nat} {v : Value} {n : Nat} {xs : List Value} (h : w.ownsRow b T size v n xs) (hb : b' ≤ b) : w.ownsRow b' T size v n xs := by
  obtain ⟨o1, o2⟩ := h
  refine ⟨o1, ?_⟩
  rcases o2 with ⟨hv, hn⟩ | ⟨g, cap, cur, hv, hbg, r⟩
  · exact Or.inl ⟨hv, hn⟩
  · exact Or.inr ⟨g, cap, cur, hv, Nat.le_trans hb hbg, r⟩
end Go
