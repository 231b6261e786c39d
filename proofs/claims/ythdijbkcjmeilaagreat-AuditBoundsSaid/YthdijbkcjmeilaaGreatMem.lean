/-
  Rows of the call's own (append, make) in worlds that only grow. No program here.
-/
import Derived.Test.YthdijbkcjmeilaaGreatWords
import Derived.Maps.AppendAt
namespace Go
open Go.RowKit

theorem grown_of_ext {w w' : World} (h : Ext w w') : w.grownBy w' none := by
  obtain ⟨X, rfl⟩ := h
  exact ⟨rfl, rfl, rfl, by rw [World.size_patch]; omega, fun k hk _ => World.heap_patch _ _ _ hk⟩
theorem own_ext {w w' : World} {base e size n : Nat} {v : Value} {xs : List Value} (h : w.ownsRow base e size v n xs) (he : Ext w w') : w'.ownsRow base e size v n xs :=
  h.kept (grown_of_ext he) (by cases v.ownBlock <;> simp)
/-- What was there before the row's base is as it was, behind an append to the row. -/
theorem ext_grown {w w1 w2 : World} {row : Option Nat} (h : Ext w w1) (hg : w1.grownBy w2 row) (hr : ∀ k, row = some k → w.heap.size ≤ k) : Ext w w2 :=
  ext_of_below (h.below.grown hg h.size hr)
theorem cellsAt_of_own {w : World} {base e size n c : Nat} {A : Option Addr} {xs : List Value} (h : w.ownsRow base e size (.slice A n c) n xs) : CellsAt w A xs := fun i v hi => by
  obtain ⟨h1, h2⟩ := h
  rcases h2 with ⟨hv, hn⟩ | ⟨g, cap, cur, hv, hb, hh, hn, hc, hs, ht⟩
  · subst hn
    simp only [Nat.zero_mul] at h1
    rw [List.length_eq_zero_iff] at h1
    subst h1
    simp at hi
  · injection hv with hA _ _
    subst hA
    refine ⟨g, 0, rfl, (Array.getElem?_eq_some_iff.1 hh).1, ?_⟩
    have hl : i < n * size := by
      have := (List.getElem?_eq_some_iff.1 hi).1
      omega
    simp only [World.cell?, hh, Nat.zero_add]
    rw [← ht, List.getElem?_take_of_lt hl] at hi
    simpa using hi
theorem own_form {w : World} {base e size n : Nat} {v : Value} {xs : List Value} (h : w.ownsRow base e size v n xs) : ∃ A c, v = .slice A n c := by
  rcases h.2 with ⟨hv, hn⟩ | ⟨g, cap, cur, hv, _⟩
  · subst hn; exact ⟨none, 0, hv⟩
  · exact ⟨_, _, hv⟩
theorem own_fresh {w : World} {base e size n c : Nat} {A : Option Addr} {xs : List Value} (h : w.ownsRow base e size (.slice A n c) n xs) : ∀ a, A = some a → base ≤ a.block := fun a ha => by
  subst ha
  exact (h.lt a.block rfl).1
/-- What lies in the new blocks does not hang on the old ones. -/
theorem CellsAt.rebase {U U' : World} {X Z : Extra} {A : Option Addr} {vs : List Value} (h : CellsAt (U.patch X) A vs) (hf : ∀ a, A = some a → U.heap.size ≤ a.block) (hs : U'.heap.size = U.heap.size) (hz : ∃ Y, Z.blocks = X.blocks ++ Y) : CellsAt (U'.patch Z) A vs := fun i v hi => by
  obtain ⟨b, o, hA, hb, hc⟩ := h i v hi
  have hbu := hf _ hA
  simp only at hbu
  obtain ⟨Y, hY⟩ := hz
  have s1 := World.size_patch U X
  have s2 := World.size_patch U' Z
  have s3 : Z.blocks.size = X.blocks.size + Y.size := by rw [hY, Array.size_append]
  have e : (U'.patch Z).heap[b]? = (U.patch X).heap[b]? := by
    show (U'.heap ++ Z.blocks)[b]? = (U.heap ++ X.blocks)[b]?
    have g1 : (U'.heap ++ (X.blocks ++ Y))[b]? = (X.blocks ++ Y)[b - U'.heap.size]? := Array.getElem?_append_right (by omega)
    have g2 : (U.heap ++ X.blocks)[b]? = X.blocks[b - U.heap.size]? := Array.getElem?_append_right (by omega)
    have g3 : (X.blocks ++ Y)[b - U.heap.size]? = X.blocks[b - U.heap.size]? := Array.getElem?_append_left (by omega)
    rw [hY, g1, g2, hs, g3]
  refine ⟨b, o, hA, by omega, ?_⟩
  rw [← hc]
  exact World.cell?_of_block e
theorem Shp.Ok.rebase {U U' : World} {X Z : Extra} {s : Shp} (h : s.Ok (U.patch X)) (hf : ∀ a, s.A = some a → U.heap.size ≤ a.block) (hs : U'.heap.size = U.heap.size) (hz : ∃ Y, Z.blocks = X.blocks ++ Y) : s.Ok (U'.patch Z) :=
  ⟨h.refs.rebase hf hs hz, h.len, h.max⟩
theorem own_len {w : World} {base e size n c : Nat} {A : Option Addr} {xs : List Value} (h : w.ownsRow base e size (.slice A n c) n xs) : n ≤ c ∧ c ≤ 9223372036854775807 := by
  obtain ⟨_, h2⟩ := h
  rcases h2 with ⟨hv, hn⟩ | ⟨g, cap, cur, hv, hb, hh, hn, hc, _⟩
  · injection hv with _ h1 h2
    omega
  · injection hv with _ h1 h2
    unfold maxLen at hc
    omega
/-- The new block, as the source of an append. -/
theorem news_new (w : World) (cs : List Value) (t : TypeId) : ∀ j u, cs[j]? = some u → (w.alloc (.cells cs.toArray t)).cell? ((⟨w.heap.size, 0, none⟩ : Addr).add j) = some u := fun j u hj => by
  have : ((⟨w.heap.size, 0, none⟩ : Addr).add j) = ⟨w.heap.size, j, none⟩ := by
    unfold Addr.add
    split
    · rename_i h; subst h; rfl
    · simp
  rw [this, World.cell?_alloc_new]
  simpa using hj
theorem cells_add {w : World} {ad : Addr} {vs : List Value} (h : CellsAt w (some ad) vs) : ∀ j u, vs[j]? = some u → w.cell? (ad.add j) = some u := fun j u hj => by
  obtain ⟨b, o, hA, _, hc⟩ := h j u hj
  injection hA with hA
  subst hA
  have : ((⟨b, o, none⟩ : Addr).add j) = ⟨b, o + j, none⟩ := by
    unfold Addr.add
    split
    · rename_i h; subst h; rfl
    · rfl
  rw [this]
  exact hc
end Go
