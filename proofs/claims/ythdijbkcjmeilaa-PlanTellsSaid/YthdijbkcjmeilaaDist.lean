/-
  How many different numbers a list has; maps in worlds that only grow. No program here.
-/
import Derived.Test.YthdijbkcjmeilaaMem
import Derived.Maps.OwnSet
import Derived.Maps.OwnOps
namespace Go
open Go.RowKit Go.Maps

theorem getD_mem {l : List Int} {k : Nat} (h : k < l.length) : l.getD k 0 ∈ l := by
  rw [List.getD_eq_getElem?_getD, List.getElem?_eq_getElem h]
  exact List.getElem_mem h
theorem getD_take {l : List Int} {k : Nat} (h : k < l.length) : l.take (k + 1) = l.take k ++ [l.getD k 0] := by
  rw [List.take_add_one, List.getElem?_eq_getElem h, List.getD_eq_getElem?_getD, List.getElem?_eq_getElem h]
  rfl

def keyI (x : Int) : Lit := .int .i64 x
theorem keyI_key (l : List Int) : ∀ x ∈ l.map keyI, WideAt.IsKeyLit x := by
  intro x hx
  obtain ⟨y, _, rfl⟩ := List.mem_map.1 hx
  trivial
theorem keyI_same (x y : Int) : (keyI x).sameKey (keyI y) = decide (x = y) := by
  simp [keyI, Lit.sameKey]
/-- The different ones, in the order in which they came. -/
def addI (acc : List Int) (x : Int) : List Int := if x ∈ acc then acc else acc ++ [x]
theorem fold_addKey : ∀ (l acc : List Int), (l.map keyI).foldl addKey (acc.map keyI) = (l.foldl addI acc).map keyI
  | [], _ => rfl
  | x :: l, acc => by
    simp only [List.map_cons, List.foldl_cons]
    have h : addKey (acc.map keyI) (keyI x) = (addI acc x).map keyI := by
      unfold addKey addI
      have e : ((acc.map keyI).any fun y => y.sameKey (keyI x)) = decide (x ∈ acc) := by
        rw [Bool.eq_iff_iff]
        simp only [List.any_map, List.any_eq_true, Function.comp, keyI_same, decide_eq_true_eq]
        exact ⟨fun ⟨y, hy, e⟩ => e ▸ hy, fun hx => ⟨x, hx, rfl⟩⟩
      rw [e]
      by_cases hx : x ∈ acc <;> simp [hx]
    rw [h, fold_addKey l]
theorem fold_addI_le : ∀ (l acc : List Int), (l.foldl addI acc).length ≤ acc.length + l.length
  | [], _ => by simp
  | x :: l, acc => by
    have := fold_addI_le l (addI acc x)
    have h2 : (addI acc x).length ≤ acc.length + 1 := by unfold addI; split <;> simp
    simp only [List.foldl_cons, List.length_cons]
    omega
theorem fold_addI_eq : ∀ (l acc : List Int), acc.Nodup → ((l.foldl addI acc).length = acc.length + l.length ↔ (acc ++ l).Nodup)
  | [], acc, h => by simp [h]
  | x :: l, acc, h => by
    simp only [List.foldl_cons, List.length_cons]
    by_cases hx : x ∈ acc
    · have := fold_addI_le l acc
      have e : addI acc x = acc := by simp [addI, hx]
      rw [e]
      constructor
      · intro h'; omega
      · intro h'
        rw [List.nodup_append] at h'
        exact absurd rfl (h'.2.2 x hx x (by simp))
    · have e : addI acc x = acc ++ [x] := by simp [addI, hx]
      rw [e]
      have hn : (acc ++ [x]).Nodup := by
        rw [List.nodup_append]
        refine ⟨h, by simp, fun a ha b hb => ?_⟩
        simp at hb
        subst hb
        rintro rfl
        exact hx ha
      have := fold_addI_eq l (acc ++ [x]) hn
      simp only [List.length_append, List.length_cons, List.length_nil] at this
      rw [show acc.length + (l.length + 1) = acc.length + (0 + 1) + l.length by omega, this, List.append_assoc]
      rfl
/-- Is one there twice? -/
def twiceIn (l : List Int) : Bool := decide (¬ l.Nodup)
theorem size_ints (u : DataW Unit) (l : List Int) : decide (Maps.size (setOf u (l.map keyI)) < l.length) = twiceIn l := by
  rw [size_setOf u _ (keyI_key l)]
  have h := fold_addKey l []
  simp only [List.map_nil] at h
  rw [h, List.length_map, twiceIn]
  have h1 := fold_addI_le l []
  have h2 := fold_addI_eq l [] List.nodup_nil
  simp only [List.length_nil, Nat.zero_add, List.nil_append] at h1 h2
  rw [decide_eq_decide, ← h2]
  omega

theorem map_ext {H : Type} {w w' : World} {P : Program} {k : TypeId} {R : Value → Option (DataW H × List MemPlace)} {b n : Nat} {D : DataW H} (h : w.ownsMap P k R b n D) (he : Ext w w') : w'.ownsMap P k R b n D := by
  obtain ⟨es, clock, hb, rest⟩ := h
  exact ⟨es, clock, (he.heap b (Array.getElem?_eq_some_iff.1 hb).1).trans hb, rest⟩
end Go
