/-
  Requests in a line, as plain data, and as they stand in memory. No program here.
-/
import Derived.Test.YthdijbkcjmeilaaGreatSt
namespace Go
open Go.RowKit
set_option linter.unusedVariables false
structure Ent where
  thread : Int
  frags : Int
  spine : Int
  state : Int
  cycles : Int
  at_ : Int
  got : List Int
  noted : Bool
structure EntM where
  e : Ent
  A : Option Addr
  cap : Nat
namespace EntM
def req (m : EntM) : List Value := [.int .i64 m.e.thread, .int .i64 m.e.frags, .int .i64 m.e.spine, .int .i64 m.e.state, .int .i64 m.e.cycles, .int .i64 m.e.at_, .slice m.A m.e.got.length m.cap]
def cells (m : EntM) : List Value := m.req ++ [.bool m.e.noted]
theorem cells_len (m : EntM) : m.cells.length = 8 := rfl
structure At (g : GW) (t : Nat) (m : EntM) : Prop where
  seg : Seg g t m.A (m.e.got.map (Value.int .i64))
  len : m.e.got.length ≤ 1024
theorem At.keep {S : Nat → Prop} {g g' : GW} {t : Nat} {m : EntM} (h : At g t m) (d : Mod S g g') (hs : ¬ S t) : At g' t m := ⟨h.seg.keep d hs, h.len⟩
end EntM
/-- The place of the first that is so; -1: none is. -/
def placeOf (p : Ent → Bool) (l : List Ent) : Int := match l.findIdx? p with | some i => (i : Int) | none => -1
theorem placeOf_none {p : Ent → Bool} {l : List Ent} (h : ∀ e ∈ l, p e = false) : placeOf p l = -1 := by
  unfold placeOf
  rw [List.findIdx?_eq_none_iff.2 h]
theorem placeOf_some {p : Ent → Bool} {l : List Ent} {k : Nat} {e : Ent} (hk : l[k]? = some e) (hp : p e = true) (h : ∀ x ∈ l.take k, p x = false) : placeOf p l = k := by
  obtain ⟨hl, hx⟩ := List.getElem?_eq_some_iff.1 hk
  have : l.findIdx? p = some k := by
    rw [List.findIdx?_eq_some_iff_getElem]
    refine ⟨hl, by rw [hx]; exact hp, fun j hj => ?_⟩
    have := h l[j] (by rw [List.mem_take_iff_getElem]; exact ⟨j, by omega, rfl⟩)
    simp [this]
  unfold placeOf
  rw [this]
theorem placeOf_bd (p : Ent → Bool) (l : List Ent) : -1 ≤ placeOf p l ∧ placeOf p l < l.length := by
  unfold placeOf
  cases h : l.findIdx? p with
  | none => simp only; omega
  | some i =>
    obtain ⟨hl, _⟩ := List.findIdx?_eq_some_iff_getElem.1 h
    simp only; omega
def ofB (th : Int) (e : Ent) : Bool := e.thread == th
def waitB (e : Ent) : Bool := e.state == 0
end Go
