/-
  tale.Picks; sporef.Ints.
-/
import Derived.Test.YthdijbkcjmeilaaGreatChecked
import Derived.Test.YthdijbkcjmeilaaGreatTale
namespace Go
/-- A slice of the call's own: these cells; nothing that was there has turned. -/
def Made (t : TypeId) (size n : Nat) (xs : List Value) (w : World) (e : Ending) (w' : World) : Prop := ∃ v, e = .returned v ∧ w'.ownsRow w.heap.size t size v n xs ∧ Ext w w'
theorem bytes_at {w : World} {A : Option Addr} {bs : List Int} (h : CellsAt w A (bs.map (Value.int .u8))) {k : Nat} (hk : k < bs.length) :
    ∃ b o, A = some ⟨b, o, none⟩ ∧ b < w.heap.size ∧ ∀ j, j < bs.length → w.cell? ⟨b, o + j, none⟩ = some (.int .u8 (bs.getD j 0)) := by
  obtain ⟨b, o, hA, hb, hc⟩ := h.cases (by simp; omega)
  exact ⟨b, o, hA, hb, fun j hj => hc j _ (by simp [List.getD_eq_getElem?_getD, hj])⟩
theorem words_at {w : World} {A : Option Addr} {bs : List Int} (h : CellsAt w A (bs.map (Value.int .i64))) {k : Nat} (hk : k < bs.length) :
    ∃ b o, A = some ⟨b, o, none⟩ ∧ b < w.heap.size ∧ ∀ j, j < bs.length → w.cell? ⟨b, o + j, none⟩ = some (.int .i64 (bs.getD j 0)) := by
  obtain ⟨b, o, hA, hb, hc⟩ := h.cases (by simp; omega)
  exact ⟨b, o, hA, hb, fun j hj => hc j _ (by simp [List.getD_eq_getElem?_getD, hj])⟩
theorem picks_snoc (bs : List Int) (t : Int) {k : Nat} (hk : k < bs.length) : picksOf (bs.take (k + 1)) t = picksOf (bs.take k) t ++ [pickOf t (bs.getD k 0)] := by
  unfold picksOf
  rw [List.take_add_one, List.getElem?_eq_getElem hk, List.map_append, List.getD_eq_getElem?_getD, List.getElem?_eq_getElem hk]
  rfl
theorem getD_mem3 {l : List Int} {k : Nat} (h : k < l.length) : l.getD k 0 ∈ l := by
  rw [List.getD_eq_getElem?_getD, List.getElem?_eq_getElem h]
  exact List.getElem_mem h
end Go
namespace Go.Proofs.YthdijbkcjmeilaaGreat
open Go Go.RowKit
set_option linter.unusedVariables false

theorem infoInt : (Tryz.prog.info? 3).map (fun i => (i.zero, i.size, i.bytes)) = some (some (.int .i64 0), 1, 8) := by kernel_rfl

end Go.Proofs.YthdijbkcjmeilaaGreat
