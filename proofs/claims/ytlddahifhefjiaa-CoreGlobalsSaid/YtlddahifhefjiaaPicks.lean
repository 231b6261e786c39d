/-
  tale.Picks; sporef.Ints.
-/
import Derived.Test.YtlddahifhefjiaaChecked
import Derived.Test.YtlddahifhefjiaaTale
namespace Go
/-- A slice of the call's own: these cells; nothing that was there has turned. -/
def Made (t : TypeId) (size n : Nat) (xs : List Value) (w : World) (e : Ending) (w' : World) : Prop := ∃ v, e = .returned v ∧ w'.ownsRow w.heap.size t size v n xs ∧ Ext w w'
theorem bytes_at {w : World} {A : Option Addr} {bs : List Int} (h : CellsAt w A (bs.map (Value.int .u8))) {k : Nat} (hk : k < bs.length) :
    ∃ b o, A = some ⟨b, o, none⟩ ∧ b < w.heap.size ∧ ∀ j, j < bs.length → w.cell? ⟨b, o + j, none⟩ = some (.int .u8 (bs.getD j 0)) := by
  obtain ⟨b, o, hA, hb, hc⟩ := h.cases (by simp; omega)
  exact ⟨b, o, hA, hb, fun j hj => hc j _ (by simp [List.getD_eq_getElem?_getD, hj])⟩
theorem words_at {w : World} {A : Option Addr} {bs : List Int} (h : CellsAt w A (bs.map (Value.int .i64))) {k : Nat} (hk : k < bs.length) :
    ∃ b o, A = some ⟨b, o, none⟩ ∧ b < w.heap.size ∧ ∀ j, j < bs.length → w.cell? ⟨b, o + j, none⟩ = some (.int .i64 (bs.getD j 0)) := by
  obtain ⟨b, o, hA, hb, hc⟩ := h.cases (by simp; omega)
  exact ⟨b, o, hA, hb, fun j hj => hc j _ (by simp [List.getD_eq_getElem?_getD, hj])⟩
theorem picks_snoc (bs : List Int) (t : Int) {k : Nat} (hk : k < bs.length) : picksOf (bs.take (k + 1)) t = picksOf (bs.take k) t ++ [pickOf t (bs.getD k 0)] := by
  unfold picksOf
  rw [List.take_add_one, List.getElem?_eq_getElem hk, List.map_append, List.getD_eq_getElem?_getD, List.getElem?_eq_getElem hk]
  rfl
theorem getD_mem3 {l : List Int} {k : Nat} (h : k < l.length) : l.getD k 0 ∈ l := by
  rw [List.getD_eq_getElem?_getD, List.getElem?_eq_getElem h]
  exact List.getElem_mem h
end Go
namespace Go.Proofs.Ytlddahifhefjiaa
open Go Go.RowKit
set_option linter.unusedVariables false

theorem infoInt : (Try.prog.info? 3).map (fun i => (i.zero, i.size, i.bytes)) = some (some (.int .i64 0), 1, 8) := by kernel_rfl

set_option maxRecDepth 100000 in
set_option maxHeartbeats 2000000 in
theorem picks_any (A : Option Addr) (cap : Nat) (bs : List Int) (t : Int) (w : World) (hb : CellsAt w A (bs.map (Value.int .u8))) (hlen : bs.length ≤ 4100) (hw : ∀ x ∈ bs, 0 ≤ x ∧ x ≤ 255) (ht : -9223372036854775808 ≤ t ∧ t ≤ 9223372036854775807) :
    Calls Try.prog 21 #[.slice A bs.length cap, .int .i64 t] w (Made 3 1 bs.length ((picksOf bs t).map (Value.int .i64)) w) := by
  obtain ⟨i0, hi, hz0, hz1, hz2⟩ := info_parts infoInt
  obtain ⟨ht0, ht1⟩ := ht
  go_enter Try.func21, Try.ntmps21
  go_wp2
  go_loopw [5, 10] (fun v i wr => ∃ k : Nat, k ≤ bs.length ∧ i = .int .i64 k ∧ wr.ownsRow w.heap.size 3 1 v k ((picksOf (bs.take k) t).map (Value.int .i64)) ∧ Ext w wr) (fun _ i _ => bs.length - (intOf i).toNat)
  case atStart => exact ⟨0, Nat.zero_le _, rfl, World.ownsRow_nil _ _ _ _, Ext.refl _⟩
  case round =>
    obtain ⟨k, hk, rfl, hown, hE⟩ := hrel
    by_cases hlt : k < bs.length
    · obtain ⟨b, o, rfl, hbl, hcell⟩ := bytes_at hb hlt
      have hc0 := (hE.below.cell (p := ⟨b, o + k, none⟩) hbl).trans (hcell k hlt)
      have hx := hw _ (getD_mem3 hlt)
      have HP := Lib.hid (picks_snoc bs t hlt)
      generalize bs.getD k 0 = x at *
      obtain ⟨hx0, hx1⟩ := hx
      have hsz := hE.size
      have HE := Lib.hid hE
      have HO := Lib.hid hown
      clear hb hcell hw hE hown
      obtain ⟨y, hy, hcase⟩ : ∃ y, pickOf t x = y ∧ ((t < 1 ∧ y = 0) ∨ (255 < t ∧ y = x) ∨ (1 ≤ t ∧ t ≤ 255 ∧ y = x % (t + 1))) := by
        refine ⟨_, rfl, ?_⟩
        unfold pickOf
        split
        · left; omega
        · split
          · right; left; omega
          · right; right; omega
      have HY := Lib.hid hy
      clear hy
      rcases hcase with ⟨h1, rfl⟩ | ⟨h1, rfl⟩ | ⟨h1, h2, rfl⟩
      all_goals
        go_wp2_with (at_builtin; refine wpList_append_own _ rfl _ _ 32 rfl w.heap.size 3 i0 (.int .i64 0) 1 8 Try.underlying32 hi hz0 hz1 hz2 rfl (by decide) _ _ _ rfl (HO.out.alloc _) ⟨wr.heap.size, 0, none⟩ 1 1 [.int .i64 _] rfl rfl (cell_one_new _ _ _) (by simp [Value.oneCell']) (by unfold maxLen; omega) (by omega) (by simp; omega) ?_; intro v' w1 hown' hgrow _)
        have HR := Lib.hid (ext_grown (w := w) (HE.out.alloc _) hgrow (fun j hj => (HO.out.lt j hj).1))
        have HN := Lib.hid hown'
        clear hown' hgrow
        go_roundw
        case rel => exact ⟨k + 1, by omega, by go_num, by rw [HP.out, List.map_append, HY.out]; exact HN.out, HR.out⟩
        case measure => simp [intOf]; omega
    · obtain rfl : k = bs.length := by omega
      rw [List.take_of_length_le (Nat.le_refl _)] at hown
      obtain ⟨Av, cv, rfl⟩ := own_form hown
      go_wp2
      go_ret
      exact ⟨_, rfl, hown, hE⟩
end Go.Proofs.Ytlddahifhefjiaa
