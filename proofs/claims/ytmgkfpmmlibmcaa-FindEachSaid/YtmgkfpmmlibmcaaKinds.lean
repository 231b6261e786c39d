/-
  spolaw13.FindKinds.
-/
import Derived.Test.YtmgkfpmmlibmcaaFirst13
namespace Go.Proofs.Ytmgkfpmmlibmcaa
open Go Go.RowKit
set_option linter.unusedVariables false
set_option linter.unnecessarySimpa false
set_option linter.unusedSimpArgs false
theorem putFields_one (s : Shp) (vs : List Value) (n : Nat) : (putFields s 0 vs n)[1]? = vs[1]? := by
  induction n with
  | zero => rfl
  | succ n ih =>
    by_cases h : s.hasField n = true ∧ Shp.placeF n = 0
    · have h2 : Shp.placeW n = 2 + n := by
        have h3 := h.2
        unfold Shp.placeF at h3
        unfold Shp.placeW
        split at h3
        · rw [if_pos (by assumption)]
        · omega
      rw [putFields_yes h, List.getElem?_set_ne (by omega), ih]
    · rw [putFields_no h, ih]
theorem obj_head {s : Shp} {kind : Int} {got : List Int} (hg : 0 < got.length) (hk : 0 ≤ kind ∧ kind ≤ 1000000) : objV s kind got 1 = (floatOfInt .f64 kind, floatOfInt .f64 (if isSide got = true then 1 else 0)) := by
  have h := objV_row s kind got hg (k := 1) (by decide)
  rw [Nat.zero_mul, Nat.zero_add] at h
  refine cx_inj (h.symm.trans ?_)
  unfold objRow
  rw [show ((0 : Nat) : Int) = 0 from rfl, putFields_one]
  show some (wHead kind (if isSide got = true then 1 else 0)) = _
  unfold wHead
  rw [if_neg (by split <;> omega)]
/-- What was laid into memory, whatever it was. -/
def Laid (c : Cnf) (kind at_ : Int) (got : List Int) (w0 : World) (l e : Value) (w : World) : Prop :=
  ∃ (A : Option Addr) (m cap : Nat) (ev : Int), l = .slice A m cap ∧ e = .int .i64 ev ∧ Ext w0 w ∧ (ev = 0 → 1 ≤ got.length ∧ c.check = 0 ∧ (0 ≤ got.getD 0 0 ∧ got.getD 0 0 < c.frags) ∧ 8 * got.length ≤ m ∧ m ≤ 10000 ∧
    ∃ xs V words md, CellsAt w A xs ∧ Wr xs m (onceAt got at_) V ∧ Once got at_ words m (onceAt got at_) ∧ (∀ i, i < m → inB (onceAt got at_ i) (cWords c).toNat = true) ∧ (0 ≤ md ∧ md ≤ 1) ∧ V 1 = (floatOfInt .f64 kind, floatOfInt .f64 md))
theorem laid_object {c : Cnf} {kind at_ : Int} {got : List Int} {s : Shp} {w0 w : World} {A : Option Addr} {m cap : Nat} (hl : got.length ≤ 1000) (hk : 0 ≤ kind ∧ kind ≤ 1000000) {is : Bool} {base : Nat} (hown : w.ownsRow base 42 2 (.slice A m cap) m (if wrongE c is s 0 false got = 0 then objWrites s kind got (isSide got) got.length else [])) (hE : Ext w0 w) :
    Laid c kind at_ got w0 (.slice A m cap) (.int .i64 (wrongE c is s 0 false got)) w := by
  refine ⟨A, m, cap, _, rfl, rfl, hE, fun hz => ?_⟩
  rw [if_pos hz] at hown
  have hn := hown.1
  rw [objWrites_length] at hn
  obtain rfl : m = 8 * got.length := by omega
  have hf := wrongE_fine hz
  have hg1 : 1 ≤ got.length := by omega
  obtain ⟨o1, o2⟩ := once_object (kind := kind) (at_ := at_) (n := 0) hz
  exact ⟨hg1, hf.1, got_bd hz 0 (by omega), Nat.le_refl _, by omega, _, objV s kind got, _, if isSide got = true then 1 else 0, cellsAt_of_own hown, wr_object hz, o1, once_in_obj hz, by split <;> omega, obj_head (by omega) hk⟩
theorem laid_array {c : Cnf} {kind n at_ : Int} {got : List Int} {s : Shp} {w0 w : World} {A : Option Addr} {m cap : Nat} (hl : got.length ≤ 1000) (hk : 0 ≤ kind ∧ kind ≤ 1000000) {is : Bool} {base : Nat} (hown : w.ownsRow base 42 2 (.slice A m cap) m (if arrE c is s n got at_ = 0 then arrWrites s kind n at_ got else [])) (hE : Ext w0 w) :
    Laid c kind at_ got w0 (.slice A m cap) (.int .i64 (arrE c is s n got at_)) w := by
  refine ⟨A, m, cap, _, rfl, rfl, hE, fun hz => ?_⟩
  rw [if_pos hz] at hown
  have hn := hown.1
  obtain ⟨h0, -⟩ := arrE_fine hz
  obtain ⟨z1, z2, -, -⟩ := arr_size h0
  have hd := sData_bd n
  rw [arrWrites_length _ _ _ _ _ (by omega)] at hn
  obtain rfl : m = arrLen n got := by omega
  have hf := wrongE_fine h0
  have hb : 8 * got.length ≤ arrLen n got ∧ arrLen n got ≤ 10000 := by unfold arrLen; split <;> omega
  exact ⟨by omega, hf.1, got_bd h0 0 (by omega), hb.1, hb.2, _, arrV s kind n at_ got, _, 0, cellsAt_of_own hown, wr_array hz, (once_array (kind := kind) hz).1, once_in hz, by omega, arr_head (by omega) hk⟩
theorem later_blk (w : World) (o : Obj) : ∀ w', Ext (w.alloc o) w' → w'.heap[w.heap.size]? = some o := fun w' he => (he.heap w.heap.size (by rw [World.size_alloc]; omega)).trans (World.row_alloc_new w)
theorem nothing_of {T : Nat → Prop} {g g' : GW} (h : Mod T g g') (hn : ∀ k, k < g.w.heap.size → ¬ T (g.own k)) : Mod (fun _ => False) g g' := ⟨h.os, h.tape, h.output, h.size, h.own, fun k hk _ => h.block k hk (hn k hk)⟩
theorem kind_in {c : Cnf} {kind : Int} (h : (c.shapeAt kind).isSome = true) (hm : c.check = 0) : 0 ≤ kind ∧ kind ≤ 1000000 := by
  unfold Cnf.shapeAt at h
  split at h
  · cases h
  · have h8 : kind.toNat < c.shapes.length := by simpa using h
    have h9 := (Cnf.check_zero hm).2.2.1
    unfold within at h9
    simp only [decide_eq_true_eq] at h9
    omega
end Go.Proofs.Ytmgkfpmmlibmcaa
