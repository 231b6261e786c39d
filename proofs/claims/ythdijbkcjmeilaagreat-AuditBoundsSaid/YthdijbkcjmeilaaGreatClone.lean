/-
  slices.Clone at bools and ints; conf.copied, conf.Shape.
-/
import Derived.Test.YthdijbkcjmeilaaGreatShape2
import Derived.Test.YthdijbkcjmeilaaGreatMem
namespace Go.Proofs.YthdijbkcjmeilaaGreat
open Go Go.RowKit

attribute [local go_sem] Lib.run_eql_slice_nil
theorem infoBool : (Tryz.prog.info? 4).map (fun i => (i.zero, i.size, i.bytes)) = some (some (.bool false), 1, 1) := by kernel_rfl

/-- The clone: a slice of its own with the same elements; nil of nil. -/
theorem cloneBool_any (A : Option Addr) (cap : Nat) (l : List Bool) (w : World) (hc : CellsAt w A (l.map Value.bool)) (hl : l.length ≤ 140737488355328) :
    Calls Tryz.prog 180 #[.slice A l.length cap] w (fun e w' => ∃ A' cap', e = .returned (.slice A' l.length cap') ∧ CellsAt w' A' (l.map Value.bool) ∧ l.length ≤ cap' ∧ (∀ a, A' = some a → w.heap.size ≤ a.block) ∧ Ext w w') := by
  obtain ⟨i0, hi, hz0, hz1, hz2⟩ := info_parts infoBool
  have hq := fun w => Lib.run_eql_slice_nil (P := Tryz.prog) w 75 4 A l.length cap 0 0 Tryz.underlying75
  rcases A with _ | ad
  · obtain rfl : l = [] := by
      rcases l with _ | ⟨x, l⟩
      · rfl
      · obtain ⟨b, o, h, _⟩ := hc.at_ (i := 0) (by simp)
        cases h
    go_enter Tryz.func180, Tryz.ntmps180
    go_wp2_with fail
    go_ret
    exact ⟨none, 0, rfl, CellsAt.nil _ _, by simp, (fun a h => by cases h), by (repeat (first | (with_reducible assumption) | (with_reducible exact Ext.refl _) | (with_reducible exact Ext.more _ _ _ _) | apply Ext.alloc | refine Ext.setCell ?_ (by first | exact Nat.le_refl _ | exact Nat.le_add_right _ _ | assumption) _ | apply Ext.patch | apply Ext.drew | apply Ext.drewN))⟩
  · go_enter Tryz.func180, Tryz.ntmps180
    go_wp2_with (at_builtin; refine wpList_append_own _ rfl (.tmp 5) (.tmp 6) 75 rfl w.heap.size 4 i0 (.bool false) 1 1 Tryz.underlying75 hi hz0 hz1 hz2 rfl (by decide) _ _ _ rfl (World.ownsRow_made (cap := 0) _ #[] (Nat.le_refl _) (by decide) rfl) ad l.length cap (l.map Value.bool) rfl (by simp) (cells_add (hc.alloc _)) (by intro u hu; simp at hu; rcases hu with ⟨_, rfl⟩ | ⟨_, rfl⟩ <;> rfl) (by unfold maxLen; omega) (by omega) (by simp) ?_; intro v' w1 hown hgrow hn)
    simp only [Nat.zero_add, List.nil_append] at hown
    obtain ⟨A', c', hv⟩ := own_form hown
    rw [hv] at hown
    have HV := Lib.hid hv
    clear hv
    go_ret
    exact ⟨A', c', congrArg Ending.returned HV.out, cellsAt_of_own hown, (own_len hown).1, own_fresh hown, ext_grown (Ext.alloc (Ext.refl _) _) hgrow (fun k hk => by cases hk; exact Nat.le_refl _)⟩

/-- conf.copied: a shape of its own, alike. -/
theorem copied_any (s : Shp) (w : World) (hs : s.Ok w) :
    Calls Tryz.prog 110 #[s.val] w (fun e w' => ∃ s' : Shp, e = .returned s'.val ∧ s'.arr = s.arr ∧ s'.refs = s.refs ∧ (∀ a, s'.A = some a → w.heap.size ≤ a.block) ∧ s'.Ok w' ∧ Ext w w') := by
  have hl : s.refs.length ≤ 140737488355328 := hs.max
  have HC := Lib.hid (fun w' (he : Ext w w') => cloneBool_any s.A s.cap s.refs w' (hs.refs.ext he) hl)
  obtain ⟨arr, A, cap, refs⟩ := s
  unfold Shp.val
  simp only at HC ⊢
  go_enter Tryz.func110, Tryz.ntmps110
  go_wp2_with fail
  refine wp_region_mixed [true, true, true, true, false, false, false] 3 6 (by kernel_rfl) (by kernel_rfl) (by kernel_rfl) ?_ (by decide) (by decide) (by decide) (by kernel_rfl) ?_
  · intro c a d v w h; cases d <;> exact h
  intro X00
  simp only [pickOps]
  repeat (go_big_quiet_step (fail))
  refine wpQuiet_nil (fun X0 => ?_)
  clear X00
  refine wpAnyM_one 4 _ (by kernel_rfl) rfl rfl (by decide) (fun X1 K Q' hK => ?_)
  go_simp
  refine (HC.out _ (by (repeat (first | (with_reducible assumption) | (with_reducible exact Ext.refl _) | (with_reducible exact Ext.more _ _ _ _) | apply Ext.alloc | refine Ext.setCell ?_ (by first | exact Nat.le_refl _ | exact Nat.le_add_right _ _ | assumption) _ | apply Ext.patch | apply Ext.drew | apply Ext.drewN)))).mono ?_; rintro e w1 ⟨A', cap', rfl, hcell, hle, hfr, X3, rfl⟩
  refine hK _ _ ?_ ?_
  · (repeat (first | (with_reducible assumption) | (with_reducible exact Ext.refl _) | (with_reducible exact Ext.more _ _ _ _) | apply Ext.alloc | refine Ext.setCell ?_ (by first | exact Nat.le_refl _ | exact Nat.le_add_right _ _ | assumption) _ | apply Ext.patch | apply Ext.drew | apply Ext.drewN))
  clear hK K Q'
  refine wpAnyM_one 5 _ (by kernel_rfl) rfl rfl (by decide) (fun X1 K Q' hK => ?_)
  go_simp
  refine hK _ _ ?_ ?_
  · (repeat (first | (with_reducible assumption) | (with_reducible exact Ext.refl _) | (with_reducible exact Ext.more _ _ _ _) | apply Ext.alloc | refine Ext.setCell ?_ (by first | exact Nat.le_refl _ | exact Nat.le_add_right _ _ | assumption) _ | apply Ext.patch | apply Ext.drew | apply Ext.drewN))
  clear hK K Q'
  refine wpAnyM_last 6 _ (by kernel_rfl) (by kernel_rfl) rfl rfl (fun X1 K Q' hK => ?_)
  go_simp
  refine hK _ _ (fun X2 => ?_)
  clear hK K Q'
  go_wp2_with fail
  rw [World.patch_patch] at hcell ⊢
  refine bodyPost_ret (v := .agg #[.bool arr, .slice A' refs.length cap']) (by simp [results, Tryz.results110, go_sem]) rfl ⟨⟨arr, A', cap', refs⟩, rfl, rfl, rfl, (fun a ha => Nat.le_trans (Ext.size (by (repeat (first | (with_reducible assumption) | (with_reducible exact Ext.refl _) | (with_reducible exact Ext.more _ _ _ _) | apply Ext.alloc | refine Ext.setCell ?_ (by first | exact Nat.le_refl _ | exact Nat.le_add_right _ _ | assumption) _ | apply Ext.patch | apply Ext.drew | apply Ext.drewN)))) (hfr a ha)), ⟨hcell.rebase (fun a ha => Nat.le_trans (Ext.size ⟨_, rfl⟩) (hfr a ha)) (by simp) ⟨_, by simp only [Array.append_assoc]; rfl⟩, hle, hl⟩, by (repeat (first | (with_reducible assumption) | (with_reducible exact Ext.refl _) | (with_reducible exact Ext.more _ _ _ _) | apply Ext.alloc | refine Ext.setCell ?_ (by first | exact Nat.le_refl _ | exact Nat.le_add_right _ _ | assumption) _ | apply Ext.patch | apply Ext.drew | apply Ext.drewN))⟩

/-- A shape by its number, a copy. -/
def ShapeGot (c : Cnf) (k : Int) (w : World) (e : Ending) (w' : World) : Prop :=
  ∃ s' : Shp, e = .returned (.tuple #[s'.val, .bool (c.shapeAt k).isSome]) ∧ (s'.arr, s'.refs) = (c.shapeAt k).getD (false, []) ∧ (∀ a, s'.A = some a → w.heap.size ≤ a.block) ∧ s'.Ok w' ∧ Ext w w'
set_option maxHeartbeats 1000000 in
theorem shape_any (c : Cnf) (k : Int) (w : World) (hc : c.Ok w) : Calls Tryz.prog 159 #[c.val, .int .i64 k] w (ShapeGot c k w) := by
  have hl := hc.max
  unfold Cnf.val
  by_cases h0 : k < 0
  · go_enter Tryz.func159, Tryz.ntmps159
    go_wp2_with fail
    refine bodyPost_ret (v := .tuple #[.agg #[.bool false, .slice none 0 0], .bool false]) (by simp [results, Tryz.results159, go_sem]) rfl ?_
    exact ⟨⟨false, none, 0, []⟩, by rw [Cnf.shapeAt_neg h0]; rfl, by rw [Cnf.shapeAt_neg h0]; rfl, (fun a h => by cases h), ⟨CellsAt.nil _ _, by simp, by simp⟩, by (repeat (first | (with_reducible assumption) | (with_reducible exact Ext.refl _) | (with_reducible exact Ext.more _ _ _ _) | apply Ext.alloc | refine Ext.setCell ?_ (by first | exact Nat.le_refl _ | exact Nat.le_add_right _ _ | assumption) _ | apply Ext.patch | apply Ext.drew | apply Ext.drewN))⟩
  · by_cases h1 : k < c.shapes.length
    · obtain ⟨n, rfl⟩ := Int.eq_ofNat_of_zero_le (show 0 ≤ k by omega)
      have h2 : n < c.shapes.length := by omega
      obtain ⟨b, o, hA, hb, g0, g1⟩ := shapes_at hc.cells h2
      rw [hA]
      have hsk := hc.shapes _ (List.getElem_mem h2)
      have HC := Lib.hid (fun w' (he : Ext w w') => copied_any c.shapes[n] w' (hsk.ext he))
      have HS := Lib.hid (Cnf.shapeAt_in (List.getElem?_eq_getElem h2))
      generalize c.shapes[n] = s at *
      clear hc hA
      go_enter Tryz.func159, Tryz.ntmps159
      go_wp2_with fail
      refine (HC.out _ (by (repeat (first | (with_reducible assumption) | (with_reducible exact Ext.refl _) | (with_reducible exact Ext.more _ _ _ _) | apply Ext.alloc | refine Ext.setCell ?_ (by first | exact Nat.le_refl _ | exact Nat.le_add_right _ _ | assumption) _ | apply Ext.patch | apply Ext.drew | apply Ext.drewN)))).mono ?_
      rintro e w1 ⟨s', rfl, ha, hr, hfr, hok, X, rfl⟩
      unfold Shp.val
      have HA := Lib.hid ha
      have HR := Lib.hid hr
      clear ha hr
      go_wp2_with fail
      refine bodyPost_ret (v := .tuple #[.agg #[.bool s'.arr, .slice s'.A s'.refs.length s'.cap], .bool true]) (by simp [results, Tryz.results159, go_sem]) rfl ?_
      exact ⟨s', by rw [HS.out]; rfl, by rw [HS.out, HA.out, HR.out]; rfl, (fun a ha => Nat.le_trans (Ext.size (by (repeat (first | (with_reducible assumption) | (with_reducible exact Ext.refl _) | (with_reducible exact Ext.more _ _ _ _) | apply Ext.alloc | refine Ext.setCell ?_ (by first | exact Nat.le_refl _ | exact Nat.le_add_right _ _ | assumption) _ | apply Ext.patch | apply Ext.drew | apply Ext.drewN)))) (hfr a ha)), hok.rebase hfr (by simp) ⟨#[], by simp⟩, by (repeat (first | (with_reducible assumption) | (with_reducible exact Ext.refl _) | (with_reducible exact Ext.more _ _ _ _) | apply Ext.alloc | refine Ext.setCell ?_ (by first | exact Nat.le_refl _ | exact Nat.le_add_right _ _ | assumption) _ | apply Ext.patch | apply Ext.drew | apply Ext.drewN))⟩
    · have h2 : (c.shapes.length : Int) ≤ k := by omega
      clear h1
      go_enter Tryz.func159, Tryz.ntmps159
      go_wp2_with fail
      refine bodyPost_ret (v := .tuple #[.agg #[.bool false, .slice none 0 0], .bool false]) (by simp [results, Tryz.results159, go_sem]) rfl ?_
      exact ⟨⟨false, none, 0, []⟩, by rw [Cnf.shapeAt_big h2]; rfl, by rw [Cnf.shapeAt_big h2]; rfl, (fun a h => by cases h), ⟨CellsAt.nil _ _, by simp, by simp⟩, by (repeat (first | (with_reducible assumption) | (with_reducible exact Ext.refl _) | (with_reducible exact Ext.more _ _ _ _) | apply Ext.alloc | refine Ext.setCell ?_ (by first | exact Nat.le_refl _ | exact Nat.le_add_right _ _ | assumption) _ | apply Ext.patch | apply Ext.drew | apply Ext.drewN))⟩
end Go.Proofs.YthdijbkcjmeilaaGreat
