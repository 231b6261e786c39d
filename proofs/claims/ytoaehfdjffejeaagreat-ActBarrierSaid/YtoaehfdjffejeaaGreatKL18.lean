import Derived.Test.YtoaehfdjffejeaaGreatKL17
import Derived.Laws.CopyRow
import Derived.Laws.AppendOwnNone
/-
  Packed: Clear, ActU, ActV, ActC, ActD.
-/
open Go.Ext renaming alloc → zA, patch → zP, drew → zD, drewN → zN, more → zM, refl → zR, setCell → zS
open Nat renaming le_refl → zL, le_add_right → zK
/-
  clear of a row of values.
-/
namespace Go
open Go.RowKit
set_option linter.unusedVariables false
set_option linter.unusedSimpArgs false
def lzeroC : Array Value := #[.bool false, .complex .f64 0 0]
theorem lzero_cells (n : Nat) : (madeCells lzeroC (n * 2)).toList = (List.replicate n LVal.zero).flatMap LVal.cells := by
  induction n with
  | zero => simp [madeCells]
  | succ n ih =>
    have e : (madeCells lzeroC ((n + 1) * 2)).toList = (madeCells lzeroC (n * 2)).toList ++ LVal.zero.cells := by
      unfold madeCells at *
      rw [show (n + 1) * 2 = n * 2 + 1 + 1 by omega]
      simp only [Array.toList_map, Array.toList_range, List.range_succ, List.map_append, List.map_cons, List.map_nil, List.append_assoc]
      congr 1
      have h0 : n * 2 % lzeroC.size = 0 := by show n * 2 % 2 = 0; omega
      have h1 : (n * 2 + 1) % lzeroC.size = 1 := by show (n * 2 + 1) % 2 = 1; omega
      rw [h0, h1]
      rfl
    rw [e, ih, List.replicate_succ', List.flatMap_append]
    simp
end Go
namespace Go.Proofs.YtoaehfdjffejeaaGreat
open Go Go.RowKit
set_option linter.unusedVariables false
set_option linter.unusedSimpArgs false
theorem infoVal : (Tryz.prog.info? 34).map (fun i => (i.zero, i.size, i.bytes)) = some (some (.agg #[.bool false, .complex .f64 0 0]), 2, 24) := by kernel_rfl
theorem row_clear {g : GW} {t n c : Nat} {A : Option Addr} {xs : List Value} (h : Row g t 34 2 (.slice A n c) n xs) : ∃ w3, (Builtin.clear_ #[39] 0 #[.slice A n c]).run Tryz.prog g.w = .ok (.tuple #[]) w3 ∧ Mod (fun x => x = t) g ⟨g.own, w3⟩ ∧ Row ⟨g.own, w3⟩ t 34 2 (.slice A n c) n ((List.replicate n LVal.zero).flatMap LVal.cells) := by
  obtain ⟨i0, hi, hz0, hz1, hz2⟩ := info_parts infoVal
  have hund := run_underlying (P := Tryz.prog) (t := 39) Tryz.underlying39 g.w
  by_cases hn : n = 0
  · subst hn
    have hx : xs = [] := by have := h.len; simpa using this
    subst hx
    refine ⟨g.w, ?_, Mod.refl _ _, h⟩
    cases A with
    | none => simp [Builtin.clear_, hund]
    | some a => simp [Builtin.clear_, hund]
  · rcases h.row.2 with ⟨hv, hn0⟩ | ⟨b, cap, cur, hv, hb, hr, h1, h2, h3, h4⟩
    · exact absurd hn0 hn
    · simp only [Value.slice.injEq] at hv
      obtain ⟨rfl, -, rfl⟩ := hv
      have hlen : (List.replicate n LVal.zero).flatMap LVal.cells = (madeCells lzeroC (n * 2)).toList := (lzero_cells n).symm
      have hl2 : (madeCells lzeroC (n * 2)).toList.length = n * 2 := by simp [madeCells]
      have hst := run_storeCells_at (P := Tryz.prog) b 0 34 (madeCells lzeroC (n * 2)).toList 0 cur g.w hr (by rw [hl2, h3]; omega) (by
        rw [← hlen]
        intro v hv
        obtain ⟨x, hx, hxv⟩ := List.mem_flatMap.1 hv
        rw [List.eq_of_mem_replicate hx] at hxv
        simp [LVal.cells, LVal.zero] at hxv
        rcases hxv with rfl | rfl <;> rfl)
      have ho : g.own b = t := h.own b rfl
      have hz : (zeroValue 34).run Tryz.prog g.w = .ok (.agg lzeroC) g.w := by
        simp [zeroValue, typeInfo, hi, hz0]
        rfl
      obtain ⟨m, rfl⟩ : ∃ m, n = m + 1 := ⟨n - 1, by omega⟩
      have hzc : (Builtin.zeroCells lzeroC (m + 1)).toList = (madeCells lzeroC ((m + 1) * 2)).toList := rfl
      refine ⟨g.w.setRow b (cur.toList.take (0 + 0) ++ (madeCells lzeroC ((m + 1) * 2)).toList ++ cur.toList.drop (0 + 0 + (madeCells lzeroC ((m + 1) * 2)).toList.length)).toArray, ?_, ?_, ?_⟩
      · simp only [Builtin.clear_, hund, hz, Value.cells]
        simp [hund, hz, Value.cells, hzc, hst, Result.andThen]
      · rw [setRow_putBlk hr]
        exact Mod.put ho
      · rw [setRow_putBlk hr, hlen]
        refine ⟨⟨hl2, Or.inr ⟨b, c, _, rfl, hb, World.row_put _ (Array.getElem?_eq_some_iff.1 hr).1, h1, h2, ?_, ?_⟩⟩, fun k hk => ?_⟩
        · simp [madeCells]; omega
        · show List.take ((m + 1) * 2) (List.take (0 + 0) cur.toList ++ (madeCells lzeroC ((m + 1) * 2)).toList ++ List.drop _ cur.toList) = _
          simp only [Nat.add_zero, List.take_zero, List.nil_append]
          rw [List.take_append_of_le_length (by omega), List.take_of_length_le (by omega)]
        · have hk2 : b = k := by simpa only [Value.ownBlock, Option.some.injEq] using hk
          subst hk2
          exact ho
end Go.Proofs.YtoaehfdjffejeaaGreat

/-
  slices.Clone at op.Op and op.Value.
-/
namespace Go.Proofs.YtoaehfdjffejeaaGreat
open Go Go.RowKit
set_option linter.unusedVariables false
set_option maxHeartbeats 2000000
attribute [local go_sem] Lib.run_eql_slice_nil
theorem infoOp : (Tryz.prog.info? 26).map (fun i => (i.zero, i.size, i.bytes)) = some (some (.agg #[.int .i64 0, .int .i64 0, .int .i64 0, .int .i64 0, .int .i64 0, .complex .f64 0 0]), 6, 56) := by kernel_rfl
theorem oflat_len (l : List Opr) : (l.flatMap Opr.cells).length = l.length * 6 := by
  induction l with
  | nil => rfl
  | cons x l ih => simp [List.flatMap_cons, Opr.cells, ih]; omega
def ClonedRow (t : Nat) (E : TypeId) (size n : Nat) (xs : List Value) (g : GW) (e : Ending) (w' : World) : Prop :=
  ∃ A' c', e = .returned (.slice A' n c') ∧ Mod (fun _ => False) g (g.to t w') ∧ Row (g.to t w') t E size (.slice A' n c') n xs ∧ Ext g.w w' ∧ (∀ a, A' = some a → g.w.heap.size ≤ a.block) ∧ n ≤ c' ∧ c' ≤ 9223372036854775807
theorem clone_ops (A : Option Addr) (cap : Nat) (l : List Opr) (t : Nat) (g : GW) (hc : CellsAt g.w A (l.flatMap Opr.cells)) (hl : l.length ≤ 1000000) :
    Calls Tryz.prog 45 #[.slice A l.length cap] g.w (ClonedRow t 26 6 l.length (l.flatMap Opr.cells) g) := by
  obtain ⟨i0, hi, hz0, hz1, hz2⟩ := info_parts infoOp
  have hq := fun w => Lib.run_eql_slice_nil (P := Tryz.prog) w 23 26 A l.length cap 0 0 Tryz.underlying23
  rcases A with _ | ad
  · obtain rfl : l = [] := by
      rcases l with _ | ⟨x, l⟩
      · rfl
      · obtain ⟨b, o, h, _⟩ := hc.at_ (i := 0) (by simp [Opr.cells])
        cases h
    go_enter Tryz.func45, Tryz.ntmps45
    go_wp2_with fail
    go_ret
    exact ⟨none, 0, rfl, Mod.ext (Ext.refl _) _, Row.nil _ _ _ _, Ext.refl _, (fun a h => by cases h), Nat.le_refl _, by decide⟩
  · go_enter Tryz.func45, Tryz.ntmps45
    go_wp2_with (at_builtin; refine wpList_append_own _ rfl (.tmp 5) (.tmp 6) 23 rfl g.w.heap.size 26 i0 (.agg #[.int .i64 0, .int .i64 0, .int .i64 0, .int .i64 0, .int .i64 0, .complex .f64 0 0]) 6 56 Tryz.underlying23 hi hz0 hz1 hz2 rfl (by decide) _ _ _ rfl (World.ownsRow_made (cap := 0) _ #[] (Nat.le_refl _) (by decide) rfl) ad l.length cap (l.flatMap Opr.cells) rfl (by rw [oflat_len]) (cells_add (hc.alloc _)) (by intro u hu; simp [Opr.cells] at hu; obtain ⟨_, _, hu⟩ := hu; rcases hu with rfl | rfl | rfl | rfl | rfl | rfl <;> rfl) (by unfold maxLen; omega) (by omega) (by simp) ?_; intro v' w1 hown hgrow hn)
    simp only [Nat.zero_add, List.nil_append] at hown
    obtain ⟨A', c', hv⟩ := own_form hown
    rw [hv] at hown
    have HV := Lib.hid hv
    clear hv
    go_ret
    have he : Ext g.w w1 := ext_grown (Ext.alloc (Ext.refl _) _) hgrow (fun k hk => by cases hk; exact Nat.le_refl _)
    have hf := own_fresh hown
    have hle := own_len hown
    exact ⟨A', c', congrArg Ending.returned HV.out, Mod.ext he _, ⟨own_lower hown (Nat.zero_le _), fun k hk => GW.to_new (by
      cases A' with
      | none => cases hk
      | some a => injection hk with hk; subst hk; exact hf a rfl)⟩, he, hf, hle.1, hle.2⟩
theorem clone_vals (A : Option Addr) (cap : Nat) (l : List LVal) (t : Nat) (g : GW) (hc : CellsAt g.w A (l.flatMap LVal.cells)) (hl : l.length ≤ 1000000) :
    Calls Tryz.prog 30 #[.slice A l.length cap] g.w (ClonedRow t 34 2 l.length (l.flatMap LVal.cells) g) := by
  obtain ⟨i0, hi, hz0, hz1, hz2⟩ := info_parts infoVal
  have hq := fun w => Lib.run_eql_slice_nil (P := Tryz.prog) w 39 34 A l.length cap 0 0 Tryz.underlying39
  rcases A with _ | ad
  · obtain rfl : l = [] := by
      rcases l with _ | ⟨x, l⟩
      · rfl
      · obtain ⟨b, o, h, _⟩ := hc.at_ (i := 0) (by simp [LVal.cells])
        cases h
    go_enter Tryz.func30, Tryz.ntmps30
    go_wp2_with fail
    go_ret
    exact ⟨none, 0, rfl, Mod.ext (Ext.refl _) _, Row.nil _ _ _ _, Ext.refl _, (fun a h => by cases h), Nat.le_refl _, by decide⟩
  · go_enter Tryz.func30, Tryz.ntmps30
    go_wp2_with (at_builtin; refine wpList_append_own _ rfl (.tmp 5) (.tmp 6) 39 rfl g.w.heap.size 34 i0 (.agg #[.bool false, .complex .f64 0 0]) 2 24 Tryz.underlying39 hi hz0 hz1 hz2 rfl (by decide) _ _ _ rfl (World.ownsRow_made (cap := 0) _ #[] (Nat.le_refl _) (by decide) rfl) ad l.length cap (l.flatMap LVal.cells) rfl (by rw [lflat_len]) (cells_add (hc.alloc _)) (by intro u hu; simp [LVal.cells] at hu; obtain ⟨_, _, hu⟩ := hu; rcases hu with rfl | rfl | rfl | rfl | rfl | rfl <;> rfl) (by unfold maxLen; omega) (by omega) (by simp) ?_; intro v' w1 hown hgrow hn)
    simp only [Nat.zero_add, List.nil_append] at hown
    obtain ⟨A', c', hv⟩ := own_form hown
    rw [hv] at hown
    have HV := Lib.hid hv
    clear hv
    go_ret
    have he : Ext g.w w1 := ext_grown (Ext.alloc (Ext.refl _) _) hgrow (fun k hk => by cases hk; exact Nat.le_refl _)
    have hf := own_fresh hown
    have hle := own_len hown
    exact ⟨A', c', congrArg Ending.returned HV.out, Mod.ext he _, ⟨own_lower hown (Nat.zero_le _), fun k hk => GW.to_new (by
      cases A' with
      | none => cases hk
      | some a => injection hk with hk; subst hk; exact hf a rfl)⟩, he, hf, hle.1, hle.2⟩
end Go.Proofs.YtoaehfdjffejeaaGreat

/-
  act.New.
-/
namespace Go.Proofs.YtoaehfdjffejeaaGreat
open Go Go.RowKit
set_option linter.unusedVariables false
set_option linter.unnecessarySimpa false
set_option linter.unusedSimpArgs false
set_option maxHeartbeats 2000000
set_option maxRecDepth 100000
def ActMade (tid : Int) (n : Nat) (l : List Opr) (t : Nat) (g : GW) (e : Ending) (w' : World) : Prop :=
  ∃ own' b p, e = .returned (.pointer (some ⟨b, 0, none⟩)) ∧ Mod (fun _ => False) g ⟨own', w'⟩ ∧ AcAt ⟨own', w'⟩ t b (AcS.fresh tid n l) p
theorem act_made (tid : Int) (n : Nat) (l : List Opr) (t : Nat) (ht : 100 ≤ t) (g gz : GW) (m : Mod (fun _ => False) g gz) (A' : Option Addr) (c' : Nat) (hc : l.length ≤ c' ∧ c' ≤ 9223372036854775807) (ro : Row gz 0 26 6 (.slice A' l.length c') l.length (l.flatMap Opr.cells))
    (q : Nat) (rl : Row gz (t + 1) 34 2 (.slice (some ⟨q, 0, none⟩) n n) n ((List.replicate n LVal.zero).flatMap LVal.cells)) (w' : World)
    (hw : w' = gz.w.alloc (.cells ((AcS.fresh tid n l).cells ⟨A', c', some ⟨q, 0, none⟩, n, none, 0, none, none, 0, none, 0⟩).toArray 80)) : ActMade tid n l t g (.returned (.pointer (some ⟨gz.w.heap.size, 0, none⟩))) w' := by
  subst hw
  have m2 : Mod (fun _ => False) gz (gz.to t (gz.w.alloc (.cells ((AcS.fresh tid n l).cells ⟨A', c', some ⟨q, 0, none⟩, n, none, 0, none, none, 0, none, 0⟩).toArray 80))) := Mod.ext (by (repeat (first | (with_reducible (first | assumption | exact zR _ | exact zM _ _ _ _)) | apply zA | refine zS ?_ (by first | exact zL _ | exact zK _ _ | assumption) _ | apply zP | apply zD | apply zN))) t
  refine ⟨_, gz.w.heap.size, ⟨A', c', some ⟨q, 0, none⟩, n, none, 0, none, none, 0, none, 0⟩, rfl, m.trans m2, ⟨Blk.new gz t 80 _, ⟨(ro.keep m2 id).seg, hc, ?_, Seg.nil _ _ _, ⟨Nat.le_refl _, Nat.zero_le _⟩, (fun _ => rfl), (fun S hS => by cases hS), Seg.nil _ _ _, ⟨Nat.le_refl _, Nat.zero_le _⟩, Seg.nil _ _ _, rfl, ⟨(by show 0 / 2 ≤ 0; decide), Nat.zero_le _⟩⟩⟩⟩
  have h := rl.keep m2 id
  show Row _ _ _ _ (.slice _ (List.replicate n LVal.zero).length _) (List.replicate n LVal.zero).length _
  rw [List.length_replicate]
  exact h
theorem new_vals (own1 : Nat → Nat) (w1 : World) (X : Extra) (t k : Nat) (hk : k ≤ 9223372036854775807) : ∃ own2, Mod (fun _ => False) ⟨own1, w1⟩ ⟨own2, (w1.patch X).alloc (.cells (madeCells #[.bool false, .complex .f64 0 0] (k * 2)) 34)⟩ ∧ Row ⟨own2, (w1.patch X).alloc (.cells (madeCells #[.bool false, .complex .f64 0 0] (k * 2)) 34)⟩ t 34 2 (.slice (some ⟨(w1.patch X).heap.size, 0, none⟩) k k) k ((List.replicate k LVal.zero).flatMap LVal.cells) := by
  have e : madeCells #[.bool false, .complex .f64 0 0] (k * 2) = ((List.replicate k LVal.zero).flatMap LVal.cells).toArray := by
    have h := lzero_cells k
    rw [← h]
    rfl
  rw [e]
  have m0 : Mod (fun _ => False) (⟨own1, w1⟩ : GW) ((⟨own1, w1⟩ : GW).pt X) := Mod.pt (Mod.refl _ _) _
  have R := Row.made (g := (⟨own1, w1⟩ : GW).pt X) (w' := (w1.patch X).alloc (.cells ((List.replicate k LVal.zero).flatMap LVal.cells).toArray 34)) (t := t) (r := (w1.patch X).heap.size) (size := 2) (n := k) (E := 34) (xs := (List.replicate k LVal.zero).flatMap LVal.cells) (World.row_alloc_new _) (Nat.le_refl _) (by rw [lflat_len, List.length_replicate]) hk
  have he : Ext (w1.patch X) ((w1.patch X).alloc (.cells ((List.replicate k LVal.zero).flatMap LVal.cells).toArray 34)) := by (repeat (first | (with_reducible (first | assumption | exact zR _ | exact zM _ _ _ _)) | apply zA | refine zS ?_ (by first | exact zL _ | exact zK _ _ | assumption) _ | apply zP | apply zD | apply zN))
  exact ⟨_, m0.trans (Mod.ext (g := (⟨own1, w1⟩ : GW).pt X) he t), R⟩
theorem act_new3 (tid : Int) (A : Option Addr) (cap : Nat) (l : List Opr) (t : Nat) (ht : 100 ≤ t) (g : GW) (hc : CellsAt g.w A (l.flatMap Opr.cells)) (hl : l.length ≤ 1000000) : Calls Tryz.prog 24 #[.int .i64 tid, .int .i64 3, .slice A l.length cap] g.w (ActMade tid 3 l t g) := by
  have HC := Lib.hid (fun (G : GW) (he : Ext g.w G.w) => clone_ops A cap l 0 G (hc.ext he) hl)
  obtain ⟨i0, hi, hz0, hz1, hz2⟩ := info_parts infoVal
  have hmk := fun w => run_made (P := Tryz.prog) 39 34 i0 (.agg #[.bool false, .complex .f64 0 0]) 2 24 Tryz.underlying39 hi hz0 hz1 hz2 3 (by decide) (by decide) w
  rw [show ((3 : Nat) : Int) = 3 from rfl] at hmk
  obtain ⟨nl, hnl⟩ : ∃ q, l.length = q := ⟨_, rfl⟩
  rw [hnl] at HC ⊢
  go_enter Tryz.func24, Tryz.ntmps24
  go_wp2_with fail
  refine wp_region_mixed [true, true, false, true, true, false, false, false, false] 5 6 (by kernel_rfl) (by kernel_rfl) (by kernel_rfl) ?_ (by decide) (by decide) (by decide) (by kernel_rfl) ?_
  · intro c a d v w h; cases d <;> exact h
  intro X00
  simp only [pickOps]
  repeat (go_big_quiet_step (fail))
  refine wpQuiet_nil (fun X0 => ?_)
  clear X00
  refine wpAnyM_two 2 5 _ _ (by kernel_rfl) rfl rfl rfl rfl (by decide) (by decide) (fun X1 K Q' hK => ?ordA) (fun X1 K Q' hK => ?ordB)
  case ordA =>
    go_simp
    refine (HC.out (g.pt _) ⟨_, rfl⟩).mono ?_
    rintro e w1 ⟨A', c', rfl, m1, r1, hE1, hf1, hc1⟩
    have hE1' : Ext g.w w1 := Ext.trans ⟨_, rfl⟩ hE1
    obtain ⟨own1, M1, R1⟩ : ∃ o, Mod (fun _ => False) g ⟨o, w1⟩ ∧ Row ⟨o, w1⟩ 0 26 6 (.slice A' nl c') nl (l.flatMap Opr.cells) := ⟨_, (Mod.pt (Mod.refl _ _) _).trans m1, r1⟩
    refine hK _ _ hE1' ?_
    clear hK K Q' m1 r1 hE1 HC
    refine wpAnyM_one 5 _ (by kernel_rfl) rfl rfl (by decide) (fun X3 K Q' hK => ?_)
    go_simp
    obtain ⟨own2, m2, R2⟩ := new_vals own1 w1 X3 (t + 1) 3 (by decide)
    have hE2 := Ext.trans hE1' m2.toExt
    refine hK _ _ hE2 ?_
    clear hK K Q'
    have M2 := M1.trans m2
    have O2 := R1.keep m2 id
    refine wpAnyM_tailL rfl (by kernel_rfl) (fun X2 => ?_)
    simp only [List.drop_succ_cons, List.drop_zero]
    go_wp2_with fail
    go_ret
    subst hnl
    have mz := fun (G : GW) => Mod.pt (Mod.refl (fun _ => False) G) X2
    exact act_made tid 3 l t ht g _ (M2.trans (mz _)) A' c' hc1 (O2.keep (mz _) id) _ (R2.keep (mz _) id) _ (by kernel_rfl)
  case ordB =>
    go_simp
    obtain ⟨own1, m1, R1⟩ := new_vals g.own g.w ⟨X0.blocks ++ X1.blocks, X1.drawn⟩ (t + 1) 3 (by decide)
    have hE1 : Ext g.w _ := m1.toExt
    refine hK _ _ hE1 ?_
    clear hK K Q'
    generalize (g.w.patch ⟨X0.blocks ++ X1.blocks, X1.drawn⟩).alloc (.cells (madeCells #[.bool false, .complex .f64 0 0] (3 * 2)) 34) = w1 at *
    refine wpAnyM_one 2 _ (by kernel_rfl) rfl rfl (by decide) (fun X3 K Q' hK => ?_)
    go_simp
    generalize (g.w.patch ⟨X0.blocks ++ X1.blocks, X1.drawn⟩).heap.size = q1 at *
    refine (HC.out ((⟨own1, w1⟩ : GW).pt X3) (Ext.trans hE1 ⟨_, rfl⟩)).mono ?_
    rintro e w2 ⟨A', c', rfl, m2, r2, hE2, hf2, hc2⟩
    have hE2' : Ext g.w w2 := Ext.trans hE1 (Ext.trans ⟨_, rfl⟩ hE2)
    refine hK _ _ hE2' ?_
    clear hK K Q'
    refine wpAnyM_tailL rfl (by kernel_rfl) (fun X2 => ?_)
    simp only [List.drop_succ_cons, List.drop_zero]
    go_wp2_with fail
    go_ret
    subst hnl
    have m2' := (Mod.pt (Mod.refl (fun _ => False) (⟨own1, w1⟩ : GW)) X3).trans m2
    have mz := Mod.pt (Mod.refl (fun _ => False) (((⟨own1, w1⟩ : GW).pt X3).to 0 w2)) X2
    exact act_made tid 3 l t ht g _ ((m1.trans m2').trans mz) A' c' hc2 (r2.keep mz id) q1 ((R1.keep m2' id).keep mz id) _ (by kernel_rfl)
theorem act_new1 (tid : Int) (A : Option Addr) (cap : Nat) (l : List Opr) (t : Nat) (ht : 100 ≤ t) (g : GW) (hc : CellsAt g.w A (l.flatMap Opr.cells)) (hl : l.length ≤ 1000000) : Calls Tryz.prog 24 #[.int .i64 tid, .int .i64 1, .slice A l.length cap] g.w (ActMade tid 1 l t g) := by
  have HC := Lib.hid (fun (G : GW) (he : Ext g.w G.w) => clone_ops A cap l 0 G (hc.ext he) hl)
  obtain ⟨i0, hi, hz0, hz1, hz2⟩ := info_parts infoVal
  have hmk := fun w => run_made (P := Tryz.prog) 39 34 i0 (.agg #[.bool false, .complex .f64 0 0]) 2 24 Tryz.underlying39 hi hz0 hz1 hz2 1 (by decide) (by decide) w
  rw [show ((1 : Nat) : Int) = 1 from rfl] at hmk
  obtain ⟨nl, hnl⟩ : ∃ q, l.length = q := ⟨_, rfl⟩
  rw [hnl] at HC ⊢
  go_enter Tryz.func24, Tryz.ntmps24
  go_wp2_with fail
  refine wp_region_mixed [true, true, false, true, true, false, false, false, false] 5 6 (by kernel_rfl) (by kernel_rfl) (by kernel_rfl) ?_ (by decide) (by decide) (by decide) (by kernel_rfl) ?_
  · intro c a d v w h; cases d <;> exact h
  intro X00
  simp only [pickOps]
  repeat (go_big_quiet_step (fail))
  refine wpQuiet_nil (fun X0 => ?_)
  clear X00
  refine wpAnyM_two 2 5 _ _ (by kernel_rfl) rfl rfl rfl rfl (by decide) (by decide) (fun X1 K Q' hK => ?ordA) (fun X1 K Q' hK => ?ordB)
  case ordA =>
    go_simp
    refine (HC.out (g.pt _) ⟨_, rfl⟩).mono ?_
    rintro e w1 ⟨A', c', rfl, m1, r1, hE1, hf1, hc1⟩
    have hE1' : Ext g.w w1 := Ext.trans ⟨_, rfl⟩ hE1
    obtain ⟨own1, M1, R1⟩ : ∃ o, Mod (fun _ => False) g ⟨o, w1⟩ ∧ Row ⟨o, w1⟩ 0 26 6 (.slice A' nl c') nl (l.flatMap Opr.cells) := ⟨_, (Mod.pt (Mod.refl _ _) _).trans m1, r1⟩
    refine hK _ _ hE1' ?_
    clear hK K Q' m1 r1 hE1 HC
    refine wpAnyM_one 5 _ (by kernel_rfl) rfl rfl (by decide) (fun X3 K Q' hK => ?_)
    go_simp
    obtain ⟨own2, m2, R2⟩ := new_vals own1 w1 X3 (t + 1) 1 (by decide)
    have hE2 := Ext.trans hE1' m2.toExt
    refine hK _ _ hE2 ?_
    clear hK K Q'
    have M2 := M1.trans m2
    have O2 := R1.keep m2 id
    refine wpAnyM_tailL rfl (by kernel_rfl) (fun X2 => ?_)
    simp only [List.drop_succ_cons, List.drop_zero]
    go_wp2_with fail
    go_ret
    subst hnl
    have mz := fun (G : GW) => Mod.pt (Mod.refl (fun _ => False) G) X2
    exact act_made tid 1 l t ht g _ (M2.trans (mz _)) A' c' hc1 (O2.keep (mz _) id) _ (R2.keep (mz _) id) _ (by kernel_rfl)
  case ordB =>
    go_simp
    obtain ⟨own1, m1, R1⟩ := new_vals g.own g.w ⟨X0.blocks ++ X1.blocks, X1.drawn⟩ (t + 1) 1 (by decide)
    have hE1 : Ext g.w _ := m1.toExt
    refine hK _ _ hE1 ?_
    clear hK K Q'
    generalize (g.w.patch ⟨X0.blocks ++ X1.blocks, X1.drawn⟩).alloc (.cells (madeCells #[.bool false, .complex .f64 0 0] (1 * 2)) 34) = w1 at *
    refine wpAnyM_one 2 _ (by kernel_rfl) rfl rfl (by decide) (fun X3 K Q' hK => ?_)
    go_simp
    generalize (g.w.patch ⟨X0.blocks ++ X1.blocks, X1.drawn⟩).heap.size = q1 at *
    refine (HC.out ((⟨own1, w1⟩ : GW).pt X3) (Ext.trans hE1 ⟨_, rfl⟩)).mono ?_
    rintro e w2 ⟨A', c', rfl, m2, r2, hE2, hf2, hc2⟩
    have hE2' : Ext g.w w2 := Ext.trans hE1 (Ext.trans ⟨_, rfl⟩ hE2)
    refine hK _ _ hE2' ?_
    clear hK K Q'
    refine wpAnyM_tailL rfl (by kernel_rfl) (fun X2 => ?_)
    simp only [List.drop_succ_cons, List.drop_zero]
    go_wp2_with fail
    go_ret
    subst hnl
    have m2' := (Mod.pt (Mod.refl (fun _ => False) (⟨own1, w1⟩ : GW)) X3).trans m2
    have mz := Mod.pt (Mod.refl (fun _ => False) (((⟨own1, w1⟩ : GW).pt X3).to 0 w2)) X2
    exact act_made tid 1 l t ht g _ ((m1.trans m2').trans mz) A' c' hc2 (r2.keep mz id) q1 ((R1.keep m2' id).keep mz id) _ (by kernel_rfl)
end Go.Proofs.YtoaehfdjffejeaaGreat

/-
  act: fails, lays.
-/
namespace Go.Proofs.YtoaehfdjffejeaaGreat
open Go Go.RowKit
set_option linter.unusedVariables false
set_option linter.unnecessarySimpa false
set_option linter.unusedSimpArgs false
set_option maxHeartbeats 2000000
set_option maxRecDepth 100000

def aggR (r : ResS) : Value := .agg #[.int .i64 r.op, .int .i64 r.own, .int .i64 r.e, .bool r.v.ref, .complex .f64 r.v.z.1 r.v.z.2]
theorem act_done2 (g : GW) (t b : Nat) (A : AcS) (p : AcP) (v : LVal) (e : Int) (r : ResS) (ht : 100 ≤ t) (H : AcAt g t b A p) (hn : 0 ≤ A.next ∧ A.next ≤ 1099511627776) (hr : A.res v e = r) : Calls Tryz.prog 60 #[.pointer (some ⟨b, 0, none⟩), .agg #[.bool v.ref, .complex .f64 v.z.1 v.z.2], .int .i64 e] g.w (Does (.tuple #[.agg #[.int .i64 r.op, .int .i64 r.own, .int .i64 r.e, .bool r.v.ref, .complex .f64 r.v.z.1 r.v.z.2], .bool true]) g (acO t) (fun g' => AcAt g' t b A.done p)) := by
  subst hr
  exact act_done g t b A p v e ht H hn
theorem act_fails (g : GW) (t b : Nat) (A : AcS) (p : AcP) (e : Int) (r : ResS) (ht : 100 ≤ t) (H : AcAt g t b A p) (hn : 0 ≤ A.next ∧ A.next ≤ 1099511627776) (hr : A.res LVal.zero e = r) : Calls Tryz.prog 64 #[.pointer (some ⟨b, 0, none⟩), .int .i64 e] g.w (Does (.tuple #[.agg #[.int .i64 r.op, .int .i64 r.own, .int .i64 r.e, .bool r.v.ref, .complex .f64 r.v.z.1 r.v.z.2], .bool true]) g (acO t) (fun g' => AcAt g' t b A.done p)) := by
  have HH := Lib.hid H
  have HR := Lib.hid hr
  clear H hr
  go_enter Tryz.func64, Tryz.ntmps64
  go_upto_region 1 with fail
  obtain ⟨own0, M0, R0⟩ := start1 g 36 resZ
  unfold resZ at M0 R0
  generalize (g.w.alloc (.cells #[.int .i64 0, .int .i64 0, .int .i64 0, .bool false, .complex .f64 0 0] 36)) = w0 at *
  have M0' := Lib.hid M0
  have R0' := Lib.hid R0
  clear M0 R0
  have H0 := Lib.hid (HH.out.keep M0'.out id (fun _ => False.elim))
  go_wp2_with fail
  refine (act_done2 ⟨own0, w0⟩ t b A p LVal.zero e r ht H0.out hn HR.out).mono ?_
  rintro e2 w1 ⟨rfl, own1, m1, h1⟩
  have M1 := Lib.hid ((M0'.out.mono (S := acO t) (fun _ => False.elim)).trans m1)
  have H1 := Lib.hid h1
  have R1 := Lib.hid (R0'.out.keep m1 (by unfold acO; omega))
  clear m1 h1 R0' H0
  obtain ⟨r0, r1, r2, r3, r4, rl⟩ := R1.out.c5
  have rf0 := R1.out.live 0
  have rf1 := R1.out.live 1
  have rf2 := R1.out.live 2
  have rf3 := R1.out.live 3
  have rf4 := R1.out.live 4
  (try simp only [GW.to] at r0 r1 r2 r3 r4 rf0 rf1 rf2 rf3 rf4 rl)
  go_wp2_with fail
  obtain ⟨Mf, mf, Rf⟩ := put_res M1.out R1.out (Nat.le_refl _) (r.op) (r.own) (r.e) (r.v.ref) (r.v.z.1) (r.v.z.2)
  generalize ((((((w1).setCell ⟨g.w.heap.size, 0, none⟩ (.int .i64 (r.op))).setCell ⟨g.w.heap.size, 1, none⟩ (.int .i64 (r.own))).setCell ⟨g.w.heap.size, 2, none⟩ (.int .i64 (r.e))).setCell ⟨g.w.heap.size, 3, none⟩ (.bool (r.v.ref))).setCell ⟨g.w.heap.size, 4, none⟩ (.complex .f64 (r.v.z.1) (r.v.z.2))) = wf at *
  obtain ⟨f0, f1, f2, f3, f4, fl⟩ := Rf.c5
  (try simp only [GW.to] at f0 f1 f2 f3 f4 fl)
  refine bodyPost_ret (v := .tuple #[.agg #[.int .i64 (r.op), .int .i64 (r.own), .int .i64 (r.e), .bool (r.v.ref), .complex .f64 (r.v.z.1) (r.v.z.2)], .bool true]) (by simp [results, Tryz.results64, go_sem, f0, f1, f2, f3, f4]) rfl ?_
  exact Does.of ⟨own1, wf⟩ rfl rfl Mf (H1.out.keep mf (by omega) (fun x (hx : x = 9) => by omega))
theorem AcAt.setLoc {g : GW} {t b : Nat} {A : AcS} {p : AcP} (H : AcAt g t b A p) (ht : 100 ≤ t) {q k : Nat} (hA : p.locA = some ⟨q, 0, none⟩) (ho : g.own q = t + 1) (v : LVal) :
    AcAt ⟨g.own, (g.w.setCell ⟨q, k * 2, none⟩ (.bool v.ref)).setCell ⟨q, k * 2 + 1, none⟩ (.complex .f64 v.z.1 v.z.2)⟩ t b { A with locals := A.locals.set k v } p ∧
    Mod (fun x => x = t + 1) g ⟨g.own, (g.w.setCell ⟨q, k * 2, none⟩ (.bool v.ref)).setCell ⟨q, k * 2 + 1, none⟩ (.complex .f64 v.z.1 v.z.2)⟩ := by
  have m : Mod (fun x => x = t + 1) g ⟨g.own, (g.w.setCell ⟨q, k * 2, none⟩ (.bool v.ref)).setCell ⟨q, k * 2 + 1, none⟩ (.complex .f64 v.z.1 v.z.2)⟩ := Mod.st (Mod.st (Mod.refl _ _) ho) ho
  refine ⟨⟨?_, ⟨H.r.ops.keep m (by omega), H.r.opsC, ?_, H.r.grey.keep m (by omega), H.r.greyC, H.r.fn, fun S hS => ?_, H.r.got.keep m (by omega), H.r.gotC, H.r.wr.keep m (by omega), H.r.wrE, H.r.wrC⟩⟩, m⟩
  · have h := H.blk.keep m (by omega)
    unfold AcS.cells at h ⊢
    simp only [List.length_set]
    exact h
  · have h := H.r.loc
    rw [hA] at h ⊢
    have h2 := (h.store (k * 2) (.bool v.ref)).store (k * 2 + 1) (.complex .f64 v.z.1 v.z.2)
    simp only [List.length_set]
    rw [lflat_set]
    exact h2
  · obtain ⟨bf, cm, e1, e2, e3⟩ := H.r.fs S hS
    exact ⟨bf, cm, e1, e2, e3.keep m (by omega) (by omega)⟩
theorem act_lays (g : GW) (t b : Nat) (A : AcS) (p : AcP) (i : Int) (v : LVal) (r : ResS) (ht : 100 ≤ t) (H : AcAt g t b A p) (hn : 0 ≤ A.next ∧ A.next ≤ 1099511627776) (hi : 0 ≤ i ∧ i < A.locals.length) (hr : A.res v 0 = r) : Calls Tryz.prog 92 #[.pointer (some ⟨b, 0, none⟩), .int .i64 i, .agg #[.bool v.ref, .complex .f64 v.z.1 v.z.2]] g.w (Does (.tuple #[.agg #[.int .i64 r.op, .int .i64 r.own, .int .i64 r.e, .bool r.v.ref, .complex .f64 r.v.z.1 r.v.z.2], .bool true]) g (acO t) (fun g' => AcAt g' t b { A with locals := A.locals.set i.toNat v }.done p)) := by
  obtain ⟨k, rfl⟩ : ∃ k : Nat, i = k := ⟨i.toNat, by omega⟩
  have hk : k < A.locals.length := by omega
  rw [Int.toNat_natCast]
  have HH := Lib.hid H
  have HR := Lib.hid hr
  clear H hr hi
  go_enter Tryz.func92, Tryz.ntmps92
  go_upto_region 1 with fail
  obtain ⟨own0, M0, Q0, R0⟩ := start2 g 34 36 v.cells resZ
  unfold LVal.cells resZ at M0 Q0 R0
  generalize ((g.w.alloc (.cells #[.bool v.ref, .complex .f64 v.z.1 v.z.2] 34)).alloc (.cells #[.int .i64 0, .int .i64 0, .int .i64 0, .bool false, .complex .f64 0 0] 36)) = w0 at *
  have H0 := Lib.hid (HH.out.keep M0 id (fun _ => False.elim))
  have M0' := Lib.hid M0
  have R0' := Lib.hid R0
  have Q0' := Lib.hid Q0
  obtain ⟨q, hA, hq, ho, c0, c1, hfr⟩ := H0.out.r.local_ hk
  have cf0 := hfr (k * 2)
  have cf1 := hfr (k * 2 + 1)
  simp only at hq c0 c1 cf0 cf1 ho
  obtain ⟨a0, a1, a2, a3, a4, a5, a6, a7, a8, a9, a10, a11, a12, a13, a14, a15, a16, a17, a18, al⟩ := H0.out.blk.c19
  (try simp only [GW.to] at a0 a1 a2 a3 a4 a5 a6 a7 a8 a9 a10 a11 a12 a13 a14 a15 a16 a17 a18 al)
  obtain ⟨x0, x1, xl⟩ := Q0.c2
  (try simp only [GW.to] at x0 x1 xl)
  rw [hA] at a2
  clear M0 Q0 R0 hfr
  refine wp_region_mixed [true, true, true, true, true, true, true, false] 1 7 (by kernel_rfl) (by kernel_rfl) (by kernel_rfl) ?_ (by decide) (by decide) (by decide) (by kernel_rfl) ?_
  · intro c a d v w h; cases d <;> exact h
  intro X00
  simp only [pickOps]
  repeat (go_big_quiet_step (fail))
  refine wpQuiet_nil (fun X0 => ?_)
  clear X00
  refine wpAnyM_last 7 _ (by kernel_rfl) (by kernel_rfl) rfl rfl (fun X1 K Q' hK => ?_)
  go_simp
  refine hK _ _ (fun X2 => ?_)
  clear hK K Q'
  obtain ⟨H1', m1⟩ := H0.out.setLoc ht (k := k) hA ho v
  simp only at m1 H1'
  have Q1' := Q0'.out.keep m1 (by omega)
  have R1' := R0'.out.keep m1 (by omega)
  have M1' := (M0'.out.mono (S := acO t) (fun _ => False.elim)).trans (m1.mono (fun x hx => Or.inr hx))
  have m2 : Mod (fun _ => False) ⟨own0, (w0.setCell ⟨q, k * 2, none⟩ (.bool v.ref)).setCell ⟨q, k * 2 + 1, none⟩ (.complex .f64 v.z.1 v.z.2)⟩ (GW.to ⟨own0, (w0.setCell ⟨q, k * 2, none⟩ (.bool v.ref)).setCell ⟨q, k * 2 + 1, none⟩ (.complex .f64 v.z.1 v.z.2)⟩ 9 ((((w0.setCell ⟨q, k * 2, none⟩ (.bool v.ref)).setCell ⟨q, k * 2 + 1, none⟩ (.complex .f64 v.z.1 v.z.2)).patch ⟨X0.blocks ++ X1.blocks, X1.drawn⟩).patch X2)) := Mod.ext (by (repeat (first | (with_reducible (first | assumption | exact zR _ | exact zM _ _ _ _)) | apply zA | refine zS ?_ (by first | exact zL _ | exact zK _ _ | assumption) _ | apply zP | apply zD | apply zN))) 9
  unfold GW.to at m2
  have H2 := Lib.hid (H1'.keep m2 id (fun _ => False.elim))
  have Q2 := Lib.hid (Q1'.keep m2 id)
  have R2 := Lib.hid (R1'.keep m2 id)
  have M2 := Lib.hid (M1'.trans (m2.mono (fun _ => False.elim)))
  generalize (fun x => if x < ((w0.setCell ⟨q, k * 2, none⟩ (.bool v.ref)).setCell ⟨q, k * 2 + 1, none⟩ (.complex .f64 v.z.1 v.z.2)).heap.size then own0 x else 9) = own2 at *
  generalize (((w0.setCell ⟨q, k * 2, none⟩ (.bool v.ref)).setCell ⟨q, k * 2 + 1, none⟩ (.complex .f64 v.z.1 v.z.2)).patch ⟨X0.blocks ++ X1.blocks, X1.drawn⟩).patch X2 = w2 at *
  clear H1' m1 Q1' R1' M1' m2 a0 a1 a2 a3 a4 a5 a6 a7 a8 a9 a10 a11 a12 a13 a14 a15 a16 a17 a18 al x0 x1 xl c0 c1 cf0 cf1 H0 Q0' R0' M0'
  obtain ⟨x0, x1, xl⟩ := Q2.out.c2
  (try simp only [GW.to] at x0 x1 xl)
  go_wp2_with fail
  refine (act_done2 ⟨own2, w2⟩ t b _ p v 0 r ht H2.out hn HR.out).mono ?_
  rintro e2 w3 ⟨rfl, own3, m3, h3⟩
  have M3 := Lib.hid (M2.out.trans m3)
  have H3 := Lib.hid h3
  have R3 := Lib.hid (R2.out.keep m3 (by unfold acO; omega))
  clear m3 h3 R2 H2
  obtain ⟨r0, r1, r2, r3, r4, rl⟩ := R3.out.c5
  have rf0 := R3.out.live 0
  have rf1 := R3.out.live 1
  have rf2 := R3.out.live 2
  have rf3 := R3.out.live 3
  have rf4 := R3.out.live 4
  (try simp only [GW.to] at r0 r1 r2 r3 r4 rf0 rf1 rf2 rf3 rf4 rl)
  go_wp2_with fail
  obtain ⟨Mf, mf, Rf⟩ := put_res M3.out R3.out (Nat.le_succ _) (r.op) (r.own) (r.e) (r.v.ref) (r.v.z.1) (r.v.z.2)
  generalize ((((((w3).setCell ⟨g.w.heap.size + 1, 0, none⟩ (.int .i64 (r.op))).setCell ⟨g.w.heap.size + 1, 1, none⟩ (.int .i64 (r.own))).setCell ⟨g.w.heap.size + 1, 2, none⟩ (.int .i64 (r.e))).setCell ⟨g.w.heap.size + 1, 3, none⟩ (.bool (r.v.ref))).setCell ⟨g.w.heap.size + 1, 4, none⟩ (.complex .f64 (r.v.z.1) (r.v.z.2))) = wf at *
  obtain ⟨f0, f1, f2, f3, f4, fl⟩ := Rf.c5
  (try simp only [GW.to] at f0 f1 f2 f3 f4 fl)
  refine bodyPost_ret (v := .tuple #[.agg #[.int .i64 (r.op), .int .i64 (r.own), .int .i64 (r.e), .bool (r.v.ref), .complex .f64 (r.v.z.1) (r.v.z.2)], .bool true]) (by simp [results, Tryz.results92, go_sem, f0, f1, f2, f3, f4]) rfl ?_
  exact Does.of ⟨own3, wf⟩ rfl rfl Mf (H3.out.keep mf (by omega) (fun x (hx : x = 9) => by omega))
end Go.Proofs.YtoaehfdjffejeaaGreat

/-
  act: looks.
-/
namespace Go.Proofs.YtoaehfdjffejeaaGreat
open Go Go.RowKit
set_option linter.unusedVariables false
set_option linter.unnecessarySimpa false
set_option linter.unusedSimpArgs false
set_option maxHeartbeats 2000000
set_option maxRecDepth 100000

theorem greys_take {l : List LVal} {k : Nat} (hk : k < l.length) : AcS.greys (l.take (k + 1)) = AcS.greys (l.take k) ++ (if (l.getD k LVal.zero).ref then (wIndex (l.getD k LVal.zero).z).toList else []) := by
  unfold AcS.greys
  rw [List.take_add_one, AcS_getD hk, List.filterMap_append]
  congr 1
  simp only [Option.toList, List.filterMap_cons, List.filterMap_nil]
  split
  · rename_i h
    split at h
    · rename_i h1; rw [if_pos h1, h]
    · rename_i h1; rw [if_neg h1]
  · rename_i v h
    split at h
    · rename_i h1; rw [if_pos h1, h]
    · cases h
theorem greys_len (l : List LVal) : (AcS.greys l).length ≤ l.length := List.length_filterMap_le _ _
namespace AcW
def greyA (W : AcW) (l : List Int) : AcS := { W.a with seen := 3, grey := l, pc := if l ≠ [] then 1 else 2 }
end AcW
theorem grey_grown {own4 : Nat → Nat} {w4 w5 : World} {t n n' : Nat} {v v' : Value} {xs xs' : List Value} {o : Obj} (R : Row ⟨own4, w4⟩ (t + 4) 3 1 v n xs) (he : Ext (⟨own4, w4⟩ : GW).w (w4.alloc o)) (hown : w5.ownsRow 0 3 1 v' n' xs') (hgrow : (w4.alloc o).grownBy w5 v.ownBlock) (hat : v'.ownBlock = v.ownBlock ∨ v'.ownBlock = some (w4.alloc o).heap.size) :
    ∃ own5, Mod (fun x => x = t + 4) ⟨own4, w4⟩ ⟨own5, w5⟩ ∧ Row ⟨own5, w5⟩ (t + 4) 3 1 v' n' xs' :=
  ⟨_, (Mod.ext he 0).trans (Mod.grown (g := (⟨own4, w4⟩ : GW).to 0 (w4.alloc o)) hgrow (t + 4) (fun k hk hl => (R.ext he 0).own k hk)), (R.ext he 0).grown hown hat⟩
theorem greyA_app (W : AcW) (l : List Int) (y : Int) : W.greyA (l ++ [y]) = { W.a with seen := 3, grey := l ++ [y], pc := 1 } := by
  unfold AcW.greyA
  simp
theorem grey_put [TbId] {own4 own5 : Nat → Nat} {w4 w5 : World} {t B b k : Nat} {W : AcW} {gl : List Int} {y : Int} {opsA locA fp gotA wrA gA A2 : Option Addr} {opsC locC gotC wrC gC cp2 bm bs bt bp bsp bh : Nat} {cm : Cnf} (P : AcApart t B)
    (H : AcIn ⟨own4, w4⟩ t B b k (W.tickH.withA (W.greyA gl)) ⟨opsA, opsC, locA, locC, gA, gC, fp, gotA, gotC, wrA, wrC⟩ bm bs bt bp bsp bh cm) (m : Mod (fun x => x = t + 4) ⟨own4, w4⟩ ⟨own5, w5⟩)
    (R : Row ⟨own5, w5⟩ (t + 4) 3 1 (.slice A2 (gl.length + 1) cp2) (gl.length + 1) (gl.map (Value.int .i64) ++ [.int .i64 y])) (hl : gl.length ≤ 1000) :
    AcIn ⟨own5, (w5.setCell ⟨b, 9, none⟩ (.slice A2 (gl.length + 1) cp2)).setCell ⟨b, 7, none⟩ (.int .i64 1)⟩ t B b k (W.tickH.withA (W.greyA (gl ++ [y]))) ⟨opsA, opsC, locA, locC, A2, cp2, fp, gotA, gotC, wrA, wrC⟩ bm bs bt bp bsp bh cm := by
  have hP := P.apart
  have ht := P.ht
  have B5 := H.a.blk.keep m (by omega)
  have b6 : Mod (fun x => x = t) ⟨own5, w5⟩ ⟨own5, (w5.setCell ⟨b, 9, none⟩ (.slice A2 (gl.length + 1) cp2)).setCell ⟨b, 7, none⟩ (.int .i64 1)⟩ := Mod.st (Mod.st (Mod.refl _ _) B5.own) B5.own
  obtain ⟨A', c', e1, e2, e3, -⟩ := R.form
  injection e1 with _ _ e4
  subst e4
  rw [greyA_app]
  obtain ⟨r1, r2, r3, r4, r5, r6, r7, r8, r9, r10, r11, r12⟩ := H.a.r
  refine ⟨⟨?_, ⟨(r1.keep m (by omega)).keep b6 (by omega), r2, (r3.keep m (by omega)).keep b6 (by omega), ?_, ⟨(by show (gl ++ [y]).length ≤ _; simpa using e2), e3⟩, r6, fun S hS => ?_, (r8.keep m (by omega)).keep b6 (by omega), r9, (r10.keep m (by omega)).keep b6 (by omega), r11, r12⟩⟩, (H.c.keep m (fun x hx => by omega)).keep b6 (fun x hx => by omega), H.tbl⟩
  · have h := (B5.set 9 (.slice A2 (gl.length + 1) cp2)).set 7 (.int .i64 1)
    have hc : (AcS.cells { W.a with seen := 3, grey := gl ++ [y], pc := 1 } ⟨opsA, opsC, locA, locC, A2, cp2, fp, gotA, gotC, wrA, wrC⟩) = (((AcS.cells (W.greyA gl) ⟨opsA, opsC, locA, locC, gA, gC, fp, gotA, gotC, wrA, wrC⟩).set 9 (.slice A2 (gl.length + 1) cp2)).set 7 (.int .i64 1)) := by
      unfold AcS.cells AcW.greyA
      simp
    show Blk _ t b _ (AcS.cells { W.a with seen := 3, grey := gl ++ [y], pc := 1 } _)
    rw [hc]
    exact h
  · have h := (R.seg).keep b6 (by omega)
    show Seg _ _ _ ((gl ++ [y]).map _)
    rw [List.map_append]
    exact h
  · obtain ⟨bf, cm, e1, e2, e3⟩ := r7 S hS
    exact ⟨bf, cm, e1, e2, (e3.keep m (by omega) (by omega)).keep b6 (by omega) (by omega)⟩
section
variable {g : GW} {t B b k : Nat} {W : AcW}
theorem act_looks [TbId] (P : AcApart t B) (hc : 0 ≤ W.K.hand.count ∧ W.K.hand.count ≤ 1099511627776) (hlen : W.a.locals.length ≤ 1000) (H : AcWAt g t B b k W) : Calls Tryz.prog 50 #[.pointer (some ⟨b, 0, none⟩), .pointer (some ⟨k, 0, none⟩)] g.w (Does (.bool W.looksB) g (acT t B) (fun g' => AcWAt g' t B b k W.looks)) := by
  obtain ⟨⟨opsA, opsC, locA, locC, greyA0, greyC0, fp, gotA, gotC, wrA, wrC⟩, bm, bs, bt, bp, bsp, bh, cm, H⟩ := H
  have HH := Lib.hid H
  have HK := Lib.hid (hand_look g (B + 63) bh W.K.hand H.c.hand hc)
  have HP := Lib.hid P
  obtain ⟨c0, c1, c2, c3, c4, c5, c6, c7, c8, c9, c10, c11, c12, cl⟩ := H.c.blk.c13
  (try simp only [GW.to] at c0 c1 c2 c3 c4 c5 c6 c7 c8 c9 c10 c11 c12 cl)
  clear H hc
  go_enter Tryz.func50, Tryz.ntmps50
  go_wp2_with fail
  refine HK.out.mono ?_
  rintro e w1 ⟨rfl, own1, m1, h1⟩
  have M1 := Lib.hid (m1.mono (S := acT t B) (fun x hx => acT_hand hx))
  have H1 := Lib.hid (show AcIn ⟨own1, w1⟩ t B b k W.tickH ⟨opsA, opsC, locA, locC, greyA0, greyC0, fp, gotA, gotC, wrA, wrC⟩ bm bs bt bp bsp bh cm from HH.out.hand HP.out m1 h1)
  clear m1 h1 c0 c1 c2 c3 c4 c5 c6 c7 c8 c9 c10 c11 c12 cl HK
  obtain ⟨a0, a1, a2, a3, a4, a5, a6, a7, a8, a9, a10, a11, a12, a13, a14, a15, a16, a17, a18, al⟩ := H1.out.a.blk.c19
  have af8 := H1.out.a.blk.live 8
  have af9 := H1.out.a.blk.live 9
  have af7 := H1.out.a.blk.live 7
  have af5 := H1.out.a.blk.live 5
  (try simp only [GW.to] at a0 a1 a2 a3 a4 a5 a6 a7 a8 a9 a10 a11 a12 a13 a14 a15 a16 a17 a18 af8 af9 af7 af5 al)
  rw [show W.tickH.a = W.a from rfl] at a0 a1 a2 a3 a4 a5 a6 a7 a8 a9 a10 a11 a13 a14 a15 a16 a17 a18
  have HS := Lib.hid (show W.looksB = (W.K.hand.status == W.a.status) from rfl)
  have HSA := Lib.hid (show W.looksA = { W.a with seen := W.K.hand.status, grey := if W.K.hand.status = 3 then AcS.greys W.a.locals else [], pc := if W.K.hand.status = 3 ∧ AcS.greys W.a.locals ≠ [] then 1 else 2, sense := if W.K.hand.status = 1 then W.K.hand.sense else W.a.sense } from rfl)
  have HSL := Lib.hid (show W.looks = if W.looksB then W.tickH else W.tickH.withA W.looksA from rfl)
  cases hs : (W.K.hand.status == W.a.status)
  case true =>
    rw [HS.out, hs] at HSL
    simp only [if_true] at HSL
    go_wp2_with fail
    go_ret
    exact Does.of ⟨own1, w1⟩ rfl (by rw [HS.out, hs]; rfl) M1.out (by rw [HSL.out]; exact H1.out.at_)
  rw [HS.out, hs] at HSL
  simp only [Bool.false_eq_true, if_false] at HSL
  have R0 : AcRows ⟨own1, w1⟩ t { W.a with seen := W.K.hand.status, grey := [], pc := 2 } ⟨opsA, opsC, locA, locC, none, 0, fp, gotA, gotC, wrA, wrC⟩ := by
    obtain ⟨r1, r2, r3, r4, r5, r6, r7, r8, r9, r10, r11, r12⟩ := H1.out.a.r
    exact ⟨r1, r2, r3, Seg.nil _ _ _, ⟨Nat.le_refl _, Nat.zero_le _⟩, r6, r7, r8, r9, r10, r11, r12⟩
  have H2 := Lib.hid (H1.out.turn (A' := { W.a with seen := W.K.hand.status, grey := [], pc := 2 }) (p' := ⟨opsA, opsC, locA, locC, none, 0, fp, gotA, gotC, wrA, wrC⟩) HP.out (g' := ⟨own1, ((w1.setCell ⟨b, 8, none⟩ (.int .i64 W.K.hand.status)).setCell ⟨b, 9, none⟩ (.slice none 0 0)).setCell ⟨b, 7, none⟩ (.int .i64 2)⟩) (Mod.st (Mod.st (Mod.st (Mod.refl _ _) H1.out.a.blk.own) H1.out.a.blk.own) H1.out.a.blk.own) (((H1.out.a.blk.set 8 (.int .i64 W.K.hand.status)).set 9 (.slice none 0 0)).set 7 (.int .i64 2)) R0)
  have M2 := Lib.hid (show Mod (acT t B) g ⟨own1, ((w1.setCell ⟨b, 8, none⟩ (.int .i64 W.K.hand.status)).setCell ⟨b, 9, none⟩ (.slice none 0 0)).setCell ⟨b, 7, none⟩ (.int .i64 2)⟩ from Mod.st (Mod.st (Mod.st M1.out H1.out.modA) H1.out.modA) H1.out.modA)
  clear R0
  go_upto_region 5 with fail
  generalize ((w1.setCell ⟨b, 8, none⟩ (.int .i64 W.K.hand.status)).setCell ⟨b, 9, none⟩ (.slice none 0 0)).setCell ⟨b, 7, none⟩ (.int .i64 2) = w2 at *
  clear a0 a1 a2 a3 a4 a5 a6 a7 a8 a9 a10 a11 a12 a13 a14 a15 a16 a17 a18 af8 af9 af7 af5 al M1 H1
  obtain ⟨a0, a1, a2, a3, a4, a5, a6, a7, a8, a9, a10, a11, a12, a13, a14, a15, a16, a17, a18, al⟩ := H2.out.a.blk.c19
  have af5 := H2.out.a.blk.live 5
  (try simp only [GW.to] at a0 a1 a2 a3 a4 a5 a6 a7 a8 a9 a10 a11 a12 a13 a14 a15 a16 a17 a18 af5 al)
  by_cases h1 : W.K.hand.status = 1
  · have HSA2 := Lib.hid (show W.looksA = { W.a with seen := W.K.hand.status, grey := [], pc := 2, sense := W.K.hand.sense } by rw [HSA.out, h1]; rfl)
    have H3 := Lib.hid (H2.out.set HP.out 5 (.bool W.K.hand.sense) { W.a with seen := W.K.hand.status, grey := [], pc := 2, sense := W.K.hand.sense } rfl ⟨rfl, rfl, rfl, rfl, rfl, rfl⟩)
    have M3 := Lib.hid (show Mod (acT t B) g ⟨own1, w2.setCell ⟨b, 5, none⟩ (.bool W.K.hand.sense)⟩ from Mod.st M2.out H2.out.modA)
    have hz : (W.K.hand.status == 1) = true := beq_iff_eq.2 h1
    have HSB := Lib.hid (show W.looksB = false by rw [HS.out, hs])
    clear h1 hs
    generalize W.K.hand.status = s at *
    go_wp2_with fail
    go_ret
    exact Does.of ⟨own1, _⟩ rfl (by rw [HSB.out]; rfl) M3.out (by rw [HSL.out, HSA2.out]; exact H3.out.at_)
  by_cases h3 : W.K.hand.status = 3
  case neg =>
    have HSA2 := Lib.hid (show W.looksA = { W.a with seen := W.K.hand.status, grey := [], pc := 2 } by rw [HSA.out]; simp only [if_neg h1, if_neg h3, if_neg (show ¬ (W.K.hand.status = 3 ∧ AcS.greys W.a.locals ≠ []) from fun h => h3 h.1)])
    have hz : (W.K.hand.status == 1) = false := beq_eq_false_iff_ne.2 h1
    have hz3 : (W.K.hand.status == 3) = false := beq_eq_false_iff_ne.2 h3
    have HSB := Lib.hid (show W.looksB = false by rw [HS.out, hs])
    clear h1 hs h3
    generalize W.K.hand.status = s at *
    go_wp2_with fail
    go_ret
    exact Does.of ⟨own1, _⟩ rfl (by rw [HSB.out]; rfl) M2.out (by rw [HSL.out, HSA2.out]; exact H2.out.at_)
  have hz : (W.K.hand.status == 1) = false := beq_eq_false_iff_ne.2 h1
  have hz3 : (W.K.hand.status == 3) = true := beq_iff_eq.2 h3
  have HSB := Lib.hid (show W.looksB = false by rw [HS.out, hs])
  have HSA2 := Lib.hid (show W.looksA = W.greyA (AcS.greys W.a.locals) by
    rw [HSA.out, h3]
    unfold AcW.greyA
    by_cases hg : AcS.greys W.a.locals ≠ []
    · simp [hg]
    · simp [hg])
  have H2' := Lib.hid (show AcIn ⟨own1, w2⟩ t B b k (W.tickH.withA (W.greyA [])) ⟨opsA, opsC, locA, locC, none, 0, fp, gotA, gotC, wrA, wrC⟩ bm bs bt bp bsp bh cm from by have h := H2.out; rw [h3] at h; exact h)
  have Q2 := Lib.hid (Row.nil ⟨own1, w2⟩ (t + 4) 3 1)
  clear h1 hs h3 H2 af5
  generalize W.K.hand.status = s at *
  go_wp2_with fail
  obtain ⟨i0, hi, hz0, hz1, hz2⟩ := info_parts infoInt
  have HI := Lib.hid (fun v w' => index_any_w v w')
  go_loopw [49] (fun i wr => ∃ (j : Nat) (own : Nat → Nat) (gA : Option Addr) (gC : Nat), j ≤ W.a.locals.length ∧ i = .int .i64 j ∧ Hid (Mod (acT t B) g ⟨own, wr⟩) ∧ Hid (AcIn ⟨own, wr⟩ t B b k (W.tickH.withA (W.greyA (AcS.greys (W.a.locals.take j)))) ⟨opsA, opsC, locA, locC, gA, gC, fp, gotA, gotC, wrA, wrC⟩ bm bs bt bp bsp bh cm) ∧ Hid (Row ⟨own, wr⟩ (t + 4) 3 1 (.slice gA (AcS.greys (W.a.locals.take j)).length gC) (AcS.greys (W.a.locals.take j)).length ((AcS.greys (W.a.locals.take j)).map (Value.int .i64)))) (fun i _ => W.a.locals.length - (intOf i).toNat)
  case atStart => exact ⟨0, own1, none, 0, Nat.zero_le _, rfl, M2, H2', Q2⟩
  case round =>
    obtain ⟨j, own3, gA, gC, hj, rfl, M3, H3, R3⟩ := hrel
    clear M2 H2' Q2 a0 a1 a2 a3 a4 a5 a6 a7 a8 a9 a10 a11 a12 a13 a14 a15 a16 a17 a18 al
    by_cases hlt : j < W.a.locals.length
    · obtain ⟨q, hA, hq, -, l0, l1, -⟩ := H3.out.a.r.local_ (k := j) hlt
      simp only at hA hq
      rw [show (W.tickH.withA (W.greyA (AcS.greys (W.a.locals.take j)))).a.loc j = W.a.loc j from rfl] at l0 l1
      have HG := Lib.hid (show AcS.greys (W.a.locals.take (j + 1)) = AcS.greys (W.a.locals.take j) ++ (if (W.a.loc j).ref then (wIndex (W.a.loc j).z).toList else []) from greys_take hlt)
      have HLN := Lib.hid (show (AcS.greys (W.a.locals.take j)).length ≤ 1000 from Nat.le_trans (greys_len _) (by rw [List.length_take]; omega))
      have HB3 := Lib.hid H3.out.a.blk.lt
      subst hA
      generalize W.a.loc j = v at *
      have HIV := Lib.hid (fun w' => HI.out v.z w')
      unfold optV at HIV
      cases hx : wIndex v.z with
      | none =>
        rw [hx] at HG HIV
        have HG2 := Lib.hid (show AcS.greys (W.a.locals.take (j + 1)) = AcS.greys (W.a.locals.take j) by rw [HG.out]; cases v.ref <;> simp)
        clear hx
        generalize v.ref = rf at *
        cases rf
        · go_wp2_with fail
          refine (HIV.out _).mono ?_
          rintro e wx ⟨rfl, hE⟩
          obtain ⟨X1, rfl⟩ := (show Ext _ wx from hE)
          clear hE
          go_wp2_with fail
          go_roundw
          case rel =>
            obtain ⟨own4, m4⟩ := Mod.ofExt (w := wr) (w' := (wr.alloc _).patch X1) (by (repeat (first | (with_reducible (first | assumption | exact zR _ | exact zM _ _ _ _)) | apply zA | refine zS ?_ (by first | exact zL _ | exact zK _ _ | assumption) _ | apply zP | apply zD | apply zN))) own3
            refine ⟨j + 1, own4, gA, gC, by omega, by go_num, M3.out.trans (m4.mono (fun _ => False.elim)), ?_, ?_⟩
            · rw [HG2.out]; exact H3.out.keep0 m4
            · rw [HG2.out]; exact R3.out.keep m4 id
          case measure => simp [intOf]; omega
        · go_wp2_with fail
          refine (HIV.out _).mono ?_
          rintro e wx ⟨rfl, hE⟩
          obtain ⟨X1, rfl⟩ := (show Ext _ wx from hE)
          clear hE
          go_wp2_with fail
          go_roundw
          case rel =>
            obtain ⟨own4, m4⟩ := Mod.ofExt (w := wr) (w' := (wr.alloc _).patch X1) (by (repeat (first | (with_reducible (first | assumption | exact zR _ | exact zM _ _ _ _)) | apply zA | refine zS ?_ (by first | exact zL _ | exact zK _ _ | assumption) _ | apply zP | apply zD | apply zN))) own3
            refine ⟨j + 1, own4, gA, gC, by omega, by go_num, M3.out.trans (m4.mono (fun _ => False.elim)), ?_, ?_⟩
            · rw [HG2.out]; exact H3.out.keep0 m4
            · rw [HG2.out]; exact R3.out.keep m4 id
          case measure => simp [intOf]; omega
      | some y =>
        rw [hx] at HG HIV
        clear hx
        generalize v.ref = rf at *
        cases rf
        · have HG2 := Lib.hid (show AcS.greys (W.a.locals.take (j + 1)) = AcS.greys (W.a.locals.take j) by rw [HG.out]; simp)
          go_wp2_with fail
          refine (HIV.out _).mono ?_
          rintro e wx ⟨rfl, hE⟩
          obtain ⟨X1, rfl⟩ := (show Ext _ wx from hE)
          clear hE
          go_wp2_with fail
          go_roundw
          case rel =>
            obtain ⟨own4, m4⟩ := Mod.ofExt (w := wr) (w' := (wr.alloc _).patch X1) (by (repeat (first | (with_reducible (first | assumption | exact zR _ | exact zM _ _ _ _)) | apply zA | refine zS ?_ (by first | exact zL _ | exact zK _ _ | assumption) _ | apply zP | apply zD | apply zN))) own3
            refine ⟨j + 1, own4, gA, gC, by omega, by go_num, M3.out.trans (m4.mono (fun _ => False.elim)), ?_, ?_⟩
            · rw [HG2.out]; exact H3.out.keep0 m4
            · rw [HG2.out]; exact R3.out.keep m4 id
          case measure => simp [intOf]; omega
        · have HG2 := Lib.hid (show AcS.greys (W.a.locals.take (j + 1)) = AcS.greys (W.a.locals.take j) ++ [y] by rw [HG.out]; simp)
          go_wp2_with fail
          refine (HIV.out _).mono ?_
          rintro e wx ⟨rfl, hE⟩
          obtain ⟨X1, rfl⟩ := (show Ext _ wx from hE)
          clear hE
          go_upto_region 14 with fail
          obtain ⟨own4, m4⟩ := Mod.ofExt (w := wr) (w' := (wr.alloc (.cells #[.bool true, .complex .f64 v.z.1 v.z.2] 34)).patch X1) (by (repeat (first | (with_reducible (first | assumption | exact zR _ | exact zM _ _ _ _)) | apply zA | refine zS ?_ (by first | exact zL _ | exact zK _ _ | assumption) _ | apply zP | apply zD | apply zN))) own3
          have M4 := Lib.hid (M3.out.trans (m4.mono (fun _ => False.elim)))
          have H4 := Lib.hid (H3.out.keep0 m4)
          have R4 := Lib.hid (R3.out.keep m4 id)
          clear m4 M3 H3 R3 l0 l1 hq HIV HI HB3
          generalize (wr.alloc (.cells #[.bool true, .complex .f64 v.z.1 v.z.2] 34)).patch X1 = w4 at *
          obtain ⟨a0, a1, a2, a3, a4, a5, a6, a7, a8, a9, a10, a11, a12, a13, a14, a15, a16, a17, a18, al⟩ := H4.out.a.blk.c19
          have af9 := H4.out.a.blk.live 9
          have af7 := H4.out.a.blk.live 7
          (try simp only [GW.to] at a0 a1 a2 a3 a4 a5 a6 a7 a8 a9 a10 a11 a12 a13 a14 a15 a16 a17 a18 af9 af7 al)
          have hln := HLN.out
          simp only [AcW.withA, AcW.greyA] at a9
          have HEX := Lib.hid (show Ext (⟨own4, w4⟩ : GW).w (w4.alloc (.cells #[.int .i64 y] 3)) from Ext.alloc (Ext.refl _) _)
          generalize AcS.greys (W.a.locals.take j) = gl at *
          go_wp2_with (at_builtin; refine wpList_append_own_at _ rfl (.tmp 68) (.tmp 70) 62 rfl 0 3 i0 (.int .i64 0) 1 8 Tryz.underlying62 hi hz0 hz1 hz2 rfl (by decide) _ _ _ rfl (R4.out.row.alloc _) ⟨w4.heap.size, 0, none⟩ 1 1 [.int .i64 y] rfl rfl (cell_one_new _ _ _) (by intro u hu; simp at hu; subst hu; rfl) (by unfold maxLen; omega) (by omega) (Nat.zero_le _) ?_; intro v2 w5 hown hgrow hnil hat; obtain ⟨A2, cp2, rfl⟩ := own_form hown; obtain ⟨own5, m5, r5⟩ := grey_grown R4.out HEX.out hown hgrow hat; clear hown hgrow hnil hat; have B5 := Lib.hid (H4.out.a.blk.keep m5 (by omega)); have R5 := Lib.hid r5; have N5 := Lib.hid m5; have d7 := B5.out.cell (i := 7) rfl; have d9 := B5.out.cell (i := 9) rfl; have e9 := B5.out.live 9; have e7 := B5.out.live 7; have dl := B5.out.lt; simp only at d7 d9 e9 e7 dl; clear m5 r5 a0 a1 a2 a3 a4 a5 a6 a7 a8 a9 a10 a11 a12 a13 a14 a15 a16 a17 a18 af9 af7 al)
          go_roundw
          case rel =>
            have b6 : Mod (fun x => x = t) ⟨own5, w5⟩ ⟨own5, (w5.setCell ⟨b, 9, none⟩ (.slice A2 (gl.length + 1) cp2)).setCell ⟨b, 7, none⟩ (.int .i64 1)⟩ := Mod.st (Mod.st (Mod.refl _ _) B5.out.own) B5.out.own
            refine ⟨j + 1, own5, A2, cp2, by omega, by go_num, ?_, ?_, ?_⟩
            · exact Lib.hid ((M4.out.trans (N5.out.mono (fun x hx => Or.inl (by omega)))).trans (b6.mono (fun x hx => acT_t hx)))
            · rw [HG2.out]
              exact Lib.hid (grey_put HP.out H4.out N5.out R5.out (by omega))
            · rw [HG2.out]
              have := R5.out.keep b6 (by omega)
              simpa using Lib.hid this
          case measure => simp [intOf]; omega
    · obtain rfl : j = W.a.locals.length := by omega
      rw [List.take_of_length_le (Nat.le_refl _)] at H3
      go_wp2_with fail
      go_ret
      exact Does.of ⟨own3, _⟩ rfl (by rw [HSB.out]; rfl) M3.out (by rw [HSL.out, HSA2.out]; exact H3.out.at_)
end
end Go.Proofs.YtoaehfdjffejeaaGreat

