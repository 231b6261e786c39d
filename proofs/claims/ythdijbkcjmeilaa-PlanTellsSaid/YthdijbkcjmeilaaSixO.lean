/-
  sporef6.Object.
-/
import Derived.Test.YthdijbkcjmeilaaSixT
import Derived.Test.YthdijbkcjmeilaaSixP
import Derived.Test.YthdijbkcjmeilaaObject
import Derived.Test.YthdijbkcjmeilaaSide6
import Derived.Test.YthdijbkcjmeilaaGhost
import Derived.Test.YthdijbkcjmeilaaPlan2
namespace Go.Proofs.Ythdijbkcjmeilaa
open Go Go.RowKit
set_option linter.unusedVariables false
set_option linter.unnecessarySimpa false
set_option linter.unusedSimpArgs false
set_option maxHeartbeats 4000000
theorem rplace_in (A : Option Addr) (cap : Nat) (refs : List Bool) (k : Nat) (w : World) (hs : Shp.Ok w ⟨false, A, cap, refs⟩) (hm : Shp.may ⟨false, A, cap, refs⟩ = true) (hk : k < refs.length) : Calls Try.prog 19 #[.agg #[.bool false, .slice A refs.length cap], .int .i64 k] w (Gives (.tuple #[.int .i64 (Shp.placeF k), .int .i64 (Shp.placeW k), .bool true]) w) := by
  have HM := Lib.hid (fun w' (he : Ext w w') => show Calls Try.prog 66 #[.agg #[.bool false, .slice A refs.length cap]] w' (Gives (.bool true) w') from by
    have h1 := rmay_any ⟨false, A, cap, refs⟩ w' (hs.ext he)
    rw [hm] at h1
    exact h1)
  have hl : refs.length ≤ 40 := (of_decide_eq_true hm).1
  clear hs hm
  by_cases h6 : (k : Int) < 6
  · have HV := Lib.hid (And.intro (show Shp.placeF k = 0 by unfold Shp.placeF; rw [if_pos h6]) (show Shp.placeW k = 2 + k by unfold Shp.placeW; rw [if_pos h6]))
    rw [HV.out.1, HV.out.2]
    go_enter Try.func19, Try.ntmps19
    go_wp2_with fail
    refine (HM.out _ (by (repeat (first | (with_reducible assumption) | (with_reducible exact Ext.refl _) | (with_reducible exact Ext.more _ _ _ _) | apply Ext.alloc | refine Ext.setCell ?_ (by first | exact Nat.le_refl _ | exact Nat.le_add_right _ _ | assumption) _ | apply Ext.patch | apply Ext.drew | apply Ext.drewN)))).mono ?_
    rintro e w1 ⟨rfl, X1, rfl⟩
    go_wp2_with fail
    go_ret3
    exact Gives.mk rfl (by (repeat (first | (with_reducible assumption) | (with_reducible exact Ext.refl _) | (with_reducible exact Ext.more _ _ _ _) | apply Ext.alloc | refine Ext.setCell ?_ (by first | exact Nat.le_refl _ | exact Nat.le_add_right _ _ | assumption) _ | apply Ext.patch | apply Ext.drew | apply Ext.drewN)))
  · have HV := Lib.hid (And.intro (show Shp.placeF k = 1 + (k - 6) / 7 by unfold Shp.placeF; rw [if_neg h6]) (show Shp.placeW k = 1 + (k - 6) % 7 by unfold Shp.placeW; rw [if_neg h6]))
    rw [HV.out.1, HV.out.2]
    go_enter Try.func19, Try.ntmps19
    go_wp2_with fail
    refine (HM.out _ (by (repeat (first | (with_reducible assumption) | (with_reducible exact Ext.refl _) | (with_reducible exact Ext.more _ _ _ _) | apply Ext.alloc | refine Ext.setCell ?_ (by first | exact Nat.le_refl _ | exact Nat.le_add_right _ _ | assumption) _ | apply Ext.patch | apply Ext.drew | apply Ext.drewN)))).mono ?_
    rintro e w1 ⟨rfl, X1, rfl⟩
    go_wp2_with fail
    go_ret3
    exact Gives.mk rfl (by (repeat (first | (with_reducible assumption) | (with_reducible exact Ext.refl _) | (with_reducible exact Ext.more _ _ _ _) | apply Ext.alloc | refine Ext.setCell ?_ (by first | exact Nat.le_refl _ | exact Nat.le_add_right _ _ | assumption) _ | apply Ext.patch | apply Ext.drew | apply Ext.drewN)))
theorem all_fragIn {c : Cnf} (hck : c.check = 0) (got : List Int) : got.all (fragOk c) = got.all (fragIn c) := by
  congr 1
  funext i
  unfold fragOk fragIn
  rw [decide_eq_decide]
  exact ⟨fun h => h.2, fun h => ⟨hck, h⟩⟩
theorem info8 : (Try.prog.info? 74).map (fun i => (i.zero, i.size, i.bytes)) = some (some (.agg #[.complex .f64 0 0, .complex .f64 0 0, .complex .f64 0 0, .complex .f64 0 0, .complex .f64 0 0, .complex .f64 0 0, .complex .f64 0 0, .complex .f64 0 0]), 8, 128) := by kernel_rfl
theorem rnone_gives (w : World) : Calls Try.prog 44 #[] w (Gives (.complex .f64 0 4607182418800017408) w) := (rnone_any w).mono fun e w' h => by
  obtain ⟨rfl, rfl⟩ := h
  exact Gives.mk rfl (Ext.refl _)
theorem madeCells_eight (n : Nat) : madeCells #[wZero, wZero, wZero, wZero, wZero, wZero, wZero, wZero] n = (List.replicate n wZero).toArray := by
  apply Array.ext
  · simp [madeCells]
  · intro i h1 h2
    simp only [madeCells, Array.getElem_map, Array.getElem_range, List.getElem_toArray, List.getElem_replicate]
    have h8 : i % 8 < 8 := Nat.mod_lt _ (by decide)
    show (#[wZero, wZero, wZero, wZero, wZero, wZero, wZero, wZero] : Array Value)[i % 8]! = wZero
    generalize i % 8 = j at h8
    rcases (show j = 0 ∨ j = 1 ∨ j = 2 ∨ j = 3 ∨ j = 4 ∨ j = 5 ∨ j = 6 ∨ j = 7 by omega) with rfl | rfl | rfl | rfl | rfl | rfl | rfl | rfl <;> rfl
theorem made8 {k : Nat} (hk : k ≤ 1000) (w : World) : (Instr.makeSlice 83 (.int .i64 (k : Int)) (.int .i64 (k : Int))).run Try.prog w = .ok (.slice (some ⟨w.heap.size, 0, none⟩) k k) (w.alloc (.cells (List.replicate (8 * k) wZero).toArray 74)) := by
  have hz := info8
  cases hi : Try.prog.info? 74 with
  | none => rw [hi] at hz; cases hz
  | some i0 =>
    rw [hi] at hz
    simp only [Option.map_some, Option.some.injEq, Prod.mk.injEq] at hz
    obtain ⟨hz0, hz1, hz2⟩ := hz
    have hmk := run_made (P := Try.prog) 83 74 i0 _ 8 128 Try.underlying83 hi hz0 hz1 hz2 k (by omega) (by omega) w
    rw [hmk]
    rw [show madeCells (Value.agg #[.complex .f64 0 0, .complex .f64 0 0, .complex .f64 0 0, .complex .f64 0 0, .complex .f64 0 0, .complex .f64 0 0, .complex .f64 0 0, .complex .f64 0 0]).cells (k * 8) = (List.replicate (8 * k) wZero).toArray from (madeCells_eight (k * 8)).trans (by rw [Nat.mul_comm])]
theorem blk6 (w : World) (o : Obj) : ∀ w', Ext (w.alloc o) w' → w'.heap[w.heap.size]? = some o := fun w' he => (he.heap w.heap.size (by rw [World.size_alloc]; omega)).trans (World.row_alloc_new w)
theorem may_of {c : Cnf} (hck : c.check = 0) {kind : Int} {a : Bool} {r : List Bool} (h : c.shapeAt kind = some (a, r)) (A : Option Addr) (cap : Nat) : Shp.may ⟨a, A, cap, r⟩ = true := by
  have h1 := (Cnf.check_zero hck).2.2.2
  unfold Cnf.shapeAt at h
  split at h
  · cases h
  · cases hs : c.shapes[kind.toNat]? with
    | none => rw [hs] at h; cases h
    | some s =>
      rw [hs] at h
      injection h with h
      injection h with ha hr
      subst ha hr
      obtain ⟨b, B, d, q⟩ := s
      cases hm : Shp.may ⟨b, A, cap, q⟩
      · rw [badIn_yes hs hm] at h1
        cases h1
      · rfl
theorem ext_340 {w w' : World} {own : Nat → Nat} (h : Mod (fun x => x = 340) ⟨fun _ => 0, w⟩ ⟨own, w'⟩) : Ext w w' := by
  have m : Mod (fun _ => False) ⟨fun _ => 0, w⟩ ⟨own, w'⟩ := ⟨h.os, h.tape, h.output, h.size, h.own, fun k hk _ => h.block k hk (by show ¬ (0 = 340); omega)⟩
  exact m.toExt
theorem size_eq (A : Option Addr) (cap : Nat) (refs : List Bool) (hm : Shp.may ⟨false, A, cap, refs⟩ = true) : (refs.length ≤ 6 ∧ Shp.size ⟨false, A, cap, refs⟩ 0 = 1) ∨ (6 < refs.length ∧ Shp.size ⟨false, A, cap, refs⟩ 0 = 1 + (refs.length : Int) / 7) := by
  by_cases h6 : refs.length ≤ 6
  · exact Or.inl ⟨h6, by unfold Shp.size; rw [if_neg (by simp [hm]), if_neg (by simp), if_pos (show Shp.len ⟨false, A, cap, refs⟩ ≤ 6 from by show (refs.length : Int) ≤ 6; omega)]⟩
  · exact Or.inr ⟨by omega, by unfold Shp.size; rw [if_neg (by simp [hm]), if_neg (by simp), if_neg (show ¬ Shp.len ⟨false, A, cap, refs⟩ ≤ 6 from by show ¬ (refs.length : Int) ≤ 6; omega)]; rfl⟩
theorem bool_at6 {w : World} {A : Option Addr} {l : List Bool} (h : CellsAt w A (l.map Value.bool)) {k : Nat} (hk : k < l.length) : ∃ b o, A = some ⟨b, o, none⟩ ∧ b < w.heap.size ∧ w.cell? ⟨b, o + k, none⟩ = some (.bool (l.getD k false)) := by
  obtain ⟨b, o, hA, hb, hc⟩ := h.cases (by simp; omega)
  exact ⟨b, o, hA, hb, hc k _ (by simp [List.getD, List.getElem?_eq_getElem hk])⟩
theorem place_lt6 {k n : Nat} (hk : k < n) : ∃ p q : Nat, Shp.placeF k = p ∧ Shp.placeW k = q ∧ 1 ≤ q ∧ q < 8 ∧ (n ≤ 6 → p = 0) ∧ (p : Int) ≤ (n : Int) / 7 := by
  have h1 := Shp.placeW_bd k (by omega)
  refine ⟨(Shp.placeF k).toNat, (Shp.placeW k).toNat, ?_, by omega, by omega, by omega, ?_, ?_⟩
  all_goals unfold Shp.placeF at *
  all_goals split <;> omega
theorem size_obj (A : Option Addr) (cap : Nat) (refs : List Bool) (hm : Shp.may ⟨false, A, cap, refs⟩ = true) : 1 ≤ Shp.size ⟨false, A, cap, refs⟩ 0 ∧ Shp.size ⟨false, A, cap, refs⟩ 0 ≤ 7 := by
  have hl : refs.length ≤ 40 := (of_decide_eq_true hm).1
  by_cases h6 : refs.length ≤ 6
  · have HV : Shp.size ⟨false, A, cap, refs⟩ 0 = 1 := by unfold Shp.size; rw [if_neg (by simp [hm]), if_neg (by simp), if_pos (show Shp.len ⟨false, A, cap, refs⟩ ≤ 6 from by show (refs.length : Int) ≤ 6; omega)]
    omega
  · have HV : Shp.size ⟨false, A, cap, refs⟩ 0 = 1 + (refs.length : Int) / 7 := by unfold Shp.size; rw [if_neg (by simp [hm]), if_neg (by simp), if_neg (show ¬ Shp.len ⟨false, A, cap, refs⟩ ≤ 6 from by show ¬ (refs.length : Int) ≤ 6; omega)]; rfl
    omega
set_option maxRecDepth 100000 in
theorem robject_any (c : Cnf) (kind : Int) (A : Option Addr) (cap : Nat) (got : List Int) (w : World) (hc : c.Ok w) (hg : CellsAt w A (got.map (Value.int .i64))) (hl : got.length ≤ 1000) (hcap : got.length ≤ cap) (hcm : cap ≤ 9223372036854775807) (hw : ∀ x ∈ got, -9223372036854775808 ≤ x ∧ x ≤ 9223372036854775807) :
    Calls Try.prog 10 #[c.val, .int .i64 kind, .slice A got.length cap] w (ObjGot c kind got w) := by
  have HCK := Lib.hid (fun w' (he : Ext w w') => rcheck_any c w' (hc.ext he))
  have HWR := Lib.hid (fun w' (he : Ext w w') => rwrong_any c A cap got w' (hg.ext he) (by omega) hw)
  have HSH := Lib.hid (fun w' (he : Ext w w') => rshape_any c kind w' (hc.ext he))
  have HTW := Lib.hid (fun w' (he : Ext w w') => rtwice_any A cap got w' (hg.ext he) (by omega) hcap hcm)
  have HSD := Lib.hid (fun w' (he : Ext w w') => rside_any A cap got w' (hg.ext he) (by omega) hw)
  have HG := Lib.hid hg
  have HCO := Lib.hid hc
  unfold Cnf.val at HCK HWR HSH ⊢
  clear hc hg hw
  obtain ⟨pa, pr, hp⟩ : ∃ pa pr, (c.shapeAt kind).getD (false, []) = (pa, pr) := ⟨_, _, rfl⟩
  have HP := Lib.hid hp.symm
  clear hp
  by_cases hck : c.check = 0
  case neg =>
    have hckb : (c.check != 0) = true := by simp [hck]
    have HE := Lib.hid (show wrongE c (c.shapeAt kind).isSome ⟨pa, none, 0, pr⟩ 0 false got = 1 from by unfold wrongE; rw [if_pos (Or.inl hck)])
    clear hck
    go_enter Try.func10, Try.ntmps10
    go_wp2_with fail
    refine (HCK.out _ (by (repeat (first | (with_reducible assumption) | (with_reducible exact Ext.refl _) | (with_reducible exact Ext.more _ _ _ _) | apply Ext.alloc | refine Ext.setCell ?_ (by first | exact Nat.le_refl _ | exact Nat.le_add_right _ _ | assumption) _ | apply Ext.patch | apply Ext.drew | apply Ext.drewN)))).mono ?_
    rintro e w1 ⟨rfl, X1, rfl⟩
    go_wp2_with fail
    go_ret2
    exact ⟨⟨pa, none, 0, pr⟩, .slice none 0 0, 0, by rw [HE.out]; rfl, HP.out, by rw [HE.out, if_neg (by decide)]; exact ⟨rfl, Or.inl ⟨rfl, rfl⟩⟩, (by (repeat (first | (with_reducible assumption) | (with_reducible exact Ext.refl _) | (with_reducible exact Ext.more _ _ _ _) | apply Ext.alloc | refine Ext.setCell ?_ (by first | exact Nat.le_refl _ | exact Nat.le_add_right _ _ | assumption) _ | apply Ext.patch | apply Ext.drew | apply Ext.drewN)))⟩
  have hckb : (c.check != 0) = false := by simp [hck]
  have HCZ := Lib.hid hck
  cases hfr : got.all (fragIn c)
  · have HE := Lib.hid (show wrongE c (c.shapeAt kind).isSome ⟨pa, none, 0, pr⟩ 0 false got = 1 from by unfold wrongE; rw [if_pos (Or.inr (by rw [all_fragIn hck, hfr]))])
    rw [hfr] at HWR
    clear hck hfr
    go_enter Try.func10, Try.ntmps10
    go_wp2_with fail
    refine (HCK.out _ (by (repeat (first | (with_reducible assumption) | (with_reducible exact Ext.refl _) | (with_reducible exact Ext.more _ _ _ _) | apply Ext.alloc | refine Ext.setCell ?_ (by first | exact Nat.le_refl _ | exact Nat.le_add_right _ _ | assumption) _ | apply Ext.patch | apply Ext.drew | apply Ext.drewN)))).mono ?_
    rintro e w1 ⟨rfl, X1, rfl⟩
    go_wp2_with fail
    refine (HWR.out _ (by (repeat (first | (with_reducible assumption) | (with_reducible exact Ext.refl _) | (with_reducible exact Ext.more _ _ _ _) | apply Ext.alloc | refine Ext.setCell ?_ (by first | exact Nat.le_refl _ | exact Nat.le_add_right _ _ | assumption) _ | apply Ext.patch | apply Ext.drew | apply Ext.drewN)))).mono ?_
    rintro e w2 ⟨rfl, X2, rfl⟩
    go_wp2_with fail
    go_ret2
    exact ⟨⟨pa, none, 0, pr⟩, .slice none 0 0, 0, by rw [HE.out]; rfl, HP.out, by rw [HE.out, if_neg (by decide)]; exact ⟨rfl, Or.inl ⟨rfl, rfl⟩⟩, (by (repeat (first | (with_reducible assumption) | (with_reducible exact Ext.refl _) | (with_reducible exact Ext.more _ _ _ _) | apply Ext.alloc | refine Ext.setCell ?_ (by first | exact Nat.le_refl _ | exact Nat.le_add_right _ _ | assumption) _ | apply Ext.patch | apply Ext.drew | apply Ext.drewN)))⟩
  rw [hfr] at HWR
  have HFI := Lib.hid hfr
  clear hck hfr
  go_enter Try.func10, Try.ntmps10
  go_wp2_with fail
  refine (HCK.out _ (by (repeat (first | (with_reducible assumption) | (with_reducible exact Ext.refl _) | (with_reducible exact Ext.more _ _ _ _) | apply Ext.alloc | refine Ext.setCell ?_ (by first | exact Nat.le_refl _ | exact Nat.le_add_right _ _ | assumption) _ | apply Ext.patch | apply Ext.drew | apply Ext.drewN)))).mono ?_
  rintro e w1 ⟨rfl, X1, rfl⟩
  go_wp2_with fail
  refine (HWR.out _ (by (repeat (first | (with_reducible assumption) | (with_reducible exact Ext.refl _) | (with_reducible exact Ext.more _ _ _ _) | apply Ext.alloc | refine Ext.setCell ?_ (by first | exact Nat.le_refl _ | exact Nat.le_add_right _ _ | assumption) _ | apply Ext.patch | apply Ext.drew | apply Ext.drewN)))).mono ?_
  rintro e w2 ⟨rfl, X2, rfl⟩
  go_wp2_with fail
  refine (HSH.out _ (by (repeat (first | (with_reducible assumption) | (with_reducible exact Ext.refl _) | (with_reducible exact Ext.more _ _ _ _) | apply Ext.alloc | refine Ext.setCell ?_ (by first | exact Nat.le_refl _ | exact Nat.le_add_right _ _ | assumption) _ | apply Ext.patch | apply Ext.drew | apply Ext.drewN)))).mono ?_
  rintro e w3 ⟨s', rfl, hs, hok, hE⟩
  have HE3 := Lib.hid ((show Ext w _ by (repeat (first | (with_reducible assumption) | (with_reducible exact Ext.refl _) | (with_reducible exact Ext.more _ _ _ _) | apply Ext.alloc | refine Ext.setCell ?_ (by first | exact Nat.le_refl _ | exact Nat.le_add_right _ _ | assumption) _ | apply Ext.patch | apply Ext.drew | apply Ext.drewN))).trans hE)
  have HOK := Lib.hid (hok.ext hE)
  clear HP
  have HP := Lib.hid hs
  clear hE hok hs HCK HWR HSH
  obtain ⟨arr, A', cap', refs⟩ := s'
  unfold Shp.val
  have HBS := Lib.hid (blk6 w3 (.cells #[.bool arr, .slice A' refs.length cap'] 37))
  generalize his : (c.shapeAt kind).isSome = is
  have HI := Lib.hid his
  clear his
  cases is
  · have HE := Lib.hid (show wrongE c (c.shapeAt kind).isSome ⟨arr, A', cap', refs⟩ 0 false got = 4 from by unfold wrongE; rw [HI.out, if_neg (by rw [all_fragIn HCZ.out, HFI.out]; simp [HCZ.out]), if_pos (Or.inl rfl)])
    go_wp2_with fail
    go_ret2
    exact ⟨⟨arr, A', cap', refs⟩, .slice none 0 0, 0, by rw [HE.out]; rfl, HP.out, by rw [HE.out, if_neg (by decide)]; exact ⟨rfl, Or.inl ⟨rfl, rfl⟩⟩, (HE3.out.trans (by (repeat (first | (with_reducible assumption) | (with_reducible exact Ext.refl _) | (with_reducible exact Ext.more _ _ _ _) | apply Ext.alloc | refine Ext.setCell ?_ (by first | exact Nat.le_refl _ | exact Nat.le_add_right _ _ | assumption) _ | apply Ext.patch | apply Ext.drew | apply Ext.drewN))))⟩
  cases arr
  case true =>
    have HE := Lib.hid (show wrongE c (c.shapeAt kind).isSome ⟨true, A', cap', refs⟩ 0 false got = 4 from by unfold wrongE; rw [HI.out, if_neg (by rw [all_fragIn HCZ.out, HFI.out]; simp [HCZ.out]), if_pos (Or.inr (by simp))])
    go_wp2_with fail
    go_ret2
    exact ⟨⟨true, A', cap', refs⟩, .slice none 0 0, 0, by rw [HE.out]; rfl, HP.out, by rw [HE.out, if_neg (by decide)]; exact ⟨rfl, Or.inl ⟨rfl, rfl⟩⟩, (HE3.out.trans (by (repeat (first | (with_reducible assumption) | (with_reducible exact Ext.refl _) | (with_reducible exact Ext.more _ _ _ _) | apply Ext.alloc | refine Ext.setCell ?_ (by first | exact Nat.le_refl _ | exact Nat.le_add_right _ _ | assumption) _ | apply Ext.patch | apply Ext.drew | apply Ext.drewN))))⟩
  have HMY := Lib.hid (show Shp.may ⟨false, A', cap', refs⟩ = true from by
    have h1 := HI.out
    have h2 := HP.out
    cases h3 : c.shapeAt kind with
    | none => rw [h3] at h1; cases h1
    | some p => rw [h3] at h2; exact may_of HCZ.out (by rw [h3]; exact congrArg some h2.symm) A' cap')
  have hr40 : refs.length ≤ 40 := (of_decide_eq_true HMY.out).1
  have HSZ := Lib.hid (fun w' (he : Ext w3 w') => show Calls Try.prog 41 #[.agg #[.bool false, .slice A' refs.length cap'], .int .i64 0] w' (Gives (.int .i64 (Shp.size ⟨false, A', cap', refs⟩ 0)) w') from rsize_any ⟨false, A', cap', refs⟩ 0 w' (HOK.out.ext he))
  have hsz := size_obj A' cap' refs HMY.out
  have HNE := Lib.hid (fun (h : (got.length : Int) ≠ Shp.size ⟨false, A', cap', refs⟩ 0 ∨ twiceIn got = true) => show wrongE c (c.shapeAt kind).isSome ⟨false, A', cap', refs⟩ 0 false got = 2 from by
    unfold wrongE
    rw [HI.out, if_neg (by rw [all_fragIn HCZ.out, HFI.out]; simp [HCZ.out]), if_neg (by simp), if_neg (by omega), if_pos h])
  have HYE := Lib.hid (fun (h : (got.length : Int) = Shp.size ⟨false, A', cap', refs⟩ 0) (h2 : twiceIn got = false) => show wrongE c (c.shapeAt kind).isSome ⟨false, A', cap', refs⟩ 0 false got = 0 from by
    unfold wrongE
    rw [HI.out, if_neg (by rw [all_fragIn HCZ.out, HFI.out]; simp [HCZ.out]), if_neg (by simp), if_neg (by omega), if_neg (by rw [h2]; simp [h])])
  have hse := size_eq A' cap' refs HMY.out
  generalize Shp.size ⟨false, A', cap', refs⟩ 0 = sz at *
  have HSE := Lib.hid hse
  clear hse
  have HW4 := Lib.hid (show Ext w3 (w3.alloc (.cells #[.bool false, .slice A' refs.length cap'] 37)) by (repeat (first | (with_reducible assumption) | (with_reducible exact Ext.refl _) | (with_reducible exact Ext.more _ _ _ _) | apply Ext.alloc | refine Ext.setCell ?_ (by first | exact Nat.le_refl _ | exact Nat.le_add_right _ _ | assumption) _ | apply Ext.patch | apply Ext.drew | apply Ext.drewN)))
  have HHH := Lib.hid hsz
  clear hsz
  go_wp2_with fail
  refine (HSZ.out _ (by (repeat (first | (with_reducible assumption) | (with_reducible exact Ext.refl _) | (with_reducible exact Ext.more _ _ _ _) | apply Ext.alloc | refine Ext.setCell ?_ (by first | exact Nat.le_refl _ | exact Nat.le_add_right _ _ | assumption) _ | apply Ext.patch | apply Ext.drew | apply Ext.drewN)))).mono ?_
  rintro e w5 ⟨rfl, hE⟩
  have HX5 := Lib.hid (show Ext (w3.alloc (.cells #[.bool false, .slice A' refs.length cap'] 37)) w5 from hE)
  clear hE HSZ
  cases hlz : ((got.length : Int) != sz)
  case true =>
    have HE := Lib.hid (HNE.out (Or.inl (by rwa [bne_iff_ne] at hlz)))
    go_wp2_with fail
    go_ret2
    exact ⟨⟨false, A', cap', refs⟩, .slice none 0 0, 0, by rw [HE.out]; rfl, HP.out, by rw [HE.out, if_neg (by decide)]; exact ⟨rfl, Or.inl ⟨rfl, rfl⟩⟩, (HE3.out.trans (HW4.out.trans (HX5.out.trans (by (repeat (first | (with_reducible assumption) | (with_reducible exact Ext.refl _) | (with_reducible exact Ext.more _ _ _ _) | apply Ext.alloc | refine Ext.setCell ?_ (by first | exact Nat.le_refl _ | exact Nat.le_add_right _ _ | assumption) _ | apply Ext.patch | apply Ext.drew | apply Ext.drewN))))))⟩
  go_wp2_with fail
  refine (HTW.out _ (HE3.out.trans (HW4.out.trans HX5.out))).mono ?_
  rintro e w6 ⟨rfl, hE⟩
  have HX6 := Lib.hid (HX5.out.trans (show Ext w5 w6 from hE))
  clear hE HTW HX5
  cases htw : twiceIn got
  case true =>
    have HE := Lib.hid (HNE.out (Or.inr htw))
    go_wp2_with fail
    go_ret2
    exact ⟨⟨false, A', cap', refs⟩, .slice none 0 0, 0, by rw [HE.out]; rfl, HP.out, by rw [HE.out, if_neg (by decide)]; exact ⟨rfl, Or.inl ⟨rfl, rfl⟩⟩, (HE3.out.trans (HW4.out.trans (HX6.out.trans (by (repeat (first | (with_reducible assumption) | (with_reducible exact Ext.refl _) | (with_reducible exact Ext.more _ _ _ _) | apply Ext.alloc | refine Ext.setCell ?_ (by first | exact Nat.le_refl _ | exact Nat.le_add_right _ _ | assumption) _ | apply Ext.patch | apply Ext.drew | apply Ext.drewN))))))⟩
  have HE := Lib.hid (HYE.out (bne_eq_false_iff_eq.1 hlz) htw)
  have HLN := Lib.hid (bne_eq_false_iff_eq.1 hlz)
  clear HNE HYE htw
  have hn7 : 1 ≤ got.length ∧ got.length ≤ 7 := by have := HLN.out; have := HHH.out; omega
  have hmk := made8 (k := got.length) (by omega)
  go_wp2_with fail
  obtain ⟨own7, m7, b7⟩ : ∃ own7, Mod (fun _ => False) ⟨fun _ => 0, w6⟩ ⟨own7, w6.alloc (.cells (Array.replicate (8 * got.length) wZero) 74)⟩ ∧ Blk ⟨own7, w6.alloc (.cells (Array.replicate (8 * got.length) wZero) 74)⟩ 340 w6.heap.size 74 (flat8 (linkTo got 0) got.length) := ⟨_, Mod.ext (g := ⟨fun _ => 0, w6⟩) (show Ext w6 (w6.alloc (.cells (Array.replicate (8 * got.length) wZero) 74)) by (repeat (first | (with_reducible assumption) | (with_reducible exact Ext.refl _) | (with_reducible exact Ext.more _ _ _ _) | apply Ext.alloc | refine Ext.setCell ?_ (by first | exact Nat.le_refl _ | exact Nat.le_add_right _ _ | assumption) _ | apply Ext.patch | apply Ext.drew | apply Ext.drewN))) 340, by
    have h := Blk.new ⟨fun _ => 0, w6⟩ 340 74 (List.replicate (8 * got.length) wZero)
    rw [List.toArray_replicate] at h
    rw [flat8_link0]
    exact h⟩
  have hx7 : Ext w (w6.alloc (.cells (Array.replicate (8 * got.length) wZero) 74)) := (HE3.out.trans (HW4.out.trans (HX6.out.trans m7.toExt)))
  have HX7 := Lib.hid hx7
  clear hx7
  have M7 := Lib.hid (m7.mono (S := fun x => x = 340) (fun _ => False.elim))
  have B7 := Lib.hid b7
  generalize w6.alloc (.cells (Array.replicate (8 * got.length) wZero) 74) = w7 at *
  generalize w6.heap.size = bw at *
  clear m7 b7 hmk
  refine (HSD.out _ HX7.out).mono ?_
  rintro e w8 ⟨rfl, hE8⟩
  obtain ⟨own8, m8⟩ : ∃ own8, Mod (fun _ => False) ⟨own7, w7⟩ ⟨own8, w8⟩ := ⟨_, Mod.ext (g := ⟨own7, w7⟩) (show Ext w7 w8 from hE8) 0⟩
  have M8 := Lib.hid (M7.out.trans (m8.mono (S := fun x => x = 340) (fun _ => False.elim)))
  have B8 := Lib.hid (B7.out.keep m8 id)
  clear m8 hE8 M7 B7 HX7 HSD
  obtain ⟨md0, hmd⟩ : ∃ md0 : Int, md0 = (if isSide got = true then 1 else 0) := ⟨_, rfl⟩
  have HMD := Lib.hid hmd
  clear hmd
  go_upto_if 52 with fail
  go_cut [11] (fun md wx => md = .int .i64 md0 ∧ w8 = wx)
  case first =>
    rcases Bool.eq_false_or_eq_true (isSide got) with hx | hx
    · rw [hx]
      go_wp2_with fail
      go_meet
      exact ⟨by rw [HMD.out, hx]; rfl, rfl⟩
    · rw [hx]
      go_wp2_with fail
      go_meet
      exact ⟨by rw [HMD.out, hx]; rfl, rfl⟩
  case rest =>
    obtain ⟨rfl, rfl⟩ := hcut
    have HGX := Lib.hid (fun (own : Nat → Nat) (wr : World) (m : Mod (fun x => x = 340) ⟨fun _ => 0, w6⟩ ⟨own, wr⟩) => HG.out.ext (HE3.out.trans (HW4.out.trans (HX6.out.trans (ext_340 m)))))
    go_wp2_with fail
    go_loopw [12] (fun i wr => ∃ (k : Nat) (own : Nat → Nat), k ≤ got.length ∧ i = .int .i64 k ∧ Hid (Mod (fun x => x = 340) ⟨fun _ => 0, w6⟩ ⟨own, wr⟩) ∧ Hid (Blk ⟨own, wr⟩ 340 bw 74 (flat8 (linkTo got k) got.length))) (fun i _ => got.length - (intOf i).toNat)
    case atStart => exact ⟨0, own8, Nat.zero_le _, rfl, M8, B8⟩
    case round =>
      obtain ⟨k, own9, hk, rfl, M9, B9⟩ := hrel
      obtain ⟨w9, rfl⟩ : ∃ w9 : World, w9 = wr := ⟨_, rfl⟩
      clear M8 B8
      by_cases hlt : k < got.length
      · have m10 : Mod (fun x => x = 340) ⟨own9, w9⟩ ⟨own9, w9.setCell ⟨bw, k * 8, none⟩ wNone⟩ := Mod.st Mod.self B9.out.own
        have M := Lib.hid (M9.out.trans m10)
        have B := Lib.hid (B9.out.set (k * 8) wNone)
        have cy : w9.cell? ⟨bw, k * 8, none⟩ = some wZero := B9.out.cell (i := k * 8) (show (flat8 (linkTo got k) got.length)[k * 8 + 0]? = some wZero by rw [flat8_get (linkTo_len got k) hlt (by omega)]; unfold linkTo; rw [if_neg (by omega)]; rfl)
        have fy : w9.frozen? ⟨bw, k * 8, none⟩ = false := B9.out.live (k * 8)
        have ly : bw < w9.heap.size := B9.out.lt
        clear m10 M9 B9
        go_wp2_with fail
        refine wp_region_mixed [true, true, true, true, true, false] 1 5 (by kernel_rfl) (by kernel_rfl) (by kernel_rfl) ?_ (by decide) (by decide) (by decide) (by kernel_rfl) ?_
        · intro c a d v w h; cases d <;> exact h
        intro X00
        simp only [pickOps]
        repeat (go_big_quiet_step ((go_at_call 44; exact Calls.added (rnone_gives _))))
        refine wpQuiet_nil (fun X0 => ?_)
        clear X00
        refine wpAnyM_last 5 _ (by kernel_rfl) (by kernel_rfl) rfl rfl (fun X1 K Q' hK => ?_)
        go_simp
        refine hK _ _ (fun X2 => ?_)
        clear hK K Q'
        (try go_simp)
        obtain ⟨own10, m10⟩ : ∃ own10, Mod (fun _ => False) ⟨own9, (w9.setCell ⟨bw, k * 8, none⟩ (.complex .f64 0 4607182418800017408))⟩ ⟨own10, ((w9.setCell ⟨bw, k * 8, none⟩ (.complex .f64 0 4607182418800017408))).patch ⟨X0.blocks ++ (X1.blocks ++ X2.blocks), X2.drawn⟩⟩ := ⟨_, Mod.pt (Mod.refl _ _) _⟩
        generalize ((w9.setCell ⟨bw, k * 8, none⟩ (.complex .f64 0 4607182418800017408))).patch ⟨X0.blocks ++ (X1.blocks ++ X2.blocks), X2.drawn⟩ = w10 at *
        have M10 := Lib.hid (M.out.trans (m10.mono (S := fun x => x = 340) (fun _ => False.elim)))
        have B10 := Lib.hid (B.out.keep m10 id)
        clear m10 M B
        clear cy fy ly
        by_cases h1 : k + 1 < got.length
        · obtain ⟨bg, og, hA, hb, hcell⟩ := ints_at (HGX.out _ _ M10.out) h1
          have g1 := hcell (k + 1) h1
          subst hA
          have HL := Lib.hid (linkTo_some hlt h1)
          have HRF := Lib.hid (fun w' => rref_all (got.getD (k + 1) 0) w')
          obtain ⟨p1, p2, hp⟩ := isCx_ref (got.getD (k + 1) 0)
          rw [hp] at HL HRF
          clear hp hcell
          generalize got.getD (k + 1) 0 = y at *
          have M := Lib.hid (M10.out.trans (show Mod (fun x => x = 340) ⟨own10, w10⟩ ⟨own10, w10.setCell ⟨bw, k * 8, none⟩ (.complex .f64 p1 p2)⟩ from Mod.st Mod.self B10.out.own))
          have B := Lib.hid (show Blk ⟨own10, w10.setCell ⟨bw, k * 8, none⟩ (.complex .f64 p1 p2)⟩ 340 bw 74 (flat8 (linkTo got (k + 1)) got.length) from by rw [← HL.out]; exact B10.out.set (k * 8) (.complex .f64 p1 p2))
          have cy : w10.cell? ⟨bw, k * 8, none⟩ = some wNone := B10.out.cell (i := k * 8) (by rw [List.getElem?_set_self (by rw [flat8_len (linkTo_len got k)]; omega)])
          have fy : w10.frozen? ⟨bw, k * 8, none⟩ = false := B10.out.live (k * 8)
          have ly : bw < w10.heap.size := B10.out.lt
          have hk1 : ((k + 1 : Nat) : Int) = (k : Int) + 1 := rfl
          clear M10 B10 HL
          go_wp2_with fail
          refine wp_region_mixed [true, true, true, true, true, true, true, true, true, true, false] 1 10 (by kernel_rfl) (by kernel_rfl) (by kernel_rfl) ?_ (by decide) (by decide) (by decide) (by kernel_rfl) ?_
          · intro c a d v w h; cases d <;> exact h
          intro X00
          simp only [pickOps]
          repeat (go_big_quiet_step ((go_at_call 20; exact Calls.added (HRF.out _))))
          refine wpQuiet_nil (fun X0 => ?_)
          clear X00
          refine wpAnyM_last 10 _ (by kernel_rfl) (by kernel_rfl) rfl rfl (fun X1 K Q' hK => ?_)
          go_simp
          refine hK _ _ (fun X2 => ?_)
          clear hK K Q'
          (try go_simp)
          obtain ⟨own11, m11⟩ : ∃ own11, Mod (fun _ => False) ⟨own10, (w10.setCell ⟨bw, k * 8, none⟩ (.complex .f64 p1 p2))⟩ ⟨own11, ((w10.setCell ⟨bw, k * 8, none⟩ (.complex .f64 p1 p2))).patch ⟨X0.blocks ++ (X1.blocks ++ X2.blocks), X2.drawn⟩⟩ := ⟨_, Mod.pt (Mod.refl _ _) _⟩
          generalize ((w10.setCell ⟨bw, k * 8, none⟩ (.complex .f64 p1 p2))).patch ⟨X0.blocks ++ (X1.blocks ++ X2.blocks), X2.drawn⟩ = w11 at *
          have M11 := Lib.hid (M.out.trans (m11.mono (S := fun x => x = 340) (fun _ => False.elim)))
          have B11 := Lib.hid (B.out.keep m11 id)
          clear m11 M B
          go_wp2_with fail
          go_roundw
          case rel => exact ⟨k + 1, own11, by omega, by go_num, M11, B11⟩
          case measure => simp [intOf]; omega
        · have HL := Lib.hid (linkTo_none hlt h1)
          go_wp2_with fail
          go_roundw
          case rel => exact ⟨k + 1, own10, by omega, by go_num, M10, by rw [← HL.out]; exact B10⟩
          case measure => simp [intOf]; omega
      · obtain rfl : k = got.length := by omega
        have HRH := Lib.hid (fun w' => rhead_all kind md0 w')
        have HH0 := Lib.hid (headTo ⟨false, A', cap', refs⟩ (kind := kind) (got := got) (side := isSide got) (n := got.length) (by omega))
        rw [show (if isSide got = true then (1 : Int) else 0) = md0 from HMD.out.symm] at HH0
        obtain ⟨p1, p2, hp⟩ := isCx_head kind md0
        rw [hp] at HRH HH0
        clear hp
        have M := Lib.hid (M9.out.trans (show Mod (fun x => x = 340) ⟨own9, w9⟩ ⟨own9, w9.setCell ⟨bw, 1, none⟩ (.complex .f64 p1 p2)⟩ from Mod.st Mod.self B9.out.own))
        have B := Lib.hid (show Blk ⟨own9, w9.setCell ⟨bw, 1, none⟩ (.complex .f64 p1 p2)⟩ 340 bw 74 (flat8 (fieldTo ⟨false, A', cap', refs⟩ kind got (isSide got) 0) got.length) from by rw [← HH0.out]; exact B9.out.set 1 (.complex .f64 p1 p2))
        have cy : w9.cell? ⟨bw, 1, none⟩ = some wZero := B9.out.cell (i := 1) (show (flat8 (linkTo got got.length) got.length)[0 * 8 + 1]? = some wZero by rw [flat8_get (linkTo_len got _) (by omega) (by omega)]; unfold linkTo; rw [if_pos (by omega)]; rfl)
        have fy : w9.frozen? ⟨bw, 1, none⟩ = false := B9.out.live 1
        have ly : bw < w9.heap.size := B9.out.lt
        clear M9 B9 HH0
        go_wp2_with fail
        refine wp_region_mixed [true, true, true, true, true, true, false] 1 6 (by kernel_rfl) (by kernel_rfl) (by kernel_rfl) ?_ (by decide) (by decide) (by decide) (by kernel_rfl) ?_
        · intro c a d v w h; cases d <;> exact h
        intro X00
        simp only [pickOps]
        repeat (go_big_quiet_step ((go_at_call 45; exact Calls.added (HRH.out _))))
        refine wpQuiet_nil (fun X0 => ?_)
        clear X00
        refine wpAnyM_last 6 _ (by kernel_rfl) (by kernel_rfl) rfl rfl (fun X1 K Q' hK => ?_)
        go_simp
        refine hK _ _ (fun X2 => ?_)
        clear hK K Q'
        (try go_simp)
        obtain ⟨own10, m10⟩ : ∃ own10, Mod (fun _ => False) ⟨own9, (w9.setCell ⟨bw, 1, none⟩ (.complex .f64 p1 p2))⟩ ⟨own10, ((w9.setCell ⟨bw, 1, none⟩ (.complex .f64 p1 p2))).patch ⟨X0.blocks ++ (X1.blocks ++ X2.blocks), X2.drawn⟩⟩ := ⟨_, Mod.pt (Mod.refl _ _) _⟩
        generalize ((w9.setCell ⟨bw, 1, none⟩ (.complex .f64 p1 p2))).patch ⟨X0.blocks ++ (X1.blocks ++ X2.blocks), X2.drawn⟩ = w10 at *
        have M10 := Lib.hid (M.out.trans (m10.mono (S := fun x => x = 340) (fun _ => False.elim)))
        have B10 := Lib.hid (B.out.keep m10 id)
        clear m10 M B
        clear cy fy ly
        go_wp2_with fail
        go_loopw [13] (fun i wr => ∃ (k : Nat) (own : Nat → Nat), k ≤ refs.length ∧ i = .int .i64 k ∧ Hid (Mod (fun x => x = 340) ⟨fun _ => 0, w6⟩ ⟨own, wr⟩) ∧ Hid (Blk ⟨own, wr⟩ 340 bw 74 (flat8 (fieldTo ⟨false, A', cap', refs⟩ kind got (isSide got) k) got.length))) (fun i _ => refs.length - (intOf i).toNat)
        case atStart => exact ⟨0, own10, Nat.zero_le _, rfl, M10, B10⟩
        case round =>
          obtain ⟨k, own11, hk, rfl, M11, B11⟩ := hrel
          obtain ⟨w11, rfl⟩ : ∃ w11 : World, w11 = wr := ⟨_, rfl⟩
          clear M10 B10
          have HXX := Lib.hid (fun (own : Nat → Nat) (wr : World) (m : Mod (fun x => x = 340) ⟨fun _ => 0, w6⟩ ⟨own, wr⟩) => HX6.out.trans (ext_340 m))
          have s0 : w11.cell? ⟨w3.heap.size, 0, none⟩ = some (.bool false) := (by simp only [World.cell?, HBS.out _ (HXX.out _ _ M11.out)]; rfl)
          have s1 : w11.cell? ⟨w3.heap.size, 1, none⟩ = some (.slice A' refs.length cap') := (by simp only [World.cell?, HBS.out _ (HXX.out _ _ M11.out)]; rfl)
          have sl : w3.heap.size < w11.heap.size := (Array.getElem?_eq_some_iff.1 (HBS.out _ (HXX.out _ _ M11.out))).1
          by_cases hlk : k < refs.length
          · obtain ⟨pf, pq, hpf, hpq, hq1, hq8, hp0, hp7⟩ := place_lt6 hlk
            have hpn : pf < got.length := by have := HLN.out; have := HSE.out; omega
            have HPL := Lib.hid (fun w' (he : Ext w3 w') => rplace_in A' cap' refs k w' (HOK.out.ext he) HMY.out hlk)
            rw [hpf, hpq] at HPL
            have HFT := Lib.hid (fieldTo_succ (s := ⟨false, A', cap', refs⟩) (kind := kind) (got := got) (side := isSide got) (n := got.length) (show Shp.hasField ⟨false, A', cap', refs⟩ k = true by unfold Shp.hasField; rw [HMY.out]; simp [Shp.len]; omega) hpf hpq hpn hq8)
            obtain ⟨br, or, hA, hbr, zr⟩ := bool_at6 (HOK.out.ext (HW4.out.trans (HXX.out _ _ M11.out))).refs hlk
            subst hA
            have HRB := Lib.hid (fun w' => rblank_any (refs.getD k false) w')
            obtain ⟨p1, p2, hp⟩ := isCx_blank (refs.getD k false)
            rw [show Shp.refs ⟨false, some ⟨br, or, none⟩, cap', refs⟩ = refs from rfl] at HFT
            rw [hp] at HRB HFT
            clear hp hpf hpq hp0 hp7
            generalize refs.getD k false = rb at *
            go_wp2_with fail
            refine (HPL.out _ (HW4.out.trans (HXX.out _ _ M11.out))).mono ?_
            rintro e w12 ⟨rfl, hE12⟩
            obtain ⟨own12, m12⟩ : ∃ own12, Mod (fun _ => False) ⟨own11, w11⟩ ⟨own12, w12⟩ := ⟨_, Mod.ext (g := ⟨own11, w11⟩) (show Ext w11 w12 from hE12) 0⟩
            have M12 := Lib.hid (M11.out.trans (m12.mono (S := fun x => x = 340) (fun _ => False.elim)))
            have B12 := Lib.hid (B11.out.keep m12 id)
            have s0 : w12.cell? ⟨w3.heap.size, 0, none⟩ = some (.bool false) := (by simp only [World.cell?, HBS.out _ (HXX.out _ _ M12.out)]; rfl)
            have s1 : w12.cell? ⟨w3.heap.size, 1, none⟩ = some (.slice (some ⟨br, or, none⟩) refs.length cap') := (by simp only [World.cell?, HBS.out _ (HXX.out _ _ M12.out)]; rfl)
            have sl : w3.heap.size < w12.heap.size := (Array.getElem?_eq_some_iff.1 (HBS.out _ (HXX.out _ _ M12.out))).1
            have zr : w12.cell? ⟨br, or + k, none⟩ = some (.bool rb) := by
              have := (show Ext w11 w12 from hE12).heap br hbr
              have hz := zr
              simp only [World.cell?, this] at hz ⊢
              exact hz
            have hbr : br < w12.heap.size := Nat.lt_of_lt_of_le hbr m12.size
            have M := Lib.hid (M12.out.trans (show Mod (fun x => x = 340) ⟨own12, w12⟩ ⟨own12, w12.setCell ⟨bw, pf * 8 + pq, none⟩ (.complex .f64 p1 p2)⟩ from Mod.st Mod.self B12.out.own))
            have B := Lib.hid (show Blk ⟨own12, w12.setCell ⟨bw, pf * 8 + pq, none⟩ (.complex .f64 p1 p2)⟩ 340 bw 74 (flat8 (fieldTo ⟨false, some ⟨br, or, none⟩, cap', refs⟩ kind got (isSide got) (k + 1)) got.length) from by rw [← HFT.out]; exact B12.out.set (pf * 8 + pq) (.complex .f64 p1 p2))
            obtain ⟨vy, hvy⟩ : ∃ v, (flat8 (fieldTo ⟨false, some ⟨br, or, none⟩, cap', refs⟩ kind got (isSide got) k) got.length)[pf * 8 + pq]? = some v := ⟨_, List.getElem?_eq_getElem (by rw [flat8_len (fieldTo_len _ _ _ _ _)]; omega)⟩
            have cy : w12.cell? ⟨bw, pf * 8 + pq, none⟩ = some vy := B12.out.cell hvy
            have fy : w12.frozen? ⟨bw, pf * 8 + pq, none⟩ = false := B12.out.live (pf * 8 + pq)
            have ly : bw < w12.heap.size := B12.out.lt
            clear m12 hE12 M11 B11 M12 B12 HFT hvy
            go_wp2_with fail
            refine wp_region_mixed [true, true, true, true, true, true, true, true, true, true, true, false] 1 11 (by kernel_rfl) (by kernel_rfl) (by kernel_rfl) ?_ (by decide) (by decide) (by decide) (by kernel_rfl) ?_
            · intro c a d v w h; cases d <;> exact h
            intro X00
            simp only [pickOps]
            repeat (go_big_quiet_step ((go_at_call 46; exact Calls.added (HRB.out _))))
            refine wpQuiet_nil (fun X0 => ?_)
            clear X00
            refine wpAnyM_last 11 _ (by kernel_rfl) (by kernel_rfl) rfl rfl (fun X1 K Q' hK => ?_)
            go_simp
            refine hK _ _ (fun X2 => ?_)
            clear hK K Q'
            (try go_simp)
            obtain ⟨own13, m13⟩ : ∃ own13, Mod (fun _ => False) ⟨own12, (w12.setCell ⟨bw, pf * 8 + pq, none⟩ (.complex .f64 p1 p2))⟩ ⟨own13, ((w12.setCell ⟨bw, pf * 8 + pq, none⟩ (.complex .f64 p1 p2))).patch ⟨X0.blocks ++ (X1.blocks ++ X2.blocks), X2.drawn⟩⟩ := ⟨_, Mod.pt (Mod.refl _ _) _⟩
            generalize ((w12.setCell ⟨bw, pf * 8 + pq, none⟩ (.complex .f64 p1 p2))).patch ⟨X0.blocks ++ (X1.blocks ++ X2.blocks), X2.drawn⟩ = w13 at *
            have M13 := Lib.hid (M.out.trans (m13.mono (S := fun x => x = 340) (fun _ => False.elim)))
            have B13 := Lib.hid (B.out.keep m13 id)
            clear m13 M B
            go_wp2_with fail
            go_roundw
            case rel => exact ⟨k + 1, own13, by omega, by go_num, M13, B13⟩
            case measure => simp [intOf]; omega
          · obtain rfl : k = refs.length := by omega
            have HEW := Lib.hid (HE3.out.trans (HW4.out.trans (HXX.out _ _ M11.out)))
            have HB11 := Lib.hid B11.out.row
            have hf25 : c.frags ≤ 1099511627776 := by have := (Cnf.ranged (Cnf.check_zero HCZ.out).1).1.2; omega
            go_wp2_with fail
            go_loopw [17, 18] (fun l i wr => ∃ k : Nat, k ≤ got.length ∧ i = .int .i64 k ∧ Hid (wr.ownsRow w11.heap.size 48 2 l (8 * k) (objWrites ⟨false, A', cap', refs⟩ kind got (isSide got) k)) ∧ Hid (Ext w11 wr)) (fun _ i _ => got.length - (intOf i).toNat)
            case atStart => exact ⟨0, Nat.zero_le _, rfl, Lib.hid ⟨rfl, Or.inl ⟨rfl, rfl⟩⟩, Lib.hid (Ext.refl _)⟩
            case round =>
              obtain ⟨k, hk, rfl, HR, HX⟩ := hrel
              obtain ⟨w14, rfl⟩ : ∃ w14 : World, w14 = wr := ⟨_, rfl⟩
              by_cases hlt : k < got.length
              · obtain ⟨bg, og, hA, hb, hcell⟩ := ints_at (HG.out.ext (HEW.out.trans HX.out)) hlt
                have g1 := hcell k hlt
                subst hA
                have hfy : 0 ≤ got.getD k 0 ∧ got.getD k 0 < c.frags := of_decide_eq_true (List.all_eq_true.1 HFI.out _ (getD_mem hlt))
                have hlw : bw < w11.heap.size := (Array.getElem?_eq_some_iff.1 HB11.out).1
                have hbk : w14.heap[bw]? = some (.cells (flat8 (fieldTo ⟨false, A', cap', refs⟩ kind got (isSide got) refs.length) got.length).toArray 74) := (HX.out.heap bw hlw).trans HB11.out
                have hwr : objWrites ⟨false, A', cap', refs⟩ kind got (isSide got) (k + 1) = objWrites ⟨false, A', cap', refs⟩ kind got (isSide got) k ++ writes (got.getD k 0) (rowF (objRow ⟨false, A', cap', refs⟩ kind got (isSide got) k)) 8 := rfl
                have hv : ∀ i, i < 8 → w14.cell? ⟨bw, k * 8 + i, none⟩ = some (cx (rowF (objRow ⟨false, A', cap', refs⟩ kind got (isSide got) k) i)) := fun i hi => row_cell hbk (by rw [flat8_get (fieldTo_len _ _ _ _ _) hlt hi]; exact row_f (objRow_length _ _ _ _ _) (objRow_cx _ _ _ _ _) hi)
                generalize rowF (objRow ⟨false, A', cap', refs⟩ kind got (isSide got) k) = f at *
                generalize got.getD k 0 = y at *
                have v0 : w14.cell? ⟨bw, k * 8, none⟩ = some (.complex .f64 (f 0).1 (f 0).2) := hv 0 (by omega)
                have v1 : w14.cell? ⟨bw, k * 8 + 1, none⟩ = some (.complex .f64 (f 1).1 (f 1).2) := hv 1 (by omega)
                have v2 : w14.cell? ⟨bw, k * 8 + 2, none⟩ = some (.complex .f64 (f 2).1 (f 2).2) := hv 2 (by omega)
                have v3 : w14.cell? ⟨bw, k * 8 + 3, none⟩ = some (.complex .f64 (f 3).1 (f 3).2) := hv 3 (by omega)
                have v4 : w14.cell? ⟨bw, k * 8 + 4, none⟩ = some (.complex .f64 (f 4).1 (f 4).2) := hv 4 (by omega)
                have v5 : w14.cell? ⟨bw, k * 8 + 5, none⟩ = some (.complex .f64 (f 5).1 (f 5).2) := hv 5 (by omega)
                have v6 : w14.cell? ⟨bw, k * 8 + 6, none⟩ = some (.complex .f64 (f 6).1 (f 6).2) := hv 6 (by omega)
                have v7 : w14.cell? ⟨bw, k * 8 + 7, none⟩ = some (.complex .f64 (f 7).1 (f 7).2) := hv 7 (by omega)
                have hbw : bw < w14.heap.size := Nat.lt_of_lt_of_le hlw (Ext.size HX.out)
                have HWR := Lib.hid hwr
                have HLY := Lib.hid (fun X => rput_any _ (8 * k) (objWrites ⟨false, A', cap', refs⟩ kind got (isSide got) k) y f (w14.patch X) w11 w11.heap.size hfy.1 (by omega) (HX.out.trans ⟨X, rfl⟩) (Nat.le_refl _) (by rw [World.size_patch]; exact Nat.le_trans (Ext.size HX.out) (Nat.le_add_right _ _)) (own_ext HR.out ⟨X, rfl⟩) (by omega))
                clear hv hbk hwr hlw hfy hcell
                go_wp2_with fail
                refine wp_region_mixed [true, true, true, true, true, true, true, true, true, false, false] 2 9 (by kernel_rfl) (by kernel_rfl) (by kernel_rfl) ?_ (by decide) (by decide) (by decide) (by kernel_rfl) ?_
                · intro c a d v w h; cases d <;> exact h
                intro X00
                simp only [pickOps]
                repeat (go_big_quiet_step (fail))
                refine wpQuiet_nil (fun X0 => ?_)
                clear X00
                refine wpAnyM_tailL rfl (by kernel_rfl) (fun X2 => ?_)
                simp only [List.drop_succ_cons, List.drop_zero]
                go_wp2_with fail
                refine (HLY.out _).mono ?_
                rintro e w15 ⟨v', rfl, hown, hE15, hz15⟩
                rw [← HWR.out] at hown
                have HR5 := Lib.hid (show w15.ownsRow w11.heap.size 48 2 v' (8 * (k + 1)) (objWrites ⟨false, A', cap', refs⟩ kind got (isSide got) (k + 1)) from hown)
                have HX5 := Lib.hid (show Ext w11 w15 from hE15)
                clear hown hE15 hz15
                go_wp2_with fail
                go_roundw
                case rel => exact ⟨k + 1, by omega, by go_num, HR5, HX5⟩
                case measure => simp [intOf]; omega
              · obtain rfl : k = got.length := by omega
                go_wp2_with fail
                go_ret2
                exact ⟨⟨false, A', cap', refs⟩, _, 8 * got.length, by rw [HE.out]; rfl, HP.out, by rw [if_pos HE.out]; exact own_lower HR.out (Ext.size HEW.out), HEW.out.trans HX.out⟩
end Go.Proofs.Ythdijbkcjmeilaa
