import Derived.Test.YtoaehfdjffejeaaGreatKL22
/-
  Packed: Opd, OpdW, Plain.
-/
open Go.Ext renaming alloc → zA, patch → zP, drew → zD, drewN → zN, more → zM, refl → zR, setCell → zS
open Nat renaming le_refl → zL, le_add_right → zK
/-
  act: operands; which of the operands are of the wrong kind, or none.
-/
namespace Go.Proofs.YtoaehfdjffejeaaGreat
open Go Go.RowKit
set_option linter.unusedVariables false
set_option linter.unnecessarySimpa false
set_option linter.unusedSimpArgs false
set_option maxHeartbeats 2000000
set_option maxRecDepth 100000
def kindB (rf : Bool) (v : LVal) : Bool := v.ref != rf
def noneB (v : LVal) : Bool := sameF v.z zNone
theorem opd1_any (v : LVal) (p : Nat) (rf : Bool) (w : World) (hp : w.cell? ⟨p, 0, none⟩ = some (.bool rf)) (hl : p < w.heap.size) : Calls Tryz.prog 131 #[.agg #[.bool v.ref, .complex .f64 v.z.1 v.z.2], .pointer (some ⟨p, 0, none⟩)] w (Gives (.bool (kindB rf v)) w) := by
  have HV := Lib.hid (show kindB rf v = (v.ref != rf) from rfl)
  generalize v.ref = a at *
  go_enter Tryz.func131, Tryz.ntmps131
  go_wp2_with fail
  go_ret
  exact Gives.mk (by rw [HV.out]; cases a <;> cases rf <;> rfl) (by (repeat (first | (with_reducible (first | assumption | exact zR _ | exact zM _ _ _ _)) | apply zA | refine zS ?_ (by first | exact zL _ | exact zK _ _ | assumption) _ | apply zP | apply zD | apply zN)))
theorem opd2_any (v : LVal) (w : World) : Calls Tryz.prog 132 #[.agg #[.bool v.ref, .complex .f64 v.z.1 v.z.2]] w (Gives (.bool (noneB v)) w) := by
  have HV := Lib.hid (show noneB v = sameF v.z zNone from rfl)
  have HN := Lib.hid (fun w' => none_any w')
  have HS := Lib.hid (fun w' => show Calls Tryz.prog 119 #[.complex .f64 v.z.1 v.z.2, .complex .f64 0 4607182418800017408] w' (fun e w'' => e = .returned (.bool (sameF v.z zNone)) ∧ w' = w'') from nsame_any v.z zNone w')
  generalize sameF v.z zNone = so at *
  unfold wNone at HN
  go_enter Tryz.func132, Tryz.ntmps132
  go_wp2_with fail
  obtain ⟨w0, hW⟩ : ∃ w0, w.alloc (.cells #[.bool v.ref, .complex .f64 v.z.1 v.z.2] 34) = w0 := ⟨_, rfl⟩
  have x0 : w0.cell? ⟨w.heap.size, 0, none⟩ = some (.bool v.ref) := by rw [← hW]; clear hW; go_simp
  have x1 : w0.cell? ⟨w.heap.size, 1, none⟩ = some (.complex .f64 v.z.1 v.z.2) := by rw [← hW]; clear hW; go_simp
  have hE0 := Lib.hid (show Ext w w0 by rw [← hW]; clear hW; (repeat (first | (with_reducible (first | assumption | exact zR _ | exact zM _ _ _ _)) | apply zA | refine zS ?_ (by first | exact zL _ | exact zK _ _ | assumption) _ | apply zP | apply zD | apply zN)))
  have hl : w.heap.size < w0.heap.size := by rw [← hW]; clear hW; go_simp
  rw [hW]
  clear hW
  refine wp_region_mixed [true, true, true, true, true] 0 5 (by kernel_rfl) (by kernel_rfl) (by kernel_rfl) ?_ (by decide) (by decide) (by decide) (by kernel_rfl) ?_
  · intro c a d v w h; cases d <;> exact h
  intro X00
  simp only [pickOps]
  repeat (go_big_quiet_step (first | (go_at_call 43; exact Calls.added (HN.out _)) | (go_at_call 119; exact Calls.added (same_gives (HS.out _)))))
  refine wpQuiet_nil (fun X0 => ?_)
  clear X00
  refine wpAnyM_done (by kernel_rfl) (fun X0' => ?_) _
  (try go_simp)
  go_wp2_with fail
  go_ret
  exact Gives.mk (by rw [HV.out]; rfl) (hE0.out.trans (by (repeat (first | (with_reducible (first | assumption | exact zR _ | exact zM _ _ _ _)) | apply zA | refine zS ?_ (by first | exact zL _ | exact zK _ _ | assumption) _ | apply zP | apply zD | apply zN))))
theorem lval_at {w : World} {A : Option Addr} {l : List LVal} (h : CellsAt w A (l.flatMap LVal.cells)) {k : Nat} (hk : k < l.length) : ∃ b o, A = some ⟨b, o, none⟩ ∧ b < w.heap.size ∧ w.cell? ⟨b, o + k * 2, none⟩ = some (.bool (l.getD k LVal.zero).ref) ∧ w.cell? ⟨b, o + k * 2 + 1, none⟩ = some (.complex .f64 (l.getD k LVal.zero).z.1 (l.getD k LVal.zero).z.2) := by
  obtain ⟨f0, f1⟩ := lflat_get l k _ (AcS_getD hk)
  obtain ⟨b, o, rfl, hb, hc⟩ := h.cases (by have := (List.getElem?_eq_some_iff.1 f0).1; omega)
  exact ⟨b, o, rfl, hb, hc _ _ f0, by rw [Nat.add_assoc]; exact hc _ _ f1⟩
def IdxV (q : LVal → Bool) (l : List LVal) (w : World) (e : Ending) (w' : World) : Prop := ∃ n : Int, e = .returned (.int .i64 n) ∧ decide (0 ≤ n) = l.any q ∧ Ext w w'
theorem any_no {q : LVal → Bool} {l : List LVal} (h : ∀ v ∈ l, q v = false) : l.any q = false := by
  rw [List.any_eq_false]
  intro x hx
  rw [h x hx]
  simp
theorem any_yes {q : LVal → Bool} {l : List LVal} {k : Nat} {v : LVal} (h : l[k]? = some v) (hv : q v = true) : l.any q = true := by
  rw [List.any_eq_true]
  exact ⟨v, List.mem_of_getElem? h, hv⟩
theorem idx1_any (A : Option Addr) (c : Nat) (l : List LVal) (p : Nat) (rf : Bool) (w : World) (hc : CellsAt w A (l.flatMap LVal.cells)) (hl : l.length ≤ 1000) (hp : w.cell? ⟨p, 0, none⟩ = some (.bool rf)) (hpl : p < w.heap.size) :
    Calls Tryz.prog 162 #[.slice A l.length c, .func (.func 131) #[] #[.pointer (some ⟨p, 0, none⟩)]] w (IdxV (kindB rf) l w) := by
  have HC := Lib.hid hc
  have HP := Lib.hid (fun w' (he : Ext w w') => (⟨(he.cell hpl).trans hp, Nat.lt_of_lt_of_le hpl he.size⟩ : w'.cell? ⟨p, 0, none⟩ = some (.bool rf) ∧ p < w'.heap.size))
  clear hc hp hpl
  go_enter Tryz.func162, Tryz.ntmps162
  go_wp2_with fail
  go_loopw [8] (fun i wr => ∃ k : Nat, k ≤ l.length ∧ i = .int .i64 k ∧ Hid (∀ v ∈ l.take k, kindB rf v = false) ∧ Hid (Ext w wr)) (fun i _ => l.length - (intOf i).toNat)
  case atStart => exact ⟨0, Nat.zero_le _, rfl, Lib.hid (by simp), Lib.hid (Ext.refl _)⟩
  case round =>
    obtain ⟨k, hk, rfl, hm, HE⟩ := hrel
    by_cases hlt : k < l.length
    · obtain ⟨b, o, hA, hb, g0, g1⟩ := lval_at (HC.out.ext HE.out) hlt
      have HX := Lib.hid (AcS_getD hlt)
      generalize l.getD k LVal.zero = v at *
      have HFV := Lib.hid (opd1_any v p rf wr (HP.out wr HE.out).1 (HP.out wr HE.out).2)
      subst hA
      go_wp2_with fail
      refine HFV.out.mono ?_
      rintro e w1 ⟨rfl, hX⟩
      have HE1 := Lib.hid (HE.out.trans (show Ext wr w1 from hX))
      clear hX
      cases hv : kindB rf v
      · have HN := Lib.hid (take_all HX.out hm.out hv)
        clear hv
        go_wp2_with fail
        go_roundw
        case rel => exact ⟨k + 1, by omega, by go_num, HN, HE1⟩
        case measure => simp [intOf]; omega
      · have HN := Lib.hid (any_yes HX.out hv)
        clear hv
        go_wp2_with fail
        go_ret
        exact ⟨_, rfl, by rw [HN.out]; simp, HE1.out⟩
    · have HN := Lib.hid (any_no (fun v hv => hm.out v (by rw [List.take_of_length_le (by omega)]; exact hv)))
      go_wp2_with fail
      go_ret
      exact ⟨_, rfl, by rw [HN.out]; rfl, HE.out⟩
theorem idx2_any (A : Option Addr) (c : Nat) (l : List LVal) (w : World) (hc : CellsAt w A (l.flatMap LVal.cells)) (hl : l.length ≤ 1000) :
    Calls Tryz.prog 162 #[.slice A l.length c, .func (.func 132) #[] #[]] w (IdxV noneB l w) := by
  have HC := Lib.hid hc
  clear hc
  go_enter Tryz.func162, Tryz.ntmps162
  go_wp2_with fail
  go_loopw [8] (fun i wr => ∃ k : Nat, k ≤ l.length ∧ i = .int .i64 k ∧ Hid (∀ v ∈ l.take k, noneB v = false) ∧ Hid (Ext w wr)) (fun i _ => l.length - (intOf i).toNat)
  case atStart => exact ⟨0, Nat.zero_le _, rfl, Lib.hid (by simp), Lib.hid (Ext.refl _)⟩
  case round =>
    obtain ⟨k, hk, rfl, hm, HE⟩ := hrel
    by_cases hlt : k < l.length
    · obtain ⟨b, o, hA, hb, g0, g1⟩ := lval_at (HC.out.ext HE.out) hlt
      have HX := Lib.hid (AcS_getD hlt)
      generalize l.getD k LVal.zero = v at *
      have HFV := Lib.hid (opd2_any v wr)
      subst hA
      go_wp2_with fail
      refine HFV.out.mono ?_
      rintro e w1 ⟨rfl, hX⟩
      have HE1 := Lib.hid (HE.out.trans (show Ext wr w1 from hX))
      clear hX
      cases hv : noneB v
      · have HN := Lib.hid (take_all HX.out hm.out hv)
        clear hv
        go_wp2_with fail
        go_roundw
        case rel => exact ⟨k + 1, by omega, by go_num, HN, HE1⟩
        case measure => simp [intOf]; omega
      · have HN := Lib.hid (any_yes HX.out hv)
        clear hv
        go_wp2_with fail
        go_ret
        exact ⟨_, rfl, by rw [HN.out]; simp, HE1.out⟩
    · have HN := Lib.hid (any_no (fun v hv => hm.out v (by rw [List.take_of_length_le (by omega)]; exact hv)))
      go_wp2_with fail
      go_ret
      exact ⟨_, rfl, by rw [HN.out]; rfl, HE.out⟩
theorem con1_any (A : Option Addr) (c : Nat) (l : List LVal) (p : Nat) (rf : Bool) (w : World) (hc : CellsAt w A (l.flatMap LVal.cells)) (hl : l.length ≤ 1000) (hp : w.cell? ⟨p, 0, none⟩ = some (.bool rf)) (hpl : p < w.heap.size) :
    Calls Tryz.prog 130 #[.slice A l.length c, .func (.func 131) #[] #[.pointer (some ⟨p, 0, none⟩)]] w (Gives (.bool (l.any (kindB rf))) w) := by
  have HI := Lib.hid (idx1_any A c l p rf w hc hl hp hpl)
  clear hc hp hpl
  go_enter Tryz.func130, Tryz.ntmps130
  go_wp2_with fail
  refine HI.out.mono ?_
  rintro e w1 ⟨n, rfl, hn, X, rfl⟩
  have HN := Lib.hid hn
  clear hn
  go_wp2_with fail
  go_ret
  exact Gives.bool HN.out (by (repeat (first | (with_reducible (first | assumption | exact zR _ | exact zM _ _ _ _)) | apply zA | refine zS ?_ (by first | exact zL _ | exact zK _ _ | assumption) _ | apply zP | apply zD | apply zN)))
theorem con2_any (A : Option Addr) (c : Nat) (l : List LVal) (w : World) (hc : CellsAt w A (l.flatMap LVal.cells)) (hl : l.length ≤ 1000) :
    Calls Tryz.prog 130 #[.slice A l.length c, .func (.func 132) #[] #[]] w (Gives (.bool (l.any noneB)) w) := by
  have HI := Lib.hid (idx2_any A c l w hc hl)
  clear hc
  go_enter Tryz.func130, Tryz.ntmps130
  go_wp2_with fail
  refine HI.out.mono ?_
  rintro e w1 ⟨n, rfl, hn, X, rfl⟩
  have HN := Lib.hid hn
  clear hn
  go_wp2_with fail
  go_ret
  exact Gives.bool HN.out (by (repeat (first | (with_reducible (first | assumption | exact zR _ | exact zM _ _ _ _)) | apply zA | refine zS ?_ (by first | exact zL _ | exact zK _ _ | assumption) _ | apply zP | apply zD | apply zN)))
end Go.Proofs.YtoaehfdjffejeaaGreat

/-
  act: operands, kind for kind.
-/
namespace Go.Proofs.YtoaehfdjffejeaaGreat
open Go Go.RowKit
set_option linter.unusedVariables false
set_option linter.unnecessarySimpa false
set_option linter.unusedSimpArgs false
set_option maxHeartbeats 2000000
set_option maxRecDepth 100000
theorem operandsE_of {A : AcS} {o : Opr} {l : List LVal} {rf so : Bool} (h1 : A.mustL o = l) (h2 : AcS.refB o = rf) (h3 : AcS.someB o = so) : A.operandsE o = if l.any (kindB rf) then 4 else if so && l.any noneB then 3 else 0 := by
  unfold AcS.operandsE
  rw [h1, h2, h3]
  rfl
section
variable (g : GW) (t b : Nat) (A : AcS) (p : AcP)
theorem operands_1 (H : AcAt g t b A p) (oa ob oc on : Int) (x y : Nat) : Calls Tryz.prog 90 #[.pointer (some ⟨b, 0, none⟩), .agg #[.int .i64 1, .int .i64 oa, .int .i64 ob, .int .i64 oc, .int .i64 on, .complex .f64 x y]] g.w (Gives (.int .i64 (A.operandsE ⟨1, oa, ob, oc, on, x, y⟩)) g.w) := by
  have HV := Lib.hid (operandsE_of (A := A) (o := ⟨1, oa, ob, oc, on, x, y⟩) (l := []) (rf := true) (so := true) rfl rfl rfl)
  obtain ⟨a0, a1, a2, a3, a4, a5, a6, a7, a8, a9, a10, a11, a12, a13, a14, a15, a16, a17, a18, al⟩ := H.blk.c19
  (try simp only [GW.to] at a0 a1 a2 a3 a4 a5 a6 a7 a8 a9 a10 a11 a12 a13 a14 a15 a16 a17 a18 al)
  clear H
  go_enter Tryz.func90, Tryz.ntmps90
  go_upto_region 20 with fail
  obtain ⟨w1, hW⟩ : ∃ w1, ((g.w.alloc (.cells #[.int .i64 1, .int .i64 oa, .int .i64 ob, .int .i64 oc, .int .i64 on, .complex .f64 x y] 26)).alloc (.cells #[.bool true] 4)) = w1 := ⟨_, rfl⟩
  rw [hW]
  have hE := Lib.hid (show Ext g.w w1 by rw [← hW]; (repeat (first | (with_reducible (first | assumption | exact zR _ | exact zM _ _ _ _)) | apply zA | refine zS ?_ (by first | exact zL _ | exact zK _ _ | assumption) _ | apply zP | apply zD | apply zN)))
  have r0 : w1.cell? ⟨g.w.heap.size + 1, 0, none⟩ = some (.bool true) := by rw [← hW]; clear hW; go_simp
  have hlr : g.w.heap.size + 1 < w1.heap.size := by rw [← hW]; clear hW; go_simp
  have hs : CellsAt w1 none (([] : List LVal).flatMap LVal.cells) := CellsAt.nil _ _
  have HK1 := Lib.hid (show Calls Tryz.prog 130 #[.slice none 0 0, .func (.func 131) #[] #[.pointer (some ⟨g.w.heap.size + 1, 0, none⟩)]] w1 (Gives (.bool (List.any ([] : List LVal) (kindB true))) w1) from con1_any none 0 ([] : List LVal) _ true w1 hs (by simp) r0 hlr)
  have HK2 := Lib.hid (fun w' (he : Ext w1 w') => show Calls Tryz.prog 130 #[.slice none 0 0, .func (.func 132) #[] #[]] w' (Gives (.bool (List.any ([] : List LVal) noneB)) w') from con2_any none 0 ([] : List LVal) w' (hs.ext he) (by simp))
  have HRF := Lib.hid (fun w' (he : Ext w1 w') => (he.cell hlr).trans r0)
  generalize List.any ([] : List LVal) (kindB true) = kb1 at *
  generalize List.any ([] : List LVal) noneB = nb1 at *
  clear hs hW
  go_wp2_with fail
  refine HK1.out.mono ?_
  rintro e w2 ⟨rfl, X2, rfl⟩
  cases kb1
  · go_wp2_with fail
    refine (HK2.out _ (by (repeat (first | (with_reducible (first | assumption | exact zR _ | exact zM _ _ _ _)) | apply zA | refine zS ?_ (by first | exact zL _ | exact zK _ _ | assumption) _ | apply zP | apply zD | apply zN)))).mono ?_
    rintro e w3 ⟨rfl, X3, rfl⟩
    cases nb1
    · go_wp2_with fail
      go_ret
      exact Gives.mk (by rw [HV.out]; rfl) (hE.out.trans (by (repeat (first | (with_reducible (first | assumption | exact zR _ | exact zM _ _ _ _)) | apply zA | refine zS ?_ (by first | exact zL _ | exact zK _ _ | assumption) _ | apply zP | apply zD | apply zN))))
    · go_wp2_with fail
      go_ret
      exact Gives.mk (by rw [HV.out]; rfl) (hE.out.trans (by (repeat (first | (with_reducible (first | assumption | exact zR _ | exact zM _ _ _ _)) | apply zA | refine zS ?_ (by first | exact zL _ | exact zK _ _ | assumption) _ | apply zP | apply zD | apply zN))))
  · go_wp2_with fail
    go_ret
    exact Gives.mk (by rw [HV.out]; rfl) (hE.out.trans (by (repeat (first | (with_reducible (first | assumption | exact zR _ | exact zM _ _ _ _)) | apply zA | refine zS ?_ (by first | exact zL _ | exact zK _ _ | assumption) _ | apply zP | apply zD | apply zN))))
theorem operands_12 (H : AcAt g t b A p) (oa ob oc on : Int) (x y : Nat) : Calls Tryz.prog 90 #[.pointer (some ⟨b, 0, none⟩), .agg #[.int .i64 12, .int .i64 oa, .int .i64 ob, .int .i64 oc, .int .i64 on, .complex .f64 x y]] g.w (Gives (.int .i64 (A.operandsE ⟨12, oa, ob, oc, on, x, y⟩)) g.w) := by
  have HV := Lib.hid (operandsE_of (A := A) (o := ⟨12, oa, ob, oc, on, x, y⟩) (l := []) (rf := true) (so := true) rfl rfl rfl)
  obtain ⟨a0, a1, a2, a3, a4, a5, a6, a7, a8, a9, a10, a11, a12, a13, a14, a15, a16, a17, a18, al⟩ := H.blk.c19
  (try simp only [GW.to] at a0 a1 a2 a3 a4 a5 a6 a7 a8 a9 a10 a11 a12 a13 a14 a15 a16 a17 a18 al)
  clear H
  go_enter Tryz.func90, Tryz.ntmps90
  go_upto_region 20 with fail
  obtain ⟨w1, hW⟩ : ∃ w1, ((g.w.alloc (.cells #[.int .i64 12, .int .i64 oa, .int .i64 ob, .int .i64 oc, .int .i64 on, .complex .f64 x y] 26)).alloc (.cells #[.bool true] 4)) = w1 := ⟨_, rfl⟩
  rw [hW]
  have hE := Lib.hid (show Ext g.w w1 by rw [← hW]; (repeat (first | (with_reducible (first | assumption | exact zR _ | exact zM _ _ _ _)) | apply zA | refine zS ?_ (by first | exact zL _ | exact zK _ _ | assumption) _ | apply zP | apply zD | apply zN)))
  have r0 : w1.cell? ⟨g.w.heap.size + 1, 0, none⟩ = some (.bool true) := by rw [← hW]; clear hW; go_simp
  have hlr : g.w.heap.size + 1 < w1.heap.size := by rw [← hW]; clear hW; go_simp
  have hs : CellsAt w1 none (([] : List LVal).flatMap LVal.cells) := CellsAt.nil _ _
  have HK1 := Lib.hid (show Calls Tryz.prog 130 #[.slice none 0 0, .func (.func 131) #[] #[.pointer (some ⟨g.w.heap.size + 1, 0, none⟩)]] w1 (Gives (.bool (List.any ([] : List LVal) (kindB true))) w1) from con1_any none 0 ([] : List LVal) _ true w1 hs (by simp) r0 hlr)
  have HK2 := Lib.hid (fun w' (he : Ext w1 w') => show Calls Tryz.prog 130 #[.slice none 0 0, .func (.func 132) #[] #[]] w' (Gives (.bool (List.any ([] : List LVal) noneB)) w') from con2_any none 0 ([] : List LVal) w' (hs.ext he) (by simp))
  have HRF := Lib.hid (fun w' (he : Ext w1 w') => (he.cell hlr).trans r0)
  generalize List.any ([] : List LVal) (kindB true) = kb1 at *
  generalize List.any ([] : List LVal) noneB = nb1 at *
  clear hs hW
  go_wp2_with fail
  refine HK1.out.mono ?_
  rintro e w2 ⟨rfl, X2, rfl⟩
  cases kb1
  · go_wp2_with fail
    refine (HK2.out _ (by (repeat (first | (with_reducible (first | assumption | exact zR _ | exact zM _ _ _ _)) | apply zA | refine zS ?_ (by first | exact zL _ | exact zK _ _ | assumption) _ | apply zP | apply zD | apply zN)))).mono ?_
    rintro e w3 ⟨rfl, X3, rfl⟩
    cases nb1
    · go_wp2_with fail
      go_ret
      exact Gives.mk (by rw [HV.out]; rfl) (hE.out.trans (by (repeat (first | (with_reducible (first | assumption | exact zR _ | exact zM _ _ _ _)) | apply zA | refine zS ?_ (by first | exact zL _ | exact zK _ _ | assumption) _ | apply zP | apply zD | apply zN))))
    · go_wp2_with fail
      go_ret
      exact Gives.mk (by rw [HV.out]; rfl) (hE.out.trans (by (repeat (first | (with_reducible (first | assumption | exact zR _ | exact zM _ _ _ _)) | apply zA | refine zS ?_ (by first | exact zL _ | exact zK _ _ | assumption) _ | apply zP | apply zD | apply zN))))
  · go_wp2_with fail
    go_ret
    exact Gives.mk (by rw [HV.out]; rfl) (hE.out.trans (by (repeat (first | (with_reducible (first | assumption | exact zR _ | exact zM _ _ _ _)) | apply zA | refine zS ?_ (by first | exact zL _ | exact zK _ _ | assumption) _ | apply zP | apply zD | apply zN))))
theorem operands_13 (H : AcAt g t b A p) (oa ob oc on : Int) (x y : Nat) : Calls Tryz.prog 90 #[.pointer (some ⟨b, 0, none⟩), .agg #[.int .i64 13, .int .i64 oa, .int .i64 ob, .int .i64 oc, .int .i64 on, .complex .f64 x y]] g.w (Gives (.int .i64 (A.operandsE ⟨13, oa, ob, oc, on, x, y⟩)) g.w) := by
  have HV := Lib.hid (operandsE_of (A := A) (o := ⟨13, oa, ob, oc, on, x, y⟩) (l := []) (rf := true) (so := true) rfl rfl rfl)
  obtain ⟨a0, a1, a2, a3, a4, a5, a6, a7, a8, a9, a10, a11, a12, a13, a14, a15, a16, a17, a18, al⟩ := H.blk.c19
  (try simp only [GW.to] at a0 a1 a2 a3 a4 a5 a6 a7 a8 a9 a10 a11 a12 a13 a14 a15 a16 a17 a18 al)
  clear H
  go_enter Tryz.func90, Tryz.ntmps90
  go_upto_region 20 with fail
  obtain ⟨w1, hW⟩ : ∃ w1, ((g.w.alloc (.cells #[.int .i64 13, .int .i64 oa, .int .i64 ob, .int .i64 oc, .int .i64 on, .complex .f64 x y] 26)).alloc (.cells #[.bool true] 4)) = w1 := ⟨_, rfl⟩
  rw [hW]
  have hE := Lib.hid (show Ext g.w w1 by rw [← hW]; (repeat (first | (with_reducible (first | assumption | exact zR _ | exact zM _ _ _ _)) | apply zA | refine zS ?_ (by first | exact zL _ | exact zK _ _ | assumption) _ | apply zP | apply zD | apply zN)))
  have r0 : w1.cell? ⟨g.w.heap.size + 1, 0, none⟩ = some (.bool true) := by rw [← hW]; clear hW; go_simp
  have hlr : g.w.heap.size + 1 < w1.heap.size := by rw [← hW]; clear hW; go_simp
  have hs : CellsAt w1 none (([] : List LVal).flatMap LVal.cells) := CellsAt.nil _ _
  have HK1 := Lib.hid (show Calls Tryz.prog 130 #[.slice none 0 0, .func (.func 131) #[] #[.pointer (some ⟨g.w.heap.size + 1, 0, none⟩)]] w1 (Gives (.bool (List.any ([] : List LVal) (kindB true))) w1) from con1_any none 0 ([] : List LVal) _ true w1 hs (by simp) r0 hlr)
  have HK2 := Lib.hid (fun w' (he : Ext w1 w') => show Calls Tryz.prog 130 #[.slice none 0 0, .func (.func 132) #[] #[]] w' (Gives (.bool (List.any ([] : List LVal) noneB)) w') from con2_any none 0 ([] : List LVal) w' (hs.ext he) (by simp))
  have HRF := Lib.hid (fun w' (he : Ext w1 w') => (he.cell hlr).trans r0)
  generalize List.any ([] : List LVal) (kindB true) = kb1 at *
  generalize List.any ([] : List LVal) noneB = nb1 at *
  clear hs hW
  go_wp2_with fail
  refine HK1.out.mono ?_
  rintro e w2 ⟨rfl, X2, rfl⟩
  cases kb1
  · go_wp2_with fail
    refine (HK2.out _ (by (repeat (first | (with_reducible (first | assumption | exact zR _ | exact zM _ _ _ _)) | apply zA | refine zS ?_ (by first | exact zL _ | exact zK _ _ | assumption) _ | apply zP | apply zD | apply zN)))).mono ?_
    rintro e w3 ⟨rfl, X3, rfl⟩
    cases nb1
    · go_wp2_with fail
      go_ret
      exact Gives.mk (by rw [HV.out]; rfl) (hE.out.trans (by (repeat (first | (with_reducible (first | assumption | exact zR _ | exact zM _ _ _ _)) | apply zA | refine zS ?_ (by first | exact zL _ | exact zK _ _ | assumption) _ | apply zP | apply zD | apply zN))))
    · go_wp2_with fail
      go_ret
      exact Gives.mk (by rw [HV.out]; rfl) (hE.out.trans (by (repeat (first | (with_reducible (first | assumption | exact zR _ | exact zM _ _ _ _)) | apply zA | refine zS ?_ (by first | exact zL _ | exact zK _ _ | assumption) _ | apply zP | apply zD | apply zN))))
  · go_wp2_with fail
    go_ret
    exact Gives.mk (by rw [HV.out]; rfl) (hE.out.trans (by (repeat (first | (with_reducible (first | assumption | exact zR _ | exact zM _ _ _ _)) | apply zA | refine zS ?_ (by first | exact zL _ | exact zK _ _ | assumption) _ | apply zP | apply zD | apply zN))))
theorem operands_18 (H : AcAt g t b A p) (oa ob oc on : Int) (x y : Nat) : Calls Tryz.prog 90 #[.pointer (some ⟨b, 0, none⟩), .agg #[.int .i64 18, .int .i64 oa, .int .i64 ob, .int .i64 oc, .int .i64 on, .complex .f64 x y]] g.w (Gives (.int .i64 (A.operandsE ⟨18, oa, ob, oc, on, x, y⟩)) g.w) := by
  have HV := Lib.hid (operandsE_of (A := A) (o := ⟨18, oa, ob, oc, on, x, y⟩) (l := []) (rf := true) (so := true) rfl rfl rfl)
  obtain ⟨a0, a1, a2, a3, a4, a5, a6, a7, a8, a9, a10, a11, a12, a13, a14, a15, a16, a17, a18, al⟩ := H.blk.c19
  (try simp only [GW.to] at a0 a1 a2 a3 a4 a5 a6 a7 a8 a9 a10 a11 a12 a13 a14 a15 a16 a17 a18 al)
  clear H
  go_enter Tryz.func90, Tryz.ntmps90
  go_upto_region 20 with fail
  obtain ⟨w1, hW⟩ : ∃ w1, ((g.w.alloc (.cells #[.int .i64 18, .int .i64 oa, .int .i64 ob, .int .i64 oc, .int .i64 on, .complex .f64 x y] 26)).alloc (.cells #[.bool true] 4)) = w1 := ⟨_, rfl⟩
  rw [hW]
  have hE := Lib.hid (show Ext g.w w1 by rw [← hW]; (repeat (first | (with_reducible (first | assumption | exact zR _ | exact zM _ _ _ _)) | apply zA | refine zS ?_ (by first | exact zL _ | exact zK _ _ | assumption) _ | apply zP | apply zD | apply zN)))
  have r0 : w1.cell? ⟨g.w.heap.size + 1, 0, none⟩ = some (.bool true) := by rw [← hW]; clear hW; go_simp
  have hlr : g.w.heap.size + 1 < w1.heap.size := by rw [← hW]; clear hW; go_simp
  have hs : CellsAt w1 none (([] : List LVal).flatMap LVal.cells) := CellsAt.nil _ _
  have HK1 := Lib.hid (show Calls Tryz.prog 130 #[.slice none 0 0, .func (.func 131) #[] #[.pointer (some ⟨g.w.heap.size + 1, 0, none⟩)]] w1 (Gives (.bool (List.any ([] : List LVal) (kindB true))) w1) from con1_any none 0 ([] : List LVal) _ true w1 hs (by simp) r0 hlr)
  have HK2 := Lib.hid (fun w' (he : Ext w1 w') => show Calls Tryz.prog 130 #[.slice none 0 0, .func (.func 132) #[] #[]] w' (Gives (.bool (List.any ([] : List LVal) noneB)) w') from con2_any none 0 ([] : List LVal) w' (hs.ext he) (by simp))
  have HRF := Lib.hid (fun w' (he : Ext w1 w') => (he.cell hlr).trans r0)
  generalize List.any ([] : List LVal) (kindB true) = kb1 at *
  generalize List.any ([] : List LVal) noneB = nb1 at *
  clear hs hW
  go_wp2_with fail
  refine HK1.out.mono ?_
  rintro e w2 ⟨rfl, X2, rfl⟩
  cases kb1
  · go_wp2_with fail
    refine (HK2.out _ (by (repeat (first | (with_reducible (first | assumption | exact zR _ | exact zM _ _ _ _)) | apply zA | refine zS ?_ (by first | exact zL _ | exact zK _ _ | assumption) _ | apply zP | apply zD | apply zN)))).mono ?_
    rintro e w3 ⟨rfl, X3, rfl⟩
    cases nb1
    · go_wp2_with fail
      go_ret
      exact Gives.mk (by rw [HV.out]; rfl) (hE.out.trans (by (repeat (first | (with_reducible (first | assumption | exact zR _ | exact zM _ _ _ _)) | apply zA | refine zS ?_ (by first | exact zL _ | exact zK _ _ | assumption) _ | apply zP | apply zD | apply zN))))
    · go_wp2_with fail
      go_ret
      exact Gives.mk (by rw [HV.out]; rfl) (hE.out.trans (by (repeat (first | (with_reducible (first | assumption | exact zR _ | exact zM _ _ _ _)) | apply zA | refine zS ?_ (by first | exact zL _ | exact zK _ _ | assumption) _ | apply zP | apply zD | apply zN))))
  · go_wp2_with fail
    go_ret
    exact Gives.mk (by rw [HV.out]; rfl) (hE.out.trans (by (repeat (first | (with_reducible (first | assumption | exact zR _ | exact zM _ _ _ _)) | apply zA | refine zS ?_ (by first | exact zL _ | exact zK _ _ | assumption) _ | apply zP | apply zD | apply zN))))
theorem operands_3 (H : AcAt g t b A p) (oa ob oc on : Int) (x y : Nat) (hb : 0 ≤ ob ∧ ob < A.locals.length) : Calls Tryz.prog 90 #[.pointer (some ⟨b, 0, none⟩), .agg #[.int .i64 3, .int .i64 oa, .int .i64 ob, .int .i64 oc, .int .i64 on, .complex .f64 x y]] g.w (Gives (.int .i64 (A.operandsE ⟨3, oa, ob, oc, on, x, y⟩)) g.w) := by
  obtain ⟨kb, rfl⟩ : ∃ k : Nat, ob = k := ⟨(ob).toNat, by omega⟩
  have hkb : kb < A.locals.length := by omega
  obtain ⟨q, hA, hq, -, c0, c1, -⟩ := H.r.local_ hkb
  have HV := Lib.hid (operandsE_of (A := A) (o := ⟨3, oa, kb, oc, on, x, y⟩) (l := [A.loc kb]) (rf := true) (so := true) rfl rfl rfl)
  obtain ⟨a0, a1, a2, a3, a4, a5, a6, a7, a8, a9, a10, a11, a12, a13, a14, a15, a16, a17, a18, al⟩ := H.blk.c19
  (try simp only [GW.to] at a0 a1 a2 a3 a4 a5 a6 a7 a8 a9 a10 a11 a12 a13 a14 a15 a16 a17 a18 al)
  rw [hA] at a2
  clear H hb hA
  generalize A.locals.length = n at *
  generalize A.loc kb = v at *
  go_enter Tryz.func90, Tryz.ntmps90
  go_upto_region 20 with fail
  obtain ⟨w1, hW⟩ : ∃ w1, (((g.w.alloc (.cells #[.int .i64 3, .int .i64 oa, .int .i64 kb, .int .i64 oc, .int .i64 on, .complex .f64 x y] 26)).alloc (.cells #[.bool true] 4)).alloc (.cells #[.bool v.ref, .complex .f64 v.z.1 v.z.2] 34)) = w1 := ⟨_, rfl⟩
  rw [hW]
  have hE := Lib.hid (show Ext g.w w1 by rw [← hW]; (repeat (first | (with_reducible (first | assumption | exact zR _ | exact zM _ _ _ _)) | apply zA | refine zS ?_ (by first | exact zL _ | exact zK _ _ | assumption) _ | apply zP | apply zD | apply zN)))
  have r0 : w1.cell? ⟨g.w.heap.size + 1, 0, none⟩ = some (.bool true) := by rw [← hW]; clear hW; go_simp
  have hlr : g.w.heap.size + 1 < w1.heap.size := by rw [← hW]; clear hW; go_simp
  have hs : CellsAt w1 (some ⟨g.w.heap.size + 1 + 1, 0, none⟩) ([v].flatMap LVal.cells) := CellsAt.mk (by rw [← hW]; clear hW; go_simp) (fun i u hi => by
    rw [← hW]
    clear hW
    match i, hi with
    | 0, hi => injection hi with hi; subst hi; go_simp
    | 1, hi => injection hi with hi; subst hi; go_simp)
  have HK1 := Lib.hid (show Calls Tryz.prog 130 #[.slice (some ⟨g.w.heap.size + 1 + 1, 0, none⟩) 1 1, .func (.func 131) #[] #[.pointer (some ⟨g.w.heap.size + 1, 0, none⟩)]] w1 (Gives (.bool (List.any [v] (kindB true))) w1) from con1_any (some ⟨g.w.heap.size + 1 + 1, 0, none⟩) 1 [v] _ true w1 hs (by simp) r0 hlr)
  have HK2 := Lib.hid (fun w' (he : Ext w1 w') => show Calls Tryz.prog 130 #[.slice (some ⟨g.w.heap.size + 1 + 1, 0, none⟩) 1 1, .func (.func 132) #[] #[]] w' (Gives (.bool (List.any [v] noneB)) w') from con2_any (some ⟨g.w.heap.size + 1 + 1, 0, none⟩) 1 [v] w' (hs.ext he) (by simp))
  have HRF := Lib.hid (fun w' (he : Ext w1 w') => (he.cell hlr).trans r0)
  generalize List.any [v] (kindB true) = kb1 at *
  generalize List.any [v] noneB = nb1 at *
  clear hs hW
  go_wp2_with fail
  refine HK1.out.mono ?_
  rintro e w2 ⟨rfl, X2, rfl⟩
  cases kb1
  · go_wp2_with fail
    refine (HK2.out _ (by (repeat (first | (with_reducible (first | assumption | exact zR _ | exact zM _ _ _ _)) | apply zA | refine zS ?_ (by first | exact zL _ | exact zK _ _ | assumption) _ | apply zP | apply zD | apply zN)))).mono ?_
    rintro e w3 ⟨rfl, X3, rfl⟩
    cases nb1
    · go_wp2_with fail
      go_ret
      exact Gives.mk (by rw [HV.out]; rfl) (hE.out.trans (by (repeat (first | (with_reducible (first | assumption | exact zR _ | exact zM _ _ _ _)) | apply zA | refine zS ?_ (by first | exact zL _ | exact zK _ _ | assumption) _ | apply zP | apply zD | apply zN))))
    · go_wp2_with fail
      go_ret
      exact Gives.mk (by rw [HV.out]; rfl) (hE.out.trans (by (repeat (first | (with_reducible (first | assumption | exact zR _ | exact zM _ _ _ _)) | apply zA | refine zS ?_ (by first | exact zL _ | exact zK _ _ | assumption) _ | apply zP | apply zD | apply zN))))
  · go_wp2_with fail
    go_ret
    exact Gives.mk (by rw [HV.out]; rfl) (hE.out.trans (by (repeat (first | (with_reducible (first | assumption | exact zR _ | exact zM _ _ _ _)) | apply zA | refine zS ?_ (by first | exact zL _ | exact zK _ _ | assumption) _ | apply zP | apply zD | apply zN))))
theorem operands_4 (H : AcAt g t b A p) (oa ob oc on : Int) (x y : Nat) (hb : 0 ≤ oa ∧ oa < A.locals.length) : Calls Tryz.prog 90 #[.pointer (some ⟨b, 0, none⟩), .agg #[.int .i64 4, .int .i64 oa, .int .i64 ob, .int .i64 oc, .int .i64 on, .complex .f64 x y]] g.w (Gives (.int .i64 (A.operandsE ⟨4, oa, ob, oc, on, x, y⟩)) g.w) := by
  obtain ⟨kb, rfl⟩ : ∃ k : Nat, oa = k := ⟨(oa).toNat, by omega⟩
  have hkb : kb < A.locals.length := by omega
  obtain ⟨q, hA, hq, -, c0, c1, -⟩ := H.r.local_ hkb
  have HV := Lib.hid (operandsE_of (A := A) (o := ⟨4, kb, ob, oc, on, x, y⟩) (l := [A.loc kb]) (rf := true) (so := true) rfl rfl rfl)
  obtain ⟨a0, a1, a2, a3, a4, a5, a6, a7, a8, a9, a10, a11, a12, a13, a14, a15, a16, a17, a18, al⟩ := H.blk.c19
  (try simp only [GW.to] at a0 a1 a2 a3 a4 a5 a6 a7 a8 a9 a10 a11 a12 a13 a14 a15 a16 a17 a18 al)
  rw [hA] at a2
  clear H hb hA
  generalize A.locals.length = n at *
  generalize A.loc kb = v at *
  go_enter Tryz.func90, Tryz.ntmps90
  go_upto_region 20 with fail
  obtain ⟨w1, hW⟩ : ∃ w1, (((g.w.alloc (.cells #[.int .i64 4, .int .i64 kb, .int .i64 ob, .int .i64 oc, .int .i64 on, .complex .f64 x y] 26)).alloc (.cells #[.bool true] 4)).alloc (.cells #[.bool v.ref, .complex .f64 v.z.1 v.z.2] 34)) = w1 := ⟨_, rfl⟩
  rw [hW]
  have hE := Lib.hid (show Ext g.w w1 by rw [← hW]; (repeat (first | (with_reducible (first | assumption | exact zR _ | exact zM _ _ _ _)) | apply zA | refine zS ?_ (by first | exact zL _ | exact zK _ _ | assumption) _ | apply zP | apply zD | apply zN)))
  have r0 : w1.cell? ⟨g.w.heap.size + 1, 0, none⟩ = some (.bool true) := by rw [← hW]; clear hW; go_simp
  have hlr : g.w.heap.size + 1 < w1.heap.size := by rw [← hW]; clear hW; go_simp
  have hs : CellsAt w1 (some ⟨g.w.heap.size + 1 + 1, 0, none⟩) ([v].flatMap LVal.cells) := CellsAt.mk (by rw [← hW]; clear hW; go_simp) (fun i u hi => by
    rw [← hW]
    clear hW
    match i, hi with
    | 0, hi => injection hi with hi; subst hi; go_simp
    | 1, hi => injection hi with hi; subst hi; go_simp)
  have HK1 := Lib.hid (show Calls Tryz.prog 130 #[.slice (some ⟨g.w.heap.size + 1 + 1, 0, none⟩) 1 1, .func (.func 131) #[] #[.pointer (some ⟨g.w.heap.size + 1, 0, none⟩)]] w1 (Gives (.bool (List.any [v] (kindB true))) w1) from con1_any (some ⟨g.w.heap.size + 1 + 1, 0, none⟩) 1 [v] _ true w1 hs (by simp) r0 hlr)
  have HK2 := Lib.hid (fun w' (he : Ext w1 w') => show Calls Tryz.prog 130 #[.slice (some ⟨g.w.heap.size + 1 + 1, 0, none⟩) 1 1, .func (.func 132) #[] #[]] w' (Gives (.bool (List.any [v] noneB)) w') from con2_any (some ⟨g.w.heap.size + 1 + 1, 0, none⟩) 1 [v] w' (hs.ext he) (by simp))
  have HRF := Lib.hid (fun w' (he : Ext w1 w') => (he.cell hlr).trans r0)
  generalize List.any [v] (kindB true) = kb1 at *
  generalize List.any [v] noneB = nb1 at *
  clear hs hW
  go_wp2_with fail
  refine HK1.out.mono ?_
  rintro e w2 ⟨rfl, X2, rfl⟩
  cases kb1
  · go_wp2_with fail
    refine (HK2.out _ (by (repeat (first | (with_reducible (first | assumption | exact zR _ | exact zM _ _ _ _)) | apply zA | refine zS ?_ (by first | exact zL _ | exact zK _ _ | assumption) _ | apply zP | apply zD | apply zN)))).mono ?_
    rintro e w3 ⟨rfl, X3, rfl⟩
    cases nb1
    · go_wp2_with fail
      go_ret
      exact Gives.mk (by rw [HV.out]; rfl) (hE.out.trans (by (repeat (first | (with_reducible (first | assumption | exact zR _ | exact zM _ _ _ _)) | apply zA | refine zS ?_ (by first | exact zL _ | exact zK _ _ | assumption) _ | apply zP | apply zD | apply zN))))
    · go_wp2_with fail
      go_ret
      exact Gives.mk (by rw [HV.out]; rfl) (hE.out.trans (by (repeat (first | (with_reducible (first | assumption | exact zR _ | exact zM _ _ _ _)) | apply zA | refine zS ?_ (by first | exact zL _ | exact zK _ _ | assumption) _ | apply zP | apply zD | apply zN))))
  · go_wp2_with fail
    go_ret
    exact Gives.mk (by rw [HV.out]; rfl) (hE.out.trans (by (repeat (first | (with_reducible (first | assumption | exact zR _ | exact zM _ _ _ _)) | apply zA | refine zS ?_ (by first | exact zL _ | exact zK _ _ | assumption) _ | apply zP | apply zD | apply zN))))
end
end Go.Proofs.YtoaehfdjffejeaaGreat

/-
  act: plain, kind for kind.
-/
namespace Go.Proofs.YtoaehfdjffejeaaGreat
open Go Go.RowKit
set_option linter.unusedVariables false
set_option linter.unnecessarySimpa false
set_option linter.unusedSimpArgs false
set_option maxHeartbeats 2000000
set_option maxRecDepth 100000
def plainR (o : Option LVal) : Value := .tuple #[.agg #[.bool (o.getD LVal.zero).ref, .complex .f64 (o.getD LVal.zero).z.1 (o.getD LVal.zero).z.2], .bool o.isSome]
section
variable (g : GW) (t b : Nat) (A : AcS) (p : AcP)
theorem plain_12 (H : AcAt g t b A p) (oa ob oc on : Int) (x y : Nat) : Calls Tryz.prog 91 #[.pointer (some ⟨b, 0, none⟩), .agg #[.int .i64 12, .int .i64 oa, .int .i64 ob, .int .i64 oc, .int .i64 on, .complex .f64 x y]] g.w (Gives (plainR (A.plainV ⟨12, oa, ob, oc, on, x, y⟩)) g.w) := by
  have HV := Lib.hid (show A.plainV ⟨12, oa, ob, oc, on, x, y⟩ = some ⟨false, (x, y)⟩ from rfl)
  obtain ⟨a0, a1, a2, a3, a4, a5, a6, a7, a8, a9, a10, a11, a12, a13, a14, a15, a16, a17, a18, al⟩ := H.blk.c19
  (try simp only [GW.to] at a0 a1 a2 a3 a4 a5 a6 a7 a8 a9 a10 a11 a12 a13 a14 a15 a16 a17 a18 al)
  clear H
  go_enter Tryz.func91, Tryz.ntmps91
  go_wp2_with fail
  refine bodyPost_ret (v := .tuple #[.agg #[.bool false, .complex .f64 x y], .bool true]) (by simp [results, Tryz.results91, go_sem]) rfl ?_
  exact Gives.mk (by rw [HV.out]; rfl) (by (repeat (first | (with_reducible (first | assumption | exact zR _ | exact zM _ _ _ _)) | apply zA | refine zS ?_ (by first | exact zL _ | exact zK _ _ | assumption) _ | apply zP | apply zD | apply zN)))
theorem plain_13 (H : AcAt g t b A p) (oa ob oc on : Int) (x y : Nat) : Calls Tryz.prog 91 #[.pointer (some ⟨b, 0, none⟩), .agg #[.int .i64 13, .int .i64 oa, .int .i64 ob, .int .i64 oc, .int .i64 on, .complex .f64 x y]] g.w (Gives (plainR (A.plainV ⟨13, oa, ob, oc, on, x, y⟩)) g.w) := by
  have HV := Lib.hid (show A.plainV ⟨13, oa, ob, oc, on, x, y⟩ = some LVal.none from rfl)
  have HN := Lib.hid (fun w' => none_any w')
  unfold wNone at HN
  obtain ⟨a0, a1, a2, a3, a4, a5, a6, a7, a8, a9, a10, a11, a12, a13, a14, a15, a16, a17, a18, al⟩ := H.blk.c19
  (try simp only [GW.to] at a0 a1 a2 a3 a4 a5 a6 a7 a8 a9 a10 a11 a12 a13 a14 a15 a16 a17 a18 al)
  clear H
  go_enter Tryz.func91, Tryz.ntmps91
  go_wp2_with fail
  refine (HN.out _).mono ?_
  rintro e w1 ⟨rfl, X, rfl⟩
  go_wp2_with fail
  refine bodyPost_ret (v := .tuple #[.agg #[.bool true, .complex .f64 0 4607182418800017408], .bool true]) (by simp [results, Tryz.results91, go_sem]) rfl ?_
  exact Gives.mk (by rw [HV.out]; rfl) (by (repeat (first | (with_reducible (first | assumption | exact zR _ | exact zM _ _ _ _)) | apply zA | refine zS ?_ (by first | exact zL _ | exact zK _ _ | assumption) _ | apply zP | apply zD | apply zN)))
theorem plain_1 (H : AcAt g t b A p) (oa ob oc on : Int) (x y : Nat) : Calls Tryz.prog 91 #[.pointer (some ⟨b, 0, none⟩), .agg #[.int .i64 1, .int .i64 oa, .int .i64 ob, .int .i64 oc, .int .i64 on, .complex .f64 x y]] g.w (Gives (plainR (A.plainV ⟨1, oa, ob, oc, on, x, y⟩)) g.w) := by
  have HV := Lib.hid (show A.plainV ⟨1, oa, ob, oc, on, x, y⟩ = none from rfl)
  obtain ⟨a0, a1, a2, a3, a4, a5, a6, a7, a8, a9, a10, a11, a12, a13, a14, a15, a16, a17, a18, al⟩ := H.blk.c19
  (try simp only [GW.to] at a0 a1 a2 a3 a4 a5 a6 a7 a8 a9 a10 a11 a12 a13 a14 a15 a16 a17 a18 al)
  clear H
  go_enter Tryz.func91, Tryz.ntmps91
  go_wp2_with fail
  refine bodyPost_ret (v := .tuple #[.agg #[.bool false, .complex .f64 0 0], .bool false]) (by simp [results, Tryz.results91, go_sem]) rfl ?_
  exact Gives.mk (by rw [HV.out]; rfl) (by (repeat (first | (with_reducible (first | assumption | exact zR _ | exact zM _ _ _ _)) | apply zA | refine zS ?_ (by first | exact zL _ | exact zK _ _ | assumption) _ | apply zP | apply zD | apply zN)))
theorem plain_4 (H : AcAt g t b A p) (oa ob oc on : Int) (x y : Nat) : Calls Tryz.prog 91 #[.pointer (some ⟨b, 0, none⟩), .agg #[.int .i64 4, .int .i64 oa, .int .i64 ob, .int .i64 oc, .int .i64 on, .complex .f64 x y]] g.w (Gives (plainR (A.plainV ⟨4, oa, ob, oc, on, x, y⟩)) g.w) := by
  have HV := Lib.hid (show A.plainV ⟨4, oa, ob, oc, on, x, y⟩ = none from rfl)
  obtain ⟨a0, a1, a2, a3, a4, a5, a6, a7, a8, a9, a10, a11, a12, a13, a14, a15, a16, a17, a18, al⟩ := H.blk.c19
  (try simp only [GW.to] at a0 a1 a2 a3 a4 a5 a6 a7 a8 a9 a10 a11 a12 a13 a14 a15 a16 a17 a18 al)
  clear H
  go_enter Tryz.func91, Tryz.ntmps91
  go_wp2_with fail
  refine bodyPost_ret (v := .tuple #[.agg #[.bool false, .complex .f64 0 0], .bool false]) (by simp [results, Tryz.results91, go_sem]) rfl ?_
  exact Gives.mk (by rw [HV.out]; rfl) (by (repeat (first | (with_reducible (first | assumption | exact zR _ | exact zM _ _ _ _)) | apply zA | refine zS ?_ (by first | exact zL _ | exact zK _ _ | assumption) _ | apply zP | apply zD | apply zN)))
theorem plain_18 (H : AcAt g t b A p) (oa ob oc on : Int) (x y : Nat) : Calls Tryz.prog 91 #[.pointer (some ⟨b, 0, none⟩), .agg #[.int .i64 18, .int .i64 oa, .int .i64 ob, .int .i64 oc, .int .i64 on, .complex .f64 x y]] g.w (Gives (plainR (A.plainV ⟨18, oa, ob, oc, on, x, y⟩)) g.w) := by
  have HV := Lib.hid (show A.plainV ⟨18, oa, ob, oc, on, x, y⟩ = none from rfl)
  obtain ⟨a0, a1, a2, a3, a4, a5, a6, a7, a8, a9, a10, a11, a12, a13, a14, a15, a16, a17, a18, al⟩ := H.blk.c19
  (try simp only [GW.to] at a0 a1 a2 a3 a4 a5 a6 a7 a8 a9 a10 a11 a12 a13 a14 a15 a16 a17 a18 al)
  clear H
  go_enter Tryz.func91, Tryz.ntmps91
  go_wp2_with fail
  refine bodyPost_ret (v := .tuple #[.agg #[.bool false, .complex .f64 0 0], .bool false]) (by simp [results, Tryz.results91, go_sem]) rfl ?_
  exact Gives.mk (by rw [HV.out]; rfl) (by (repeat (first | (with_reducible (first | assumption | exact zR _ | exact zM _ _ _ _)) | apply zA | refine zS ?_ (by first | exact zL _ | exact zK _ _ | assumption) _ | apply zP | apply zD | apply zN)))
end
end Go.Proofs.YtoaehfdjffejeaaGreat

