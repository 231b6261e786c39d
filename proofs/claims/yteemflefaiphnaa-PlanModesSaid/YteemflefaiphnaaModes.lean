/-
  spolaw12.PlanModes.
-/
import Derived.Test.YteemflefaiphnaaArrP
import Derived.Test.YteemflefaiphnaaFirst12
import Derived.Test.YteemflefaiphnaaBits
namespace Go.Proofs.Yteemflefaiphnaa
open Go Go.RowKit
set_option linter.unusedVariables false
set_option linter.unusedSimpArgs false
theorem wordEq (p : Nat × Nat) (w : World) : Calls Try.prog 41 #[.complex .f64 p.1 p.2, .complex .f64 p.1 p.2] w (Gives (.bool true) w) :=
  (word_any p p w).mono fun e w' ⟨h1, h2⟩ => ⟨by rw [h1]; simp [sameW], ⟨#[], w.drawn⟩, by rw [← h2]; simp [World.patch]⟩
theorem arrLen_ge (n : Int) (got : List Int) : 8 * got.length ≤ arrLen n got := by unfold arrLen; omega
theorem wordEq2 (a b : Nat) (w : World) : Calls Try.prog 41 #[.complex .f64 a b, .complex .f64 a b] w (Gives (.bool true) w) := wordEq (a, b) w
theorem kind_some {c : Cnf} {kind : Int} (h : (c.shapeAt kind).isSome = true) : 0 ≤ kind ∧ kind < c.shapes.length := by
  unfold Cnf.shapeAt at h
  split at h
  · cases h
  · have h8 : kind.toNat < c.shapes.length := by simpa using h
    omega
/-- The words of a new array's first fragment, where nothing is wrong. -/
theorem sent_words {c : Cnf} {is : Bool} {s : Shp} {kind n at_ : Int} {got : List Int} (hwr : wrongE c is s n true got = 0) (hk : 0 ≤ kind ∧ kind ≤ 1000000) (ha : arrMode n got = 1 → beginsAt c at_ (s.spine n) = true) :
    (arrWrites s kind n at_ got)[3]? = some (.complex .f64 (floatOfInt .f64 kind) 0) ∧ (arrWrites s kind n at_ got)[5]? = some (.complex .f64 (floatOfInt .f64 n) 0) ∧ (arrWrites s kind n at_ got)[7]? = some (.complex .f64 (floatOfInt .f64 (arrMode n got)) 0) ∧
    (arrMode n got = 2 → (arrWrites s kind n at_ got)[9]? = some (.complex .f64 (floatOfInt .f64 (got.getD 0 0 + 2)) 4607182418800017408)) ∧ (arrMode n got = 1 → (arrWrites s kind n at_ got)[9]? = some (.complex .f64 (floatOfInt .f64 at_) 0)) := by
  obtain ⟨h1, h2, h3, h4⟩ := arr_size hwr
  have hd := sData_bd n
  obtain ⟨-, hf, -, -, -, hs, -⟩ := wrongE_fine hwr
  have hn : 0 ≤ n ∧ n ≤ 512 := by
    unfold Shp.size at hs
    by_cases hb : s.may = false ∨ n < 0 ∨ 512 < n ∨ s.arr = false ∧ 0 < n
    · rw [if_pos hb] at hs; omega
    · omega
  have hg : 0 < got.length := by omega
  have hw : ∀ k, k < 8 → (arrWrites s kind n at_ got)[k * 2 + 1]? = (sentWords kind n (arrMode n got) got at_)[k]? := fun k hk => by
    rw [← sentF_get kind n at_ got hk, show k * 2 + 1 = (0 * 8 + k) * 2 + 1 by omega, (arrWrites_frag s kind n at_ got hg hk).2]
    rfl
  have hm := arrMode_bd n got
  have wh : ∀ x : Int, 0 ≤ x → x ≤ 1000000 → wWhole x = .complex .f64 (floatOfInt .f64 x) 0 := fun x a b => by unfold wWhole; rw [if_neg (by omega)]
  refine ⟨?_, ?_, ?_, fun h => ?_, fun h => ?_⟩
  · refine (hw 1 (by omega)).trans ?_
    show some (wHead kind 0) = _
    unfold wHead
    rw [if_neg (by omega), floatOf_zero]
  · refine (hw 2 (by omega)).trans ?_
    show some (wWhole n) = _
    rw [wh n (by omega) (by omega)]
  · refine (hw 3 (by omega)).trans ?_
    show some (wWhole (arrMode n got)) = _
    rw [wh _ (by omega) (by omega)]
  · refine (hw 4 (by omega)).trans ?_
    rw [h]
    show some (wRef (got.getD 1 0)) = _
    have h5 : 4 < sData n := by unfold arrMode modeOf at h; split at h <;> omega
    have hsd : isSide got = true := by
      unfold arrMode modeOf at h
      split at h
      · omega
      · split at h
        · assumption
        · omega
    have hb : ∀ i, i < got.length → 0 ≤ got.getD i 0 ∧ got.getD i 0 < 1024 := fun i hi => by
      have h2 := fragOk_of hwr hi
      have hr := (Cnf.ranged (Cnf.check_zero (wrongE_fine hwr).1).1).1
      have h3 : c.check = 0 ∧ 0 ≤ got.getD i 0 ∧ got.getD i 0 < c.frags := by simpa [fragOk] using h2
      omega
    have hr := run_side (fun i hi => (hb i hi).2) hg
    rw [hsd] at hr
    have h6 := runTo_get hr 1 (by omega)
    have h7 := hb 1 (by omega)
    unfold wRef
    rw [if_neg (by omega), h6, show got.getD 0 0 + ((1 : Nat) : Int) + 1 = got.getD 0 0 + 2 by omega]
  · refine (hw 4 (by omega)).trans ?_
    rw [h]
    show some (wWhole at_) = _
    have := begins_bd (ha h)
    rw [wh _ (by omega) (by omega)]

set_option maxRecDepth 100000 in
set_option maxHeartbeats 4000000 in
theorem modes_any (c : Cnf) (kind n : Int) (A : Option Addr) (cap : Nat) (got : List Int) (at_ : Int) (w : World) (hc : c.Ok w) (hg : CellsAt w A (got.map (Value.int .i64))) (hcap : got.length ≤ cap) (hcm : cap ≤ 9223372036854775807) (hw : ∀ x ∈ got, -9223372036854775808 ≤ x ∧ x ≤ 9223372036854775807)
    (hat : -9223372036854775808 ≤ at_ ∧ at_ ≤ 9223372036854775807) :
    Calls Try.prog 6 #[c.val, .int .i64 kind, .int .i64 n, .slice A got.length cap, .int .i64 at_] w (Gives (.bool true) w) := by
  have H := Lib.hid (fun w' => first12_any w')
  have HSH := Lib.hid (fun w' (he : Ext w w') => shape_any c kind w' (hc.ext he))
  have HFW := Lib.hid (fun w' (he : Ext w w') => few_any c w' (hc.ext he))
  have HAR := Lib.hid (fun (h : got.length ≤ 200) w' (he : Ext w w') => array_any c kind n at_ A cap got w' (hc.ext he) (hg.ext he) (by omega) hcap hcm hw hat.1 hat.2)
  have HG := Lib.hid hg
  have HAT := Lib.hid hat
  have HMX := Lib.hid (show c.shapes.length ≤ 140737488355328 from hc.max)
  clear hc hg hw hat
  unfold Cnf.val at HSH HFW HAR ⊢
  go_enter Try.func6, Try.ntmps6
  go_wp2_with fail
  have HB := Lib.hid (fun w' (he : Ext (w.alloc (.cells #[.int .i64 c.frags, .int .i64 c.spine, .int .i64 c.globals, .int .i64 c.threads, .int .i64 c.locals, .int .i64 c.cache, .int .i64 c.stack, .int .i64 c.low, .slice c.A c.shapes.length c.cap] 29)) w') => (he.heap w.heap.size (by rw [World.size_alloc]; omega)).trans (World.row_alloc_new w))
  refine (H.out _).mono ?_
  rintro e w1 ⟨rfl, hE1'⟩
  have HE1 := Lib.hid (show Ext (w.alloc (.cells #[.int .i64 c.frags, .int .i64 c.spine, .int .i64 c.globals, .int .i64 c.threads, .int .i64 c.locals, .int .i64 c.cache, .int .i64 c.stack, .int .i64 c.low, .slice c.A c.shapes.length c.cap] 29)) w1 from hE1')
  have HW0 := Lib.hid (show Ext w (w.alloc (.cells #[.int .i64 c.frags, .int .i64 c.spine, .int .i64 c.globals, .int .i64 c.threads, .int .i64 c.locals, .int .i64 c.cache, .int .i64 c.stack, .int .i64 c.low, .slice c.A c.shapes.length c.cap] 29)) by (repeat (first | (with_reducible assumption) | (with_reducible exact Ext.refl _) | (with_reducible exact Ext.more _ _ _ _) | (with_reducible apply Ext.alloc) | (with_reducible apply Ext.patch) | (with_reducible apply Ext.drew) | (with_reducible apply Ext.drewN) | (with_reducible refine Ext.setCell ?_ (by first | assumption | exact Nat.le_refl _ | exact Nat.le_add_right _ _) _))))
  clear hE1'
  have g0 : w1.cell? ⟨w.heap.size, 0, none⟩ = some (.int .i64 c.frags) := (by simp only [World.cell?, (HB.out _ HE1.out)]; rfl)
  have g1 : w1.cell? ⟨w.heap.size, 1, none⟩ = some (.int .i64 c.spine) := (by simp only [World.cell?, (HB.out _ HE1.out)]; rfl)
  have g2 : w1.cell? ⟨w.heap.size, 2, none⟩ = some (.int .i64 c.globals) := (by simp only [World.cell?, (HB.out _ HE1.out)]; rfl)
  have g3 : w1.cell? ⟨w.heap.size, 3, none⟩ = some (.int .i64 c.threads) := (by simp only [World.cell?, (HB.out _ HE1.out)]; rfl)
  have g4 : w1.cell? ⟨w.heap.size, 4, none⟩ = some (.int .i64 c.locals) := (by simp only [World.cell?, (HB.out _ HE1.out)]; rfl)
  have g5 : w1.cell? ⟨w.heap.size, 5, none⟩ = some (.int .i64 c.cache) := (by simp only [World.cell?, (HB.out _ HE1.out)]; rfl)
  have g6 : w1.cell? ⟨w.heap.size, 6, none⟩ = some (.int .i64 c.stack) := (by simp only [World.cell?, (HB.out _ HE1.out)]; rfl)
  have g7 : w1.cell? ⟨w.heap.size, 7, none⟩ = some (.int .i64 c.low) := (by simp only [World.cell?, (HB.out _ HE1.out)]; rfl)
  have g8 : w1.cell? ⟨w.heap.size, 8, none⟩ = some (.slice c.A c.shapes.length c.cap) := (by simp only [World.cell?, (HB.out _ HE1.out)]; rfl)
  have gl : w.heap.size < w1.heap.size := (Array.getElem?_eq_some_iff.1 (HB.out _ HE1.out)).1
  go_wp2_with fail
  refine (HSH.out _ (HW0.out.trans HE1.out)).mono ?_
  rintro e w2 ⟨s', rfl, hs, hfr, hok, hE2⟩
  have HE2 := Lib.hid (HE1.out.trans (show Ext w1 w2 from hE2))
  have HS := Lib.hid hs
  clear hE2 hfr hs g0 g1 g2 g3 g4 g5 g6 g7 g8 gl HE1
  obtain ⟨arr', A', cap', refs'⟩ := s'
  unfold Shp.val
  have h0 : w2.cell? ⟨w.heap.size, 0, none⟩ = some (.int .i64 c.frags) := (by simp only [World.cell?, (HB.out _ HE2.out)]; rfl)
  have h1 : w2.cell? ⟨w.heap.size, 1, none⟩ = some (.int .i64 c.spine) := (by simp only [World.cell?, (HB.out _ HE2.out)]; rfl)
  have h2 : w2.cell? ⟨w.heap.size, 2, none⟩ = some (.int .i64 c.globals) := (by simp only [World.cell?, (HB.out _ HE2.out)]; rfl)
  have h3 : w2.cell? ⟨w.heap.size, 3, none⟩ = some (.int .i64 c.threads) := (by simp only [World.cell?, (HB.out _ HE2.out)]; rfl)
  have h4 : w2.cell? ⟨w.heap.size, 4, none⟩ = some (.int .i64 c.locals) := (by simp only [World.cell?, (HB.out _ HE2.out)]; rfl)
  have h5 : w2.cell? ⟨w.heap.size, 5, none⟩ = some (.int .i64 c.cache) := (by simp only [World.cell?, (HB.out _ HE2.out)]; rfl)
  have h6 : w2.cell? ⟨w.heap.size, 6, none⟩ = some (.int .i64 c.stack) := (by simp only [World.cell?, (HB.out _ HE2.out)]; rfl)
  have h7 : w2.cell? ⟨w.heap.size, 7, none⟩ = some (.int .i64 c.low) := (by simp only [World.cell?, (HB.out _ HE2.out)]; rfl)
  have h8 : w2.cell? ⟨w.heap.size, 8, none⟩ = some (.slice c.A c.shapes.length c.cap) := (by simp only [World.cell?, (HB.out _ HE2.out)]; rfl)
  have hl : w.heap.size < w2.heap.size := (Array.getElem?_eq_some_iff.1 (HB.out _ HE2.out)).1
  go_wp2_with fail
  refine (HFW.out _ ((HW0.out.trans HE2.out).alloc _)).mono ?_
  rintro e w3 ⟨rfl, hE3'⟩
  have hE3 : Ext (w2.alloc (.cells #[.bool arr', .slice A' refs'.length cap'] 26)) w3 := hE3'
  clear hE3' h0 h1 h2 h3 h4 h5 h6 h7 h8 hl hok
  have m0 : w3.cell? ⟨w2.heap.size, 0, none⟩ = some (.bool arr') := (hE3.cell (by go_simp)).trans (by go_simp)
  have m1 : w3.cell? ⟨w2.heap.size, 1, none⟩ = some (.slice A' refs'.length cap') := (hE3.cell (by go_simp)).trans (by go_simp)
  have hz3 : w2.heap.size < w3.heap.size := Nat.lt_of_lt_of_le (by go_simp) hE3.size
  have HX3 := Lib.hid (HE2.out.trans ((show Ext w2 _ by (repeat (first | (with_reducible assumption) | (with_reducible exact Ext.refl _) | (with_reducible exact Ext.more _ _ _ _) | (with_reducible apply Ext.alloc) | (with_reducible apply Ext.patch) | (with_reducible apply Ext.drew) | (with_reducible apply Ext.drewN) | (with_reducible refine Ext.setCell ?_ (by first | assumption | exact Nat.le_refl _ | exact Nat.le_add_right _ _) _)))).trans hE3))
  have HE3 := Lib.hid (HW0.out.trans HX3.out)
  clear hE3 HE2 HW0
  have k0 : w3.cell? ⟨w.heap.size, 0, none⟩ = some (.int .i64 c.frags) := (by simp only [World.cell?, (HB.out _ HX3.out)]; rfl)
  have k1 : w3.cell? ⟨w.heap.size, 1, none⟩ = some (.int .i64 c.spine) := (by simp only [World.cell?, (HB.out _ HX3.out)]; rfl)
  have k2 : w3.cell? ⟨w.heap.size, 2, none⟩ = some (.int .i64 c.globals) := (by simp only [World.cell?, (HB.out _ HX3.out)]; rfl)
  have k3 : w3.cell? ⟨w.heap.size, 3, none⟩ = some (.int .i64 c.threads) := (by simp only [World.cell?, (HB.out _ HX3.out)]; rfl)
  have k4 : w3.cell? ⟨w.heap.size, 4, none⟩ = some (.int .i64 c.locals) := (by simp only [World.cell?, (HB.out _ HX3.out)]; rfl)
  have k5 : w3.cell? ⟨w.heap.size, 5, none⟩ = some (.int .i64 c.cache) := (by simp only [World.cell?, (HB.out _ HX3.out)]; rfl)
  have k6 : w3.cell? ⟨w.heap.size, 6, none⟩ = some (.int .i64 c.stack) := (by simp only [World.cell?, (HB.out _ HX3.out)]; rfl)
  have k7 : w3.cell? ⟨w.heap.size, 7, none⟩ = some (.int .i64 c.low) := (by simp only [World.cell?, (HB.out _ HX3.out)]; rfl)
  have k8 : w3.cell? ⟨w.heap.size, 8, none⟩ = some (.slice c.A c.shapes.length c.cap) := (by simp only [World.cell?, (HB.out _ HX3.out)]; rfl)
  have kl : w.heap.size < w3.heap.size := (Array.getElem?_eq_some_iff.1 (HB.out _ HX3.out)).1
  cases hf : Few c
  · clear hf
    go_wp2_with fail
    refine (H.out _).mono ?_
    rintro e w4 ⟨rfl, hE4⟩
    have HE4 := Lib.hid (HE3.out.trans (show Ext w3 w4 from hE4))
    clear hE4
    go_wp2_with fail
    go_ret
    exact Gives.bool rfl HE4.out
  have HF := Lib.hid hf
  clear hf
  cases hi : (c.shapeAt kind).isSome
  · clear hi
    go_wp2_with fail
    refine (H.out _).mono ?_
    rintro e w4 ⟨rfl, hE4⟩
    have HE4 := Lib.hid (HE3.out.trans (show Ext w3 w4 from hE4))
    clear hE4
    go_wp2_with fail
    go_ret
    exact Gives.bool rfl HE4.out
  have HI := Lib.hid hi
  have HKD := Lib.hid (kind_some hi)
  clear hi
  cases arr'
  case false =>
    go_wp2_with fail
    refine (H.out _).mono ?_
    rintro e w4 ⟨rfl, hE4⟩
    have HE4 := Lib.hid (HE3.out.trans (show Ext w3 w4 from hE4))
    clear hE4
    go_wp2_with fail
    go_ret
    exact Gives.bool rfl HE4.out
  by_cases hl : 200 < got.length
  · have hl' : decide ((200 : Int) < got.length) = true := decide_eq_true (by omega)
    go_wp2_with fail
    refine (H.out _).mono ?_
    rintro e w4 ⟨rfl, hE4⟩
    have HE4 := Lib.hid (HE3.out.trans (show Ext w3 w4 from hE4))
    clear hE4
    go_wp2_with fail
    go_ret
    exact Gives.bool rfl HE4.out
  have hl' : decide ((200 : Int) < got.length) = false := decide_eq_false (by omega)
  go_wp2_with fail
  refine (HAR.out (by omega) _ HE3.out).mono ?_
  rintro e w4 ⟨s4, l, nl, rfl, hs4, hown, hE4⟩
  have HE4 := Lib.hid (show Ext w3 w4 from hE4)
  clear hE4
  obtain ⟨Al, cl, rfl⟩ := own_form hown
  rw [HI.out] at *
  by_cases hz : arrE c true s4 n got at_ = 0
  case neg =>
    rw [if_neg hz] at hown
    obtain rfl : nl = 0 := by have := hown.1; simp at this; omega
    generalize arrE c true s4 n got at_ = ev at *
    have hev : (ev != 0) = true := by simp [hz]
    clear hown hz hs4
    go_wp2_with fail
    refine (H.out _).mono ?_
    rintro e w5 ⟨rfl, hE5⟩
    have HE5 := Lib.hid (show Ext w4 w5 from hE5)
    clear hE5
    go_wp2_with fail
    go_ret
    exact Gives.bool rfl ((HE3.out.trans HE4.out).trans HE5.out)
  case pos =>
    rw [if_pos hz] at hown
    rw [hz]
    obtain ⟨hz0, hbg⟩ := arrE_fine hz
    obtain ⟨a1, a2, a3, a4⟩ := arr_size hz0
    have hd := sData_bd n
    have hn := hown.1
    rw [arrWrites_length _ _ _ _ _ (by omega)] at hn
    have hkd : 0 ≤ kind ∧ kind ≤ 1000000 := by
      have h9 := (Cnf.check_zero (wrongE_fine hz0).1).2.2.1
      have h10 := HKD.out
      unfold within at h9
      simp only [decide_eq_true_eq] at h9
      omega
    have HSW := Lib.hid (sent_words (s := s4) (at_ := at_) hz0 hkd hbg)
    have HM := Lib.hid (show arrMode n got = if sData n ≤ 4 then 0 else if isSide got = true then 2 else 1 from rfl)
    have HC := Lib.hid (cellsAt_of_own hown)
    have HY := Lib.hid (show ∀ i, i < got.length → 0 ≤ got.getD i 0 ∧ got.getD i 0 < 1024 from fun i hi => by
      have h2 := fragOk_of hz0 hi
      have hr := (Cnf.ranged (Cnf.check_zero (wrongE_fine hz0).1).1).1
      have h3 : c.check = 0 ∧ 0 ≤ got.getD i 0 ∧ got.getD i 0 < c.frags := by simpa [fragOk] using h2
      omega)
    have HRS := Lib.hid (run_side (l := got) (fun i hi => (HY.out i hi).2) (by omega))
    have HN := Lib.hid (show nl = arrLen n got by omega)
    have hl8 : 8 ≤ nl := by have := arrLen_ge n got; omega
    have hg1 : 1 ≤ got.length := by omega
    have hgb : ((got.length : Int) == 0) = false := beq_eq_false_iff_ne.2 (by omega)
    have hnb : decide ((nl : Int) < 8) = false := decide_eq_false (by omega)
    have HLW := Lib.hid (show 15 < (arrWrites s4 kind n at_ got).length by rw [arrWrites_length _ _ _ _ _ (by omega)]; have := arrLen_ge n got; omega)
    clear hz hz0 hbg a1 a2 a3 a4 hn hown hs4 hkd hd
    have HE34 := Lib.hid (HE3.out.trans HE4.out)
    clear k0 k1 k2 k3 k4 k5 k6 k7 k8 kl m0 m1 hz3 HB HAR HFW HSH
    go_wp2_with fail
    refine (data_any n _).mono ?_
    rintro e w5 ⟨rfl, hE5⟩
    have HE5 := Lib.hid (HE34.out.trans (show Ext w4 w5 from hE5))
    have HC5 := Lib.hid (HC.out.ext (show Ext w4 w5 from hE5))
    clear hE5 HC HE34 HE4 HE3 HX3
    by_cases hd4 : sData n ≤ 4
    · have hm : arrMode n got = 0 := by rw [HM.out, if_pos hd4]
      have hnl : (nl : Int) ≤ 8 * (got.length : Int) := by rw [HN.out]; unfold arrLen; rw [hm, if_neg (by omega)]; omega
      have hnl2 : decide (8 * (got.length : Int) < (nl : Int)) = false := decide_eq_false (by omega)
      as_aux_lemma =>
        obtain ⟨bl, ol, hAl, hbl, hcl⟩ := HC5.out.cases (by have := HLW.out; omega)
        have l1 : w5.cell? ⟨bl, ol + 3, none⟩ = _ := hcl _ _ HSW.out.1
        have l2 : w5.cell? ⟨bl, ol + 5, none⟩ = _ := hcl _ _ HSW.out.2.1
        have l3 : w5.cell? ⟨bl, ol + 7, none⟩ = _ := hcl _ _ HSW.out.2.2.1
        rw [hm] at l3
        skip
        subst hAl
        have f0 := IntWalk.i64_in (8 * (got.length : Int)) (by omega)
        clear hcl hm
        go_wp2_with fail
        refine wp_region_mixed [true, true, true, true, true, true, true, true, true, true, true, true, true, true, true, true, true, true, true, true, true, true, true, true, true, true, true, true, true, true, true, true, true, true, true, true, true, true, true, true, true, true, true, true, true, true, true, true, true, true, true, true, true, true, true, true, true, true, true, true, true, true, true, true, true, true, true, true, true, true, true, true, true, true] 0 74 (by kernel_rfl) (by kernel_rfl) (by kernel_rfl) ?_ (by decide) (by decide) (by decide) (by kernel_rfl) ?_
        · intro c a d v w h; cases d <;> exact h
        intro X00
        simp only [pickOps, List.append]
        repeat (go_big_quiet_step (first | (go_at_call 29; exact Calls.added (H.out _)) | (go_at_call 41; exact Calls.added (wordEq2 _ _ _))))
        refine wpQuiet_nil (fun X0 => ?_)
        clear X00
        refine wpAnyM_done (by kernel_rfl) (fun X0' => ?_) _
        go_wp2_with fail
        go_ret
        exact Gives.bool rfl (HE5.out.trans (by (repeat (first | (with_reducible assumption) | (with_reducible exact Ext.refl _) | (with_reducible exact Ext.more _ _ _ _) | apply Ext.alloc | refine Ext.setCell ?_ (by first | exact Nat.le_refl _ | exact Nat.le_add_right _ _ | assumption) _ | apply Ext.patch | apply Ext.drew | apply Ext.drewN))))
    · have hdb : decide ((4 : Int) < sData n) = true := decide_eq_true (by omega)
      go_wp2_with fail
      go_loopw [17, 18] (fun s i wx => ∃ k : Nat, k + 1 ≤ got.length ∧ i = .int .i64 ((k : Int) + 1) ∧ s = .bool (runTo got k) ∧ Hid (Ext w5 wx)) (fun _ i _ => got.length - (intOf i).toNat)
      case atStart => exact ⟨0, hg1, rfl, rfl, Lib.hid (Ext.refl _)⟩
      case round =>
        obtain ⟨k, hk, rfl, rfl, HE⟩ := hrel
        obtain ⟨wx, rfl⟩ : ∃ wx : World, wx = wr := ⟨_, rfl⟩
        by_cases hlt : k + 1 < got.length
        · obtain ⟨bq, oq, rfl, hq, hcq⟩ := ints_at (HG.out.ext (HE5.out.trans HE.out)) hlt
          have z0 := hcq 0 (by omega)
          have z1 := hcq (k + 1) hlt
          rw [Nat.add_zero] at z0
          have y0b := HY.out 0 (by omega)
          have y1b := HY.out (k + 1) hlt
          have HRT := Lib.hid (runTo_succ got k)
          generalize got.getD 0 0 = y0 at *
          generalize got.getD (k + 1) 0 = y1 at *
          have f1 := IntWalk.i64_in (y0 + ((k : Int) + 1)) (by omega)
          have f2 : (0 : Int) ≤ (k : Int) + 1 := by omega
          have f3 : ((k : Int) + 1).toNat = k + 1 := by omega
          have f4 : (k : Int) + 1 < got.length := by omega
          clear hcq
          generalize runTo got k = rk at *
          cases rk
          · have HR2 := Lib.hid (show runTo got (k + 1) = false by rw [HRT.out]; rfl)
            go_wp2_with fail
            refine wp_region_mixed [true, true, true, true, true, true, true, true, true, true, true, true, true, true] 0 14 (by kernel_rfl) (by kernel_rfl) (by kernel_rfl) ?_ (by decide) (by decide) (by decide) (by kernel_rfl) ?_
            · intro c a d v w h; cases d <;> exact h
            intro X00
            simp only [pickOps]
            repeat (go_big_quiet_step (fail))
            refine wpQuiet_nil (fun X0 => ?_)
            clear X00
            refine wpAnyM_done (by kernel_rfl) (fun X0' => ?_) _
            go_wp2_with fail
            go_roundw
            case rel => exact ⟨k + 1, by omega, by go_num, by rw [HR2.out], Lib.hid (HE.out.trans (by (repeat (first | (with_reducible assumption) | (with_reducible exact Ext.refl _) | (with_reducible exact Ext.more _ _ _ _) | apply Ext.alloc | refine Ext.setCell ?_ (by first | exact Nat.le_refl _ | exact Nat.le_add_right _ _ | assumption) _ | apply Ext.patch | apply Ext.drew | apply Ext.drewN))))⟩
            case measure => simp [intOf]; omega
          · by_cases he : y1 = y0 + ((k : Int) + 1)
            · have HR2 := Lib.hid (show runTo got (k + 1) = true by rw [HRT.out, Bool.true_and, decide_eq_true (by omega)])
              have heb : (y1 == y0 + ((k : Int) + 1)) = true := beq_iff_eq.2 he
              clear he
              go_wp2_with fail
              refine wp_region_mixed [true, true, true, true, true, true, true, true, true, true, true, true, true, true] 0 14 (by kernel_rfl) (by kernel_rfl) (by kernel_rfl) ?_ (by decide) (by decide) (by decide) (by kernel_rfl) ?_
              · intro c a d v w h; cases d <;> exact h
              intro X00
              simp only [pickOps]
              repeat (go_big_quiet_step (fail))
              refine wpQuiet_nil (fun X0 => ?_)
              clear X00
              refine wpAnyM_done (by kernel_rfl) (fun X0' => ?_) _
              go_wp2_with fail
              go_roundw
              case rel => exact ⟨k + 1, by omega, by go_num, by rw [HR2.out], Lib.hid (HE.out.trans (by (repeat (first | (with_reducible assumption) | (with_reducible exact Ext.refl _) | (with_reducible exact Ext.more _ _ _ _) | apply Ext.alloc | refine Ext.setCell ?_ (by first | exact Nat.le_refl _ | exact Nat.le_add_right _ _ | assumption) _ | apply Ext.patch | apply Ext.drew | apply Ext.drewN))))⟩
              case measure => simp [intOf]; omega
            · have HR2 := Lib.hid (show runTo got (k + 1) = false by rw [HRT.out, Bool.true_and, decide_eq_false (by omega)])
              have heb : (y1 == y0 + ((k : Int) + 1)) = false := beq_eq_false_iff_ne.2 he
              clear he
              go_wp2_with fail
              refine wp_region_mixed [true, true, true, true, true, true, true, true, true, true, true, true, true, true] 0 14 (by kernel_rfl) (by kernel_rfl) (by kernel_rfl) ?_ (by decide) (by decide) (by decide) (by kernel_rfl) ?_
              · intro c a d v w h; cases d <;> exact h
              intro X00
              simp only [pickOps]
              repeat (go_big_quiet_step (fail))
              refine wpQuiet_nil (fun X0 => ?_)
              clear X00
              refine wpAnyM_done (by kernel_rfl) (fun X0' => ?_) _
              go_wp2_with fail
              go_roundw
              case rel => exact ⟨k + 1, by omega, by go_num, by rw [HR2.out], Lib.hid (HE.out.trans (by (repeat (first | (with_reducible assumption) | (with_reducible exact Ext.refl _) | (with_reducible exact Ext.more _ _ _ _) | apply Ext.alloc | refine Ext.setCell ?_ (by first | exact Nat.le_refl _ | exact Nat.le_add_right _ _ | assumption) _ | apply Ext.patch | apply Ext.drew | apply Ext.drewN))))⟩
              case measure => simp [intOf]; omega
        · have hkl : k = got.length - 1 := by omega
          have HSD := Lib.hid (show runTo got k = isSide got by rw [hkl]; exact HRS.out)
          have HEX := Lib.hid (HE5.out.trans HE.out)
          have HCX := Lib.hid (HC5.out.ext HE.out)
          have hnlt : ¬ ((k : Int) + 1 < got.length) := by omega
          clear hkl
          rw [HSD.out]
          cases hs : isSide got
          · have hm : arrMode n got = 1 := by rw [HM.out, if_neg (by omega), hs]; rfl
            have hnl : 8 * (got.length : Int) < (nl : Int) := by rw [HN.out]; unfold arrLen; rw [hm, if_pos rfl]; omega
            have hnl2 : decide (8 * (got.length : Int) < (nl : Int)) = true := decide_eq_true (by omega)
            clear hs
            as_aux_lemma =>
              obtain ⟨bl, ol, hAl, hbl, hcl⟩ := HCX.out.cases (by have := HLW.out; omega)
              have l1 : wx.cell? ⟨bl, ol + 3, none⟩ = _ := hcl _ _ HSW.out.1
              have l2 : wx.cell? ⟨bl, ol + 5, none⟩ = _ := hcl _ _ HSW.out.2.1
              have l3 : wx.cell? ⟨bl, ol + 7, none⟩ = _ := hcl _ _ HSW.out.2.2.1
              rw [hm] at l3
              have l4 : wx.cell? ⟨bl, ol + 9, none⟩ = _ := hcl _ _ (HSW.out.2.2.2.2 hm)
              subst hAl
              have f0 := IntWalk.i64_in (8 * (got.length : Int)) (by omega)
              clear hcl hm
              go_wp2_with fail
              refine wp_region_mixed [true, true, true, true, true, true, true, true, true, true, true, true, true, true, true, true, true, true, true, true, true, true, true, true, true, true, true, true, true, true, true, true, true, true, true, true, true, true, true, true, true, true, true, true, true, true, true, true, true, true, true, true, true, true, true, true, true, true, true, true, true, true, true, true, true, true, true, true, true, true, true, true, true, true] 0 74 (by kernel_rfl) (by kernel_rfl) (by kernel_rfl) ?_ (by decide) (by decide) (by decide) (by kernel_rfl) ?_
              · intro c a d v w h; cases d <;> exact h
              intro X00
              simp only [pickOps, List.append]
              repeat (go_big_quiet_step (first | (go_at_call 29; exact Calls.added (H.out _)) | (go_at_call 41; exact Calls.added (wordEq2 _ _ _))))
              refine wpQuiet_nil (fun X0 => ?_)
              clear X00
              refine wpAnyM_done (by kernel_rfl) (fun X0' => ?_) _
              go_wp2_with fail
              go_ret
              exact Gives.bool rfl (HEX.out.trans (by (repeat (first | (with_reducible assumption) | (with_reducible exact Ext.refl _) | (with_reducible exact Ext.more _ _ _ _) | apply Ext.alloc | refine Ext.setCell ?_ (by first | exact Nat.le_refl _ | exact Nat.le_add_right _ _ | assumption) _ | apply Ext.patch | apply Ext.drew | apply Ext.drewN))))
          · have hm : arrMode n got = 2 := by rw [HM.out, if_neg (by omega), hs]; rfl
            have hnl : (nl : Int) ≤ 8 * (got.length : Int) := by rw [HN.out]; unfold arrLen; rw [hm, if_neg (by omega)]; omega
            have hnl2 : decide (8 * (got.length : Int) < (nl : Int)) = false := decide_eq_false (by omega)
            obtain ⟨bq, oq, hAq, hq, hcq⟩ := ints_at (HG.out.ext HEX.out) (k := 0) (by omega)
            have z0 := hcq 0 (by omega)
            rw [Nat.add_zero] at z0
            have y0b := HY.out 0 (by omega)
            generalize got.getD 0 0 = y0 at *
            have f1 := IntWalk.i64_in (y0 + 2) (by omega)
            subst hAq
            clear hs hcq
            as_aux_lemma =>
              obtain ⟨bl, ol, hAl, hbl, hcl⟩ := HCX.out.cases (by have := HLW.out; omega)
              have l1 : wx.cell? ⟨bl, ol + 3, none⟩ = _ := hcl _ _ HSW.out.1
              have l2 : wx.cell? ⟨bl, ol + 5, none⟩ = _ := hcl _ _ HSW.out.2.1
              have l3 : wx.cell? ⟨bl, ol + 7, none⟩ = _ := hcl _ _ HSW.out.2.2.1
              rw [hm] at l3
              have l4 : wx.cell? ⟨bl, ol + 9, none⟩ = _ := hcl _ _ (HSW.out.2.2.2.1 hm)
              subst hAl
              have f0 := IntWalk.i64_in (8 * (got.length : Int)) (by omega)
              clear hcl hm
              go_wp2_with fail
              refine wp_region_mixed [true, true, true, true, true, true, true, true, true, true, true, true, true, true, true, true, true, true, true, true, true, true, true, true, true, true, true, true, true, true, true, true, true, true, true, true, true, true, true, true, true, true, true, true, true, true, true, true, true, true, true, true, true, true, true, true, true, true, true, true, true, true, true, true, true, true, true, true, true, true, true, true, true, true] 0 74 (by kernel_rfl) (by kernel_rfl) (by kernel_rfl) ?_ (by decide) (by decide) (by decide) (by kernel_rfl) ?_
              · intro c a d v w h; cases d <;> exact h
              intro X00
              simp only [pickOps, List.append]
              repeat (go_big_quiet_step (first | (go_at_call 29; exact Calls.added (H.out _)) | (go_at_call 41; exact Calls.added (wordEq2 _ _ _))))
              refine wpQuiet_nil (fun X0 => ?_)
              clear X00
              refine wpAnyM_done (by kernel_rfl) (fun X0' => ?_) _
              go_wp2_with fail
              go_ret
              exact Gives.bool rfl (HEX.out.trans (by (repeat (first | (with_reducible assumption) | (with_reducible exact Ext.refl _) | (with_reducible exact Ext.more _ _ _ _) | apply Ext.alloc | refine Ext.setCell ?_ (by first | exact Nat.le_refl _ | exact Nat.le_add_right _ _ | assumption) _ | apply Ext.patch | apply Ext.drew | apply Ext.drewN))))
end Go.Proofs.Yteemflefaiphnaa
