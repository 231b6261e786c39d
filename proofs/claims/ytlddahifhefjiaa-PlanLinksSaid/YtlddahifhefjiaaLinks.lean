/-
  spolaw12.PlanLinks.
-/
import Derived.Test.YtlddahifhefjiaaFirst12
import Derived.Test.YtlddahifhefjiaaBits
import Derived.Test.YtlddahifhefjiaaCheckAt
namespace Go.Proofs.Ytlddahifhefjiaa
open Go Go.RowKit
set_option linter.unusedVariables false

theorem wordSame (p : Nat × Nat) (w : World) : Calls Try.prog 19 #[.complex .f64 p.1 p.2, .complex .f64 p.1 p.2] w (Gives (.bool true) w) :=
  (word_any p p w).mono fun e w' ⟨h1, h2⟩ => ⟨by rw [h1]; simp [sameW], ⟨#[], w.drawn⟩, by rw [← h2]; simp [World.patch]⟩

set_option maxRecDepth 100000 in
set_option maxHeartbeats 2000000 in
theorem links_any (c : Cnf) (kind : Int) (A : Option Addr) (cap : Nat) (got : List Int) (w : World) (hc : c.Ok w) (hg : CellsAt w A (got.map (Value.int .i64))) (hlm : got.length ≤ 9223372036854775807) (hw : ∀ x ∈ got, -9223372036854775808 ≤ x ∧ x ≤ 9223372036854775807) :
    Calls Try.prog 5 #[c.val, .int .i64 kind, .slice A got.length cap] w (Gives (.bool true) w) := by
  have H := Lib.hid (fun w' => first12_any w')
  have HSH := Lib.hid (fun w' (he : Ext w w') => shape_any c kind w' (hc.ext he))
  have HFW := Lib.hid (fun w' (he : Ext w w') => few_any c w' (hc.ext he))
  have HOB := Lib.hid (fun (h : got.length ≤ 200) w' (he : Ext w w') => object_any c kind A cap got w' (hc.ext he) (hg.ext he) (by omega) hw)
  have HG := Lib.hid hg
  have HCO := Lib.hid hc
  clear hc hg hw
  unfold Cnf.val at HSH HFW HOB ⊢
  go_enter Try.func5, Try.ntmps5
  go_wp2_with fail
  refine (H.out _).mono ?_
  rintro e w1 ⟨rfl, hE1'⟩
  have hE1 : Ext (w.alloc (.cells #[.int .i64 c.frags, .int .i64 c.spine, .int .i64 c.globals, .int .i64 c.threads, .int .i64 c.locals, .int .i64 c.cache, .int .i64 c.stack, .int .i64 c.low, .slice c.A c.shapes.length c.cap] 37)) w1 := hE1'
  clear hE1'
  have g0 : w1.cell? ⟨w.heap.size, 0, none⟩ = some (.int .i64 c.frags) := (ext_cell hE1 (by go_simp)).trans (by go_simp)
  have g1 : w1.cell? ⟨w.heap.size, 1, none⟩ = some (.int .i64 c.spine) := (ext_cell hE1 (by go_simp)).trans (by go_simp)
  have g2 : w1.cell? ⟨w.heap.size, 2, none⟩ = some (.int .i64 c.globals) := (ext_cell hE1 (by go_simp)).trans (by go_simp)
  have g3 : w1.cell? ⟨w.heap.size, 3, none⟩ = some (.int .i64 c.threads) := (ext_cell hE1 (by go_simp)).trans (by go_simp)
  have g4 : w1.cell? ⟨w.heap.size, 4, none⟩ = some (.int .i64 c.locals) := (ext_cell hE1 (by go_simp)).trans (by go_simp)
  have g5 : w1.cell? ⟨w.heap.size, 5, none⟩ = some (.int .i64 c.cache) := (ext_cell hE1 (by go_simp)).trans (by go_simp)
  have g6 : w1.cell? ⟨w.heap.size, 6, none⟩ = some (.int .i64 c.stack) := (ext_cell hE1 (by go_simp)).trans (by go_simp)
  have g7 : w1.cell? ⟨w.heap.size, 7, none⟩ = some (.int .i64 c.low) := (ext_cell hE1 (by go_simp)).trans (by go_simp)
  have g8 : w1.cell? ⟨w.heap.size, 8, none⟩ = some (.slice c.A c.shapes.length c.cap) := (ext_cell hE1 (by go_simp)).trans (by go_simp)
  have hz1 : w.heap.size < w1.heap.size := Nat.lt_of_lt_of_le (by go_simp) hE1.size
  have HE1 := Lib.hid (show Ext w w1 from (show Ext w _ by (repeat (first | (with_reducible assumption) | (with_reducible exact Ext.refl _) | (with_reducible exact Ext.more _ _ _ _) | (with_reducible apply Ext.alloc) | (with_reducible apply Ext.patch) | (with_reducible apply Ext.drew) | (with_reducible apply Ext.drewN) | (with_reducible refine Ext.setCell ?_ (by first | assumption | exact Nat.le_refl _ | exact Nat.le_add_right _ _) _)))).trans hE1)
  clear hE1
  go_wp2_with fail
  refine (HSH.out _ HE1.out).mono ?_
  rintro e w2 ⟨s', rfl, hs, hfr, hok, hE2⟩
  have HX2 := Lib.hid (show Ext w1 w2 from hE2)
  have HOK := Lib.hid hok
  have HS := Lib.hid hs
  clear hE2 hfr hok hs
  have h0 : w2.cell? ⟨w.heap.size, 0, none⟩ = some (.int .i64 c.frags) := (ext_cell HX2.out hz1).trans g0
  have h1 : w2.cell? ⟨w.heap.size, 1, none⟩ = some (.int .i64 c.spine) := (ext_cell HX2.out hz1).trans g1
  have h2 : w2.cell? ⟨w.heap.size, 2, none⟩ = some (.int .i64 c.globals) := (ext_cell HX2.out hz1).trans g2
  have h3 : w2.cell? ⟨w.heap.size, 3, none⟩ = some (.int .i64 c.threads) := (ext_cell HX2.out hz1).trans g3
  have h4 : w2.cell? ⟨w.heap.size, 4, none⟩ = some (.int .i64 c.locals) := (ext_cell HX2.out hz1).trans g4
  have h5 : w2.cell? ⟨w.heap.size, 5, none⟩ = some (.int .i64 c.cache) := (ext_cell HX2.out hz1).trans g5
  have h6 : w2.cell? ⟨w.heap.size, 6, none⟩ = some (.int .i64 c.stack) := (ext_cell HX2.out hz1).trans g6
  have h7 : w2.cell? ⟨w.heap.size, 7, none⟩ = some (.int .i64 c.low) := (ext_cell HX2.out hz1).trans g7
  have h8 : w2.cell? ⟨w.heap.size, 8, none⟩ = some (.slice c.A c.shapes.length c.cap) := (ext_cell HX2.out hz1).trans g8
  have hz2 : w.heap.size < w2.heap.size := Nat.lt_of_lt_of_le hz1 HX2.out.size
  clear g0 g1 g2 g3 g4 g5 g6 g7 g8
  obtain ⟨arr', A', cap', refs'⟩ := s'
  unfold Shp.val
  have HE2 := Lib.hid (HE1.out.trans HX2.out)
  go_wp2_with fail
  refine (HFW.out _ (by exact HE2.out.alloc _)).mono ?_
  rintro e w3 ⟨rfl, hE3'⟩
  have hE3 : Ext (w2.alloc (.cells #[.bool arr', .slice A' refs'.length cap'] 43)) w3 := hE3'
  clear hE3'
  have k0 : w3.cell? ⟨w.heap.size, 0, none⟩ = some (.int .i64 c.frags) := (ext_cell hE3 (by rw [World.size_alloc]; omega)).trans ((World.cell?_alloc_lt _ _ _ hz2).trans h0)
  have k1 : w3.cell? ⟨w.heap.size, 1, none⟩ = some (.int .i64 c.spine) := (ext_cell hE3 (by rw [World.size_alloc]; omega)).trans ((World.cell?_alloc_lt _ _ _ hz2).trans h1)
  have k2 : w3.cell? ⟨w.heap.size, 2, none⟩ = some (.int .i64 c.globals) := (ext_cell hE3 (by rw [World.size_alloc]; omega)).trans ((World.cell?_alloc_lt _ _ _ hz2).trans h2)
  have k3 : w3.cell? ⟨w.heap.size, 3, none⟩ = some (.int .i64 c.threads) := (ext_cell hE3 (by rw [World.size_alloc]; omega)).trans ((World.cell?_alloc_lt _ _ _ hz2).trans h3)
  have k4 : w3.cell? ⟨w.heap.size, 4, none⟩ = some (.int .i64 c.locals) := (ext_cell hE3 (by rw [World.size_alloc]; omega)).trans ((World.cell?_alloc_lt _ _ _ hz2).trans h4)
  have k5 : w3.cell? ⟨w.heap.size, 5, none⟩ = some (.int .i64 c.cache) := (ext_cell hE3 (by rw [World.size_alloc]; omega)).trans ((World.cell?_alloc_lt _ _ _ hz2).trans h5)
  have k6 : w3.cell? ⟨w.heap.size, 6, none⟩ = some (.int .i64 c.stack) := (ext_cell hE3 (by rw [World.size_alloc]; omega)).trans ((World.cell?_alloc_lt _ _ _ hz2).trans h6)
  have k7 : w3.cell? ⟨w.heap.size, 7, none⟩ = some (.int .i64 c.low) := (ext_cell hE3 (by rw [World.size_alloc]; omega)).trans ((World.cell?_alloc_lt _ _ _ hz2).trans h7)
  have k8 : w3.cell? ⟨w.heap.size, 8, none⟩ = some (.slice c.A c.shapes.length c.cap) := (ext_cell hE3 (by rw [World.size_alloc]; omega)).trans ((World.cell?_alloc_lt _ _ _ hz2).trans h8)
  have m0 : w3.cell? ⟨w2.heap.size, 0, none⟩ = some (.bool arr') := (ext_cell hE3 (by go_simp)).trans (by go_simp)
  have m1 : w3.cell? ⟨w2.heap.size, 1, none⟩ = some (.slice A' refs'.length cap') := (ext_cell hE3 (by go_simp)).trans (by go_simp)
  have hz3 : w2.heap.size < w3.heap.size := Nat.lt_of_lt_of_le (by go_simp) hE3.size
  have hz4 : w.heap.size < w3.heap.size := by omega
  have HX3 := Lib.hid (show Ext w2 w3 from (show Ext w2 _ by (repeat (first | (with_reducible assumption) | (with_reducible exact Ext.refl _) | (with_reducible exact Ext.more _ _ _ _) | (with_reducible apply Ext.alloc) | (with_reducible apply Ext.patch) | (with_reducible apply Ext.drew) | (with_reducible apply Ext.drewN) | (with_reducible refine Ext.setCell ?_ (by first | assumption | exact Nat.le_refl _ | exact Nat.le_add_right _ _) _)))).trans hE3)
  have HE3 := Lib.hid (HE2.out.trans HX3.out)
  clear hE3 h0 h1 h2 h3 h4 h5 h6 h7 h8
  cases hf : Few c
  · clear hf
    go_wp2_with fail
    refine (H.out _).mono ?_
    rintro e w4 ⟨rfl, hE4⟩
    have HE4 := Lib.hid (show Ext w3 w4 from hE4)
    clear hE4
    go_wp2_with fail
    go_ret
    exact Gives.bool rfl (HE3.out.trans HE4.out)
  have HF := Lib.hid hf
  clear hf
  cases hi : (c.shapeAt kind).isSome
  · clear hi
    go_wp2_with fail
    refine (H.out _).mono ?_
    rintro e w4 ⟨rfl, hE4⟩
    have HE4 := Lib.hid (show Ext w3 w4 from hE4)
    clear hE4
    go_wp2_with fail
    go_ret
    exact Gives.bool rfl (HE3.out.trans HE4.out)
  have HI := Lib.hid hi
  clear hi
  cases arr'
  case true =>
    go_wp2_with fail
    refine (H.out _).mono ?_
    rintro e w4 ⟨rfl, hE4⟩
    have HE4 := Lib.hid (show Ext w3 w4 from hE4)
    clear hE4
    go_wp2_with fail
    go_ret
    exact Gives.bool rfl (HE3.out.trans HE4.out)
  by_cases hl : 200 < got.length
  · have hl' : decide ((200 : Int) < got.length) = true := decide_eq_true (by omega)
    go_wp2_with fail
    refine (H.out _).mono ?_
    rintro e w4 ⟨rfl, hE4⟩
    have HE4 := Lib.hid (show Ext w3 w4 from hE4)
    clear hE4
    go_wp2_with fail
    go_ret
    exact Gives.bool rfl (HE3.out.trans HE4.out)
  have hl' : decide ((200 : Int) < got.length) = false := decide_eq_false (by omega)
  go_wp2_with fail
  refine (HOB.out (by omega) _ HE3.out).mono ?_
  rintro e w4 ⟨s4, l, n, rfl, hs4, hown, hE4⟩
  have HE4 := Lib.hid (show Ext w3 w4 from hE4)
  clear hE4
  obtain ⟨Al, cl, rfl⟩ := own_form hown
  rw [← HS.out, HI.out] at *
  by_cases hz : wrongE c true s4 0 false got = 0
  case neg =>
    rw [if_neg hz] at hown
    obtain rfl : n = 0 := by have := hown.1; simp at this; omega
    generalize wrongE c true s4 0 false got = ev at *
    have hev : (ev != 0) = true := by simp [hz]
    clear hown hz hs4
    go_wp2_with fail
    refine (H.out _).mono ?_
    rintro e w5 ⟨rfl, hE5⟩
    have HE5 := Lib.hid (show Ext w4 w5 from hE5)
    clear hE5
    go_wp2_with fail
    go_ret
    exact Gives.bool rfl ((HE3.out.trans HE4.out).trans HE5.out)
  case pos =>
    rw [if_pos hz] at hown
    obtain ⟨fc, fa, -, farr, fl, fs, -⟩ := wrongE_fine hz
    have hn := hown.1
    rw [objWrites_length] at hn
    have hn8 : ((n : Int) != 8 * (got.length : Int)) = false := by simp; omega
    obtain ⟨arr4, A4, cap4, refs4⟩ := s4
    simp only [Prod.mk.injEq] at hs4
    obtain ⟨rfl, hr4⟩ := hs4
    obtain rfl : refs' = refs4 := hr4.symm
    have HC := Lib.hid (cellsAt_of_own hown)
    have hfr := (Cnf.ranged (Cnf.check_zero fc).1).1.2
    have HY := Lib.hid (show ∀ i, i < got.length → 0 ≤ got.getD i 0 ∧ got.getD i 0 < 1024 from fun i h => by
      have h2 : fragOk c (got.getD i 0) = true := List.all_eq_true.1 fa _ (by rw [List.getD_eq_getElem?_getD, List.getElem?_eq_getElem h]; exact List.getElem_mem h)
      have : c.check = 0 ∧ 0 ≤ got.getD i 0 ∧ got.getD i 0 < c.frags := by simpa [fragOk] using h2
      omega)
    have HFL := Lib.hid fl
    have HP := Lib.hid (show ∀ k : Nat, k < refs'.length → ∃ i m : Nat, Shp.place ⟨false, A', cap', refs'⟩ k = .tuple #[.int .i64 i, .int .i64 m, .bool true] ∧ i < got.length ∧ m < 8 ∧ (objRow ⟨false, A4, cap4, refs'⟩ kind got (isSide got) i)[m]? = some (wBlank (refs'.getD k false)) from fun k h => by
      have hmay : Shp.may ⟨false, A4, cap4, refs'⟩ = true := by
        cases hm : Shp.may ⟨false, A4, cap4, refs'⟩
        · unfold Shp.size at fs; rw [if_pos (Or.inl hm)] at fs; omega
        · rfl
      have hfield : Shp.hasField ⟨false, A4, cap4, refs'⟩ k = true := by
        unfold Shp.hasField Shp.len
        rw [hmay]
        simpa using h
      have hW := Shp.placeW_bd k (by omega)
      have hsz : Shp.size ⟨false, A4, cap4, refs'⟩ 0 = if (refs'.length : Int) ≤ 6 then 1 else 1 + (refs'.length : Int) / 7 := by
        unfold Shp.size
        rw [if_neg (by rw [hmay]; simp), if_neg (by simp)]
        rfl
      rw [hsz] at fl
      have hF : 0 ≤ Shp.placeF k ∧ Shp.placeF k < got.length := by
        unfold Shp.placeF
        split <;> split at fl <;> omega
      obtain ⟨i, hi⟩ := Int.eq_ofNat_of_zero_le hF.1
      obtain ⟨m, hm⟩ := Int.eq_ofNat_of_zero_le (show 0 ≤ Shp.placeW k by omega)
      refine ⟨i, m, ?_, by omega, by omega, ?_⟩
      · unfold Shp.place
        rw [if_pos (show Shp.hasField ⟨false, A', cap', refs'⟩ k = true from hfield), hi, hm]
      · have := objRow_field ⟨false, A4, cap4, refs'⟩ kind got (isSide got) hfield hi
        rw [hm, Int.toNat_natCast] at this
        exact this)
    have hr40 : refs'.length ≤ 140737488355328 := HOK.out.max
    have HPL := Lib.hid (fun (k : Int) w' (he : Ext w2 w') h1 h2 => place_any ⟨false, A', cap', refs'⟩ k w' (HOK.out.ext he) h1 h2)
    unfold Shp.val at HPL
    have HN := Lib.hid hn
    have HE34 := Lib.hid (HE3.out.trans HE4.out)
    have hln : got.length * 8 ≤ n := by omega
    have p0 : w4.cell? ⟨w2.heap.size, 0, none⟩ = some (.bool false) := (ext_cell HE4.out hz3).trans m0
    have p1 : w4.cell? ⟨w2.heap.size, 1, none⟩ = some (.slice A' refs'.length cap') := (ext_cell HE4.out hz3).trans m1
    have hp4 : w2.heap.size < w4.heap.size := Nat.lt_of_lt_of_le hz3 HE4.out.size
    rw [hz]
    clear fc fa farr fl fs hn hown hfr hz k0 k1 k2 k3 k4 k5 k6 k7 k8 m0 m1 hz3 hz4 hz1 hz2
    go_wp2_with fail
    go_loopw [11] (fun i wr => ∃ k : Nat, k ≤ got.length ∧ i = .int .i64 k ∧ Ext w4 wr) (fun i _ => got.length - (intOf i).toNat)
    case atStart => exact ⟨0, Nat.zero_le _, rfl, Ext.refl _⟩
    case round =>
      obtain ⟨k, hk, rfl, hE⟩ := hrel
      have HE := Lib.hid (show Ext w4 wr from hE)
      clear hE
      by_cases hlt : k < got.length
      · obtain ⟨b, o, hAl, hbl, hcl⟩ := (HC.out.ext HE.out).cases (by rw [objWrites_length]; omega)
        have hx := objWrites_get ⟨false, A4, cap4, refs'⟩ kind got (isSide got) hlt (k := 0) (by decide)
        have l0 := hcl _ _ hx.1
        have l1 := hcl _ _ (hx.2.trans (objRow_link _ _ _ _ _))
        rw [show o + (k * 8 + 0) * 2 = o + 8 * k * 2 by omega] at l0
        rw [show o + ((k * 8 + 0) * 2 + 1) = o + 8 * k * 2 + 1 by omega] at l1
        obtain ⟨q, oq, hAq, hq, hcq⟩ := ints_at (HG.out.ext ((HE34.out).trans HE.out)) hlt
        have z0 := hcq k hlt
        have hy := HY.out k hlt
        clear hx hcl
        subst hAl hAq
        by_cases h1 : k + 1 < got.length
        · have z1 := hcq (k + 1) h1
          have hy1 := HY.out (k + 1) h1
          rw [if_pos h1] at l1
          generalize got.getD (k + 1) 0 = y1 at *
          generalize got.getD k 0 = y at *
          rw [show wRef y1 = Value.complex .f64 (floatOfInt .f64 (y1 + 1)) 4607182418800017408 by unfold wRef; rw [if_neg (by omega)]] at l1
          clear hcq
          go_wp2_with fail
          have HW := Lib.hid (fun w' => wordSame (floatOfInt .f64 (y1 + 1), 4607182418800017408) w')
          have f0 := IntWalk.i64_in (8 * (k : Int)) (by omega)
          have f1 := IntWalk.i64_in (8 * y) (by omega)
          rw [show y * 8 + ((0 : Nat) : Int) = 8 * y by omega] at l0
          refine wp_region_mixed [true, true, true, true, true, true, true, true, true, true, true, true, true, true, true, true, true, true, true, true, true, true, true] 0 23 (by kernel_rfl) (by kernel_rfl) (by kernel_rfl) ?_ (by decide) (by decide) (by decide) (by kernel_rfl) ?_
          · intro c a d v w h; cases d <;> exact h
          intro X00
          simp only [pickOps]
          repeat (go_big_quiet_step (exact Calls.added (HW.out _)))
          refine wpQuiet_nil (fun X0 => ?_)
          clear X00
          refine wpAnyM_done (by kernel_rfl) (fun X0' => ?_) _
          go_wp2_with fail
          go_roundw
          case rel => exact ⟨k + 1, by omega, by go_num, HE.out.patch _⟩
          case measure => simp [intOf]; omega
        · rw [if_neg h1] at l1
          unfold wNone at l1
          generalize got.getD k 0 = y at *
          clear hcq
          go_wp2_with fail
          have HW := Lib.hid (fun w' => wordSame (0, 4607182418800017408) w')
          have f0 := IntWalk.i64_in (8 * (k : Int)) (by omega)
          have f1 := IntWalk.i64_in (8 * y) (by omega)
          rw [show y * 8 + ((0 : Nat) : Int) = 8 * y by omega] at l0
          refine wp_region_mixed [true, true, true, true, true, true, true, true, true, true, true, true, true, true, true, true, true, true, true, true, true, true, true] 0 23 (by kernel_rfl) (by kernel_rfl) (by kernel_rfl) ?_ (by decide) (by decide) (by decide) (by kernel_rfl) ?_
          · intro c a d v w h; cases d <;> exact h
          intro X00
          simp only [pickOps]
          repeat (go_big_quiet_step (exact Calls.added (HW.out _)))
          refine wpQuiet_nil (fun X0 => ?_)
          clear X00
          refine wpAnyM_done (by kernel_rfl) (fun X0' => ?_) _
          go_wp2_with fail
          go_roundw
          case rel => exact ⟨k + 1, by omega, by go_num, HE.out.patch _⟩
          case measure => simp [intOf]; omega
      · obtain rfl : k = got.length := by omega
        have HEr := Lib.hid (HE34.out.trans HE.out)
        have r0 : wr.cell? ⟨w2.heap.size, 0, none⟩ = some (.bool false) := (ext_cell HE.out hp4).trans p0
        have r1 : wr.cell? ⟨w2.heap.size, 1, none⟩ = some (.slice A' refs'.length cap') := (ext_cell HE.out hp4).trans p1
        have hr4 : w2.heap.size < wr.heap.size := Nat.lt_of_lt_of_le hp4 HE.out.size
        have HX2r := Lib.hid ((HX3.out.trans HE4.out).trans HE.out)
        have HCr := Lib.hid (HC.out.ext HE.out)
        clear p0 p1 hp4
        obtain ⟨wb, rfl⟩ : ∃ wb, wb = wr := ⟨wr, rfl⟩
        go_wp2_with fail
        go_loopw [13] (fun i wq => ∃ k : Nat, k ≤ refs'.length ∧ i = .int .i64 k ∧ Ext wb wq) (fun i _ => refs'.length - (intOf i).toNat)
        case atStart => exact ⟨0, Nat.zero_le _, rfl, Ext.refl _⟩
        case round =>
          obtain ⟨k, hk2, rfl, hE5⟩ := hrel
          have HE5 := Lib.hid (show Ext wb wr from hE5)
          clear hE5
          have t0 := (ext_cell HE5.out hr4).trans r0
          have t1 := (ext_cell HE5.out hr4).trans r1
          have ht4 : w2.heap.size < wr.heap.size := Nat.lt_of_lt_of_le hr4 HE5.out.size
          by_cases hlt : k < refs'.length
          · obtain ⟨i, m, hpl, hi, hm, hrow⟩ := HP.out k hlt
            have HPK := Lib.hid (hpl ▸ HPL.out k wr (HX2r.out.trans HE5.out) (by omega) (by omega))
            obtain ⟨b, o, hAl, hbl, hcl⟩ := (HCr.out.ext HE5.out).cases (by rw [objWrites_length]; omega)
            have hx := objWrites_get ⟨false, A4, cap4, refs'⟩ kind got (isSide got) hi hm
            have l0 := hcl _ _ hx.1
            have l1 := hcl _ _ (hx.2.trans hrow)
            rw [show o + (i * 8 + m) * 2 = o + (8 * i + m) * 2 by omega] at l0
            rw [show o + ((i * 8 + m) * 2 + 1) = o + (8 * i + m) * 2 + 1 by omega] at l1
            obtain ⟨q, oq, hAq, hq, hcq⟩ := ints_at (HG.out.ext (HEr.out.trans HE5.out)) hi
            have z0 := hcq i hi
            have hy := HY.out i hi
            obtain ⟨ba, oa, hAa, hba, hca⟩ := (((HOK.out.ext HX2r.out).ext HE5.out).refs).cases (by simp; omega)
            have z2 := hca k (.bool (refs'.getD k false)) (by simp [List.getD_eq_getElem?_getD, hlt])
            clear hx hcl hrow hpl hca hcq
            simp only at hAa
            subst hAl hAq hAa
            generalize got.getD i 0 = y at *
            rw [show y * 8 + (m : Int) = 8 * y + m by omega] at l0
            have f0 := IntWalk.i64_in (8 * (i : Int)) (by omega)
            have f1 := IntWalk.i64_in (8 * (i : Int) + m) (by omega)
            have f2 := IntWalk.i64_in (8 * y) (by omega)
            have f3 := IntWalk.i64_in (8 * y + m) (by omega)
            have f4 : decide ((got.length : Int) ≤ i) = false := decide_eq_false (by omega)
            have f5 : decide (got.length ≤ i) = false := decide_eq_false (by omega)
            have f6 : ¬ got.length ≤ i := by omega
            cases hb : refs'.getD k false
            · rw [hb] at l1 z2
              clear hb
              unfold wBlank at l1
              rw [if_neg (by decide)] at l1
              unfold wZero at l1
              have HW := Lib.hid (fun w' => wordSame (0, 0) w')
              go_wp2_with fail
              refine HPK.out.mono ?_
              rintro e w6 ⟨rfl, hE6⟩
              have HE6 := Lib.hid (HE5.out.trans (show Ext wr w6 from hE6))
              have y0 := (ext_cell hE6 hbl).trans l0
              have y1 := (ext_cell hE6 hbl).trans l1
              have y2 := (ext_cell hE6 hq).trans z0
              have y3 := (ext_cell hE6 hba).trans z2
              have y4 := (ext_cell hE6 ht4).trans t1
              have y5 := (ext_cell hE6 ht4).trans t0
              have b1 := Nat.lt_of_lt_of_le hbl (Ext.size hE6)
              have b2 := Nat.lt_of_lt_of_le hq (Ext.size hE6)
              have b3 := Nat.lt_of_lt_of_le hba (Ext.size hE6)
              have b4 := Nat.lt_of_lt_of_le ht4 (Ext.size hE6)
              clear hE6 l0 l1 z0 z2 t0 t1 hbl hq hba ht4
              go_wp2_with fail
              refine wp_region_mixed [true, true, true, true, true, true, true, true, true, true, true, true, true, true, true, true, true, true, true, true, true, true, true, true, true, true, true, true, true, true, true, true, true, true, true] 0 35 (by kernel_rfl) (by kernel_rfl) (by kernel_rfl) ?_ (by decide) (by decide) (by decide) (by kernel_rfl) ?_
              · intro c a d v w h; cases d <;> exact h
              intro X00
              simp only [pickOps]
              repeat (go_big_quiet_step (exact Calls.added (HW.out _)))
              refine wpQuiet_nil (fun X0 => ?_)
              clear X00
              refine wpAnyM_done (by kernel_rfl) (fun X0' => ?_) _
              go_wp2_with fail
              go_roundw
              case rel => exact ⟨k + 1, by omega, by go_num, HE6.out.patch _⟩
              case measure => simp [intOf]; omega
            · rw [hb] at l1 z2
              clear hb
              unfold wBlank at l1
              rw [if_pos rfl] at l1
              unfold wNone at l1
              have HW := Lib.hid (fun w' => wordSame (0, 4607182418800017408) w')
              go_wp2_with fail
              refine HPK.out.mono ?_
              rintro e w6 ⟨rfl, hE6⟩
              have HE6 := Lib.hid (HE5.out.trans (show Ext wr w6 from hE6))
              have y0 := (ext_cell hE6 hbl).trans l0
              have y1 := (ext_cell hE6 hbl).trans l1
              have y2 := (ext_cell hE6 hq).trans z0
              have y3 := (ext_cell hE6 hba).trans z2
              have y4 := (ext_cell hE6 ht4).trans t1
              have y5 := (ext_cell hE6 ht4).trans t0
              have b1 := Nat.lt_of_lt_of_le hbl (Ext.size hE6)
              have b2 := Nat.lt_of_lt_of_le hq (Ext.size hE6)
              have b3 := Nat.lt_of_lt_of_le hba (Ext.size hE6)
              have b4 := Nat.lt_of_lt_of_le ht4 (Ext.size hE6)
              clear hE6 l0 l1 z0 z2 t0 t1 hbl hq hba ht4
              go_wp2_with fail
              refine wp_region_mixed [true, true, true, true, true, true, true, true, true, true, true, true, true, true, true, true, true, true, true, true, true, true, true, true, true, true, true, true, true, true, true, true, true, true, true] 0 35 (by kernel_rfl) (by kernel_rfl) (by kernel_rfl) ?_ (by decide) (by decide) (by decide) (by kernel_rfl) ?_
              · intro c a d v w h; cases d <;> exact h
              intro X00
              simp only [pickOps]
              repeat (go_big_quiet_step (exact Calls.added (HW.out _)))
              refine wpQuiet_nil (fun X0 => ?_)
              clear X00
              refine wpAnyM_done (by kernel_rfl) (fun X0' => ?_) _
              go_wp2_with fail
              go_roundw
              case rel => exact ⟨k + 1, by omega, by go_num, HE6.out.patch _⟩
              case measure => simp [intOf]; omega
          · obtain rfl : k = refs'.length := by omega
            go_wp2_with fail
            refine (H.out _).mono ?_
            rintro e w7 ⟨rfl, hE7⟩
            have HE7 := Lib.hid (show Ext wr w7 from hE7)
            clear hE7
            go_wp2_with fail
            go_ret
            exact Gives.bool rfl ((HEr.out.trans HE5.out).trans HE7.out)
end Go.Proofs.Ytlddahifhefjiaa
