/-
  spolaw13.FindFar. (Under way.)
-/
import Derived.Test.YtmgkfpmmlibmcaaFarS
import Derived.Test.YtmgkfpmmlibmcaaSide6
namespace Go.Proofs.Ytmgkfpmmlibmcaa
open Go Go.RowKit
set_option linter.unusedVariables false
set_option linter.unnecessarySimpa false
set_option linter.unusedSimpArgs false
set_option maxRecDepth 100000 in
set_option maxHeartbeats 4000000 in
theorem far_any (c : Cnf) (kind : Int) (A : Option Addr) (cap : Nat) (got : List Int) (w : World) (hc : c.Ok w) (hg : CellsAt w A (got.map (Value.int .i64))) (hcap : got.length ≤ cap) (hcm : cap ≤ 9223372036854775807) (hw : ∀ x ∈ got, -9223372036854775808 ≤ x ∧ x ≤ 9223372036854775807) :
    Calls Try.prog 3 #[c.val, .int .i64 kind, .slice A got.length cap] w (Gives (.bool true) w) := by
  have H := Lib.hid (fun w' => first13_any w')
  have HSH := Lib.hid (fun w' (he : Ext w w') => shape_any c kind w' (hc.ext he))
  have HFW := Lib.hid (fun w' (he : Ext w w') => few_any c w' (hc.ext he))
  have HOB := Lib.hid (fun (h : got.length ≤ 200) w' (he : Ext w w') => object_any c kind A cap got w' (hc.ext he) (hg.ext he) (by omega) hw)
  have HSD := Lib.hid (fun (h : got.length ≤ 200) w' (he : Ext w w') => rside_any A cap got w' (hg.ext he) (by omega) hw)
  have HG := Lib.hid hg
  have HCO := Lib.hid hc
  clear hc hg hw
  unfold Cnf.val at HSH HFW HOB ⊢
  go_enter Try.func3, Try.ntmps3
  go_wp2_with fail
  have HB := Lib.hid (later_blk w (.cells #[.int .i64 c.frags, .int .i64 c.spine, .int .i64 c.globals, .int .i64 c.threads, .int .i64 c.locals, .int .i64 c.cache, .int .i64 c.stack, .int .i64 c.low, .slice c.A c.shapes.length c.cap] 24))
  have HW0 := Lib.hid (show Ext w (w.alloc (.cells #[.int .i64 c.frags, .int .i64 c.spine, .int .i64 c.globals, .int .i64 c.threads, .int .i64 c.locals, .int .i64 c.cache, .int .i64 c.stack, .int .i64 c.low, .slice c.A c.shapes.length c.cap] 24)) by (repeat (first | (with_reducible assumption) | (with_reducible exact Ext.refl _) | (with_reducible exact Ext.more _ _ _ _) | (with_reducible apply Ext.alloc) | (with_reducible apply Ext.patch) | (with_reducible apply Ext.drew) | (with_reducible apply Ext.drewN) | (with_reducible refine Ext.setCell ?_ (by first | assumption | exact Nat.le_refl _ | exact Nat.le_add_right _ _) _))))
  refine (H.out _).mono ?_
  rintro e w1 ⟨rfl, hE⟩
  have HE1 := Lib.hid (show Ext (w.alloc (.cells #[.int .i64 c.frags, .int .i64 c.spine, .int .i64 c.globals, .int .i64 c.threads, .int .i64 c.locals, .int .i64 c.cache, .int .i64 c.stack, .int .i64 c.low, .slice c.A c.shapes.length c.cap] 24)) w1 from hE)
  clear hE
  have g0 : w1.cell? ⟨w.heap.size, 0, none⟩ = some (.int .i64 c.frags) := (by simp only [World.cell?, (HB.out _ HE1.out)]; rfl)
  have g1 : w1.cell? ⟨w.heap.size, 1, none⟩ = some (.int .i64 c.spine) := (by simp only [World.cell?, (HB.out _ HE1.out)]; rfl)
  have g2 : w1.cell? ⟨w.heap.size, 2, none⟩ = some (.int .i64 c.globals) := (by simp only [World.cell?, (HB.out _ HE1.out)]; rfl)
  have g3 : w1.cell? ⟨w.heap.size, 3, none⟩ = some (.int .i64 c.threads) := (by simp only [World.cell?, (HB.out _ HE1.out)]; rfl)
  have g4 : w1.cell? ⟨w.heap.size, 4, none⟩ = some (.int .i64 c.locals) := (by simp only [World.cell?, (HB.out _ HE1.out)]; rfl)
  have g5 : w1.cell? ⟨w.heap.size, 5, none⟩ = some (.int .i64 c.cache) := (by simp only [World.cell?, (HB.out _ HE1.out)]; rfl)
  have g6 : w1.cell? ⟨w.heap.size, 6, none⟩ = some (.int .i64 c.stack) := (by simp only [World.cell?, (HB.out _ HE1.out)]; rfl)
  have g7 : w1.cell? ⟨w.heap.size, 7, none⟩ = some (.int .i64 c.low) := (by simp only [World.cell?, (HB.out _ HE1.out)]; rfl)
  have g8 : w1.cell? ⟨w.heap.size, 8, none⟩ = some (.slice c.A c.shapes.length c.cap) := (by simp only [World.cell?, (HB.out _ HE1.out)]; rfl)
  have gl : w.heap.size < w1.heap.size := (Array.getElem?_eq_some_iff.1 (HB.out _ HE1.out)).1
  go_wp2_with fail
  refine (HSH.out _ (HW0.out.trans HE1.out)).mono ?_
  rintro e w2 ⟨s', rfl, hs, hfr, hok, hE⟩
  have HE2 := Lib.hid (HE1.out.trans (show Ext w1 w2 from hE))
  have HS := Lib.hid hs
  have HOK := Lib.hid hok
  clear hE hfr hs hok HE1 HSH
  clear g0 g1 g2 g3 g4 g5 g6 g7 g8 gl
  generalize hI : (c.shapeAt kind).isSome = is
  have HI := Lib.hid hI
  clear hI
  obtain ⟨arr', A', cap', refs'⟩ := s'
  unfold Shp.val
  have g0 : w2.cell? ⟨w.heap.size, 0, none⟩ = some (.int .i64 c.frags) := (by simp only [World.cell?, (HB.out _ HE2.out)]; rfl)
  have g1 : w2.cell? ⟨w.heap.size, 1, none⟩ = some (.int .i64 c.spine) := (by simp only [World.cell?, (HB.out _ HE2.out)]; rfl)
  have g2 : w2.cell? ⟨w.heap.size, 2, none⟩ = some (.int .i64 c.globals) := (by simp only [World.cell?, (HB.out _ HE2.out)]; rfl)
  have g3 : w2.cell? ⟨w.heap.size, 3, none⟩ = some (.int .i64 c.threads) := (by simp only [World.cell?, (HB.out _ HE2.out)]; rfl)
  have g4 : w2.cell? ⟨w.heap.size, 4, none⟩ = some (.int .i64 c.locals) := (by simp only [World.cell?, (HB.out _ HE2.out)]; rfl)
  have g5 : w2.cell? ⟨w.heap.size, 5, none⟩ = some (.int .i64 c.cache) := (by simp only [World.cell?, (HB.out _ HE2.out)]; rfl)
  have g6 : w2.cell? ⟨w.heap.size, 6, none⟩ = some (.int .i64 c.stack) := (by simp only [World.cell?, (HB.out _ HE2.out)]; rfl)
  have g7 : w2.cell? ⟨w.heap.size, 7, none⟩ = some (.int .i64 c.low) := (by simp only [World.cell?, (HB.out _ HE2.out)]; rfl)
  have g8 : w2.cell? ⟨w.heap.size, 8, none⟩ = some (.slice c.A c.shapes.length c.cap) := (by simp only [World.cell?, (HB.out _ HE2.out)]; rfl)
  have gl : w.heap.size < w2.heap.size := (Array.getElem?_eq_some_iff.1 (HB.out _ HE2.out)).1
  have HBS := Lib.hid (later_blk w2 (.cells #[.bool arr', .slice A' refs'.length cap'] 29))
  go_wp2_with fail
  refine (HFW.out _ (HW0.out.trans (HE2.out.alloc _))).mono ?_
  rintro e w3 ⟨rfl, hE⟩
  have HX3 := Lib.hid (show Ext (w2.alloc (.cells #[.bool arr', .slice A' refs'.length cap'] 29)) w3 from hE)
  have HE3 := Lib.hid ((HE2.out.alloc _).trans HX3.out)
  clear hE HFW HE2
  clear g0 g1 g2 g3 g4 g5 g6 g7 g8 gl
  have g0 : w3.cell? ⟨w.heap.size, 0, none⟩ = some (.int .i64 c.frags) := (by simp only [World.cell?, (HB.out _ HE3.out)]; rfl)
  have g1 : w3.cell? ⟨w.heap.size, 1, none⟩ = some (.int .i64 c.spine) := (by simp only [World.cell?, (HB.out _ HE3.out)]; rfl)
  have g2 : w3.cell? ⟨w.heap.size, 2, none⟩ = some (.int .i64 c.globals) := (by simp only [World.cell?, (HB.out _ HE3.out)]; rfl)
  have g3 : w3.cell? ⟨w.heap.size, 3, none⟩ = some (.int .i64 c.threads) := (by simp only [World.cell?, (HB.out _ HE3.out)]; rfl)
  have g4 : w3.cell? ⟨w.heap.size, 4, none⟩ = some (.int .i64 c.locals) := (by simp only [World.cell?, (HB.out _ HE3.out)]; rfl)
  have g5 : w3.cell? ⟨w.heap.size, 5, none⟩ = some (.int .i64 c.cache) := (by simp only [World.cell?, (HB.out _ HE3.out)]; rfl)
  have g6 : w3.cell? ⟨w.heap.size, 6, none⟩ = some (.int .i64 c.stack) := (by simp only [World.cell?, (HB.out _ HE3.out)]; rfl)
  have g7 : w3.cell? ⟨w.heap.size, 7, none⟩ = some (.int .i64 c.low) := (by simp only [World.cell?, (HB.out _ HE3.out)]; rfl)
  have g8 : w3.cell? ⟨w.heap.size, 8, none⟩ = some (.slice c.A c.shapes.length c.cap) := (by simp only [World.cell?, (HB.out _ HE3.out)]; rfl)
  have gl : w.heap.size < w3.heap.size := (Array.getElem?_eq_some_iff.1 (HB.out _ HE3.out)).1
  have m0 : w3.cell? ⟨w2.heap.size, 0, none⟩ = some (.bool arr') := by simp only [World.cell?, HBS.out _ HX3.out]; rfl
  have hz3 : w2.heap.size < w3.heap.size := (Array.getElem?_eq_some_iff.1 (HBS.out _ HX3.out)).1
  cases Few c
  · go_wp2_with fail
    refine (H.out _).mono ?_
    rintro e w9 ⟨rfl, hE9⟩
    have HE9 := Lib.hid (HE3.out.trans (show Ext w3 w9 from hE9))
    clear hE9
    go_wp2_with fail
    go_ret
    exact Gives.bool rfl (HW0.out.trans HE9.out)
  cases is
  · go_wp2_with fail
    refine (H.out _).mono ?_
    rintro e w9 ⟨rfl, hE9⟩
    have HE9 := Lib.hid (HE3.out.trans (show Ext w3 w9 from hE9))
    clear hE9
    go_wp2_with fail
    go_ret
    exact Gives.bool rfl (HW0.out.trans HE9.out)
  cases arr'
  case true =>
    go_wp2_with fail
    refine (H.out _).mono ?_
    rintro e w9 ⟨rfl, hE9⟩
    have HE9 := Lib.hid (HE3.out.trans (show Ext w3 w9 from hE9))
    clear hE9
    go_wp2_with fail
    go_ret
    exact Gives.bool rfl (HW0.out.trans HE9.out)
  by_cases hl : 200 < got.length
  · have hl' : decide ((200 : Int) < got.length) = true := decide_eq_true (by omega)
    go_wp2_with fail
    refine (H.out _).mono ?_
    rintro e w9 ⟨rfl, hE9⟩
    have HE9 := Lib.hid (HE3.out.trans (show Ext w3 w9 from hE9))
    clear hE9
    go_wp2_with fail
    go_ret
    exact Gives.bool rfl (HW0.out.trans HE9.out)
  have hl' : decide ((200 : Int) < got.length) = false := decide_eq_false (by omega)
  go_wp2_with fail
  refine (HOB.out (by omega) _ (HW0.out.trans HE3.out)).mono ?_
  rintro e w5 ⟨s5, l, nl, rfl, hs5, hown, hE⟩
  have HX5 := Lib.hid (HX3.out.trans (show Ext w3 w5 from hE))
  have HX50 := Lib.hid ((show Ext w2 (w2.alloc (.cells #[.bool false, .slice A' refs'.length cap'] 29)) by (repeat (first | (with_reducible assumption) | (with_reducible exact Ext.refl _) | (with_reducible exact Ext.more _ _ _ _) | (with_reducible apply Ext.alloc) | (with_reducible apply Ext.patch) | (with_reducible apply Ext.drew) | (with_reducible apply Ext.drewN) | (with_reducible refine Ext.setCell ?_ (by first | assumption | exact Nat.le_refl _ | exact Nat.le_add_right _ _) _)))).trans HX5.out)
  have HE5 := Lib.hid (HE3.out.trans (show Ext w3 w5 from hE))
  clear hE HOB HE3 HX3
  clear g0 g1 g2 g3 g4 g5 g6 g7 g8 gl
  rw [HI.out] at hown
  rw [HI.out]
  obtain ⟨Al, cl, rfl⟩ := own_form hown
  have HKI := Lib.hid (fun (h : c.check = 0) => kind_in HI.out h)
  have hz5 : w2.heap.size < w5.heap.size := (Array.getElem?_eq_some_iff.1 (HBS.out _ HX5.out)).1
  have HSB := Lib.hid (HBS.out _ HX5.out)
  by_cases hev : wrongE c true s5 0 false got = 0
  case neg =>
    generalize wrongE c true s5 0 false got = e5 at *
    have g0 : w5.cell? ⟨w.heap.size, 0, none⟩ = some (.int .i64 c.frags) := (by simp only [World.cell?, (HB.out _ HE5.out)]; rfl)
    have g1 : w5.cell? ⟨w.heap.size, 1, none⟩ = some (.int .i64 c.spine) := (by simp only [World.cell?, (HB.out _ HE5.out)]; rfl)
    have g2 : w5.cell? ⟨w.heap.size, 2, none⟩ = some (.int .i64 c.globals) := (by simp only [World.cell?, (HB.out _ HE5.out)]; rfl)
    have g3 : w5.cell? ⟨w.heap.size, 3, none⟩ = some (.int .i64 c.threads) := (by simp only [World.cell?, (HB.out _ HE5.out)]; rfl)
    have g4 : w5.cell? ⟨w.heap.size, 4, none⟩ = some (.int .i64 c.locals) := (by simp only [World.cell?, (HB.out _ HE5.out)]; rfl)
    have g5 : w5.cell? ⟨w.heap.size, 5, none⟩ = some (.int .i64 c.cache) := (by simp only [World.cell?, (HB.out _ HE5.out)]; rfl)
    have g6 : w5.cell? ⟨w.heap.size, 6, none⟩ = some (.int .i64 c.stack) := (by simp only [World.cell?, (HB.out _ HE5.out)]; rfl)
    have g7 : w5.cell? ⟨w.heap.size, 7, none⟩ = some (.int .i64 c.low) := (by simp only [World.cell?, (HB.out _ HE5.out)]; rfl)
    have g8 : w5.cell? ⟨w.heap.size, 8, none⟩ = some (.slice c.A c.shapes.length c.cap) := (by simp only [World.cell?, (HB.out _ HE5.out)]; rfl)
    have gl : w.heap.size < w5.heap.size := (Array.getElem?_eq_some_iff.1 (HB.out _ HE5.out)).1
    go_wp2_with fail
    have HFL := Lib.hid (fill_nil c 300 ⟨fun _ => 0, w5⟩ (HCO.out.ext (HW0.out.trans HE5.out)))
    unfold Cnf.val at HFL
    refine HFL.out.mono ?_
    rintro e w6 ⟨own6, bm, rfl, m6, r6⟩
    have M6 := Lib.hid m6
    clear m6 r6 HFL
    clear g0 g1 g2 g3 g4 g5 g6 g7 g8 gl
    have hevb : (e5 != 0) = true := by simp [hev]
    have HE6 := Lib.hid (HE5.out.trans M6.out.toExt)
    go_wp2_with fail
    refine (H.out _).mono ?_
    rintro e w9 ⟨rfl, hE9⟩
    have HE9 := Lib.hid (HE6.out.trans (show Ext w6 w9 from hE9))
    clear hE9
    go_wp2_with fail
    go_ret
    exact Gives.bool rfl (HW0.out.trans HE9.out)
  case pos =>
    obtain ⟨xs, V, words, hLD⟩ := far_laid hev (HKI.out (wrongE_fine hev).1) hown
    have hl5 : s5.refs = refs' := by
      have h1 := HS.out
      rw [← hs5] at h1
      exact (congrArg Prod.snd h1).symm
    rw [hl5] at hLD
    have HLD := Lib.hid hLD
    have HEC := HE5
    have HATC := Lib.hid (show c.shapeAt kind = some (false, refs') from by
      have h1 := HI.out
      have h2 := HS.out
      cases h3 : c.shapeAt kind with
      | none => rw [h3] at h1; cases h1
      | some p => rw [h3] at h2; rw [h2]; rfl)
    have HCK := Lib.hid hLD.check
    have HKD := Lib.hid (HKI.out hLD.check)
    have hmx : c.shapes.length ≤ 1000000 := by
      have h9 := (Cnf.check_zero hLD.check).2.2.1
      unfold within at h9
      simp only [decide_eq_true_eq] at h9
      omega
    have HW32 := Lib.hid (show cWords c = c.frags * 8 + c.spine + c.spine + c.globals ∧ 0 ≤ c.spine ∧ 0 ≤ c.globals ∧ c.frags ≤ 1024 from by
      obtain ⟨⟨_, _⟩, ⟨_, _⟩, ⟨_, _⟩, _⟩ := Cnf.ranged (Cnf.check_zero hLD.check).1
      exact ⟨by unfold cWords; rw [if_pos hLD.check], by omega, by omega, by omega⟩)
    have hg1 := hLD.one
    have hn8 := hLD.n
    have hr40 := hLD.refs40
    have hrk := HOK.out.len
    rw [hev]
    clear hown hs5 hl5 hev hLD m0 hz3
    have HOK5 := Lib.hid (HOK.out.ext HX50.out)
    have g0 : w5.cell? ⟨w.heap.size, 0, none⟩ = some (.int .i64 c.frags) := (by simp only [World.cell?, (HB.out _ HE5.out)]; rfl)
    have g1 : w5.cell? ⟨w.heap.size, 1, none⟩ = some (.int .i64 c.spine) := (by simp only [World.cell?, (HB.out _ HE5.out)]; rfl)
    have g2 : w5.cell? ⟨w.heap.size, 2, none⟩ = some (.int .i64 c.globals) := (by simp only [World.cell?, (HB.out _ HE5.out)]; rfl)
    have g3 : w5.cell? ⟨w.heap.size, 3, none⟩ = some (.int .i64 c.threads) := (by simp only [World.cell?, (HB.out _ HE5.out)]; rfl)
    have g4 : w5.cell? ⟨w.heap.size, 4, none⟩ = some (.int .i64 c.locals) := (by simp only [World.cell?, (HB.out _ HE5.out)]; rfl)
    have g5 : w5.cell? ⟨w.heap.size, 5, none⟩ = some (.int .i64 c.cache) := (by simp only [World.cell?, (HB.out _ HE5.out)]; rfl)
    have g6 : w5.cell? ⟨w.heap.size, 6, none⟩ = some (.int .i64 c.stack) := (by simp only [World.cell?, (HB.out _ HE5.out)]; rfl)
    have g7 : w5.cell? ⟨w.heap.size, 7, none⟩ = some (.int .i64 c.low) := (by simp only [World.cell?, (HB.out _ HE5.out)]; rfl)
    have g8 : w5.cell? ⟨w.heap.size, 8, none⟩ = some (.slice c.A c.shapes.length c.cap) := (by simp only [World.cell?, (HB.out _ HE5.out)]; rfl)
    have gl : w.heap.size < w5.heap.size := (Array.getElem?_eq_some_iff.1 (HB.out _ HE5.out)).1
    go_wp2_with fail
    have HFL := Lib.hid (fill_nil c 300 ⟨fun _ => 0, w5⟩ (HCO.out.ext (HW0.out.trans HE5.out)))
    unfold Cnf.val at HFL
    refine HFL.out.mono ?_
    rintro e w6 ⟨own6, bm, rfl, m6, r6⟩
    have M6 := Lib.hid (m6.mono (S := fun x => x ≠ 0) (fun _ => False.elim))
    have HC6 := Lib.hid ((show Seg ⟨fun _ => 0, w5⟩ 0 Al xs from ⟨HLD.out.cells, fun _ _ _ => rfl⟩).keep m6 id)
    have R6 := Lib.hid (show MemAt ⟨own6, w6⟩ 300 bm (memPut ⟨List.replicate (cWords c).toNat (0, 0), 0⟩ (onceAt got (-1)) V 0) from r6)
    clear m6 r6 HFL
    clear g0 g1 g2 g3 g4 g5 g6 g7 g8 gl
    have HWR := Lib.hid HLD.out.wr
    have HPK := Lib.hid (fun i k (hi : i < got.length) (hk : k < 8) => put_frag (V := V) HLD.out.once (by omega) HLD.out.inb (i := i) (k := k) hi hk)
    have HLN := Lib.hid (fun k => (memPut_len ⟨List.replicate (cWords c).toNat (0, 0), 0⟩ (onceAt got (-1)) V k).trans (show (List.replicate (cWords c).toNat ((0, 0) : Nat × Nat)).length = (cWords c).toNat by simp))
    have HCT := Lib.hid (fun k => memPut_count ⟨List.replicate (cWords c).toNat (0, 0), 0⟩ (onceAt got (-1)) V k)
    simp only at HCT
    generalize hMP : memPut ⟨List.replicate (cWords c).toNat (0, 0), 0⟩ (onceAt got (-1)) V = MP at *
    have HMP := Lib.hid (fun k => show MP (k + 1) = (MP k).tick.lay (onceAt got (-1) k) (V k) by rw [← hMP]; rfl)
    have hgz : ((got.length : Int) == 0) = false := beq_eq_false_iff_ne.2 (by omega)
    clear hMP HKI
    go_wp2_with fail
    go_loopw [12] (fun i wr => ∃ (j : Nat) (own : Nat → Nat), j ≤ nl ∧ i = .int .i64 j ∧ Hid (Mod (fun x => x = 300) ⟨own6, w6⟩ ⟨own, wr⟩) ∧ Hid (MemAt ⟨own, wr⟩ 300 bm (MP j))) (fun i _ => nl - (intOf i).toNat)
    case atStart => exact ⟨0, own6, Nat.zero_le _, rfl, Lib.hid (Mod.refl _ _), R6⟩
    case round =>
      obtain ⟨j, own3, hj, rfl, M3, R3⟩ := hrel
      obtain ⟨w3, rfl⟩ : ∃ w3 : World, w3 = wr := ⟨_, rfl⟩
      by_cases hlt : j < nl
      · obtain ⟨bl, ol, hA, hbl, hcl⟩ := (HC6.out.keep M3.out (by decide)).cells.cases (by rw [HWR.out.len]; omega)
        have l0 := hcl _ _ (HWR.out.at_ j hlt)
        have l1 := hcl _ _ (HWR.out.w j hlt)
        rw [← Nat.add_assoc] at l1
        have HK1 := Lib.hid (HMP.out j)
        have hcb := HCT.out j
        have HC3 := Lib.hid (show 0 ≤ (MP j).count ∧ (MP j).count ≤ 1099511627776 by rw [hcb]; omega)
        have HW := Lib.hid (fun X => mem_write (GW.pt ⟨own3, w3⟩ X) 300 bm (onceAt got (-1) j) (V j).1 (V j).2 (MP j) (R3.out.pt X) HC3.out)
        subst hA
        simp only at hbl l0 l1
        generalize V j = pq at *
        obtain ⟨p, q⟩ := pq
        generalize onceAt got (-1) j = a at *
        clear hcl hcb
        go_wp2_with fail
        refine wp_region_mixed [true, true, true, true, true, true, true, true, true, true, true, false] 1 11 (by kernel_rfl) (by kernel_rfl) (by kernel_rfl) ?_ (by decide) (by decide) (by decide) (by kernel_rfl) ?_
        · intro c a d v w h; cases d <;> exact h
        intro X00
        simp only [pickOps]
        repeat (go_big_quiet_step (fail))
        refine wpQuiet_nil (fun X0 => ?_)
        clear X00
        refine wpAnyM_tailL rfl (by kernel_rfl) (fun X2 => ?_)
        simp only [List.drop_succ_cons, List.drop_zero]
        go_wp2_with fail
        refine (HW.out _).mono ?_
        rintro e w4 ⟨rfl, own4, m4, r4⟩
        have M4 := Lib.hid m4
        have R4 := Lib.hid r4
        clear m4 r4
        go_wp2_with fail
        go_roundw
        case rel => exact ⟨j + 1, own4, by omega, by go_num, Lib.hid ((M3.out.trans (Mod.pt (Mod.refl _ _) _)).trans M4.out), Lib.hid (by rw [HK1.out]; exact R4.out)⟩
        case measure => simp [intOf]; omega
      · obtain rfl : j = nl := by omega
        have hct := HCT.out j
        have M7 := Lib.hid (M6.out.trans (M3.out.mono (S := fun x => x ≠ 0) (fun x hx => by omega)))
        have HE7 := Lib.hid (show Ext w5 w3 from ext_of_ne M7.out)
        have HFA := Lib.hid (fun cm (hs : cm.Same c) => show FarAll cm got kind (if isSide got = true then 1 else 0) refs' c.frags (MP j) from
          ⟨(same_check hs).trans HCK.out, hs.frags, HW32.out.2.2.2, HLD.out.gotb, (Cnf.Same.shapeAt hs kind).trans HATC.out, HKD.out, HLD.out.fld, HLD.out.len, by omega, fun a h0 h1 => by
            rw [HLN.out]
            obtain ⟨e1, e2, e3, e4⟩ := HW32.out
            unfold inB
            apply decide_eq_true
            omega, (HPK.out 0 1 hg1 (by decide)).trans HLD.out.head, fun i hi => (HPK.out i 0 (by omega) (by decide)).trans (HLD.out.link i hi)⟩)
        have HRR := Lib.hid (show MemAt ⟨own3, w3⟩ 300 bm (mAt (MP j) (((0 : Nat) : Int) + j)) from by
          have e : mAt (MP j) (((0 : Nat) : Int) + j) = MP j := by unfold mAt; rw [show ((0 : Nat) : Int) + (j : Int) = (MP j).count by omega]
          rw [e]
          exact R3.out)
        have HSD3 := Lib.hid (HSD.out (by omega) _ ((HW0.out.trans HE5.out).trans HE7.out))
        have HLF := Lib.hid HLD.out.fld
        clear hct R6 HC6 HPK HLN HCT HMP HWR HW32 R3 M3 M6 HSD HLD
        go_wp2_with fail
        refine HSD3.out.mono ?_
        rintro e w8 ⟨rfl, hE8⟩
        obtain ⟨own8, M8, R8⟩ : ∃ own8, Hid (Mod (fun x => x ≠ 0) ⟨fun _ => 0, w5⟩ ⟨own8, w8⟩) ∧ Hid (MemAt ⟨own8, w8⟩ 300 bm (mAt (MP j) (((0 : Nat) : Int) + j))) :=
          ⟨_, Lib.hid (M7.out.trans (Mod.ext (T := fun x => x ≠ 0) (g := ⟨own3, w3⟩) (show Ext w3 w8 from hE8) 0)), Lib.hid (HRR.out.keep (Mod.ext (T := fun _ => False) (g := ⟨own3, w3⟩) (show Ext w3 w8 from hE8) 0) id)⟩
        clear hE8 M7 HE7 HRR HSD3
        generalize MP j = mm at *
        generalize isSide got = sd at *
        have HJ := Lib.hid (show (j : Int) ≤ 1600 by omega)
        clear hn8
        go_wp2_with fail
        go_loopw [14] (fun i wr => ∃ (k cnt : Nat) (own : Nat → Nat), k ≤ refs'.length ∧ cnt ≤ 20 * k ∧ i = .int .i64 k ∧ Hid (Mod (fun x => x ≠ 0) ⟨fun _ => 0, w5⟩ ⟨own, wr⟩) ∧ Hid (MemAt ⟨own, wr⟩ 300 bm (mAt mm ((cnt : Int) + j)))) (fun i _ => refs'.length - (intOf i).toNat)
        case atStart => exact ⟨0, 0, own8, Nat.zero_le _, Nat.zero_le _, rfl, M8, R8⟩
        case round =>
          obtain ⟨k, cnt, own9, hk, hcnt, rfl, M9, R9⟩ := hrel
          obtain ⟨w9, rfl⟩ : ∃ w9 : World, w9 = wr := ⟨_, rfl⟩
          have HE9 := Lib.hid (show Ext w5 w9 from ext_of_ne M9.out)
          have HS9 := Lib.hid ((HE9.out.heap _ hz5).trans HSB.out)
          have t0 : w9.cell? ⟨w2.heap.size, 0, none⟩ = some (.bool false) := by simp only [World.cell?, HS9.out]; rfl
          have t1 : w9.cell? ⟨w2.heap.size, 1, none⟩ = some (.slice A' refs'.length cap') := by simp only [World.cell?, HS9.out]; rfl
          have tl : w2.heap.size < w9.heap.size := (Array.getElem?_eq_some_iff.1 HS9.out).1
          by_cases hlt : k < refs'.length
          · obtain ⟨pf, hpf, pw, hpw⟩ : ∃ pf : Nat, Shp.placeF k = pf ∧ ∃ pw, Shp.placeW k = pw := by
              have : 0 ≤ Shp.placeF k := by unfold Shp.placeF; split <;> omega
              exact ⟨(Shp.placeF k).toNat, by omega, _, rfl⟩
            have hpf5 : pf ≤ 5 := by unfold Shp.placeF at hpf; split at hpf <;> omega
            have HPF := Lib.hid (And.intro hpf hpw)
            have HPL := Lib.hid (show Calls Try.prog 21 #[.agg #[.bool false, .slice A' refs'.length cap'], .int .i64 k] w9 (Gives (.tuple #[.int .i64 pf, .int .i64 pw, .bool true]) w9) from by
              have h1 := place_any ⟨false, A', cap', refs'⟩ k w9 (HOK5.out.ext HE9.out) (by omega) (by omega)
              unfold Shp.place at h1
              rw [if_pos (HLF.out k hlt A' cap'), hpf, hpw] at h1
              exact h1)
            clear hpf hpw
            go_wp2_with fail
            refine HPL.out.mono ?_
            rintro e w10 ⟨rfl, hE10⟩
            obtain ⟨own10, M10, R10⟩ : ∃ own10, Hid (Mod (fun x => x ≠ 0) ⟨fun _ => 0, w5⟩ ⟨own10, w10⟩) ∧ Hid (MemAt ⟨own10, w10⟩ 300 bm (mAt mm ((cnt : Int) + j))) :=
              ⟨_, Lib.hid (M9.out.trans (Mod.ext (T := fun x => x ≠ 0) (g := ⟨own9, w9⟩) (show Ext w9 w10 from hE10) 0)), Lib.hid (R9.out.keep (Mod.ext (T := fun _ => False) (g := ⟨own9, w9⟩) (show Ext w9 w10 from hE10) 0) id)⟩
            clear hE10 HPL M9 R9 t0 t1 tl HS9 HE9
            have HE10 := Lib.hid (show Ext w5 w10 from ext_of_ne M10.out)
            obtain ⟨bq, oq, hAq, hq, hcq⟩ := ints_at (HG.out.ext ((HW0.out.trans HE5.out).trans HE10.out)) (k := 0) hg1
            have z0 := hcq 0 hg1
            rw [Nat.add_zero] at z0
            subst hAq
            try simp only at hq z0
            have HFI := Lib.hid (fun X => find_field c (got.getD 0 0) k 310 (GW.pt ⟨own10, w10⟩ X) (HCO.out.ext (((HW0.out.trans HE5.out).trans HE10.out).trans ⟨X, rfl⟩)) hmx)
            unfold Cnf.val at HFI
            have g0 : w10.cell? ⟨w.heap.size, 0, none⟩ = some (.int .i64 c.frags) := (by simp only [World.cell?, (HB.out _ (HE5.out.trans HE10.out))]; rfl)
            have g1 : w10.cell? ⟨w.heap.size, 1, none⟩ = some (.int .i64 c.spine) := (by simp only [World.cell?, (HB.out _ (HE5.out.trans HE10.out))]; rfl)
            have g2 : w10.cell? ⟨w.heap.size, 2, none⟩ = some (.int .i64 c.globals) := (by simp only [World.cell?, (HB.out _ (HE5.out.trans HE10.out))]; rfl)
            have g3 : w10.cell? ⟨w.heap.size, 3, none⟩ = some (.int .i64 c.threads) := (by simp only [World.cell?, (HB.out _ (HE5.out.trans HE10.out))]; rfl)
            have g4 : w10.cell? ⟨w.heap.size, 4, none⟩ = some (.int .i64 c.locals) := (by simp only [World.cell?, (HB.out _ (HE5.out.trans HE10.out))]; rfl)
            have g5 : w10.cell? ⟨w.heap.size, 5, none⟩ = some (.int .i64 c.cache) := (by simp only [World.cell?, (HB.out _ (HE5.out.trans HE10.out))]; rfl)
            have g6 : w10.cell? ⟨w.heap.size, 6, none⟩ = some (.int .i64 c.stack) := (by simp only [World.cell?, (HB.out _ (HE5.out.trans HE10.out))]; rfl)
            have g7 : w10.cell? ⟨w.heap.size, 7, none⟩ = some (.int .i64 c.low) := (by simp only [World.cell?, (HB.out _ (HE5.out.trans HE10.out))]; rfl)
            have g8 : w10.cell? ⟨w.heap.size, 8, none⟩ = some (.slice c.A c.shapes.length c.cap) := (by simp only [World.cell?, (HB.out _ (HE5.out.trans HE10.out))]; rfl)
            have gl : w.heap.size < w10.heap.size := (Array.getElem?_eq_some_iff.1 (HB.out _ (HE5.out.trans HE10.out))).1
            clear hcq
            generalize hy0 : got.getD 0 0 = y0 at *
            have HY0 := Lib.hid hy0
            clear hy0
            go_wp2_with fail
            refine wp_region_mixed [true, true, true, true, true, false, false] 2 5 (by kernel_rfl) (by kernel_rfl) (by kernel_rfl) ?_ (by decide) (by decide) (by decide) (by kernel_rfl) ?_
            · intro c a d v w h; cases d <;> exact h
            intro X00
            simp only [pickOps]
            repeat (go_big_quiet_step (fail))
            refine wpQuiet_nil (fun X0 => ?_)
            clear X00
            refine wpAnyM_tailL rfl (by kernel_rfl) (fun X2 => ?_)
            simp only [List.drop_succ_cons, List.drop_zero]
            go_wp2_with fail
            refine (HFI.out _).mono ?_
            rintro e w11 ⟨own11, bf, cm, rfl, m11, r11, hs11⟩
            have HOK11 := Lib.hid (fun (n : Int) hn => (HFA.out cm hs11).ok hlt HPF.out.1 HPF.out.2 (n := n) hn)
            have mf : Mod (fun _ => False) ⟨own10, w10⟩ ⟨own11, w11⟩ := (Mod.pt (Mod.refl (fun _ => False) _) _).trans m11
            have M11 := Lib.hid (M10.out.trans (mf.mono (T := fun _ => False) (S := fun x => x ≠ 0) (fun _ => False.elim)))
            have R11 := Lib.hid (show MemAt ⟨own11, w11⟩ 300 bm (mAt mm (((cnt + 0 : Nat) : Int) + j)) from R10.out.keep mf id)
            have F11 := Lib.hid (show FindAt ⟨own11, w11⟩ 310 bf (FindS.fresh cm (got.getD 0 0) k false (got.getD 0 0)) from by rw [HY0.out]; exact r11)
            clear m11 r11 hs11 mf g0 g1 g2 g3 g4 g5 g6 g7 g8 gl z0 hq HFI M10 R10 HE10
            generalize hone : (decide ((if sd = true then (1 : Int) else 0) = 1) || decide (pf = 0)) = one at *
            have HW := Lib.hid (show farW pf one = if sd = true then 1 else pf + 1 from by
              rw [← hone]
              unfold farW
              cases sd <;> simp)
            have HONE := Lib.hid hone
            clear hone
            go_wp2_with fail
            go_loopw [19] (fun i wr => ∃ (q : Nat) (own : Nat → Nat) (S : FindS), i = .int .i64 q ∧ Hid (OnWay cm got k (refs'.getD k false) pf pw one S q) ∧ Hid (Mod (fun x => x ≠ 0) ⟨fun _ => 0, w5⟩ ⟨own, wr⟩) ∧ Hid (FindAt ⟨own, wr⟩ 310 bf S) ∧ Hid (MemAt ⟨own, wr⟩ 300 bm (mAt mm (((cnt + q : Nat) : Int) + j)))) (fun i _ => 20 - (intOf i).toNat)
            case atStart => exact ⟨0, own11, _, rfl, Lib.hid (onWay_start _ _ _ _ _ _ _), M11, F11, R11⟩
            case round =>
              obtain ⟨q, own12, S, rfl, HOW, M12, F12, R12⟩ := hrel
              obtain ⟨w12, rfl⟩ : ∃ w12 : World, w12 = wr := ⟨_, rfl⟩
              have hqw := onWay_le HOW.out
              have hw6 : farW pf one ≤ 6 := by rw [HW.out]; split <;> omega
              have hq20 : q < 20 := by omega
              have HPC := Lib.hid (onWay_pc HOW.out)
              have HSTP := Lib.hid (onWay_steps HOW.out)
              go_wp2_with fail
              refine (find_done ⟨own12, w12⟩ 310 bf S F12.out).mono ?_
              rintro e wv ⟨rfl, rfl⟩
              rw [HPC.out]
              by_cases hqe : q = farW pf one
              · rw [decide_eq_true hqe]
                have HQ := Lib.hid (hqe.trans HW.out)
                clear hqe hqw hw6 HPC HW HONE
                cases sd
                · obtain rfl : q = pf + 1 := HQ.out
                  go_wp2_with fail
                  refine (find_steps ⟨own12, w12⟩ 310 bf S F12.out).mono ?_
                  rintro e wv ⟨rfl, rfl⟩
                  rw [HSTP.out]
                  go_wp2_with fail
                  go_roundw
                  case rel => exact ⟨k + 1, cnt + (pf + 1), own12, by omega, by omega, by go_num, M12, R12⟩
                  case measure => simp [intOf]; omega
                · obtain rfl : q = 1 := HQ.out
                  go_wp2_with fail
                  refine (find_steps ⟨own12, w12⟩ 310 bf S F12.out).mono ?_
                  rintro e wv ⟨rfl, rfl⟩
                  rw [HSTP.out]
                  go_wp2_with fail
                  go_roundw
                  case rel => exact ⟨k + 1, cnt + 1, own12, by omega, by omega, by go_num, M12, R12⟩
                  case measure => simp [intOf]; omega
              · rw [decide_eq_false hqe]
                obtain ⟨x, hst⟩ := onWay_step (HOK11.out (((cnt + q : Nat) : Int) + j) ⟨by omega, by have := HJ.out; omega⟩) (by split <;> omega) (by rw [HONE.out]; exact HOW.out) (by rw [HONE.out]; omega) ⟨own12, w12⟩ bf bm F12.out R12.out
                rw [HONE.out] at hst
                have HST := Lib.hid hst
                clear hst HPC HSTP HW hqe hqw hw6
                go_wp2_with fail
                refine HST.out.mono ?_
                rintro e w13 ⟨rfl, own13, m13, S', o13, f13, r13⟩
                have M13 := Lib.hid (M12.out.trans (m13.mono (S := fun x => x ≠ 0) (fun x hx => by omega)))
                have R13 := Lib.hid (show MemAt ⟨own13, w13⟩ 300 bm (mAt mm (((cnt + (q + 1) : Nat) : Int) + j)) from by
                  rw [show (((cnt + (q + 1) : Nat) : Int) + j) = ((cnt + q : Nat) : Int) + j + 1 by omega]
                  exact r13)
                have F13 := Lib.hid f13
                have O13 := Lib.hid o13
                clear m13 o13 f13 r13
                go_wp2_with fail
                go_roundw
                case rel => exact ⟨q + 1, own13, S', by go_num, O13, M13, F13, R13⟩
                case measure => simp [intOf]; omega
          · obtain rfl : k = refs'.length := by omega
            go_wp2_with fail
            refine (H.out _).mono ?_
            rintro e w10 ⟨rfl, hE10⟩
            have HE10 := Lib.hid (show Ext w9 w10 from hE10)
            clear hE10
            go_wp2_with fail
            go_ret
            exact Gives.bool rfl ((HW0.out.trans (HE5.out.trans HE9.out)).trans HE10.out)
end Go.Proofs.Ytmgkfpmmlibmcaa
