/-
  spolaw16.TraceSteps.
-/
import Derived.Test.YthdijbkcjmeilaaTraceO
namespace Go.Proofs.Ythdijbkcjmeilaa
open Go Go.RowKit
set_option linter.unusedVariables false
set_option linter.unnecessarySimpa false
set_option linter.unusedSimpArgs false
/-- Behind the end of a run. -/
theorem bools_at {w : World} {A : Option Addr} {l : List Bool} (h : CellsAt w A (l.map Value.bool)) {k : Nat} (hk : k < l.length) : ∃ b o, A = some ⟨b, o, none⟩ ∧ b < w.heap.size ∧ w.cell? ⟨b, o + k, none⟩ = some (.bool (l.getD k false)) := by
  obtain ⟨b, o, hA, hb, hc⟩ := h.cases (by simp; omega)
  exact ⟨b, o, hA, hb, hc k _ (by simp [List.getD, List.getElem?_eq_getElem hk])⟩
set_option maxRecDepth 100000 in
set_option maxHeartbeats 4000000 in
theorem tsteps_any (c : Cnf) (kind : Int) (A : Option Addr) (cap : Nat) (got : List Int) (D : Option Addr) (capd : Nat) (giv : List Bool) (w : World) (hc : c.Ok w) (hg : CellsAt w A (got.map (Value.int .i64))) (hcap : got.length ≤ cap) (hcm : cap ≤ 9223372036854775807) (hw : ∀ x ∈ got, -9223372036854775808 ≤ x ∧ x ≤ 9223372036854775807) (hgv : CellsAt w D (giv.map Value.bool)) (hgm : giv.length ≤ 9223372036854775807) :
    Calls Try.prog 4 #[c.val, .int .i64 kind, .slice A got.length cap, .slice D giv.length capd] w (Gives (.bool true) w) := by
  have H := Lib.hid (fun w' => first16_any w')
  have HSH := Lib.hid (fun w' (he : Ext w w') => shape_any c kind w' (hc.ext he))
  have HFW := Lib.hid (fun w' (he : Ext w w') => few_any c w' (hc.ext he))
  have HOB := Lib.hid (fun (h : got.length ≤ 200) w' (he : Ext w w') => object_any c kind A cap got w' (hc.ext he) (hg.ext he) (by omega) hw)
  have HG := Lib.hid hg
  have HCO := Lib.hid hc
  have HGV := Lib.hid hgv
  clear hc hg hw hgv
  unfold Cnf.val at HSH HFW HOB ⊢
  go_enter Try.func4, Try.ntmps4
  go_wp2_with fail
  have HB := Lib.hid (later_blk w (.cells #[.int .i64 c.frags, .int .i64 c.spine, .int .i64 c.globals, .int .i64 c.threads, .int .i64 c.locals, .int .i64 c.cache, .int .i64 c.stack, .int .i64 c.low, .slice c.A c.shapes.length c.cap] 24))
  have HW0 := Lib.hid (show Ext w (w.alloc (.cells #[.int .i64 c.frags, .int .i64 c.spine, .int .i64 c.globals, .int .i64 c.threads, .int .i64 c.locals, .int .i64 c.cache, .int .i64 c.stack, .int .i64 c.low, .slice c.A c.shapes.length c.cap] 24)) by (repeat (first | (with_reducible assumption) | (with_reducible exact Ext.refl _) | (with_reducible exact Ext.more _ _ _ _) | (with_reducible apply Ext.alloc) | (with_reducible apply Ext.patch) | (with_reducible apply Ext.drew) | (with_reducible apply Ext.drewN) | (with_reducible refine Ext.setCell ?_ (by first | assumption | exact Nat.le_refl _ | exact Nat.le_add_right _ _) _))))
  refine (H.out _).mono ?_
  rintro e w1 ⟨rfl, hE⟩
  have HE1 := Lib.hid (show Ext (w.alloc (.cells #[.int .i64 c.frags, .int .i64 c.spine, .int .i64 c.globals, .int .i64 c.threads, .int .i64 c.locals, .int .i64 c.cache, .int .i64 c.stack, .int .i64 c.low, .slice c.A c.shapes.length c.cap] 24)) w1 from hE)
  clear hE
  have g0 : w1.cell? ⟨w.heap.size, 0, none⟩ = some (.int .i64 c.frags) := (by simp only [World.cell?, (HB.out _ HE1.out)]; rfl)
  have g1 : w1.cell? ⟨w.heap.size, 1, none⟩ = some (.int .i64 c.spine) := (by simp only [World.cell?, (HB.out _ HE1.out)]; rfl)
  have g2 : w1.cell? ⟨w.heap.size, 2, none⟩ = some (.int .i64 c.globals) := (by simp only [World.cell?, (HB.out _ HE1.out)]; rfl)
  have g3 : w1.cell? ⟨w.heap.size, 3, none⟩ = some (.int .i64 c.threads) := (by simp only [World.cell?, (HB.out _ HE1.out)]; rfl)
  have g4 : w1.cell? ⟨w.heap.size, 4, none⟩ = some (.int .i64 c.locals) := (by simp only [World.cell?, (HB.out _ HE1.out)]; rfl)
  have g5 : w1.cell? ⟨w.heap.size, 5, none⟩ = some (.int .i64 c.cache) := (by simp only [World.cell?, (HB.out _ HE1.out)]; rfl)
  have g6 : w1.cell? ⟨w.heap.size, 6, none⟩ = some (.int .i64 c.stack) := (by simp only [World.cell?, (HB.out _ HE1.out)]; rfl)
  have g7 : w1.cell? ⟨w.heap.size, 7, none⟩ = some (.int .i64 c.low) := (by simp only [World.cell?, (HB.out _ HE1.out)]; rfl)
  have g8 : w1.cell? ⟨w.heap.size, 8, none⟩ = some (.slice c.A c.shapes.length c.cap) := (by simp only [World.cell?, (HB.out _ HE1.out)]; rfl)
  have gl : w.heap.size < w1.heap.size := (Array.getElem?_eq_some_iff.1 (HB.out _ HE1.out)).1
  go_wp2_with fail
  refine (HSH.out _ (HW0.out.trans HE1.out)).mono ?_
  rintro e w2 ⟨s', rfl, hs, hfr, hok, hE⟩
  have HE2 := Lib.hid (HE1.out.trans (show Ext w1 w2 from hE))
  have HS := Lib.hid hs
  have HOK := Lib.hid hok
  clear hE hfr hs hok HE1 HSH
  clear g0 g1 g2 g3 g4 g5 g6 g7 g8 gl
  generalize hI : (c.shapeAt kind).isSome = is
  have HI := Lib.hid hI
  clear hI
  obtain ⟨arr', A', cap', refs'⟩ := s'
  unfold Shp.val
  have g0 : w2.cell? ⟨w.heap.size, 0, none⟩ = some (.int .i64 c.frags) := (by simp only [World.cell?, (HB.out _ HE2.out)]; rfl)
  have g1 : w2.cell? ⟨w.heap.size, 1, none⟩ = some (.int .i64 c.spine) := (by simp only [World.cell?, (HB.out _ HE2.out)]; rfl)
  have g2 : w2.cell? ⟨w.heap.size, 2, none⟩ = some (.int .i64 c.globals) := (by simp only [World.cell?, (HB.out _ HE2.out)]; rfl)
  have g3 : w2.cell? ⟨w.heap.size, 3, none⟩ = some (.int .i64 c.threads) := (by simp only [World.cell?, (HB.out _ HE2.out)]; rfl)
  have g4 : w2.cell? ⟨w.heap.size, 4, none⟩ = some (.int .i64 c.locals) := (by simp only [World.cell?, (HB.out _ HE2.out)]; rfl)
  have g5 : w2.cell? ⟨w.heap.size, 5, none⟩ = some (.int .i64 c.cache) := (by simp only [World.cell?, (HB.out _ HE2.out)]; rfl)
  have g6 : w2.cell? ⟨w.heap.size, 6, none⟩ = some (.int .i64 c.stack) := (by simp only [World.cell?, (HB.out _ HE2.out)]; rfl)
  have g7 : w2.cell? ⟨w.heap.size, 7, none⟩ = some (.int .i64 c.low) := (by simp only [World.cell?, (HB.out _ HE2.out)]; rfl)
  have g8 : w2.cell? ⟨w.heap.size, 8, none⟩ = some (.slice c.A c.shapes.length c.cap) := (by simp only [World.cell?, (HB.out _ HE2.out)]; rfl)
  have gl : w.heap.size < w2.heap.size := (Array.getElem?_eq_some_iff.1 (HB.out _ HE2.out)).1
  have HBS := Lib.hid (later_blk w2 (.cells #[.bool arr', .slice A' refs'.length cap'] 37))
  go_wp2_with fail
  refine (HFW.out _ (HW0.out.trans (HE2.out.alloc _))).mono ?_
  rintro e w3 ⟨rfl, hE⟩
  have HX3 := Lib.hid (show Ext (w2.alloc (.cells #[.bool arr', .slice A' refs'.length cap'] 37)) w3 from hE)
  have HE3 := Lib.hid ((HE2.out.alloc _).trans HX3.out)
  clear hE HFW HE2
  clear g0 g1 g2 g3 g4 g5 g6 g7 g8 gl
  have g0 : w3.cell? ⟨w.heap.size, 0, none⟩ = some (.int .i64 c.frags) := (by simp only [World.cell?, (HB.out _ HE3.out)]; rfl)
  have g1 : w3.cell? ⟨w.heap.size, 1, none⟩ = some (.int .i64 c.spine) := (by simp only [World.cell?, (HB.out _ HE3.out)]; rfl)
  have g2 : w3.cell? ⟨w.heap.size, 2, none⟩ = some (.int .i64 c.globals) := (by simp only [World.cell?, (HB.out _ HE3.out)]; rfl)
  have g3 : w3.cell? ⟨w.heap.size, 3, none⟩ = some (.int .i64 c.threads) := (by simp only [World.cell?, (HB.out _ HE3.out)]; rfl)
  have g4 : w3.cell? ⟨w.heap.size, 4, none⟩ = some (.int .i64 c.locals) := (by simp only [World.cell?, (HB.out _ HE3.out)]; rfl)
  have g5 : w3.cell? ⟨w.heap.size, 5, none⟩ = some (.int .i64 c.cache) := (by simp only [World.cell?, (HB.out _ HE3.out)]; rfl)
  have g6 : w3.cell? ⟨w.heap.size, 6, none⟩ = some (.int .i64 c.stack) := (by simp only [World.cell?, (HB.out _ HE3.out)]; rfl)
  have g7 : w3.cell? ⟨w.heap.size, 7, none⟩ = some (.int .i64 c.low) := (by simp only [World.cell?, (HB.out _ HE3.out)]; rfl)
  have g8 : w3.cell? ⟨w.heap.size, 8, none⟩ = some (.slice c.A c.shapes.length c.cap) := (by simp only [World.cell?, (HB.out _ HE3.out)]; rfl)
  have gl : w.heap.size < w3.heap.size := (Array.getElem?_eq_some_iff.1 (HB.out _ HE3.out)).1
  have m0 : w3.cell? ⟨w2.heap.size, 0, none⟩ = some (.bool arr') := by simp only [World.cell?, HBS.out _ HX3.out]; rfl
  have hz3 : w2.heap.size < w3.heap.size := (Array.getElem?_eq_some_iff.1 (HBS.out _ HX3.out)).1
  cases Few c
  · go_wp2_with fail
    refine (H.out _).mono ?_
    rintro e w9 ⟨rfl, hE9⟩
    have HE9 := Lib.hid (HE3.out.trans (show Ext w3 w9 from hE9))
    clear hE9
    go_wp2_with fail
    go_ret
    exact Gives.bool rfl (HW0.out.trans HE9.out)
  cases is
  · go_wp2_with fail
    refine (H.out _).mono ?_
    rintro e w9 ⟨rfl, hE9⟩
    have HE9 := Lib.hid (HE3.out.trans (show Ext w3 w9 from hE9))
    clear hE9
    go_wp2_with fail
    go_ret
    exact Gives.bool rfl (HW0.out.trans HE9.out)
  cases arr'
  case true =>
    go_wp2_with fail
    refine (H.out _).mono ?_
    rintro e w9 ⟨rfl, hE9⟩
    have HE9 := Lib.hid (HE3.out.trans (show Ext w3 w9 from hE9))
    clear hE9
    go_wp2_with fail
    go_ret
    exact Gives.bool rfl (HW0.out.trans HE9.out)
  by_cases hl : 200 < got.length
  · have hl' : decide ((200 : Int) < got.length) = true := decide_eq_true (by omega)
    go_wp2_with fail
    refine (H.out _).mono ?_
    rintro e w9 ⟨rfl, hE9⟩
    have HE9 := Lib.hid (HE3.out.trans (show Ext w3 w9 from hE9))
    clear hE9
    go_wp2_with fail
    go_ret
    exact Gives.bool rfl (HW0.out.trans HE9.out)
  have hl' : decide ((200 : Int) < got.length) = false := decide_eq_false (by omega)
  go_wp2_with fail
  refine (HOB.out (by omega) _ (HW0.out.trans HE3.out)).mono ?_
  rintro e w5 ⟨s5, l, nl, rfl, hs5, hown, hE⟩
  have HX5 := Lib.hid (HX3.out.trans (show Ext w3 w5 from hE))
  have HX50 := Lib.hid ((show Ext w2 (w2.alloc (.cells #[.bool false, .slice A' refs'.length cap'] 37)) by (repeat (first | (with_reducible assumption) | (with_reducible exact Ext.refl _) | (with_reducible exact Ext.more _ _ _ _) | (with_reducible apply Ext.alloc) | (with_reducible apply Ext.patch) | (with_reducible apply Ext.drew) | (with_reducible apply Ext.drewN) | (with_reducible refine Ext.setCell ?_ (by first | assumption | exact Nat.le_refl _ | exact Nat.le_add_right _ _) _)))).trans HX5.out)
  have HE5 := Lib.hid (HE3.out.trans (show Ext w3 w5 from hE))
  clear hE HOB HE3 HX3
  clear g0 g1 g2 g3 g4 g5 g6 g7 g8 gl
  rw [HI.out] at hown
  rw [HI.out]
  obtain ⟨Al, cl, rfl⟩ := own_form hown
  have HKI := Lib.hid (fun (h : c.check = 0) => kind_in HI.out h)
  have hz5 : w2.heap.size < w5.heap.size := (Array.getElem?_eq_some_iff.1 (HBS.out _ HX5.out)).1
  have HSB := Lib.hid (HBS.out _ HX5.out)
  by_cases hev : wrongE c true s5 0 false got = 0
  case neg =>
    generalize wrongE c true s5 0 false got = e5 at *
    have g0 : w5.cell? ⟨w.heap.size, 0, none⟩ = some (.int .i64 c.frags) := (by simp only [World.cell?, (HB.out _ HE5.out)]; rfl)
    have g1 : w5.cell? ⟨w.heap.size, 1, none⟩ = some (.int .i64 c.spine) := (by simp only [World.cell?, (HB.out _ HE5.out)]; rfl)
    have g2 : w5.cell? ⟨w.heap.size, 2, none⟩ = some (.int .i64 c.globals) := (by simp only [World.cell?, (HB.out _ HE5.out)]; rfl)
    have g3 : w5.cell? ⟨w.heap.size, 3, none⟩ = some (.int .i64 c.threads) := (by simp only [World.cell?, (HB.out _ HE5.out)]; rfl)
    have g4 : w5.cell? ⟨w.heap.size, 4, none⟩ = some (.int .i64 c.locals) := (by simp only [World.cell?, (HB.out _ HE5.out)]; rfl)
    have g5 : w5.cell? ⟨w.heap.size, 5, none⟩ = some (.int .i64 c.cache) := (by simp only [World.cell?, (HB.out _ HE5.out)]; rfl)
    have g6 : w5.cell? ⟨w.heap.size, 6, none⟩ = some (.int .i64 c.stack) := (by simp only [World.cell?, (HB.out _ HE5.out)]; rfl)
    have g7 : w5.cell? ⟨w.heap.size, 7, none⟩ = some (.int .i64 c.low) := (by simp only [World.cell?, (HB.out _ HE5.out)]; rfl)
    have g8 : w5.cell? ⟨w.heap.size, 8, none⟩ = some (.slice c.A c.shapes.length c.cap) := (by simp only [World.cell?, (HB.out _ HE5.out)]; rfl)
    have gl : w.heap.size < w5.heap.size := (Array.getElem?_eq_some_iff.1 (HB.out _ HE5.out)).1
    go_wp2_with fail
    have HFL := Lib.hid (fill_nil c 300 ⟨fun _ => 0, w5⟩ (HCO.out.ext (HW0.out.trans HE5.out)))
    unfold Cnf.val at HFL
    refine HFL.out.mono ?_
    rintro e w6 ⟨own6, bm, rfl, m6, r6⟩
    have M6 := Lib.hid m6
    clear m6 r6 HFL
    clear g0 g1 g2 g3 g4 g5 g6 g7 g8 gl
    have hevb : (e5 != 0) = true := by simp [hev]
    have HE6 := Lib.hid (HE5.out.trans M6.out.toExt)
    have g0 : w6.cell? ⟨w.heap.size, 0, none⟩ = some (.int .i64 c.frags) := (by simp only [World.cell?, (HB.out _ HE6.out)]; rfl)
    have g1 : w6.cell? ⟨w.heap.size, 1, none⟩ = some (.int .i64 c.spine) := (by simp only [World.cell?, (HB.out _ HE6.out)]; rfl)
    have g2 : w6.cell? ⟨w.heap.size, 2, none⟩ = some (.int .i64 c.globals) := (by simp only [World.cell?, (HB.out _ HE6.out)]; rfl)
    have g3 : w6.cell? ⟨w.heap.size, 3, none⟩ = some (.int .i64 c.threads) := (by simp only [World.cell?, (HB.out _ HE6.out)]; rfl)
    have g4 : w6.cell? ⟨w.heap.size, 4, none⟩ = some (.int .i64 c.locals) := (by simp only [World.cell?, (HB.out _ HE6.out)]; rfl)
    have g5 : w6.cell? ⟨w.heap.size, 5, none⟩ = some (.int .i64 c.cache) := (by simp only [World.cell?, (HB.out _ HE6.out)]; rfl)
    have g6 : w6.cell? ⟨w.heap.size, 6, none⟩ = some (.int .i64 c.stack) := (by simp only [World.cell?, (HB.out _ HE6.out)]; rfl)
    have g7 : w6.cell? ⟨w.heap.size, 7, none⟩ = some (.int .i64 c.low) := (by simp only [World.cell?, (HB.out _ HE6.out)]; rfl)
    have g8 : w6.cell? ⟨w.heap.size, 8, none⟩ = some (.slice c.A c.shapes.length c.cap) := (by simp only [World.cell?, (HB.out _ HE6.out)]; rfl)
    have gl : w.heap.size < w6.heap.size := (Array.getElem?_eq_some_iff.1 (HB.out _ HE6.out)).1
    have HSN := Lib.hid (show ∀ w', Ext w6 w' → Calls Try.prog 17 #[.int .i64 c.frags, .int .i64 c.stack] w' (fun e w'' => ∃ A, (∃ k, e = .returned (.tuple #[.pointer A, .int .i64 k])) ∧ Ext w' w'') from fun w' _ => (shd_new c.frags c.stack 330 331 332 ⟨own6, w'⟩).mono (fun e w'' hh => by
      unfold ShdMade at hh
      split at hh
      · obtain ⟨own', b, bt, bp, rfl, m, _⟩ := hh
        exact ⟨_, ⟨_, rfl⟩, m.toExt⟩
      · obtain ⟨rfl, he⟩ := hh
        exact ⟨_, ⟨_, rfl⟩, he⟩))
    go_wp2_with fail
    refine (HSN.out _ (by (repeat (first | (with_reducible assumption) | (with_reducible exact Ext.refl _) | (with_reducible exact Ext.more _ _ _ _) | apply Ext.alloc | refine Ext.setCell ?_ (by first | exact Nat.le_refl _ | exact Nat.le_add_right _ _ | assumption) _ | apply Ext.patch | apply Ext.drew | apply Ext.drewN)))).mono ?_
    rintro e w7 ⟨Ax, ⟨kx, rfl⟩, hX⟩
    have HE7 := Lib.hid (HE6.out.trans (show Ext w6 w7 from hX))
    clear hX
    go_wp2_with fail
    refine (H.out _).mono ?_
    rintro e w9 ⟨rfl, hE9⟩
    have HE9 := Lib.hid (HE7.out.trans (show Ext w7 w9 from hE9))
    clear hE9
    go_wp2_with fail
    go_ret
    exact Gives.bool rfl (HW0.out.trans HE9.out)
  case pos =>
    obtain ⟨xs, V, words, hLD, hNO⟩ := far_laid2 hev (HKI.out (wrongE_fine hev).1) hown
    have hsz5 := wrongE_fine hev
    have hl5 : s5.refs = refs' := by
      have h1 := HS.out
      rw [← hs5] at h1
      exact (congrArg Prod.snd h1).symm
    rw [hl5] at hLD hNO
    have HNO := Lib.hid hNO
    clear hNO
    have HSZ := Lib.hid (show (got.length : Int) = Shp.size ⟨false, none, 0, refs'⟩ 0 from by
      have h1 := hsz5.2.2.2.2.1
      rw [h1, ← hl5]
      have h2 := hsz5.2.2.2.1
      unfold Shp.size Shp.may Shp.len
      simp only [h2])
    clear hsz5
    have HLD := Lib.hid hLD
    have HEC := HE5
    have HATC := Lib.hid (show c.shapeAt kind = some (false, refs') from by
      have h1 := HI.out
      have h2 := HS.out
      cases h3 : c.shapeAt kind with
      | none => rw [h3] at h1; cases h1
      | some p => rw [h3] at h2; rw [h2]; rfl)
    have HCK := Lib.hid hLD.check
    have HKD := Lib.hid (HKI.out hLD.check)
    have hmx : c.shapes.length ≤ 1000000 := by
      have h9 := (Cnf.check_zero hLD.check).2.2.1
      unfold within at h9
      simp only [decide_eq_true_eq] at h9
      omega
    have HW32 := Lib.hid (show cWords c = c.frags * 8 + c.spine + c.spine + c.globals ∧ 0 ≤ c.spine ∧ 0 ≤ c.globals ∧ c.frags ≤ 1024 from by
      obtain ⟨⟨_, _⟩, ⟨_, _⟩, ⟨_, _⟩, _⟩ := Cnf.ranged (Cnf.check_zero hLD.check).1
      exact ⟨by unfold cWords; rw [if_pos hLD.check], by omega, by omega, by omega⟩)
    have hg1 := hLD.one
    have hn8 := hLD.n
    have hr40 := hLD.refs40
    have hrk := HOK.out.len
    rw [hev]
    clear hown hs5 hl5 hev hLD m0 hz3
    have HOK5 := Lib.hid (HOK.out.ext HX50.out)
    have g0 : w5.cell? ⟨w.heap.size, 0, none⟩ = some (.int .i64 c.frags) := (by simp only [World.cell?, (HB.out _ HE5.out)]; rfl)
    have g1 : w5.cell? ⟨w.heap.size, 1, none⟩ = some (.int .i64 c.spine) := (by simp only [World.cell?, (HB.out _ HE5.out)]; rfl)
    have g2 : w5.cell? ⟨w.heap.size, 2, none⟩ = some (.int .i64 c.globals) := (by simp only [World.cell?, (HB.out _ HE5.out)]; rfl)
    have g3 : w5.cell? ⟨w.heap.size, 3, none⟩ = some (.int .i64 c.threads) := (by simp only [World.cell?, (HB.out _ HE5.out)]; rfl)
    have g4 : w5.cell? ⟨w.heap.size, 4, none⟩ = some (.int .i64 c.locals) := (by simp only [World.cell?, (HB.out _ HE5.out)]; rfl)
    have g5 : w5.cell? ⟨w.heap.size, 5, none⟩ = some (.int .i64 c.cache) := (by simp only [World.cell?, (HB.out _ HE5.out)]; rfl)
    have g6 : w5.cell? ⟨w.heap.size, 6, none⟩ = some (.int .i64 c.stack) := (by simp only [World.cell?, (HB.out _ HE5.out)]; rfl)
    have g7 : w5.cell? ⟨w.heap.size, 7, none⟩ = some (.int .i64 c.low) := (by simp only [World.cell?, (HB.out _ HE5.out)]; rfl)
    have g8 : w5.cell? ⟨w.heap.size, 8, none⟩ = some (.slice c.A c.shapes.length c.cap) := (by simp only [World.cell?, (HB.out _ HE5.out)]; rfl)
    have gl : w.heap.size < w5.heap.size := (Array.getElem?_eq_some_iff.1 (HB.out _ HE5.out)).1
    go_wp2_with fail
    have HFL := Lib.hid (fill_nil c 300 ⟨fun _ => 0, w5⟩ (HCO.out.ext (HW0.out.trans HE5.out)))
    unfold Cnf.val at HFL
    refine HFL.out.mono ?_
    rintro e w6 ⟨own6, bm, rfl, m6, r6⟩
    have M6 := Lib.hid (m6.mono (S := fun x => x ≠ 0) (fun _ => False.elim))
    have HC6 := Lib.hid ((show Seg ⟨fun _ => 0, w5⟩ 0 Al xs from ⟨HLD.out.cells, fun _ _ _ => rfl⟩).keep m6 id)
    have R6 := Lib.hid (show MemAt ⟨own6, w6⟩ 300 bm (memPut ⟨List.replicate (cWords c).toNat (0, 0), 0⟩ (onceAt got (-1)) V 0) from r6)
    clear m6 r6 HFL
    clear g0 g1 g2 g3 g4 g5 g6 g7 g8 gl
    have HE6 := Lib.hid (HE5.out.trans (ext_of_ne M6.out))
    have g0 : w6.cell? ⟨w.heap.size, 0, none⟩ = some (.int .i64 c.frags) := (by simp only [World.cell?, (HB.out _ HE6.out)]; rfl)
    have g1 : w6.cell? ⟨w.heap.size, 1, none⟩ = some (.int .i64 c.spine) := (by simp only [World.cell?, (HB.out _ HE6.out)]; rfl)
    have g2 : w6.cell? ⟨w.heap.size, 2, none⟩ = some (.int .i64 c.globals) := (by simp only [World.cell?, (HB.out _ HE6.out)]; rfl)
    have g3 : w6.cell? ⟨w.heap.size, 3, none⟩ = some (.int .i64 c.threads) := (by simp only [World.cell?, (HB.out _ HE6.out)]; rfl)
    have g4 : w6.cell? ⟨w.heap.size, 4, none⟩ = some (.int .i64 c.locals) := (by simp only [World.cell?, (HB.out _ HE6.out)]; rfl)
    have g5 : w6.cell? ⟨w.heap.size, 5, none⟩ = some (.int .i64 c.cache) := (by simp only [World.cell?, (HB.out _ HE6.out)]; rfl)
    have g6 : w6.cell? ⟨w.heap.size, 6, none⟩ = some (.int .i64 c.stack) := (by simp only [World.cell?, (HB.out _ HE6.out)]; rfl)
    have g7 : w6.cell? ⟨w.heap.size, 7, none⟩ = some (.int .i64 c.low) := (by simp only [World.cell?, (HB.out _ HE6.out)]; rfl)
    have g8 : w6.cell? ⟨w.heap.size, 8, none⟩ = some (.slice c.A c.shapes.length c.cap) := (by simp only [World.cell?, (HB.out _ HE6.out)]; rfl)
    have gl : w.heap.size < w6.heap.size := (Array.getElem?_eq_some_iff.1 (HB.out _ HE6.out)).1
    have HRG := Lib.hid (show ((0 ≤ c.frags ∧ c.frags ≤ 1024) ∧ 1 ≤ c.stack ∧ c.stack ≤ 256) from by
      obtain ⟨h1, h2, h3, h4, h5, h6, h7, h8⟩ := Cnf.ranged (Cnf.check_zero HCK.out).1
      omega)
    go_wp2_with fail
    refine (shd_new c.frags c.stack 330 331 332 ⟨own6, w6⟩).mono ?_
    rintro e w7 hh
    unfold ShdMade at hh
    rw [if_pos HRG.out] at hh
    obtain ⟨own7, bs, bt, bp, rfl, m7, s7⟩ := hh
    have M7 := Lib.hid (M6.out.trans (m7.mono (S := fun x => x ≠ 0) (fun _ => False.elim)))
    have HC7 := Lib.hid (HC6.out.keep m7 id)
    have R7 := Lib.hid (R6.out.keep m7 id)
    have S7 := Lib.hid s7
    clear m7 s7 M6 HC6 R6 HE6
    clear g0 g1 g2 g3 g4 g5 g6 g7 g8 gl
    have HWR := Lib.hid HLD.out.wr
    have HPK := Lib.hid (fun i k (hi : i < got.length) (hk : k < 8) => put_frag (V := V) HLD.out.once (by omega) HLD.out.inb (i := i) (k := k) hi hk)
    have HLN := Lib.hid (fun k => (memPut_len ⟨List.replicate (cWords c).toNat (0, 0), 0⟩ (onceAt got (-1)) V k).trans (show (List.replicate (cWords c).toNat ((0, 0) : Nat × Nat)).length = (cWords c).toNat by simp))
    have HCT := Lib.hid (fun k => memPut_count ⟨List.replicate (cWords c).toNat (0, 0), 0⟩ (onceAt got (-1)) V k)
    simp only at HCT
    generalize hMP : memPut ⟨List.replicate (cWords c).toNat (0, 0), 0⟩ (onceAt got (-1)) V = MP at *
    have HMP := Lib.hid (fun k => show MP (k + 1) = (MP k).tick.lay (onceAt got (-1) k) (V k) by rw [← hMP]; rfl)
    have hgz : ((got.length : Int) == 0) = false := beq_eq_false_iff_ne.2 (by omega)
    have hnb : nl ≤ 1600 := by omega
    clear hMP HKI
    go_wp2_with fail
    go_loopw [16] (fun i wr => ∃ (j : Nat) (own : Nat → Nat), j ≤ nl ∧ i = .int .i64 j ∧ Hid (Mod (fun x => x = 300) ⟨own7, w7⟩ ⟨own, wr⟩) ∧ Hid (MemAt ⟨own, wr⟩ 300 bm (MP j))) (fun i _ => nl - (intOf i).toNat)
    case atStart => exact ⟨0, own7, Nat.zero_le _, rfl, Lib.hid (Mod.refl _ _), R7⟩
    case round =>
      obtain ⟨j, own3, hj, rfl, M3, R3⟩ := hrel
      obtain ⟨w3, rfl⟩ : ∃ w3 : World, w3 = wr := ⟨_, rfl⟩
      by_cases hlt : j < nl
      · obtain ⟨bl, ol, hA, hbl, hcl⟩ := (HC7.out.keep M3.out (by decide)).cells.cases (by rw [HWR.out.len]; omega)
        have l0 := hcl _ _ (HWR.out.at_ j hlt)
        have l1 := hcl _ _ (HWR.out.w j hlt)
        rw [← Nat.add_assoc] at l1
        have HK1 := Lib.hid (HMP.out j)
        have hcb := HCT.out j
        have HC3 := Lib.hid (show 0 ≤ (MP j).count ∧ (MP j).count ≤ 1099511627776 by rw [hcb]; omega)
        have HW := Lib.hid (fun X => mem_write (GW.pt ⟨own3, w3⟩ X) 300 bm (onceAt got (-1) j) (V j).1 (V j).2 (MP j) (R3.out.pt X) HC3.out)
        subst hA
        simp only at hbl l0 l1
        generalize V j = pq at *
        obtain ⟨p, q⟩ := pq
        generalize onceAt got (-1) j = a at *
        clear hcl hcb
        go_wp2_with fail
        refine wp_region_mixed [true, true, true, true, true, true, true, true, true, true, true, false] 1 11 (by kernel_rfl) (by kernel_rfl) (by kernel_rfl) ?_ (by decide) (by decide) (by decide) (by kernel_rfl) ?_
        · intro c a d v w h; cases d <;> exact h
        intro X00
        simp only [pickOps]
        repeat (go_big_quiet_step (fail))
        refine wpQuiet_nil (fun X0 => ?_)
        clear X00
        refine wpAnyM_tailL rfl (by kernel_rfl) (fun X2 => ?_)
        simp only [List.drop_succ_cons, List.drop_zero]
        go_wp2_with fail
        refine (HW.out _).mono ?_
        rintro e w4 ⟨rfl, own4, m4, r4⟩
        have M4 := Lib.hid m4
        have R4 := Lib.hid r4
        clear m4 r4
        go_wp2_with fail
        go_roundw
        case rel => exact ⟨j + 1, own4, by omega, by go_num, Lib.hid ((M3.out.trans (Mod.pt (Mod.refl _ _) _)).trans M4.out), Lib.hid (by rw [HK1.out]; exact R4.out)⟩
        case measure => simp [intOf]; omega
      · obtain rfl : j = nl := by omega
        have hct := HCT.out j
        have M8 := Lib.hid (M7.out.trans (M3.out.mono (S := fun x => x ≠ 0) (fun x hx => by omega)))
        have S8 := Lib.hid (S7.out.keep M3.out (by decide) (by decide) (by decide))
        have HE8 := Lib.hid (show Ext w5 w3 from ext_of_ne M8.out)
        have HDF := Lib.hid (diff_of HLD.out)
        have HPF := Lib.hid HLD.out.len
        have HGB := Lib.hid HLD.out.gotb
        have HMAY := Lib.hid (show ∀ A cap, Shp.may ⟨false, A, cap, refs'⟩ = true from fun A cap => by unfold Shp.may; simp; omega)
        have HINF := Lib.hid (fun (k : Nat) (hk : k < refs'.length) => show inB (fAddr got k) (MP j).l.length = true from by
          rw [HLN.out]
          have h1 := HPF.out k hk
          have h2 := placeW_in k
          have h3 := placeF_nonneg k
          have h4 := HGB.out (Shp.placeF k).toNat (by omega)
          obtain ⟨e1, e2, e3, e4⟩ := HW32.out
          unfold inB fAddr
          apply decide_eq_true
          omega)
        obtain ⟨y0, hy0⟩ : ∃ y0, got.getD 0 0 = y0 := ⟨_, rfl⟩
        have HY0 := Lib.hid hy0
        have HGB0 := Lib.hid (show 0 ≤ y0 ∧ y0 < c.frags from hy0 ▸ HGB.out 0 hg1)
        clear hy0
        have HOI := Lib.hid (fun (cm : Cnf) (hs : cm.Same c) => show ObjIn cm (fldPut got refs' giv (fun _ => (floatOfInt .f64 (y0 + 1), 4607182418800017408)) (MP j) refs'.length).l got kind (if isSide got = true then 1 else 0) refs' from by
          have hb := HGB0.out
          have e3 := HW32.out.2.2.2
          refine objIn_of HLD.out hs HATC.out HKD.out HSZ.out ((fldPut_len _ _ _).trans (HLN.out j)) ?_ (fun i hi => ?_) (fun k hk hr => ?_)
          · exact (fldPut_other _ _ _ (fun q hq => fAddr_head HDF.out (HPF.out q hq) (by omega))).trans (HPK.out 0 1 hg1 (by decide))
          · exact (fldPut_other _ _ _ (fun q hq => fAddr_link HDF.out (HPF.out q hq) (by omega))).trans (HPK.out i 0 (by omega) (by decide))
          · have h1 := HPF.out k hk
            have h2 := placeW_in k
            have h3 := placeF_nonneg k
            have h4 := fldPut_field (refs := refs') (giv := giv) HDF.out (fun _ => (floatOfInt .f64 (y0 + 1), 4607182418800017408)) (MP j) HPF.out HINF.out hk
            unfold fAddr at h4
            rw [h4]
            split
            · exact is_ref hb.1 (by omega)
            · have h5 := HPK.out (Shp.placeF k).toNat (Shp.placeW k).toNat (by omega) (by omega)
              rw [HNO.out k hk hr, show (((Shp.placeW k).toNat : Nat) : Int) = Shp.placeW k by omega] at h5
              rw [h5]
              exact is_none)
        have HCO1 := Lib.hid (show objN (fldPut got refs' giv (fun _ => (floatOfInt .f64 (y0 + 1), 4607182418800017408)) (MP j) refs'.length).l got refs' = 1 + 2 * (got.length - 1) + wantN refs' giv refs'.length from by
          have hb := HGB0.out
          have e3 := HW32.out.2.2.2
          refine obj_cost hg1 HPF.out (fun k hk hr => ?_)
          have h1 := HPF.out k hk
          have h2 := placeW_in k
          have h3 := placeF_nonneg k
          have h4 := fldPut_field (refs := refs') (giv := giv) HDF.out (fun _ => (floatOfInt .f64 (y0 + 1), 4607182418800017408)) (MP j) HPF.out HINF.out hk
          rw [show MemS.peek ⟨(fldPut got refs' giv (fun _ => (floatOfInt .f64 (y0 + 1), 4607182418800017408)) (MP j) refs'.length).l, 0⟩ (fAddr got k) = (fldPut got refs' giv (fun _ => (floatOfInt .f64 (y0 + 1), 4607182418800017408)) (MP j) refs'.length).peek (fAddr got k) from rfl, h4, hr, Bool.true_and]
          split
          · exact cost_ref hb.1 (by omega)
          · have h5 := HPK.out (Shp.placeF k).toNat (Shp.placeW k).toNat (by omega) (by omega)
            rw [HNO.out k hk hr, show (((Shp.placeW k).toNat : Nat) : Int) = Shp.placeW k by omega] at h5
            unfold fAddr
            rw [h5]
            exact cost_none)
        have HCB := Lib.hid (fun (k : Nat) => fldPut_count (got := got) (refs := refs') (giv := giv) (fun _ => (floatOfInt .f64 (y0 + 1), 4607182418800017408)) (MP j) k)
        have HJ := Lib.hid (show (MP j).count = j ∧ j ≤ 1600 from ⟨by rw [hct]; simp, by omega⟩)
        have HSC := Lib.hid (show (0 : Int) ≤ c.frags ∧ c.frags ≤ 1024 from HRG.out.1)
        clear hct HPK HLN HCT HMP HC7 HWR R7 S7 M7 M3
        have e1 := IntWalk.i64_in ((got.length : Int) - 1) (by omega)
        have e2 := IntWalk.i64_in (2 * ((got.length : Int) - 1)) (by omega)
        have e3 := IntWalk.i64_in (1 + 2 * ((got.length : Int) - 1)) (by omega)
        have HZB := Lib.hid (HSB.out)
        go_wp2_with fail
        clear hn8
        go_loopw [17, 18] (fun wn i wr => ∃ (k : Nat) (own : Nat → Nat), k ≤ refs'.length ∧ i = .int .i64 k ∧ wn = .int .i64 (1 + 2 * ((got.length : Int) - 1) + (wantN refs' giv k : Nat)) ∧ Hid (Mod (fun x => x = 300) ⟨own3, w3⟩ ⟨own, wr⟩) ∧ Hid (MemAt ⟨own, wr⟩ 300 bm (fldPut got refs' giv (fun _ => (floatOfInt .f64 (y0 + 1), 4607182418800017408)) (MP j) k))) (fun _ i _ => refs'.length - (intOf i).toNat)
        case atStart => exact ⟨0, own3, Nat.zero_le _, rfl, by show Value.int .i64 (1 + 2 * ((got.length : Int) - 1)) = .int .i64 (1 + 2 * ((got.length : Int) - 1) + ((0 : Nat) : Int)); rw [show (1 + 2 * ((got.length : Int) - 1) + ((0 : Nat) : Int)) = 1 + 2 * ((got.length : Int) - 1) by omega], Lib.hid (Mod.refl _ _), R3⟩
        case round =>
          obtain ⟨k, own9, hk, rfl, rfl, M9, R9⟩ := hrel
          obtain ⟨w9, rfl⟩ : ∃ w9 : World, w9 = wr := ⟨_, rfl⟩
          have M59 := Lib.hid (M8.out.trans (M9.out.mono (S := fun x => x ≠ 0) (fun x hx => by omega)))
          have HE9 := Lib.hid (show Ext w5 w9 from ext_of_ne M59.out)
          have HS9 := Lib.hid ((HE9.out.heap _ hz5).trans HSB.out)
          have t0 : w9.cell? ⟨w2.heap.size, 0, none⟩ = some (.bool false) := by simp only [World.cell?, HS9.out]; rfl
          have t1 : w9.cell? ⟨w2.heap.size, 1, none⟩ = some (.slice A' refs'.length cap') := by simp only [World.cell?, HS9.out]; rfl
          have tl : w2.heap.size < w9.heap.size := (Array.getElem?_eq_some_iff.1 HS9.out).1
          have hwb := wantN_le (refs := refs') (giv := giv) k
          by_cases hlt : k < refs'.length
          · obtain ⟨bq, oq, hAq, hq, r0⟩ := bools_at (HOK5.out.ext HE9.out).refs hlt
            simp only at hAq r0
            subst hAq
            have HFP := Lib.hid (show fldPut got refs' giv (fun _ => (floatOfInt .f64 (y0 + 1), 4607182418800017408)) (MP j) (k + 1) = if refs'.getD k false && giv.getD k false then (fldPut got refs' giv (fun _ => (floatOfInt .f64 (y0 + 1), 4607182418800017408)) (MP j) k).tick.lay (fAddr got k) (floatOfInt .f64 (y0 + 1), 4607182418800017408) else fldPut got refs' giv (fun _ => (floatOfInt .f64 (y0 + 1), 4607182418800017408)) (MP j) k from rfl)
            have HWN := Lib.hid (show wantN refs' giv (k + 1) = wantN refs' giv k + if refs'.getD k false then (1 + if giv.getD k false then 1 else 0) else 0 from rfl)
            have hcb := HCB.out k
            have hjj := HJ.out
            have HCK9 := Lib.hid (show 0 ≤ (fldPut got refs' giv (fun _ => (floatOfInt .f64 (y0 + 1), 4607182418800017408)) (MP j) k).count ∧ (fldPut got refs' giv (fun _ => (floatOfInt .f64 (y0 + 1), 4607182418800017408)) (MP j) k).count ≤ 1099511627776 from by omega)
            have HIN9 := Lib.hid (show inB (fAddr got k) (fldPut got refs' giv (fun _ => (floatOfInt .f64 (y0 + 1), 4607182418800017408)) (MP j) k).l.length = true from by rw [fldPut_len]; exact HINF.out k hlt)
            clear hcb hjj
            generalize wantN refs' giv k = wk at *
            generalize fldPut got refs' giv (fun _ => (floatOfInt .f64 (y0 + 1), 4607182418800017408)) (MP j) k = mk at *
            have e4 := IntWalk.i64_in (1 + 2 * ((got.length : Int) - 1) + wk + 1) (by omega)
            have e5 := IntWalk.i64_in (1 + 2 * ((got.length : Int) - 1) + wk + 1 + 1) (by omega)
            cases hx : refs'.getD k false
            · rw [hx] at r0 HFP HWN
              clear hx
              go_wp2_with fail
              go_roundw
              case rel => exact ⟨k + 1, own9, by omega, by go_num, by rw [HWN.out]; rfl, M9, Lib.hid (by rw [HFP.out]; exact R9.out)⟩
              case measure => simp [intOf]; omega
            · rw [hx] at r0 HFP HWN
              clear hx
              by_cases hk2 : k < giv.length
              · obtain ⟨bd, od, hDq, hbd, v0⟩ := bools_at (HGV.out.ext (HW0.out.trans (HE5.out.trans HE9.out))) hk2
                subst hDq
                cases hy : giv.getD k false
                · rw [hy] at v0 HFP HWN
                  clear hy
                  go_wp2_with fail
                  go_roundw
                  case rel => exact ⟨k + 1, own9, by omega, by go_num, by rw [HWN.out]; go_num, M9, Lib.hid (by rw [HFP.out]; exact R9.out)⟩
                  case measure => simp [intOf]; omega
                · rw [hy] at v0 HFP HWN
                  clear hy
                  obtain ⟨pf, hpf, pw, hpw⟩ : ∃ pf : Nat, Shp.placeF k = pf ∧ ∃ pw, Shp.placeW k = pw := ⟨(Shp.placeF k).toNat, by have := placeF_nonneg k; omega, _, rfl⟩
                  have hpfl : pf < got.length := by have := HPF.out k hlt; omega
                  have hpwb : 1 ≤ pw ∧ pw ≤ 7 := by have := placeW_in k; omega
                  have HAD := Lib.hid (show fAddr got k = got.getD pf 0 * 8 + pw from by unfold fAddr; rw [hpf, hpw]; rfl)
                  have HPL := Lib.hid (show Calls Try.prog 19 #[.agg #[.bool false, .slice (some ⟨bq, oq, none⟩) refs'.length cap'], .int .i64 k] w9 (Gives (.tuple #[.int .i64 pf, .int .i64 pw, .bool true]) w9) from by
                    have h1 := rplace_yes (some ⟨bq, oq, none⟩) cap' refs' k w9 (HOK5.out.ext HE9.out) (HMAY.out _ _) hlt
                    rw [hpf, hpw] at h1
                    exact h1)
                  clear hpf hpw
                  go_wp2_with fail
                  refine HPL.out.mono ?_
                  rintro e w10 ⟨rfl, hE10⟩
                  obtain ⟨own10, m10⟩ := Mod.ofExtT (show Ext w9 w10 from hE10) own9
                  have M10 := Lib.hid (M9.out.trans (m10.mono (S := fun x => x = 300) (fun _ => False.elim)))
                  have R10 := Lib.hid (R9.out.keep m10 id)
                  have HE10 := Lib.hid (HE9.out.trans (show Ext w9 w10 from hE10))
                  clear hE10 m10 HPL t0 t1 tl r0 hq v0 hbd
                  obtain ⟨bg, og, hAg, hgq, hcg⟩ := ints_at (HG.out.ext (HW0.out.trans (HE5.out.trans HE10.out))) (k := 0) hg1
                  have z0 := hcg 0 hg1
                  have z1 := hcg pf hpfl
                  rw [Nat.add_zero, HY0.out] at z0
                  subst hAg
                  have hyb := HGB0.out
                  have hfr := HSC.out.2
                  have hy1 := HGB.out pf hpfl
                  generalize got.getD pf 0 = y1 at *
                  have e6 := IntWalk.i64_in (8 * y1) (by omega)
                  have e7 := IntWalk.i64_in (8 * y1 + pw) (by omega)
                  have HAD2 := Lib.hid (show fAddr got k = 8 * y1 + pw from by rw [HAD.out]; omega)
                  have hin := HIN9.out
                  rw [HAD2.out] at hin
                  have HW := Lib.hid (fun X => mem_write (GW.pt ⟨own10, w10⟩ X) 300 bm (8 * y1 + pw) (floatOfInt .f64 (y0 + 1)) 4607182418800017408 mk (R10.out.pt X) HCK9.out)
                  rw [hin] at HW
                  simp only [if_true] at HW
                  have HRF := Lib.hid (fun w' => rref_in y0 w' (by omega) (by omega))
                  clear hin
                  obtain ⟨fy, hfy⟩ : ∃ fy, fy = floatOfInt .f64 (y0 + 1) := ⟨_, rfl⟩
                  rw [← hfy] at HRF HW
                  have HFY := Lib.hid hfy
                  clear hcg HAD hfy
                  go_wp2_with fail
                  refine wp_region_mixed [true, true, true, true, true, true, true, true, true, true, true, true, false] 1 12 (by kernel_rfl) (by kernel_rfl) (by kernel_rfl) ?_ (by decide) (by decide) (by decide) (by kernel_rfl) ?_
                  · intro c a d v w h; cases d <;> exact h
                  intro X00
                  simp only [pickOps]
                  repeat (go_big_quiet_step (exact Calls.added (HRF.out _)))
                  refine wpQuiet_nil (fun X0 => ?_)
                  clear X00
                  refine wpAnyM_tailL rfl (by kernel_rfl) (fun X2 => ?_)
                  simp only [List.drop_succ_cons, List.drop_zero]
                  go_wp2_with fail
                  refine (HW.out _).mono ?_
                  rintro e w11 ⟨rfl, own11, m11, r11⟩
                  have M11 := Lib.hid m11
                  have R11 := Lib.hid r11
                  clear m11 r11
                  go_wp2_with fail
                  go_roundw
                  case rel => exact ⟨k + 1, own11, by omega, by go_num, by rw [HWN.out]; go_num, Lib.hid ((M10.out.trans (Mod.pt (Mod.refl _ _) _)).trans M11.out), Lib.hid (by rw [HFP.out, HAD2.out, ← HFY.out]; exact R11.out)⟩
                  case measure => simp [intOf]; omega
              · have hgf : giv.getD k false = false := by rw [List.getD_eq_getElem?_getD, List.getElem?_eq_none (by omega)]; rfl
                rw [hgf] at HFP HWN
                clear hgf
                go_wp2_with fail
                go_roundw
                case rel => exact ⟨k + 1, own9, by omega, by go_num, by rw [HWN.out]; go_num, M9, Lib.hid (by rw [HFP.out]; exact R9.out)⟩
                case measure => simp [intOf]; omega
          · obtain rfl : k = refs'.length := by omega
            obtain ⟨bg, og, hAg, hgq, hcg⟩ := ints_at (HG.out.ext (HW0.out.trans (HE5.out.trans HE9.out))) (k := 0) hg1
            have z0 := hcg 0 hg1
            rw [Nat.add_zero, HY0.out] at z0
            subst hAg
            have HTN := Lib.hid (fun X => trace_new c y0 true 320 (GW.pt ⟨own9, w9⟩ X) ((HCO.out.ext (HW0.out.trans (HE5.out.trans HE9.out))).ext ⟨X, rfl⟩) hmx)
            unfold Cnf.val at HTN
            have g0 : w9.cell? ⟨w.heap.size, 0, none⟩ = some (.int .i64 c.frags) := (by simp only [World.cell?, (HB.out _ (HE5.out.trans HE9.out))]; rfl)
            have g1 : w9.cell? ⟨w.heap.size, 1, none⟩ = some (.int .i64 c.spine) := (by simp only [World.cell?, (HB.out _ (HE5.out.trans HE9.out))]; rfl)
            have g2 : w9.cell? ⟨w.heap.size, 2, none⟩ = some (.int .i64 c.globals) := (by simp only [World.cell?, (HB.out _ (HE5.out.trans HE9.out))]; rfl)
            have g3 : w9.cell? ⟨w.heap.size, 3, none⟩ = some (.int .i64 c.threads) := (by simp only [World.cell?, (HB.out _ (HE5.out.trans HE9.out))]; rfl)
            have g4 : w9.cell? ⟨w.heap.size, 4, none⟩ = some (.int .i64 c.locals) := (by simp only [World.cell?, (HB.out _ (HE5.out.trans HE9.out))]; rfl)
            have g5 : w9.cell? ⟨w.heap.size, 5, none⟩ = some (.int .i64 c.cache) := (by simp only [World.cell?, (HB.out _ (HE5.out.trans HE9.out))]; rfl)
            have g6 : w9.cell? ⟨w.heap.size, 6, none⟩ = some (.int .i64 c.stack) := (by simp only [World.cell?, (HB.out _ (HE5.out.trans HE9.out))]; rfl)
            have g7 : w9.cell? ⟨w.heap.size, 7, none⟩ = some (.int .i64 c.low) := (by simp only [World.cell?, (HB.out _ (HE5.out.trans HE9.out))]; rfl)
            have g8 : w9.cell? ⟨w.heap.size, 8, none⟩ = some (.slice c.A c.shapes.length c.cap) := (by simp only [World.cell?, (HB.out _ (HE5.out.trans HE9.out))]; rfl)
            have gl : w.heap.size < w9.heap.size := (Array.getElem?_eq_some_iff.1 (HB.out _ (HE5.out.trans HE9.out))).1
            have S9 := Lib.hid (S8.out.keep M9.out (by decide) (by decide) (by decide))
            have hcb := HCB.out refs'.length
            have hjj := HJ.out
            have hr40b := hwb
            obtain ⟨N, hN⟩ : ∃ N : Nat, 1 + 2 * (got.length - 1) + wantN refs' giv refs'.length = N := ⟨_, rfl⟩
            have HNV := Lib.hid (show 1 + 2 * ((got.length : Int) - 1) + (wantN refs' giv refs'.length : Nat) = (N : Int) from by omega)
            have HNB := Lib.hid (show 1 ≤ N ∧ N ≤ 2000 from by omega)
            have HCN := Lib.hid (show objN (fldPut got refs' giv (fun _ => (floatOfInt .f64 (y0 + 1), 4607182418800017408)) (MP j) refs'.length).l got refs' = N from HCO1.out.trans hN)
            have HCM := Lib.hid (show 0 ≤ (fldPut got refs' giv (fun _ => (floatOfInt .f64 (y0 + 1), 4607182418800017408)) (MP j) refs'.length).count ∧ (fldPut got refs' giv (fun _ => (floatOfInt .f64 (y0 + 1), 4607182418800017408)) (MP j) refs'.length).count ≤ 100000 from by omega)
            rw [HNV.out]
            have e4 := IntWalk.i64_in (2 * (N : Int)) (by omega)
            clear hcg hcb hjj hN hwb hr40b
            generalize fldPut got refs' giv (fun _ => (floatOfInt .f64 (y0 + 1), 4607182418800017408)) (MP j) refs'.length = MF at *
            go_wp2_with fail
            refine wp_region_mixed [true, true, true, true, false, false] 2 4 (by kernel_rfl) (by kernel_rfl) (by kernel_rfl) ?_ (by decide) (by decide) (by decide) (by kernel_rfl) ?_
            · intro c a d v w h; cases d <;> exact h
            intro X00
            simp only [pickOps]
            repeat (go_big_quiet_step (fail))
            refine wpQuiet_nil (fun X0 => ?_)
            clear X00
            refine wpAnyM_tailL rfl (by kernel_rfl) (fun X2 => ?_)
            simp only [List.drop_succ_cons, List.drop_zero]
            go_wp2_with fail
            refine (HTN.out _).mono ?_
            rintro e w10 ⟨own10, b, cm, rfl, m10, t10, hs10⟩
            obtain ⟨S, k', c', hrun, hp9, hpe, hps⟩ := run_object (HOI.out cm hs10) true MF.count 0 (TabS.fresh c.frags.toNat) ⟨[], c.stack, false⟩
            rw [HCN.out, HY0.out] at hrun
            rw [HCN.out] at hps
            obtain ⟨W0, hW0⟩ : ∃ W0 : TrW, W0 = ⟨TraceS.fresh cm y0 true, MF, TabS.fresh c.frags.toNat, ⟨[], c.stack, false⟩, 0⟩ := ⟨_, rfl⟩
            have hrun2 : TrW.go N W0 = ⟨S, ⟨MF.l, c'⟩, _, _, k'⟩ := hW0 ▸ hrun
            have P10 := (Mod.pt (Mod.refl _ _) _).trans m10
            have A10 := Lib.hid (show TrAt ⟨own10, w10⟩ 320 300 330 331 332 b bm bs bt bp (TrW.go 0 W0) from hW0 ▸ ⟨t10, R9.out.keep P10 id, S9.out.keep P10 id id id⟩)
            have M10 := Lib.hid ((M59.out.trans (Mod.pt (Mod.refl _ _) _)).trans (m10.mono (S := fun x => x ≠ 0) (fun _ => False.elim)))
            have HP9 := Lib.hid (show (TrW.go N W0).s.pc = 9 from by rw [hrun2]; exact hp9)
            have HPE := Lib.hid (show (TrW.go N W0).s.e = 0 from by rw [hrun2]; exact hpe)
            have HST := Lib.hid (show (TrW.go N W0).s.steps = W0.s.steps + N from by rw [hrun2, hW0]; show S.steps = 0 + (N : Int); rw [hps]; omega)
            have HOK0 := Lib.hid (show W0.s.Ok from hW0 ▸ TraceS.fresh_ok _ _ _)
            have HW00 := Lib.hid (show W0.s.steps = 0 ∧ W0.k = 0 ∧ W0.m.count = MF.count from by rw [hW0]; exact ⟨rfl, rfl, rfl⟩)
            clear P10 hrun hrun2 hW0 hp9 hpe hps m10 t10 hs10 HTN z0 hgq M9 R9 S9 M59
            clear t0 t1 tl
            clear g0 g1 g2 g3 g4 g5 g6 g7 g8 gl
            go_wp2_with fail
            go_loopw [23] (fun i wr => ∃ (q : Nat) (own : Nat → Nat), q ≤ N ∧ i = .int .i64 q ∧ Hid (Mod (fun x => x ≠ 0) ⟨fun _ => 0, w5⟩ ⟨own, wr⟩) ∧ Hid (TrAt ⟨own, wr⟩ 320 300 330 331 332 b bm bs bt bp (TrW.go q W0))) (fun i _ => N - (intOf i).toNat)
            case atStart => exact ⟨0, own10, Nat.zero_le _, rfl, M10, A10⟩
            case round =>
              obtain ⟨q, own11, hq, rfl, M11, A11⟩ := hrel
              obtain ⟨w11, rfl⟩ : ∃ w11 : World, w11 = wr := ⟨_, rfl⟩
              have HK := Lib.hid (TrW.go_keeps q W0)
              have HPC := Lib.hid (go_pc_end HP9.out HST.out hq)
              have hnb2 := HNB.out
              have d0 : decide ((q : Int) < 2 * (N : Int)) = true := decide_eq_true (by omega)
              go_wp2_with fail
              refine (trace_done ⟨own11, w11⟩ 320 b _ A11.out.tr).mono ?_
              rintro e w12 ⟨rfl, rfl⟩
              rw [HPC.out]
              by_cases hqN : q = N
              · rw [decide_eq_true hqN]
                subst hqN
                go_wp2_with fail
                refine (H.out _).mono ?_
                rintro e w13 ⟨rfl, hE13⟩
                obtain ⟨own13, m13⟩ := Mod.ofExtT (show Ext w11 w13 from hE13) own11
                have A13 := Lib.hid (A11.out.keep m13 id id id id id id)
                have M13 := Lib.hid (M11.out.trans (m13.mono (S := fun x => x ≠ 0) (fun _ => False.elim)))
                clear hE13 m13
                go_wp2_with fail
                refine (trace_done ⟨own13, w13⟩ 320 b _ A13.out.tr).mono ?_
                rintro e w14 ⟨rfl, rfl⟩
                rw [HPC.out]
                simp only [decide_true]
                go_wp2_with fail
                refine (trace_steps ⟨own13, w13⟩ 320 b _ A13.out.tr).mono ?_
                rintro e w14 ⟨rfl, rfl⟩
                rw [show (TrW.go q W0).s.steps = (q : Int) from by rw [HST.out, HW00.out.1]; omega]
                go_wp2_with fail
                refine (trace_errno ⟨own13, w13⟩ 320 b _ A13.out.tr).mono ?_
                rintro e w14 ⟨rfl, rfl⟩
                rw [HPE.out]
                go_wp2_with fail
                go_ret
                exact Gives.bool rfl ((HW0.out.trans HE5.out).trans (ext_of_ne M13.out))
              · rw [decide_eq_false hqN]
                have hkk := HK.out.2.2.2.2
                have hw00 := HW00.out
                have hcm := HCM.out
                have HSTP := Lib.hid (trace_step ⟨own11, w11⟩ apart16 (TrW.go q W0) A11.out (TrW.go_ok q HOK0.out) (by omega) (by omega) (by omega))
                clear hkk hw00 hcm
                go_wp2_with fail
                refine HSTP.out.mono ?_
                rintro e w12 ⟨rfl, own12, m12, a12⟩
                have M12 := Lib.hid (M11.out.trans (m12.mono (S := fun x => x ≠ 0) (fun x hx => by unfold trT at hx; omega)))
                have A12 := Lib.hid a12
                clear m12 a12
                go_wp2_with fail
                go_roundw
                case rel => exact ⟨q + 1, own12, by omega, by go_num, M12, A12⟩
                case measure => simp [intOf]; omega
end Go.Proofs.Ythdijbkcjmeilaa
