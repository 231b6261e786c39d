/-
  spolaw13.FindEach. (Under way.)
-/
import Derived.Test.YtmgkfpmmlibmcaaEachL
import Derived.Test.YtmgkfpmmlibmcaaBits
import Derived.Laws.BitsLemmas
namespace Go.Proofs.Ytmgkfpmmlibmcaa
open Go Go.RowKit
set_option linter.unusedVariables false
set_option linter.unnecessarySimpa false
set_option linter.unusedSimpArgs false
/-- What was laid into memory, whatever it was. -/
def Laid2 (c : Cnf) (at_ : Int) (got : List Int) (arr : Bool) (refs : List Bool) (w0 : World) (l e many : Value) (w : World) : Prop :=
  ∃ (A : Option Addr) (m cap : Nat) (ev mn : Int), l = .slice A m cap ∧ e = .int .i64 ev ∧ many = .int .i64 mn ∧ Ext w0 w ∧ (ev = 0 → ∃ xs V, LaidOk c at_ got arr refs w A m mn xs V)
theorem blank13 (r : Bool) (w : World) : Calls Try.prog 35 #[.bool r] w (Gives (.complex .f64 (blankF r).1 (blankF r).2) w) := by
  cases r
  · go_enter Try.func35, Try.ntmps35
    go_wp2_with fail
    go_ret
    exact Gives.of_ext (Ext.refl _)
  · go_enter Try.func35, Try.ntmps35
    go_wp2_with fail
    go_ret
    exact Gives.of_ext (Ext.refl _)
theorem word_same (p : Nat × Nat) (w : World) : Calls Try.prog 33 #[.complex .f64 p.1 p.2, .complex .f64 p.1 p.2] w (Gives (.bool true) w) :=
  (word_any p p w).mono fun e w' ⟨h1, h2⟩ => ⟨by rw [h1]; simp [sameW], ⟨#[], w.drawn⟩, by rw [← h2]; simp [World.patch]⟩
theorem i64_and7 (n : Int) : bits .and .i64 n 7 = n % 8 := by
  have h7 : (BitVec.ofInt 64 7).toNat = 2 ^ 3 - 1 := by decide
  have key : (BitVec.ofInt 64 n &&& BitVec.ofInt 64 7).toNat = (n % ((2 ^ 64 : Nat) : Int)).toNat % 2 ^ 3 := by
    rw [BitVec.toNat_and, BitVec.toNat_ofInt, h7, Nat.and_two_pow_sub_one_eq_mod]
  show IntKind.i64.wrap ((BitVec.ofInt 64 n &&& BitVec.ofInt 64 7).toNat : Nat) = n % 8
  rw [key, IntKind.wrap_i64]
  omega
theorem placeF_nat (k : Nat) : ∃ pf : Nat, Shp.placeF k = pf := by
  have h : 0 ≤ Shp.placeF k := by unfold Shp.placeF; split <;> omega
  exact ⟨(Shp.placeF k).toNat, by omega⟩
/-- A block of Booleans, as it was made. -/
theorem made_met {k : Nat} (hk : k ≤ 1048576) : ∀ w, (Instr.makeSlice 27 (.int .i64 (k : Int)) (.int .i64 (k : Int))).run Try.prog w = .ok (.slice (some ⟨w.heap.size, 0, none⟩) k k) (w.alloc (.cells (Array.replicate k (Value.bool false)) 4)) := by
  have hz := infoBool
  cases hi : Try.prog.info? 4 with
  | none => rw [hi] at hz; cases hz
  | some i0 =>
    rw [hi] at hz
    simp only [Option.map_some, Option.some.injEq, Prod.mk.injEq] at hz
    obtain ⟨hz0, hz1, hz2⟩ := hz
    intro w
    have hmk := run_made (P := Try.prog) 27 4 i0 _ 1 1 Try.underlying27 hi hz0 hz1 hz2 k (by omega) (by omega) w
    rw [hmk]
    rw [show (Value.bool false).cells = #[Value.bool false] from rfl, made_one, List.toArray_replicate]

set_option maxRecDepth 100000 in
set_option maxHeartbeats 4000000 in
theorem each_any (c : Cnf) (kind n : Int) (A : Option Addr) (cap : Nat) (got : List Int) (at_ : Int) (w : World) (hc : c.Ok w) (hg : CellsAt w A (got.map (Value.int .i64))) (hcap : got.length ≤ cap) (hcm : cap ≤ 9223372036854775807) (hw : ∀ x ∈ got, -9223372036854775808 ≤ x ∧ x ≤ 9223372036854775807)
    (hat : -9223372036854775808 ≤ at_ ∧ at_ ≤ 9223372036854775807) :
    Calls Try.prog 4 #[c.val, .int .i64 kind, .int .i64 n, .slice A got.length cap, .int .i64 at_] w (Gives (.bool true) w) := by
  have H := Lib.hid (fun w' => first13_any w')
  have HSH := Lib.hid (fun w' (he : Ext w w') => shape_any c kind w' (hc.ext he))
  have HFW := Lib.hid (fun w' (he : Ext w w') => few_any c w' (hc.ext he))
  have HAR := Lib.hid (fun (h : got.length ≤ 200) w' (he : Ext w w') => array_any c kind n at_ A cap got w' (hc.ext he) (hg.ext he) (by omega) hcap hcm hw hat.1 hat.2)
  have HOB := Lib.hid (fun (h : got.length ≤ 200) w' (he : Ext w w') => object_any c kind A cap got w' (hc.ext he) (hg.ext he) (by omega) hw)
  have HG := Lib.hid hg
  have HCO := Lib.hid hc
  clear hc hg hw hat
  unfold Cnf.val at HSH HFW HAR HOB ⊢
  go_enter Try.func4, Try.ntmps4
  go_wp2_with fail
  have HB := Lib.hid (later_blk w (.cells #[.int .i64 c.frags, .int .i64 c.spine, .int .i64 c.globals, .int .i64 c.threads, .int .i64 c.locals, .int .i64 c.cache, .int .i64 c.stack, .int .i64 c.low, .slice c.A c.shapes.length c.cap] 24))
  have HW0 := Lib.hid (show Ext w (w.alloc (.cells #[.int .i64 c.frags, .int .i64 c.spine, .int .i64 c.globals, .int .i64 c.threads, .int .i64 c.locals, .int .i64 c.cache, .int .i64 c.stack, .int .i64 c.low, .slice c.A c.shapes.length c.cap] 24)) by (repeat (first | (with_reducible assumption) | (with_reducible exact Ext.refl _) | (with_reducible exact Ext.more _ _ _ _) | (with_reducible apply Ext.alloc) | (with_reducible apply Ext.patch) | (with_reducible apply Ext.drew) | (with_reducible apply Ext.drewN) | (with_reducible refine Ext.setCell ?_ (by first | assumption | exact Nat.le_refl _ | exact Nat.le_add_right _ _) _))))
  refine (H.out _).mono ?_
  rintro e w1 ⟨rfl, hE⟩
  have HE1 := Lib.hid (show Ext (w.alloc (.cells #[.int .i64 c.frags, .int .i64 c.spine, .int .i64 c.globals, .int .i64 c.threads, .int .i64 c.locals, .int .i64 c.cache, .int .i64 c.stack, .int .i64 c.low, .slice c.A c.shapes.length c.cap] 24)) w1 from hE)
  clear hE
  have g0 : w1.cell? ⟨w.heap.size, 0, none⟩ = some (.int .i64 c.frags) := (by simp only [World.cell?, (HB.out _ HE1.out)]; rfl)
  have g1 : w1.cell? ⟨w.heap.size, 1, none⟩ = some (.int .i64 c.spine) := (by simp only [World.cell?, (HB.out _ HE1.out)]; rfl)
  have g2 : w1.cell? ⟨w.heap.size, 2, none⟩ = some (.int .i64 c.globals) := (by simp only [World.cell?, (HB.out _ HE1.out)]; rfl)
  have g3 : w1.cell? ⟨w.heap.size, 3, none⟩ = some (.int .i64 c.threads) := (by simp only [World.cell?, (HB.out _ HE1.out)]; rfl)
  have g4 : w1.cell? ⟨w.heap.size, 4, none⟩ = some (.int .i64 c.locals) := (by simp only [World.cell?, (HB.out _ HE1.out)]; rfl)
  have g5 : w1.cell? ⟨w.heap.size, 5, none⟩ = some (.int .i64 c.cache) := (by simp only [World.cell?, (HB.out _ HE1.out)]; rfl)
  have g6 : w1.cell? ⟨w.heap.size, 6, none⟩ = some (.int .i64 c.stack) := (by simp only [World.cell?, (HB.out _ HE1.out)]; rfl)
  have g7 : w1.cell? ⟨w.heap.size, 7, none⟩ = some (.int .i64 c.low) := (by simp only [World.cell?, (HB.out _ HE1.out)]; rfl)
  have g8 : w1.cell? ⟨w.heap.size, 8, none⟩ = some (.slice c.A c.shapes.length c.cap) := (by simp only [World.cell?, (HB.out _ HE1.out)]; rfl)
  have gl : w.heap.size < w1.heap.size := (Array.getElem?_eq_some_iff.1 (HB.out _ HE1.out)).1
  go_wp2_with fail
  refine (HSH.out _ (HW0.out.trans HE1.out)).mono ?_
  rintro e w2 ⟨s', rfl, hs, hfr, hok, hE⟩
  have HE2 := Lib.hid (HE1.out.trans (show Ext w1 w2 from hE))
  have HS := Lib.hid hs
  have HOK := Lib.hid hok
  clear hE hfr hs hok HE1 HSH
  clear g0 g1 g2 g3 g4 g5 g6 g7 g8 gl
  generalize hI : (c.shapeAt kind).isSome = is
  have HI := Lib.hid hI
  clear hI
  obtain ⟨arr', A', cap', refs'⟩ := s'
  unfold Shp.val
  have g0 : w2.cell? ⟨w.heap.size, 0, none⟩ = some (.int .i64 c.frags) := (by simp only [World.cell?, (HB.out _ HE2.out)]; rfl)
  have g1 : w2.cell? ⟨w.heap.size, 1, none⟩ = some (.int .i64 c.spine) := (by simp only [World.cell?, (HB.out _ HE2.out)]; rfl)
  have g2 : w2.cell? ⟨w.heap.size, 2, none⟩ = some (.int .i64 c.globals) := (by simp only [World.cell?, (HB.out _ HE2.out)]; rfl)
  have g3 : w2.cell? ⟨w.heap.size, 3, none⟩ = some (.int .i64 c.threads) := (by simp only [World.cell?, (HB.out _ HE2.out)]; rfl)
  have g4 : w2.cell? ⟨w.heap.size, 4, none⟩ = some (.int .i64 c.locals) := (by simp only [World.cell?, (HB.out _ HE2.out)]; rfl)
  have g5 : w2.cell? ⟨w.heap.size, 5, none⟩ = some (.int .i64 c.cache) := (by simp only [World.cell?, (HB.out _ HE2.out)]; rfl)
  have g6 : w2.cell? ⟨w.heap.size, 6, none⟩ = some (.int .i64 c.stack) := (by simp only [World.cell?, (HB.out _ HE2.out)]; rfl)
  have g7 : w2.cell? ⟨w.heap.size, 7, none⟩ = some (.int .i64 c.low) := (by simp only [World.cell?, (HB.out _ HE2.out)]; rfl)
  have g8 : w2.cell? ⟨w.heap.size, 8, none⟩ = some (.slice c.A c.shapes.length c.cap) := (by simp only [World.cell?, (HB.out _ HE2.out)]; rfl)
  have gl : w.heap.size < w2.heap.size := (Array.getElem?_eq_some_iff.1 (HB.out _ HE2.out)).1
  have HBS := Lib.hid (later_blk w2 (.cells #[.bool arr', .slice A' refs'.length cap'] 29))
  go_wp2_with fail
  refine (HFW.out _ (HW0.out.trans (HE2.out.alloc _))).mono ?_
  rintro e w3 ⟨rfl, hE⟩
  have HX3 := Lib.hid (show Ext (w2.alloc (.cells #[.bool arr', .slice A' refs'.length cap'] 29)) w3 from hE)
  have HE3 := Lib.hid ((HE2.out.alloc _).trans HX3.out)
  clear hE HFW HE2
  clear g0 g1 g2 g3 g4 g5 g6 g7 g8 gl
  have g0 : w3.cell? ⟨w.heap.size, 0, none⟩ = some (.int .i64 c.frags) := (by simp only [World.cell?, (HB.out _ HE3.out)]; rfl)
  have g1 : w3.cell? ⟨w.heap.size, 1, none⟩ = some (.int .i64 c.spine) := (by simp only [World.cell?, (HB.out _ HE3.out)]; rfl)
  have g2 : w3.cell? ⟨w.heap.size, 2, none⟩ = some (.int .i64 c.globals) := (by simp only [World.cell?, (HB.out _ HE3.out)]; rfl)
  have g3 : w3.cell? ⟨w.heap.size, 3, none⟩ = some (.int .i64 c.threads) := (by simp only [World.cell?, (HB.out _ HE3.out)]; rfl)
  have g4 : w3.cell? ⟨w.heap.size, 4, none⟩ = some (.int .i64 c.locals) := (by simp only [World.cell?, (HB.out _ HE3.out)]; rfl)
  have g5 : w3.cell? ⟨w.heap.size, 5, none⟩ = some (.int .i64 c.cache) := (by simp only [World.cell?, (HB.out _ HE3.out)]; rfl)
  have g6 : w3.cell? ⟨w.heap.size, 6, none⟩ = some (.int .i64 c.stack) := (by simp only [World.cell?, (HB.out _ HE3.out)]; rfl)
  have g7 : w3.cell? ⟨w.heap.size, 7, none⟩ = some (.int .i64 c.low) := (by simp only [World.cell?, (HB.out _ HE3.out)]; rfl)
  have g8 : w3.cell? ⟨w.heap.size, 8, none⟩ = some (.slice c.A c.shapes.length c.cap) := (by simp only [World.cell?, (HB.out _ HE3.out)]; rfl)
  have gl : w.heap.size < w3.heap.size := (Array.getElem?_eq_some_iff.1 (HB.out _ HE3.out)).1
  cases Few c
  · as_aux_lemma =>
      go_wp2_with fail
      refine (H.out _).mono ?_
      rintro e w9 ⟨rfl, hE9⟩
      have HE9 := Lib.hid (HE3.out.trans (show Ext w3 w9 from hE9))
      clear hE9
      go_wp2_with fail
      go_ret
      exact Gives.bool rfl (HW0.out.trans HE9.out)
  cases is
  · as_aux_lemma =>
      go_wp2_with fail
      refine (H.out _).mono ?_
      rintro e w9 ⟨rfl, hE9⟩
      have HE9 := Lib.hid (HE3.out.trans (show Ext w3 w9 from hE9))
      clear hE9
      go_wp2_with fail
      go_ret
      exact Gives.bool rfl (HW0.out.trans HE9.out)
  by_cases hl : 200 < got.length
  · have hl' : decide ((200 : Int) < got.length) = true := decide_eq_true (by omega)
    as_aux_lemma =>
      go_wp2_with fail
      refine (H.out _).mono ?_
      rintro e w9 ⟨rfl, hE9⟩
      have HE9 := Lib.hid (HE3.out.trans (show Ext w3 w9 from hE9))
      clear hE9
      go_wp2_with fail
      go_ret
      exact Gives.bool rfl (HW0.out.trans HE9.out)
  have hl' : decide ((200 : Int) < got.length) = false := decide_eq_false (by omega)
  go_wp2_with fail
  refine (HOB.out (by omega) _ (HW0.out.trans HE3.out)).mono ?_
  rintro e w5 ⟨s5, l, nl, rfl, hs5, hown, hE⟩
  have HX5 := Lib.hid (HX3.out.trans (show Ext w3 w5 from hE))
  have HX50 := Lib.hid ((show Ext w2 (w2.alloc (.cells #[.bool arr', .slice A' refs'.length cap'] 29)) by (repeat (first | (with_reducible assumption) | (with_reducible exact Ext.refl _) | (with_reducible exact Ext.more _ _ _ _) | (with_reducible apply Ext.alloc) | (with_reducible apply Ext.patch) | (with_reducible apply Ext.drew) | (with_reducible apply Ext.drewN) | (with_reducible refine Ext.setCell ?_ (by first | assumption | exact Nat.le_refl _ | exact Nat.le_add_right _ _) _)))).trans HX5.out)
  have HE5 := Lib.hid (HE3.out.trans (show Ext w3 w5 from hE))
  clear hE HOB HE3 HX3
  clear g0 g1 g2 g3 g4 g5 g6 g7 g8 gl
  rw [HI.out] at hown
  rw [HI.out]
  obtain ⟨Al, cl, rfl⟩ := own_form hown
  have HATC := Lib.hid (show c.shapeAt kind = some (arr', refs') from by
    have h1 := HI.out
    have h2 := HS.out
    cases h3 : c.shapeAt kind with
    | none => rw [h3] at h1; cases h1
    | some p => rw [h3] at h2; rw [h2]; rfl)
  have m0 : w5.cell? ⟨w2.heap.size, 0, none⟩ = some (.bool arr') := by simp only [World.cell?, HBS.out _ HX5.out]; rfl
  have m1 : w5.cell? ⟨w2.heap.size, 1, none⟩ = some (.slice A' refs'.length cap') := by simp only [World.cell?, HBS.out _ HX5.out]; rfl
  have hz5 : w2.heap.size < w5.heap.size := (Array.getElem?_eq_some_iff.1 (HBS.out _ HX5.out)).1
  have HKI := Lib.hid (fun (h : c.check = 0) => kind_in HI.out h)
  have HONE := Lib.hid (fun (ha : arr' = false) => show Laid2 c at_ got false refs' w5 (.slice Al nl cl) (.int .i64 (wrongE c true s5 0 false got)) (.int .i64 refs'.length) w5 from by
    refine ⟨_, _, _, _, _, rfl, rfl, rfl, Ext.refl _, fun hz => ?_⟩
    have hl5 : s5.refs = refs' := by
      have h1 := HS.out
      rw [← hs5] at h1
      exact (congrArg Prod.snd h1).symm
    rw [← hl5]
    exact laid_obj hz (HKI.out (wrongE_fine hz).1) (by rw [HATC.out, ha, hl5]) (by omega) hown)
  clear hown hs5
  generalize wrongE c true s5 0 false got = e5 at *
  go_upto_if 58 with fail
  go_cut [13, 14, 15] (fun l e mn wx => Laid2 c at_ got arr' refs' w5 l e mn wx)
  case first =>
    cases arr'
    · go_wp2_with fail
      go_meet
      exact HONE.out (by trivial)
    · clear HONE
      have g0 : w5.cell? ⟨w.heap.size, 0, none⟩ = some (.int .i64 c.frags) := (by simp only [World.cell?, (HB.out _ HE5.out)]; rfl)
      have g1 : w5.cell? ⟨w.heap.size, 1, none⟩ = some (.int .i64 c.spine) := (by simp only [World.cell?, (HB.out _ HE5.out)]; rfl)
      have g2 : w5.cell? ⟨w.heap.size, 2, none⟩ = some (.int .i64 c.globals) := (by simp only [World.cell?, (HB.out _ HE5.out)]; rfl)
      have g3 : w5.cell? ⟨w.heap.size, 3, none⟩ = some (.int .i64 c.threads) := (by simp only [World.cell?, (HB.out _ HE5.out)]; rfl)
      have g4 : w5.cell? ⟨w.heap.size, 4, none⟩ = some (.int .i64 c.locals) := (by simp only [World.cell?, (HB.out _ HE5.out)]; rfl)
      have g5 : w5.cell? ⟨w.heap.size, 5, none⟩ = some (.int .i64 c.cache) := (by simp only [World.cell?, (HB.out _ HE5.out)]; rfl)
      have g6 : w5.cell? ⟨w.heap.size, 6, none⟩ = some (.int .i64 c.stack) := (by simp only [World.cell?, (HB.out _ HE5.out)]; rfl)
      have g7 : w5.cell? ⟨w.heap.size, 7, none⟩ = some (.int .i64 c.low) := (by simp only [World.cell?, (HB.out _ HE5.out)]; rfl)
      have g8 : w5.cell? ⟨w.heap.size, 8, none⟩ = some (.slice c.A c.shapes.length c.cap) := (by simp only [World.cell?, (HB.out _ HE5.out)]; rfl)
      have gl : w.heap.size < w5.heap.size := (Array.getElem?_eq_some_iff.1 (HB.out _ HE5.out)).1
      go_wp2_with fail
      refine (HAR.out (by omega) _ (HW0.out.trans HE5.out)).mono ?_
      rintro e w6 ⟨s6, l, nl, rfl, hs6, hown, hE⟩
      obtain ⟨Al, cl, rfl⟩ := own_form hown
      rw [HI.out] at hown ⊢
      have HD := Lib.hid (show Laid2 c at_ got true refs' w5 (.slice Al nl cl) (.int .i64 (arrE c true s6 n got at_)) (.int .i64 n) w6 from by
        refine ⟨_, _, _, _, _, rfl, rfl, rfl, hE, fun hz => ?_⟩
        have hl5 : s6.refs = refs' := by
          have h1 := HS.out
          rw [← hs6] at h1
          exact (congrArg Prod.snd h1).symm
        rw [← hl5]
        exact laid_arr hz (HKI.out (wrongE_fine (arrE_fine hz).1).1) (by rw [HATC.out, hl5]) (by omega) hown)
      clear hown hs6 hE
      generalize arrE c true s6 n got at_ = e6 at *
      go_wp2_with fail
      go_meet
      exact HD.out
  case rest =>
    obtain ⟨Ax, m, cx_, ev, mn, rfl, rfl, rfl, hX, h1⟩ := hcut
    have HEC := Lib.hid (HE5.out.trans hX)
    have HSB := Lib.hid ((hX.heap _ hz5).trans (HBS.out _ HX5.out))
    have HOKC := Lib.hid (HOK.out.ext (HX50.out.trans hX))
    have HLD := Lib.hid h1
    have hzc := Nat.lt_of_lt_of_le hz5 hX.size
    clear hX h1 HONE HAR m0 m1 hz5 HX5 HE5
    have g0 : wc.cell? ⟨w.heap.size, 0, none⟩ = some (.int .i64 c.frags) := (by simp only [World.cell?, (HB.out _ HEC.out)]; rfl)
    have g1 : wc.cell? ⟨w.heap.size, 1, none⟩ = some (.int .i64 c.spine) := (by simp only [World.cell?, (HB.out _ HEC.out)]; rfl)
    have g2 : wc.cell? ⟨w.heap.size, 2, none⟩ = some (.int .i64 c.globals) := (by simp only [World.cell?, (HB.out _ HEC.out)]; rfl)
    have g3 : wc.cell? ⟨w.heap.size, 3, none⟩ = some (.int .i64 c.threads) := (by simp only [World.cell?, (HB.out _ HEC.out)]; rfl)
    have g4 : wc.cell? ⟨w.heap.size, 4, none⟩ = some (.int .i64 c.locals) := (by simp only [World.cell?, (HB.out _ HEC.out)]; rfl)
    have g5 : wc.cell? ⟨w.heap.size, 5, none⟩ = some (.int .i64 c.cache) := (by simp only [World.cell?, (HB.out _ HEC.out)]; rfl)
    have g6 : wc.cell? ⟨w.heap.size, 6, none⟩ = some (.int .i64 c.stack) := (by simp only [World.cell?, (HB.out _ HEC.out)]; rfl)
    have g7 : wc.cell? ⟨w.heap.size, 7, none⟩ = some (.int .i64 c.low) := (by simp only [World.cell?, (HB.out _ HEC.out)]; rfl)
    have g8 : wc.cell? ⟨w.heap.size, 8, none⟩ = some (.slice c.A c.shapes.length c.cap) := (by simp only [World.cell?, (HB.out _ HEC.out)]; rfl)
    have gl : w.heap.size < wc.heap.size := (Array.getElem?_eq_some_iff.1 (HB.out _ HEC.out)).1
    go_wp2_with fail
    have HFL := Lib.hid (fill_nil c 300 ⟨fun _ => 0, wc⟩ (HCO.out.ext (HW0.out.trans HEC.out)))
    unfold Cnf.val at HFL
    refine HFL.out.mono ?_
    rintro e w6 ⟨own6, bm, rfl, m6, r6⟩
    have M6a := Lib.hid m6
    have M6 := Lib.hid (m6.mono (S := fun x => x ≠ 0) (fun _ => False.elim))
    have R6 := Lib.hid r6
    clear m6 r6 HFL
    clear g0 g1 g2 g3 g4 g5 g6 g7 g8 gl
    by_cases hev : ev = 0
    case neg =>
      have hevb : (ev != 0) = true := by simp [hev]
      have HE6 := Lib.hid (HEC.out.trans M6a.out.toExt)
      clear HLD
      as_aux_lemma =>
        go_wp2_with fail
        refine (H.out _).mono ?_
        rintro e w9 ⟨rfl, hE9⟩
        have HE9 := Lib.hid (HE6.out.trans (show Ext w6 w9 from hE9))
        clear hE9
        go_wp2_with fail
        go_ret
        exact Gives.bool rfl (HW0.out.trans HE9.out)
    subst hev
    obtain ⟨xs, V, hLD⟩ := HLD.out rfl
    have HL := Lib.hid hLD
    have HWR := Lib.hid hLD.wr
    have hm4 := hLD.m4
    have hg1 := hLD.one
    have hmx : c.shapes.length ≤ 1000000 := by
      have h9 := (Cnf.check_zero hLD.check).2.2.1
      unfold within at h9
      simp only [decide_eq_true_eq] at h9
      omega
    have HC6 := Lib.hid ((show Seg ⟨fun _ => 0, wc⟩ 0 Ax xs from ⟨hLD.cells, fun _ _ _ => rfl⟩).keep M6a.out id)
    have R6' := Lib.hid (show MemAt ⟨own6, w6⟩ 300 bm (memPut ⟨List.replicate (cWords c).toNat (0, 0), 0⟩ (onceAt got at_) V 0) from R6.out)
    have HLN := Lib.hid (fun k => (memPut_len ⟨List.replicate (cWords c).toNat (0, 0), 0⟩ (onceAt got at_) V k).trans (show (List.replicate (cWords c).toNat ((0, 0) : Nat × Nat)).length = (cWords c).toNat by simp))
    have HPK := Lib.hid (fun i (hi : i < m) => memPut_peek (m := ⟨List.replicate (cWords c).toNat (0, 0), 0⟩) (V := V) (n := m) (fun i hi => by simpa using HL.out.inb i hi) HL.out.diff m (Nat.le_refl _) i hi)
    have HCT := Lib.hid (fun k => memPut_count ⟨List.replicate (cWords c).toNat (0, 0), 0⟩ (onceAt got at_) V k)
    simp only at HCT
    generalize hMP : memPut ⟨List.replicate (cWords c).toNat (0, 0), 0⟩ (onceAt got at_) V = MP at *
    have HMP := Lib.hid (fun k => show MP (k + 1) = (MP k).tick.lay (onceAt got at_ k) (V k) by rw [← hMP]; rfl)
    have HEO := Lib.hid (show EachOk c got arr' refs' mn (MP m) from HL.out.each _ (HLN.out m) HPK.out)
    have hgz : ((got.length : Int) == 0) = false := beq_eq_false_iff_ne.2 (by omega)
    clear hMP hLD HLD R6 HKI HPK
    go_wp2_with fail
    go_loopw [17] (fun i wr => ∃ (j : Nat) (own : Nat → Nat), j ≤ m ∧ i = .int .i64 j ∧ Hid (Mod (fun x => x = 300) ⟨own6, w6⟩ ⟨own, wr⟩) ∧ Hid (MemAt ⟨own, wr⟩ 300 bm (MP j))) (fun i _ => m - (intOf i).toNat)
    case atStart => exact ⟨0, own6, Nat.zero_le _, rfl, Lib.hid (Mod.refl _ _), R6'⟩
    case round =>
      obtain ⟨j, own3, hj, rfl, M3, R3⟩ := hrel
      obtain ⟨w3, rfl⟩ : ∃ w3 : World, w3 = wr := ⟨_, rfl⟩
      by_cases hlt : j < m
      · obtain ⟨bl, ol, hA, hbl, hcl⟩ := (HC6.out.keep M3.out (by decide)).cells.cases (by rw [HWR.out.len]; omega)
        have l0 := hcl _ _ (HWR.out.at_ j hlt)
        have l1 := hcl _ _ (HWR.out.w j hlt)
        rw [← Nat.add_assoc] at l1
        have HK1 := Lib.hid (HMP.out j)
        have hcb := HCT.out j
        have HC3 := Lib.hid (show 0 ≤ (MP j).count ∧ (MP j).count ≤ 1099511627776 by rw [hcb]; omega)
        have HW := Lib.hid (fun X => mem_write (GW.pt ⟨own3, w3⟩ X) 300 bm (onceAt got at_ j) (V j).1 (V j).2 (MP j) (R3.out.pt X) HC3.out)
        subst hA
        simp only at hbl l0 l1
        generalize V j = pq at *
        obtain ⟨p, q⟩ := pq
        generalize onceAt got at_ j = a at *
        clear hcl hcb
        as_aux_lemma =>
          go_wp2_with fail
          refine wp_region_mixed [true, true, true, true, true, true, true, true, true, true, true, false] 1 11 (by kernel_rfl) (by kernel_rfl) (by kernel_rfl) ?_ (by decide) (by decide) (by decide) (by kernel_rfl) ?_
          · intro c a d v w h; cases d <;> exact h
          intro X00
          simp only [pickOps]
          repeat (go_big_quiet_step (fail))
          refine wpQuiet_nil (fun X0 => ?_)
          clear X00
          refine wpAnyM_tailL rfl (by kernel_rfl) (fun X2 => ?_)
          simp only [List.drop_succ_cons, List.drop_zero]
          go_wp2_with fail
          refine (HW.out _).mono ?_
          rintro e w4 ⟨rfl, own4, m4, r4⟩
          have M4 := Lib.hid m4
          have R4 := Lib.hid r4
          clear m4 r4
          go_wp2_with fail
          go_roundw
          case rel => exact ⟨j + 1, own4, by omega, by go_num, Lib.hid ((M3.out.trans (Mod.pt (Mod.refl _ _) _)).trans M4.out), Lib.hid (by rw [HK1.out]; exact R4.out)⟩
          case measure => simp [intOf]; omega
      · obtain rfl : j = m := by omega
        have hct := HCT.out j
        have M7 := Lib.hid (M6.out.trans (M3.out.mono (S := fun x => x ≠ 0) (fun x hx => by omega)))
        have HE7 := Lib.hid (show Ext wc w3 from ext_of_ne M7.out)
        obtain ⟨nw, hnw⟩ : ∃ nw : Nat, cWords c = nw := ⟨(cWords c).toNat, by have := cWords_bd c; omega⟩
        have hnw2 : nw ≤ 20000 := by have := cWords_bd c; omega
        have hln : (MP j).l.length = nw := by rw [HLN.out, hnw]; omega
        have HRR := Lib.hid (show MemAt ⟨own3, w3⟩ 300 bm (mAt (MP j) (((0 : Nat) : Int) + j)) from by
          have e : mAt (MP j) (((0 : Nat) : Int) + j) = MP j := by unfold mAt; rw [show ((0 : Nat) : Int) + (j : Int) = (MP j).count by omega]
          rw [e]
          exact R3.out)
        have HLEN := Lib.hid (fun X => show Calls Try.prog 27 #[.pointer (some ⟨bm, 0, none⟩)] (w3.patch X) (Gives (.int .i64 nw) (w3.patch X)) from by
          have h1 := mem_len (GW.pt ⟨own3, w3⟩ X) 300 bm (MP j) (R3.out.pt X)
          rw [hln] at h1
          exact h1.mono fun e w' h => ⟨h.1, h.2 ▸ Ext.refl _⟩)
        have HWDS := Lib.hid (fun X => show Calls Try.prog 28 #[c.val] (w3.patch X) (Gives (.int .i64 nw) (w3.patch X)) from by
          rw [← hnw]
          exact rwords_any c (w3.patch X) (HCO.out.ext (((HW0.out.trans HEC.out).trans HE7.out).trans ⟨X, rfl⟩)))
        unfold Cnf.val at HWDS
        have hmk := made_met (k := nw) (by omega)
        generalize MP j = mm at *
        have HJ := Lib.hid (show (j : Int) ≤ 10000 by omega)
        have HNW := Lib.hid hnw
        have g0 : w3.cell? ⟨w.heap.size, 0, none⟩ = some (.int .i64 c.frags) := (by simp only [World.cell?, (HB.out _ (HEC.out.trans HE7.out))]; rfl)
        have g1 : w3.cell? ⟨w.heap.size, 1, none⟩ = some (.int .i64 c.spine) := (by simp only [World.cell?, (HB.out _ (HEC.out.trans HE7.out))]; rfl)
        have g2 : w3.cell? ⟨w.heap.size, 2, none⟩ = some (.int .i64 c.globals) := (by simp only [World.cell?, (HB.out _ (HEC.out.trans HE7.out))]; rfl)
        have g3 : w3.cell? ⟨w.heap.size, 3, none⟩ = some (.int .i64 c.threads) := (by simp only [World.cell?, (HB.out _ (HEC.out.trans HE7.out))]; rfl)
        have g4 : w3.cell? ⟨w.heap.size, 4, none⟩ = some (.int .i64 c.locals) := (by simp only [World.cell?, (HB.out _ (HEC.out.trans HE7.out))]; rfl)
        have g5 : w3.cell? ⟨w.heap.size, 5, none⟩ = some (.int .i64 c.cache) := (by simp only [World.cell?, (HB.out _ (HEC.out.trans HE7.out))]; rfl)
        have g6 : w3.cell? ⟨w.heap.size, 6, none⟩ = some (.int .i64 c.stack) := (by simp only [World.cell?, (HB.out _ (HEC.out.trans HE7.out))]; rfl)
        have g7 : w3.cell? ⟨w.heap.size, 7, none⟩ = some (.int .i64 c.low) := (by simp only [World.cell?, (HB.out _ (HEC.out.trans HE7.out))]; rfl)
        have g8 : w3.cell? ⟨w.heap.size, 8, none⟩ = some (.slice c.A c.shapes.length c.cap) := (by simp only [World.cell?, (HB.out _ (HEC.out.trans HE7.out))]; rfl)
        have gl : w.heap.size < w3.heap.size := (Array.getElem?_eq_some_iff.1 (HB.out _ (HEC.out.trans HE7.out))).1
        clear hct HLN HCT HMP HWR hln hnw R3 M3 M6 M6a HC6 HL R6'
        as_aux_lemma =>
          go_wp2_with fail
          refine wp_region_mixed [true, true, true, true, true] 0 5 (by kernel_rfl) (by kernel_rfl) (by kernel_rfl) ?_ (by decide) (by decide) (by decide) (by kernel_rfl) ?_
          · intro c a d v w h; cases d <;> exact h
          intro X00
          simp only [pickOps]
          repeat (go_big_quiet_step (first | exact Calls.added (HLEN.out _) | exact Calls.added (HWDS.out _)))
          refine wpQuiet_nil (fun X0 => ?_)
          clear X00
          refine wpAnyM_done (by kernel_rfl) (fun X0' => ?_) _
          obtain ⟨Y, hY⟩ := (show Ext w3 ((w3.patch X0).patch X0') from Ext.trans ⟨X0, rfl⟩ ⟨X0', rfl⟩)
          rw [hY]
          clear hY g0 g1 g2 g3 g4 g5 g6 g7 g8 gl
          go_wp2_with fail
          refine (HLEN.out Y).mono ?_
          rintro e w4 ⟨rfl, hE4⟩
          have HE4 := Lib.hid (show Ext w3 w4 from Ext.trans ⟨Y, rfl⟩ (show Ext (w3.patch Y) w4 from hE4))
          clear hE4 HLEN HWDS
          go_wp2_with fail
          obtain ⟨own5, M5, R5, B5⟩ : ∃ own5, Hid (Mod (fun x => x ≠ 0) ⟨fun _ => 0, wc⟩ ⟨own5, w4.alloc (.cells (Array.replicate nw (Value.bool false)) 4)⟩) ∧ Hid (MemAt ⟨own5, w4.alloc (.cells (Array.replicate nw (Value.bool false)) 4)⟩ 300 bm (mAt mm (((0 : Nat) : Int) + j))) ∧
              Hid (Blk ⟨own5, w4.alloc (.cells (Array.replicate nw (Value.bool false)) 4)⟩ 330 w4.heap.size 4 ((List.replicate nw false).map Value.bool)) := by
            have e : Array.replicate nw (Value.bool false) = ((List.replicate nw false).map Value.bool).toArray := by simp
            rw [e]
            have m1 : Mod (fun _ => False) ⟨own3, w3⟩ ((⟨own3, w3⟩ : GW).to 0 w4) := Mod.ext HE4.out 0
            have m2 : Mod (fun _ => False) ((⟨own3, w3⟩ : GW).to 0 w4) (((⟨own3, w3⟩ : GW).to 0 w4).to 330 (w4.alloc (.cells ((List.replicate nw false).map Value.bool).toArray 4))) := Mod.ext (show Ext w4 _ by (repeat (first | (with_reducible assumption) | (with_reducible exact Ext.refl _) | (with_reducible exact Ext.more _ _ _ _) | apply Ext.alloc | refine Ext.setCell ?_ (by first | exact Nat.le_refl _ | exact Nat.le_add_right _ _ | assumption) _ | apply Ext.patch | apply Ext.drew | apply Ext.drewN))) 330
            exact ⟨_, Lib.hid (M7.out.trans ((m1.trans m2).mono (fun _ => False.elim))), Lib.hid (HRR.out.keep (m1.trans m2) id), Lib.hid (Blk.new ((⟨own3, w3⟩ : GW).to 0 w4) 330 4 ((List.replicate nw false).map Value.bool))⟩
          clear M7 HE7 HRR HE4
          generalize w4.alloc (.cells (Array.replicate nw (Value.bool false)) 4) = w5' at *
          generalize w4.heap.size = bq at *
          have htop := HEO.out.top
          have HMN := Lib.hid htop
          go_loopw [19] (fun i wr => ∃ (k cnt : Nat) (own : Nat → Nat) (L : List Bool), (k : Int) ≤ mn + 2 ∧ cnt ≤ 20 * k ∧ i = .int .i64 ((k : Int) - 1) ∧ L.length = nw ∧ Hid (∀ x, L.getD x false = true → ∃ p : Nat, p + 1 < k ∧ (p : Int) < mn ∧ eachA got arr' p = x) ∧ Hid (Mod (fun x => x ≠ 0) ⟨fun _ => 0, wc⟩ ⟨own, wr⟩) ∧ Hid (MemAt ⟨own, wr⟩ 300 bm (mAt mm ((cnt : Int) + j))) ∧ Hid (Blk ⟨own, wr⟩ 330 bq 4 (L.map Value.bool))) (fun i _ => (mn + 2 - intOf i).toNat)
          case atStart => exact ⟨0, 0, own5, List.replicate nw false, by omega, Nat.zero_le _, rfl, by simp, Lib.hid (fun x hx => by
            rw [List.getD_eq_getElem?_getD, List.getElem?_replicate] at hx
            split at hx <;> simp at hx), M5, R5, B5⟩
          case round =>
            clear M5 R5 B5
            obtain ⟨k, cnt, own8, L, hk, hcnt, rfl, hLl, HLI, M8, R8, B8⟩ := hrel
            obtain ⟨w8, rfl⟩ : ∃ w8 : World, w8 = wr := ⟨_, rfl⟩
            have HE8 := Lib.hid (show Ext wc w8 from ext_of_ne M8.out)
            generalize hz : (k : Int) - 1 = z at *
            by_cases hle : z ≤ mn
            · have HSB8 := Lib.hid ((HE8.out.heap _ hzc).trans HSB.out)
              have t0 : w8.cell? ⟨w2.heap.size, 0, none⟩ = some (.bool arr') := by simp only [World.cell?, HSB8.out]; rfl
              have tl : w2.heap.size < w8.heap.size := (Array.getElem?_eq_some_iff.1 HSB8.out).1
              obtain ⟨bg, og, hAq, hq, hcq⟩ := ints_at (HG.out.ext ((HW0.out.trans HEC.out).trans HE8.out)) (k := 0) hg1
              have z0 := hcq 0 hg1
              rw [Nat.add_zero] at z0
              subst hAq
              try simp only at hq z0
              have HFI := Lib.hid (fun X => find_field c (got.getD 0 0) z 310 (GW.pt ⟨own8, w8⟩ X) (HCO.out.ext (((HW0.out.trans HEC.out).trans HE8.out).trans ⟨X, rfl⟩)) hmx)
              unfold Cnf.val at HFI
              have g0 : w8.cell? ⟨w.heap.size, 0, none⟩ = some (.int .i64 c.frags) := (by simp only [World.cell?, (HB.out _ (HEC.out.trans HE8.out))]; rfl)
              have g1 : w8.cell? ⟨w.heap.size, 1, none⟩ = some (.int .i64 c.spine) := (by simp only [World.cell?, (HB.out _ (HEC.out.trans HE8.out))]; rfl)
              have g2 : w8.cell? ⟨w.heap.size, 2, none⟩ = some (.int .i64 c.globals) := (by simp only [World.cell?, (HB.out _ (HEC.out.trans HE8.out))]; rfl)
              have g3 : w8.cell? ⟨w.heap.size, 3, none⟩ = some (.int .i64 c.threads) := (by simp only [World.cell?, (HB.out _ (HEC.out.trans HE8.out))]; rfl)
              have g4 : w8.cell? ⟨w.heap.size, 4, none⟩ = some (.int .i64 c.locals) := (by simp only [World.cell?, (HB.out _ (HEC.out.trans HE8.out))]; rfl)
              have g5 : w8.cell? ⟨w.heap.size, 5, none⟩ = some (.int .i64 c.cache) := (by simp only [World.cell?, (HB.out _ (HEC.out.trans HE8.out))]; rfl)
              have g6 : w8.cell? ⟨w.heap.size, 6, none⟩ = some (.int .i64 c.stack) := (by simp only [World.cell?, (HB.out _ (HEC.out.trans HE8.out))]; rfl)
              have g7 : w8.cell? ⟨w.heap.size, 7, none⟩ = some (.int .i64 c.low) := (by simp only [World.cell?, (HB.out _ (HEC.out.trans HE8.out))]; rfl)
              have g8 : w8.cell? ⟨w.heap.size, 8, none⟩ = some (.slice c.A c.shapes.length c.cap) := (by simp only [World.cell?, (HB.out _ (HEC.out.trans HE8.out))]; rfl)
              have gl : w.heap.size < w8.heap.size := (Array.getElem?_eq_some_iff.1 (HB.out _ (HEC.out.trans HE8.out))).1
              clear hcq
              generalize hy0 : got.getD 0 0 = y0 at *
              have HY0 := Lib.hid hy0
              clear hy0
              go_wp2_with fail
              refine wp_region_mixed [true, true, true, true, true, false, false] 2 5 (by kernel_rfl) (by kernel_rfl) (by kernel_rfl) ?_ (by decide) (by decide) (by decide) (by kernel_rfl) ?_
              · intro c a d v w h; cases d <;> exact h
              intro X00
              simp only [pickOps]
              repeat (go_big_quiet_step (fail))
              refine wpQuiet_nil (fun X0 => ?_)
              clear X00
              refine wpAnyM_tailL rfl (by kernel_rfl) (fun X2 => ?_)
              simp only [List.drop_succ_cons, List.drop_zero]
              go_wp2_with fail
              refine (HFI.out _).mono ?_
              rintro e w9 ⟨own9, bf, cm, rfl, m9, r9, hs9⟩
              have mf : Mod (fun _ => False) ⟨own8, w8⟩ ⟨own9, w9⟩ := (Mod.pt (Mod.refl (fun _ => False) _) _).trans m9
              have M9 := Lib.hid (M8.out.trans (mf.mono (T := fun _ => False) (S := fun x => x ≠ 0) (fun _ => False.elim)))
              have R9a := Lib.hid (R8.out.keep mf id)
              have B9 := Lib.hid (B8.out.keep mf id)
              have F9a := Lib.hid (show FindAt ⟨own9, w9⟩ 310 bf (FindS.fresh cm (got.getD 0 0) z false (got.getD 0 0)) from by rw [HY0.out]; exact r9)
              have HS9 := Lib.hid hs9
              have u0 := (mf.toExt.cell tl).trans t0
              have ul := Nat.lt_of_lt_of_le tl mf.toExt.size
              have z9 := (mf.toExt.cell hq).trans z0
              have hq9 := Nat.lt_of_lt_of_le hq mf.toExt.size
              clear m9 r9 hs9 mf g0 g1 g2 g3 g4 g5 g6 g7 g8 gl z0 hq HFI M8 R8 B8 HE8 t0 tl
              cases arr'
              · clear z9 hq9
                as_aux_lemma =>
                  have HOK1 := Lib.hid (HEO.out.way cm HS9.out z (by omega) (by omega))
                  obtain ⟨W, st, hEW, hEE⟩ := HOK1.out
                  have EW := Lib.hid hEW
                  have EE := Lib.hid hEE
                  have F9 := Lib.hid (show FindAt ⟨own9, w9⟩ 310 bf (st 0) from by rw [EW.out.st0]; exact (by rw [if_neg (by decide)]; exact F9a.out))
                  have R9 := Lib.hid (show MemAt ⟨own9, w9⟩ 300 bm (mAt mm (((cnt + 0 : Nat) : Int) + j)) from R9a.out)
                  clear hEW hEE HOK1 R9a
                  go_wp2_with fail
                  go_loopw [21] (fun i wr => ∃ (q : Nat) (own : Nat → Nat), q ≤ W ∧ i = .int .i64 q ∧ Hid (Mod (fun x => x ≠ 0) ⟨fun _ => 0, wc⟩ ⟨own, wr⟩) ∧ Hid (FindAt ⟨own, wr⟩ 310 bf (st q)) ∧ Hid (MemAt ⟨own, wr⟩ 300 bm (mAt mm (((cnt + q : Nat) : Int) + j))) ∧ Hid (Blk ⟨own, wr⟩ 330 bq 4 (L.map Value.bool))) (fun i _ => 20 - (intOf i).toNat)
                  case atStart => exact ⟨0, own9, Nat.zero_le _, rfl, M9, F9, R9, B9⟩
                  case round =>
                    clear F9 R9 B9 M9
                    obtain ⟨q, own10, hq, rfl, M10, F10, R10, B10⟩ := hrel
                    obtain ⟨w10, rfl⟩ : ∃ w10 : World, w10 = wr := ⟨_, rfl⟩
                    have hw6 := EW.out.le
                    have HPC := Lib.hid (EW.out.pc q hq)
                    have hq20 : q < 20 := by omega
                    go_wp2_with fail
                    refine (find_done ⟨own10, w10⟩ 310 bf (st q) F10.out).mono ?_
                    rintro e wv ⟨rfl, rfl⟩
                    rw [HPC.out]
                    by_cases hqe : q = W
                    · rw [decide_eq_true hqe]
                      rw [decide_eq_true hqe] at HPC
                      subst hqe
                      generalize st q = S at *
                      clear EW
                      have HE10 := Lib.hid (show Ext wc w10 from ext_of_ne M10.out)
                      by_cases hin : 0 ≤ z ∧ z < mn
                      · have hd1 : decide (z < 0) = false := decide_eq_false (by omega)
                        have hd2 : decide (mn ≤ z) = false := decide_eq_false (by omega)
                        have HEE := Lib.hid (show S.e = 0 ∧ S.at_ = eachA got false z.toNat ∧ S.ref = eachR false refs' z.toNat ∧ S.steps ≤ (if false = true then 5 else 1 + Shp.placeF z) from by
                          have := EE.out
                          unfold EachEnd at this
                          rw [decide_eq_true hin, if_pos rfl] at this
                          exact this)
                        obtain ⟨zn, hzn⟩ : ∃ zn : Nat, z = zn := ⟨z.toNat, by omega⟩
                        have hzk : k = zn + 1 := by omega
                        subst hzk
                        obtain ⟨an, han⟩ : ∃ an : Nat, eachA got false zn = an := ⟨(eachA got false zn).toNat, by have := (HEO.out.inn zn (by omega)).1; omega⟩
                        have hanw : an < nw := by have := (HEO.out.inn zn (by omega)).2; have := HNW.out; omega
                        have HSE := Lib.hid HEE.out.1
                        have HSA := Lib.hid (show S.at_ = an from by rw [HEE.out.2.1, hzn, Int.toNat_natCast, han])
                        obtain ⟨rf, hrf⟩ : ∃ rf, eachR false refs' zn = rf := ⟨_, rfl⟩
                        have HSR := Lib.hid (show S.ref = rf from by rw [HEE.out.2.2.1, hzn, Int.toNat_natCast, hrf])
                        obtain ⟨sp, hsp⟩ : ∃ sp, S.steps = sp := ⟨_, rfl⟩
                        have HSS := Lib.hid hsp
                        have HSM := Lib.hid (show sp ≤ (if false = true then 5 else 1 + Shp.placeF zn) from by rw [← hsp, ← hzn]; exact HEE.out.2.2.2)
                        have hLan : L.getD an false = false := by
                          cases hL : L.getD an false with
                          | false => rfl
                          | true =>
                            obtain ⟨p, h1, h2, h3⟩ := HLI.out an hL
                            have := HEO.out.inj p zn h2 (by omega) (by rw [h3, han])
                            omega
                        have HLN2 := Lib.hid hLan
                        have HWD := Lib.hid (show mm.peek an = blankF rf from by rw [← han, ← hrf]; exact HEO.out.word zn (by omega))
                        have HRFv := Lib.hid hrf
                        have HAN := Lib.hid han
                        have hal : an < L.length := by rw [hLl]; exact hanw
                        have b0 := B10.out.cell (i := an) (v := .bool false) (by rw [List.getElem?_map, List.getElem?_eq_getElem hal, ← hLan, List.getD_eq_getElem?_getD, List.getElem?_eq_getElem hal]; rfl)
                        have bf0 := B10.out.live an
                        have bl := B10.out.lt
                        simp only at b0 bf0 bl
                        have HSB10 := Lib.hid ((HE10.out.heap _ hzc).trans HSB.out)
                        have s0 : w10.cell? ⟨w2.heap.size, 0, none⟩ = some (.bool false) := by simp only [World.cell?, HSB10.out]; rfl
                        have s1 : w10.cell? ⟨w2.heap.size, 1, none⟩ = some (.slice A' refs'.length cap') := by simp only [World.cell?, HSB10.out]; rfl
                        have sl : w2.heap.size < w10.heap.size := (Array.getElem?_eq_some_iff.1 HSB10.out).1
                        have hd3 : decide ((nw : Int) ≤ an) = false := decide_eq_false (by omega)
                        have hd4 : decide (nw ≤ an) = false := decide_eq_false (by omega)
                        have hd5 : decide ((an : Int) < 0) = false := decide_eq_false (by omega)
                        subst hzn
                        clear hsp hrf han hLan HEE EE
                        have HDN := Lib.hid (fun X => show Calls Try.prog 23 #[.pointer (some ⟨bf, 0, none⟩)] (w10.patch X) (Gives (.bool true) (w10.patch X)) from by
                          have h1 := find_done (GW.pt ⟨own10, w10⟩ X) 310 bf S (F10.out.keep (Mod.pt (Mod.refl (fun _ => False) _) X) id id)
                          rw [HPC.out] at h1
                          exact h1.mono fun e w' h => ⟨h.1, h.2 ▸ Ext.refl _⟩)
                        have HER := Lib.hid (fun X => show Calls Try.prog 30 #[.pointer (some ⟨bf, 0, none⟩)] (w10.patch X) (Gives (.int .i64 0) (w10.patch X)) from by
                          have h1 := find_errno (GW.pt ⟨own10, w10⟩ X) 310 bf S (F10.out.keep (Mod.pt (Mod.refl (fun _ => False) _) X) id id)
                          rw [HSE.out] at h1
                          exact h1.mono fun e w' h => ⟨h.1, h.2 ▸ Ext.refl _⟩)
                        have HSP := Lib.hid (fun X => show Calls Try.prog 25 #[.pointer (some ⟨bf, 0, none⟩)] (w10.patch X) (Gives (.int .i64 sp) (w10.patch X)) from by
                          have h1 := find_steps (GW.pt ⟨own10, w10⟩ X) 310 bf S (F10.out.keep (Mod.pt (Mod.refl (fun _ => False) _) X) id id)
                          rw [HSS.out] at h1
                          exact h1.mono fun e w' h => ⟨h.1, h.2 ▸ Ext.refl _⟩)
                        have HRF := Lib.hid (fun X => show Calls Try.prog 32 #[.pointer (some ⟨bf, 0, none⟩)] (w10.patch X) (Gives (.bool rf) (w10.patch X)) from by
                          have h1 := find_ref (GW.pt ⟨own10, w10⟩ X) 310 bf S (F10.out.keep (Mod.pt (Mod.refl (fun _ => False) _) X) id id)
                          rw [HSA.out, HSR.out, decide_eq_true (show 0 ≤ ((an : Nat) : Int) by omega), Bool.true_and] at h1
                          exact h1.mono fun e w' h => ⟨h.1, h.2 ▸ Ext.refl _⟩)
                        go_wp2_with fail
                        refine (find_at ⟨own10, w10⟩ 310 bf S F10.out).mono ?_
                        rintro e wv ⟨rfl, rfl⟩
                        rw [HSA.out]
                        go_wp2_with fail
                        as_aux_lemma =>
                          have HWW := Lib.hid (HEO.out.refs)
                          obtain ⟨pf, hpf⟩ := placeF_nat zn
                          obtain ⟨pw, hpw⟩ : ∃ pw : Int, Shp.placeW zn = pw := ⟨_, rfl⟩
                          have hpwb : 1 ≤ pw ∧ pw ≤ 7 := by rw [← hpw]; exact Shp.placeW_bd zn (by omega)
                          have hpfl : pf < got.length := by
                            have := HEO.out.frag zn (by omega)
                            rw [if_neg (by decide)] at this
                            omega
                          have hgy := HEO.out.gotb pf hpfl
                          have hany : (an : Int) = got.getD pf 0 * 8 + pw := by
                            rw [← HAN.out]
                            unfold eachA
                            rw [if_neg (by decide), hpf, hpw, Int.toNat_natCast]
                          have hzl : zn < refs'.length := by
                            have := HWW.out
                            rw [if_neg (by decide)] at this
                            omega
                          have hsp2 : sp ≤ 1 + pf := by
                            have := HSM.out
                            rw [if_neg (by decide), hpf] at this
                            exact this
                          have hrf2 : refs'.getD zn false = rf := by
                            have := HRFv.out
                            unfold eachR at this
                            rw [if_neg (by decide)] at this
                            exact this
                          have HPL := Lib.hid (fun X => show Calls Try.prog 21 #[.agg #[.bool false, .slice A' refs'.length cap'], .int .i64 zn] (w10.patch X) (Gives (.tuple #[.int .i64 pf, .int .i64 pw, .bool true]) (w10.patch X)) from by
                            have h1 := place_any ⟨false, A', cap', refs'⟩ zn (w10.patch X) ((HOKC.out.ext HE10.out).ext ⟨X, rfl⟩) (by omega) (by omega)
                            unfold Shp.place at h1
                            have := HWW.out
                            rw [if_neg (by decide)] at this
                            rw [if_pos (this.2 zn hzl A' cap'), hpf, hpw] at h1
                            exact h1)
                          have HANY := Lib.hid hany
                          have HRF2 := Lib.hid hrf2
                          clear HWW hpf hpw hany hrf2
                          refine wp_region_mixed [true, true, true, true, true, true, true, true, true, true, true, true, true, true, true, true, true, true, true, true, true, true, true, true, true, true, true, true, true, true, true, true, true, true, true, true, true, true, true, true, true, true, true, true, true, true, true, true, true, true, true, true, true, true, true, true, true, true, true, true] 0 60 (by kernel_rfl) (by kernel_rfl) (by kernel_rfl) ?_ (by decide) (by decide) (by decide) (by kernel_rfl) ?_
                          · intro c a d v w h; cases d <;> exact h
                          intro X00
                          simp only [pickOps]
                          repeat (go_big_quiet_step (first | (go_at_call 23; exact Calls.added (HDN.out _)) | (go_at_call 30; exact Calls.added (HER.out _)) | (go_at_call 25; exact Calls.added (HSP.out _)) | (go_at_call 32; exact Calls.added (HRF.out _))))
                          refine wpQuiet_nil (fun X0 => ?_)
                          clear X00
                          refine wpAnyM_done (by kernel_rfl) (fun X0' => ?_) _
                          obtain ⟨Y, hY⟩ := (show Ext w10 ((w10.patch X0).patch X0') from Ext.trans ⟨X0, rfl⟩ ⟨X0', rfl⟩)
                          rw [hY]
                          clear hY
                          go_wp2_with fail
                          refine (HPL.out Y).mono ?_
                          rintro e w11 ⟨rfl, hE11⟩
                          have hEx := (show Ext w10 w11 from Ext.trans ⟨Y, rfl⟩ (show Ext (w10.patch Y) w11 from hE11))
                          have HX11 := Lib.hid hEx
                          have m11 : Mod (fun _ => False) ⟨own10, w10⟩ ((⟨own10, w10⟩ : GW).to 0 w11) := Mod.ext hEx 0
                          obtain ⟨own11, M11, R11, F11, B11⟩ : ∃ own11, Hid (Mod (fun x => x ≠ 0) ⟨fun _ => 0, wc⟩ ⟨own11, w11⟩) ∧ Hid (MemAt ⟨own11, w11⟩ 300 bm (mAt mm (((cnt + q : Nat) : Int) + j))) ∧ Hid (FindAt ⟨own11, w11⟩ 310 bf S) ∧ Hid (Blk ⟨own11, w11⟩ 330 bq 4 (L.map Value.bool)) :=
                            ⟨_, Lib.hid (M10.out.trans (m11.mono (fun _ => False.elim))), Lib.hid (R10.out.keep m11 id), Lib.hid (F10.out.keep m11 id id), Lib.hid (B10.out.keep m11 id)⟩
                          have HE11 := Lib.hid (HE10.out.trans hEx)
                          have HSB11 := Lib.hid ((HE11.out.heap _ hzc).trans HSB.out)
                          clear hE11 m11 hEx HPL HDN HER HSP HRF s0 s1 sl b0 bf0 bl HSB10 M10 R10 F10 B10
                          have s0 : w11.cell? ⟨w2.heap.size, 0, none⟩ = some (.bool false) := by simp only [World.cell?, HSB11.out]; rfl
                          have s1 : w11.cell? ⟨w2.heap.size, 1, none⟩ = some (.slice A' refs'.length cap') := by simp only [World.cell?, HSB11.out]; rfl
                          have sl : w2.heap.size < w11.heap.size := (Array.getElem?_eq_some_iff.1 HSB11.out).1
                          have b0 := B11.out.cell (i := an) (v := .bool false) (by rw [List.getElem?_map, List.getElem?_eq_getElem hal, ← HLN2.out, List.getD_eq_getElem?_getD, List.getElem?_eq_getElem hal]; rfl)
                          have bf0 := B11.out.live an
                          have bl := B11.out.lt
                          simp only at b0 bf0 bl
                          obtain ⟨ba, oa, hAa, hba, hca⟩ := ((HOKC.out.ext HE11.out).refs).cases (by simp; omega)
                          have z2 := hca zn (.bool rf) (by rw [← HRF2.out]; simp [List.getD_eq_getElem?_getD, hzl])
                          obtain ⟨bg2, og2, hAg, hg2, hcg⟩ := ints_at (HG.out.ext ((HW0.out.trans HEC.out).trans HE11.out)) hpfl
                          have z3 := hcg pf hpfl
                          simp only [Option.some.injEq, Addr.mk.injEq, and_true] at hAg
                          obtain ⟨rfl, rfl⟩ := hAg
                          simp only at hAa hba z2
                          subst hAa
                          generalize got.getD pf 0 = y at *
                          have e1 := IntWalk.i64_in (8 * y) (by omega)
                          have e2 := IntWalk.i64_in (8 * y + pw) (by omega)
                          have e3 : ((an : Int) != 8 * y + pw) = false := by rw [show (an : Int) = 8 * y + pw by have := HANY.out; omega]; simp
                          have e4 := IntWalk.i64_in (1 + (pf : Int)) (by have := HEO.out.gotb; omega)
                          have e5' : decide (1 + (pf : Int) < sp) = false := decide_eq_false (by omega)
                          have HDN := Lib.hid (fun X => show Calls Try.prog 23 #[.pointer (some ⟨bf, 0, none⟩)] (w11.patch X) (Gives (.bool true) (w11.patch X)) from by
                            have h1 := find_done (GW.pt ⟨own11, w11⟩ X) 310 bf S (F11.out.keep (Mod.pt (Mod.refl (fun _ => False) _) X) id id)
                            rw [HPC.out] at h1
                            exact h1.mono fun e w' h => ⟨h.1, h.2 ▸ Ext.refl _⟩)
                          have HER := Lib.hid (fun X => show Calls Try.prog 30 #[.pointer (some ⟨bf, 0, none⟩)] (w11.patch X) (Gives (.int .i64 0) (w11.patch X)) from by
                            have h1 := find_errno (GW.pt ⟨own11, w11⟩ X) 310 bf S (F11.out.keep (Mod.pt (Mod.refl (fun _ => False) _) X) id id)
                            rw [HSE.out] at h1
                            exact h1.mono fun e w' h => ⟨h.1, h.2 ▸ Ext.refl _⟩)
                          have HSP := Lib.hid (fun X => show Calls Try.prog 25 #[.pointer (some ⟨bf, 0, none⟩)] (w11.patch X) (Gives (.int .i64 sp) (w11.patch X)) from by
                            have h1 := find_steps (GW.pt ⟨own11, w11⟩ X) 310 bf S (F11.out.keep (Mod.pt (Mod.refl (fun _ => False) _) X) id id)
                            rw [HSS.out] at h1
                            exact h1.mono fun e w' h => ⟨h.1, h.2 ▸ Ext.refl _⟩)
                          have HRF := Lib.hid (fun X => show Calls Try.prog 32 #[.pointer (some ⟨bf, 0, none⟩)] (w11.patch X) (Gives (.bool rf) (w11.patch X)) from by
                            have h1 := find_ref (GW.pt ⟨own11, w11⟩ X) 310 bf S (F11.out.keep (Mod.pt (Mod.refl (fun _ => False) _) X) id id)
                            rw [HSA.out, HSR.out, decide_eq_true (show 0 ≤ ((an : Nat) : Int) by omega), Bool.true_and] at h1
                            exact h1.mono fun e w' h => ⟨h.1, h.2 ▸ Ext.refl _⟩)
                          clear hca hcg hgy
                          cases rf
                          all_goals
                           as_aux_lemma =>
                            go_wp2_with fail
                            refine wp_region_mixed [true, true, true, true, true, true, true, true, true, true, true, true, true, true, true, true, true, true, true, true, true, true, true, true, true, true] 0 26 (by kernel_rfl) (by kernel_rfl) (by kernel_rfl) ?_ (by decide) (by decide) (by decide) (by kernel_rfl) ?_
                            · intro c a d v w h; cases d <;> exact h
                            intro X00
                            simp only [pickOps]
                            repeat (go_big_quiet_step (first | (go_at_call 25; exact Calls.added (HSP.out _)) | (go_at_call 32; exact Calls.added (HRF.out _))))
                            refine wpQuiet_nil (fun X0 => ?_)
                            clear X00
                            refine wpAnyM_done (by kernel_rfl) (fun X0' => ?_) _
                            obtain ⟨Y2, hY2⟩ := (show Ext w11 ((w11.patch X0).patch X0') from Ext.trans ⟨X0, rfl⟩ ⟨X0', rfl⟩)
                            rw [hY2]
                            clear hY2
                            obtain ⟨own12, HF12⟩ : ∃ own12, Hid (Mod (fun x => x ≠ 0) ⟨fun _ => 0, wc⟩ ⟨own12, (w11.setCell ⟨bq, an, none⟩ (.bool true)).patch Y2⟩ ∧ MemAt ⟨own12, (w11.setCell ⟨bq, an, none⟩ (.bool true)).patch Y2⟩ 300 bm (mAt mm (((cnt + q : Nat) : Int) + j)) ∧
                                FindAt ⟨own12, (w11.setCell ⟨bq, an, none⟩ (.bool true)).patch Y2⟩ 310 bf S ∧ Blk ⟨own12, (w11.setCell ⟨bq, an, none⟩ (.bool true)).patch Y2⟩ 330 bq 4 ((L.set an true).map Value.bool)) := by
                              have ms : Mod (fun x => x = 330) ⟨own11, w11⟩ ⟨own11, w11.setCell ⟨bq, an, none⟩ (.bool true)⟩ := Mod.st (g := ⟨own11, w11⟩) Mod.self B11.out.own
                              have mp : Mod (fun _ => False) ⟨own11, w11.setCell ⟨bq, an, none⟩ (.bool true)⟩ (GW.pt ⟨own11, w11.setCell ⟨bq, an, none⟩ (.bool true)⟩ Y2) := Mod.pt (Mod.refl _ _) Y2
                              refine ⟨_, Lib.hid ⟨M11.out.trans ((ms.mono (fun x hx => by omega)).trans (mp.mono (fun _ => False.elim))), (R11.out.keep ms (by decide)).keep mp id, (F11.out.keep ms (by decide) (by decide)).keep mp id id, ?_⟩⟩
                              rw [List.map_set]
                              exact (B11.out.set an (.bool true)).keep mp id
                            clear M11 R11 F11 B11 HSP HRF
                            go_wp2_with fail
                            refine (mem_peek ⟨own12, _⟩ 300 bm an _ HF12.out.2.1).mono ?_
                            rintro e wv ⟨rfl, rfl⟩
                            rw [show (mAt mm (((cnt + q : Nat) : Int) + j)).peek an = mm.peek an from rfl, HWD.out]
                            go_wp2_with fail
                            refine (find_ref ⟨own12, _⟩ 310 bf S HF12.out.2.2.1).mono ?_
                            rintro e wv ⟨rfl, rfl⟩
                            rw [HSA.out, HSR.out, decide_eq_true (show 0 ≤ ((an : Nat) : Int) by omega), Bool.true_and]
                            go_wp2_with fail
                            refine (blank13 _ _).mono ?_
                            rintro e w13 ⟨rfl, hE13⟩
                            obtain ⟨own13, HF13⟩ : ∃ own13, Hid (Mod (fun x => x ≠ 0) ⟨fun _ => 0, wc⟩ ⟨own13, w13⟩ ∧ MemAt ⟨own13, w13⟩ 300 bm (mAt mm (((cnt + q : Nat) : Int) + j)) ∧ Blk ⟨own13, w13⟩ 330 bq 4 ((L.set an true).map Value.bool)) := by
                              have m13 := Mod.ext (T := fun _ => False) (g := ⟨own12, (w11.setCell ⟨bq, an, none⟩ (.bool true)).patch Y2⟩) (show Ext _ w13 from hE13) 0
                              exact ⟨_, Lib.hid ⟨HF12.out.1.trans (m13.mono (fun _ => False.elim)), HF12.out.2.1.keep m13 id, HF12.out.2.2.2.keep m13 id⟩⟩
                            clear hE13 HF12
                            go_wp2_with fail
                            refine (word_same (blankF _) _).mono ?_
                            rintro e w14 ⟨rfl, hE14⟩
                            obtain ⟨own14, HF14⟩ : ∃ own14, Hid (Mod (fun x => x ≠ 0) ⟨fun _ => 0, wc⟩ ⟨own14, w14⟩ ∧ MemAt ⟨own14, w14⟩ 300 bm (mAt mm (((cnt + q : Nat) : Int) + j)) ∧ Blk ⟨own14, w14⟩ 330 bq 4 ((L.set an true).map Value.bool)) := by
                              have m14 := Mod.ext (T := fun _ => False) (g := ⟨own13, w13⟩) (show Ext w13 w14 from hE14) 0
                              exact ⟨_, Lib.hid ⟨HF13.out.1.trans (m14.mono (fun _ => False.elim)), HF13.out.2.1.keep m14 id, HF13.out.2.2.keep m14 id⟩⟩
                            clear hE14 HF13
                            go_wp2_with fail
                            go_roundw
                            case rel => exact ⟨zn + 2, cnt + q, own14, L.set an true, by omega, by omega, congrArg _ (by omega), by rw [List.length_set]; exact hLl, Lib.hid (fun x hx => by
                              by_cases hxa : x = an
                              · subst hxa
                                exact ⟨zn, by omega, by omega, HAN.out⟩
                              · rw [List.getD_eq_getElem?_getD, List.getElem?_set_ne (fun h => hxa h.symm), ← List.getD_eq_getElem?_getD] at hx
                                obtain ⟨p, h1, h2, h3⟩ := HLI.out x hx
                                exact ⟨p, by omega, h2, h3⟩), Lib.hid HF14.out.1, Lib.hid HF14.out.2.1, Lib.hid HF14.out.2.2⟩
                            case measure => simp [intOf]; omega
                      · have hout : EachEnd (S) false (eachA got false z.toNat) (eachR false refs' z.toNat) (if false = true then 5 else 1 + Shp.placeF z) := by
                          have := EE.out
                          rw [decide_eq_false hin] at this
                          exact this
                        unfold EachEnd at hout
                        rw [if_neg (by decide)] at hout
                        have HSE := Lib.hid hout.1
                        have HSA := Lib.hid hout.2
                        clear hout EE
                        by_cases hz0 : z < 0
                        · have hd1 : decide (z < 0) = true := decide_eq_true hz0
                          as_aux_lemma =>
                            go_wp2_with fail
                            refine (find_errno ⟨own10, w10⟩ 310 bf S F10.out).mono ?_
                            rintro e wv ⟨rfl, rfl⟩
                            rw [HSE.out]
                            go_wp2_with fail
                            refine (find_at ⟨own10, w10⟩ 310 bf S F10.out).mono ?_
                            rintro e wv ⟨rfl, rfl⟩
                            rw [HSA.out]
                            go_wp2_with fail
                            go_roundw
                            case rel => exact ⟨k + 1, cnt + q, own10, L, by omega, by omega, congrArg _ (by omega), hLl, Lib.hid (fun x hx => by
                              obtain ⟨p, h1, h2, h3⟩ := HLI.out x hx
                              exact ⟨p, by omega, h2, h3⟩), M10, R10, B10⟩
                            case measure => simp [intOf]; omega
                        · have hd1 : decide (z < 0) = false := decide_eq_false hz0
                          have hd2 : decide (mn ≤ z) = true := decide_eq_true (by omega)
                          as_aux_lemma =>
                            go_wp2_with fail
                            refine (find_errno ⟨own10, w10⟩ 310 bf S F10.out).mono ?_
                            rintro e wv ⟨rfl, rfl⟩
                            rw [HSE.out]
                            go_wp2_with fail
                            refine (find_at ⟨own10, w10⟩ 310 bf S F10.out).mono ?_
                            rintro e wv ⟨rfl, rfl⟩
                            rw [HSA.out]
                            go_wp2_with fail
                            go_roundw
                            case rel => exact ⟨k + 1, cnt + q, own10, L, by omega, by omega, congrArg _ (by omega), hLl, Lib.hid (fun x hx => by
                              obtain ⟨p, h1, h2, h3⟩ := HLI.out x hx
                              exact ⟨p, by omega, h2, h3⟩), M10, R10, B10⟩
                            case measure => simp [intOf]; omega
                    · rw [decide_eq_false hqe]
                      obtain ⟨x, hst⟩ := EW.out.step q (by omega) (((cnt + q : Nat) : Int) + j) ⟨by omega, by have := HJ.out; omega⟩ ⟨own10, w10⟩ bf bm F10.out R10.out
                      have HST := Lib.hid hst
                      have hqs : q + 1 ≤ W := by omega
                      clear hst HPC hqe hw6
                      as_aux_lemma =>
                       go_wp2_with fail
                       refine HST.out.mono ?_
                       rintro e w11 ⟨rfl, own11, m11, f11, r11⟩
                       have M11 := Lib.hid (M10.out.trans (m11.mono (S := fun x => x ≠ 0) (fun x hx => by omega)))
                       have R11 := Lib.hid (show MemAt ⟨own11, w11⟩ 300 bm (mAt mm (((cnt + (q + 1) : Nat) : Int) + j)) from by
                         rw [show (((cnt + (q + 1) : Nat) : Int) + j) = ((cnt + q : Nat) : Int) + j + 1 by omega]
                         exact r11)
                       have F11 := Lib.hid f11
                       have B11 := Lib.hid (B10.out.keep m11 (by decide))
                       clear m11 f11 r11
                       go_wp2_with fail
                       go_roundw
                       case rel => exact ⟨q + 1, own11, hqs, by go_num, M11, F11, R11, B11⟩
                       case measure => simp [intOf]; omega
              · have HEI := Lib.hid (fun X => find_elem c (got.getD 0 0) z 310 (GW.pt ⟨own9, w9⟩ X) (HCO.out.ext ((HW0.out.trans HEC.out).trans ((ext_of_ne M9.out).trans ⟨X, rfl⟩))) hmx)
                unfold Cnf.val at HEI
                have HB9 := HB.out _ (HEC.out.trans (ext_of_ne M9.out))
                have g0 : w9.cell? ⟨w.heap.size, 0, none⟩ = some (.int .i64 c.frags) := (by simp only [World.cell?, HB9]; rfl)
                have g1 : w9.cell? ⟨w.heap.size, 1, none⟩ = some (.int .i64 c.spine) := (by simp only [World.cell?, HB9]; rfl)
                have g2 : w9.cell? ⟨w.heap.size, 2, none⟩ = some (.int .i64 c.globals) := (by simp only [World.cell?, HB9]; rfl)
                have g3 : w9.cell? ⟨w.heap.size, 3, none⟩ = some (.int .i64 c.threads) := (by simp only [World.cell?, HB9]; rfl)
                have g4 : w9.cell? ⟨w.heap.size, 4, none⟩ = some (.int .i64 c.locals) := (by simp only [World.cell?, HB9]; rfl)
                have g5 : w9.cell? ⟨w.heap.size, 5, none⟩ = some (.int .i64 c.cache) := (by simp only [World.cell?, HB9]; rfl)
                have g6 : w9.cell? ⟨w.heap.size, 6, none⟩ = some (.int .i64 c.stack) := (by simp only [World.cell?, HB9]; rfl)
                have g7 : w9.cell? ⟨w.heap.size, 7, none⟩ = some (.int .i64 c.low) := (by simp only [World.cell?, HB9]; rfl)
                have g8 : w9.cell? ⟨w.heap.size, 8, none⟩ = some (.slice c.A c.shapes.length c.cap) := (by simp only [World.cell?, HB9]; rfl)
                have gl : w.heap.size < w9.heap.size := (Array.getElem?_eq_some_iff.1 HB9).1
                rw [HY0.out] at HEI
                clear F9a HS9 HB9
                go_wp2_with fail
                refine wp_region_mixed [true, true, true, true, true, false, false] 2 5 (by kernel_rfl) (by kernel_rfl) (by kernel_rfl) ?_ (by decide) (by decide) (by decide) (by kernel_rfl) ?_
                · intro c a d v w h; cases d <;> exact h
                intro X00
                simp only [pickOps]
                repeat (go_big_quiet_step (fail))
                refine wpQuiet_nil (fun X0 => ?_)
                clear X00
                refine wpAnyM_tailL rfl (by kernel_rfl) (fun X2 => ?_)
                simp only [List.drop_succ_cons, List.drop_zero]
                go_wp2_with fail
                refine (HEI.out _).mono ?_
                rintro e w7 ⟨own7, bf, cm, rfl, m9, r9, hs9⟩
                have mf : Mod (fun _ => False) ⟨own9, w9⟩ ⟨own7, w7⟩ := (Mod.pt (Mod.refl (fun _ => False) _) _).trans m9
                have M9' := Lib.hid (M9.out.trans (mf.mono (T := fun _ => False) (S := fun x => x ≠ 0) (fun _ => False.elim)))
                have R9a' := Lib.hid (R9a.out.keep mf id)
                have B9' := Lib.hid (B9.out.keep mf id)
                have F9a := Lib.hid (show FindAt ⟨own7, w7⟩ 310 bf (FindS.fresh cm (got.getD 0 0) z true 0) from by rw [HY0.out]; exact r9)
                have HS9 := Lib.hid hs9
                clear m9 r9 hs9 mf g0 g1 g2 g3 g4 g5 g6 g7 g8 gl z9 hq9 HEI M9 R9a B9 u0 ul
                have M9 := M9'
                have R9a := R9a'
                have B9 := B9'
                clear M9' R9a' B9'
                obtain ⟨own9, rfl⟩ : ∃ o : Nat → Nat, o = own7 := ⟨_, rfl⟩
                obtain ⟨w9, rfl⟩ : ∃ o : World, o = w7 := ⟨_, rfl⟩
                as_aux_lemma =>
                  have HOK1 := Lib.hid (HEO.out.way cm HS9.out z (by omega) (by omega))
                  obtain ⟨W, st, hEW, hEE⟩ := HOK1.out
                  have EW := Lib.hid hEW
                  have EE := Lib.hid hEE
                  have F9 := Lib.hid (show FindAt ⟨own9, w9⟩ 310 bf (st 0) from by rw [EW.out.st0]; exact (by rw [if_pos rfl]; exact F9a.out))
                  have R9 := Lib.hid (show MemAt ⟨own9, w9⟩ 300 bm (mAt mm (((cnt + 0 : Nat) : Int) + j)) from R9a.out)
                  clear hEW hEE HOK1 R9a
                  go_wp2_with fail
                  go_loopw [21] (fun i wr => ∃ (q : Nat) (own : Nat → Nat), q ≤ W ∧ i = .int .i64 q ∧ Hid (Mod (fun x => x ≠ 0) ⟨fun _ => 0, wc⟩ ⟨own, wr⟩) ∧ Hid (FindAt ⟨own, wr⟩ 310 bf (st q)) ∧ Hid (MemAt ⟨own, wr⟩ 300 bm (mAt mm (((cnt + q : Nat) : Int) + j))) ∧ Hid (Blk ⟨own, wr⟩ 330 bq 4 (L.map Value.bool))) (fun i _ => 20 - (intOf i).toNat)
                  case atStart => exact ⟨0, own9, Nat.zero_le _, rfl, M9, F9, R9, B9⟩
                  case round =>
                    clear F9 R9 B9 M9
                    obtain ⟨q, own10, hq, rfl, M10, F10, R10, B10⟩ := hrel
                    obtain ⟨w10, rfl⟩ : ∃ w10 : World, w10 = wr := ⟨_, rfl⟩
                    have hw6 := EW.out.le
                    have HPC := Lib.hid (EW.out.pc q hq)
                    have hq20 : q < 20 := by omega
                    go_wp2_with fail
                    refine (find_done ⟨own10, w10⟩ 310 bf (st q) F10.out).mono ?_
                    rintro e wv ⟨rfl, rfl⟩
                    rw [HPC.out]
                    by_cases hqe : q = W
                    · rw [decide_eq_true hqe]
                      rw [decide_eq_true hqe] at HPC
                      subst hqe
                      generalize st q = S at *
                      clear EW
                      have HE10 := Lib.hid (show Ext wc w10 from ext_of_ne M10.out)
                      by_cases hin : 0 ≤ z ∧ z < mn
                      · have hd1 : decide (z < 0) = false := decide_eq_false (by omega)
                        have hd2 : decide (mn ≤ z) = false := decide_eq_false (by omega)
                        have HEE := Lib.hid (show S.e = 0 ∧ S.at_ = eachA got true z.toNat ∧ S.ref = eachR true refs' z.toNat ∧ S.steps ≤ (if true = true then 5 else 1 + Shp.placeF z) from by
                          have := EE.out
                          unfold EachEnd at this
                          rw [decide_eq_true hin, if_pos rfl] at this
                          exact this)
                        obtain ⟨zn, hzn⟩ : ∃ zn : Nat, z = zn := ⟨z.toNat, by omega⟩
                        have hzk : k = zn + 1 := by omega
                        subst hzk
                        obtain ⟨an, han⟩ : ∃ an : Nat, eachA got true zn = an := ⟨(eachA got true zn).toNat, by have := (HEO.out.inn zn (by omega)).1; omega⟩
                        have hanw : an < nw := by have := (HEO.out.inn zn (by omega)).2; have := HNW.out; omega
                        have HSE := Lib.hid HEE.out.1
                        have HSA := Lib.hid (show S.at_ = an from by rw [HEE.out.2.1, hzn, Int.toNat_natCast, han])
                        obtain ⟨rf, hrf⟩ : ∃ rf, eachR true refs' zn = rf := ⟨_, rfl⟩
                        have HSR := Lib.hid (show S.ref = rf from by rw [HEE.out.2.2.1, hzn, Int.toNat_natCast, hrf])
                        obtain ⟨sp, hsp⟩ : ∃ sp, S.steps = sp := ⟨_, rfl⟩
                        have HSS := Lib.hid hsp
                        have HSM := Lib.hid (show sp ≤ (if true = true then 5 else 1 + Shp.placeF zn) from by rw [← hsp, ← hzn]; exact HEE.out.2.2.2)
                        have hLan : L.getD an false = false := by
                          cases hL : L.getD an false with
                          | false => rfl
                          | true =>
                            obtain ⟨p, h1, h2, h3⟩ := HLI.out an hL
                            have := HEO.out.inj p zn h2 (by omega) (by rw [h3, han])
                            omega
                        have HLN2 := Lib.hid hLan
                        have HWD := Lib.hid (show mm.peek an = blankF rf from by rw [← han, ← hrf]; exact HEO.out.word zn (by omega))
                        have HRFv := Lib.hid hrf
                        have HAN := Lib.hid han
                        have hal : an < L.length := by rw [hLl]; exact hanw
                        have b0 := B10.out.cell (i := an) (v := .bool false) (by rw [List.getElem?_map, List.getElem?_eq_getElem hal, ← hLan, List.getD_eq_getElem?_getD, List.getElem?_eq_getElem hal]; rfl)
                        have bf0 := B10.out.live an
                        have bl := B10.out.lt
                        simp only at b0 bf0 bl
                        have HSB10 := Lib.hid ((HE10.out.heap _ hzc).trans HSB.out)
                        have s0 : w10.cell? ⟨w2.heap.size, 0, none⟩ = some (.bool true) := by simp only [World.cell?, HSB10.out]; rfl
                        have s1 : w10.cell? ⟨w2.heap.size, 1, none⟩ = some (.slice A' refs'.length cap') := by simp only [World.cell?, HSB10.out]; rfl
                        have sl : w2.heap.size < w10.heap.size := (Array.getElem?_eq_some_iff.1 HSB10.out).1
                        have hd3 : decide ((nw : Int) ≤ an) = false := decide_eq_false (by omega)
                        have hd4 : decide (nw ≤ an) = false := decide_eq_false (by omega)
                        have hd5 : decide ((an : Int) < 0) = false := decide_eq_false (by omega)
                        subst hzn
                        clear hsp hrf han hLan HEE EE
                        have HDN := Lib.hid (fun X => show Calls Try.prog 23 #[.pointer (some ⟨bf, 0, none⟩)] (w10.patch X) (Gives (.bool true) (w10.patch X)) from by
                          have h1 := find_done (GW.pt ⟨own10, w10⟩ X) 310 bf S (F10.out.keep (Mod.pt (Mod.refl (fun _ => False) _) X) id id)
                          rw [HPC.out] at h1
                          exact h1.mono fun e w' h => ⟨h.1, h.2 ▸ Ext.refl _⟩)
                        have HER := Lib.hid (fun X => show Calls Try.prog 30 #[.pointer (some ⟨bf, 0, none⟩)] (w10.patch X) (Gives (.int .i64 0) (w10.patch X)) from by
                          have h1 := find_errno (GW.pt ⟨own10, w10⟩ X) 310 bf S (F10.out.keep (Mod.pt (Mod.refl (fun _ => False) _) X) id id)
                          rw [HSE.out] at h1
                          exact h1.mono fun e w' h => ⟨h.1, h.2 ▸ Ext.refl _⟩)
                        have HSP := Lib.hid (fun X => show Calls Try.prog 25 #[.pointer (some ⟨bf, 0, none⟩)] (w10.patch X) (Gives (.int .i64 sp) (w10.patch X)) from by
                          have h1 := find_steps (GW.pt ⟨own10, w10⟩ X) 310 bf S (F10.out.keep (Mod.pt (Mod.refl (fun _ => False) _) X) id id)
                          rw [HSS.out] at h1
                          exact h1.mono fun e w' h => ⟨h.1, h.2 ▸ Ext.refl _⟩)
                        have HRF := Lib.hid (fun X => show Calls Try.prog 32 #[.pointer (some ⟨bf, 0, none⟩)] (w10.patch X) (Gives (.bool rf) (w10.patch X)) from by
                          have h1 := find_ref (GW.pt ⟨own10, w10⟩ X) 310 bf S (F10.out.keep (Mod.pt (Mod.refl (fun _ => False) _) X) id id)
                          rw [HSA.out, HSR.out, decide_eq_true (show 0 ≤ ((an : Nat) : Int) by omega), Bool.true_and] at h1
                          exact h1.mono fun e w' h => ⟨h.1, h.2 ▸ Ext.refl _⟩)
                        go_wp2_with fail
                        refine (find_at ⟨own10, w10⟩ 310 bf S F10.out).mono ?_
                        rintro e wv ⟨rfl, rfl⟩
                        rw [HSA.out]
                        go_wp2_with fail
                        as_aux_lemma =>
                          have hrl : 0 < refs'.length := by
                            have := HEO.out.refs
                            rw [if_pos rfl] at this
                            exact this
                          have hpfl : 1 + zn / 8 < got.length := by
                            have := HEO.out.frag zn (by omega)
                            rw [if_pos rfl] at this
                            exact this
                          have hgy := HEO.out.gotb (1 + zn / 8) hpfl
                          have hany : (an : Int) = got.getD (1 + zn / 8) 0 * 8 + (zn % 8 : Nat) := by
                            rw [← HAN.out]
                            unfold eachA
                            rw [if_pos rfl]
                          have hsp2 : sp ≤ 5 := by
                            have := HSM.out
                            simpa using this
                          have hrf2 : refs'.getD 0 false = rf := by
                            have := HRFv.out
                            unfold eachR at this
                            rw [if_pos rfl] at this
                            exact this
                          have HANY := Lib.hid hany
                          have HRF2 := Lib.hid hrf2
                          clear hany hrf2
                          obtain ⟨ba, oa, hAa, hba, hca⟩ := ((HOKC.out.ext HE10.out).refs).cases (by simp; omega)
                          have z2 := hca 0 (.bool rf) (by rw [← HRF2.out]; simp [List.getD_eq_getElem?_getD, hrl])
                          obtain ⟨bg2, og2, hAg, hg2, hcg⟩ := ints_at (HG.out.ext ((HW0.out.trans HEC.out).trans HE10.out)) hpfl
                          have z3 := hcg _ hpfl
                          simp only [Option.some.injEq, Addr.mk.injEq, and_true] at hAg
                          obtain ⟨rfl, rfl⟩ := hAg
                          simp only at hAa hba z2
                          rw [Nat.add_zero] at z2
                          subst hAa
                          generalize hy : got.getD (1 + zn / 8) 0 = y at *
                          have HYY := Lib.hid hy
                          clear hy
                          have hzb : zn ≤ 512 := by omega
                          have e1 := IntWalk.i64_in (1 + (zn : Int) / 8) (by omega)
                          have e5' : decide (5 < sp) = false := decide_eq_false (by omega)
                          have e6 : ((an : Int) / 8 != y) = false := by
                            have h1 : (an : Int) / 8 = y := by have := HANY.out; omega
                            rw [h1]; simp
                          obtain ⟨r8, hr8⟩ : ∃ r8 : Int, (zn : Int) % 8 = r8 := ⟨_, rfl⟩
                          have e7 : bits .and .i64 (zn : Int) 7 = r8 := by rw [i64_and7]; exact hr8
                          have e8 : bits .and .i64 (an : Int) 7 = r8 := by rw [i64_and7]; have := HANY.out; omega
                          clear hca hcg hgy hr8
                          cases rf
                          all_goals
                            as_aux_lemma =>
                              refine wp_region_mixed [true, true, true, true, true, true, true, true, true, true, true, true, true, true, true, true, true, true, true, true, true, true, true, true, true, true, true, true, true, true, true, true, true, true, true, true, true, true, true, true, true, true, true, true, true, true, true, true, true, true, true, true, true, true, true, true, true, true, true, true] 0 60 (by kernel_rfl) (by kernel_rfl) (by kernel_rfl) ?_ (by decide) (by decide) (by decide) (by kernel_rfl) ?_
                              · intro c a d v w h; cases d <;> exact h
                              intro X00
                              simp only [pickOps]
                              repeat (go_big_quiet_step (first | (go_at_call 23; exact Calls.added (HDN.out _)) | (go_at_call 30; exact Calls.added (HER.out _)) | (go_at_call 25; exact Calls.added (HSP.out _)) | (go_at_call 32; exact Calls.added (HRF.out _))))
                              refine wpQuiet_nil (fun X0 => ?_)
                              clear X00
                              refine wpAnyM_done (by kernel_rfl) (fun X0' => ?_) _
                              obtain ⟨Y2, hY2⟩ := (show Ext w10 ((w10.patch X0).patch X0') from Ext.trans ⟨X0, rfl⟩ ⟨X0', rfl⟩)
                              rw [hY2]
                              clear hY2
                              obtain ⟨own12, HF12⟩ : ∃ own12, Hid (Mod (fun x => x ≠ 0) ⟨fun _ => 0, wc⟩ ⟨own12, (w10.setCell ⟨bq, an, none⟩ (.bool true)).patch Y2⟩ ∧ MemAt ⟨own12, (w10.setCell ⟨bq, an, none⟩ (.bool true)).patch Y2⟩ 300 bm (mAt mm (((cnt + q : Nat) : Int) + j)) ∧
                                  FindAt ⟨own12, (w10.setCell ⟨bq, an, none⟩ (.bool true)).patch Y2⟩ 310 bf S ∧ Blk ⟨own12, (w10.setCell ⟨bq, an, none⟩ (.bool true)).patch Y2⟩ 330 bq 4 ((L.set an true).map Value.bool)) := by
                                have ms : Mod (fun x => x = 330) ⟨own10, w10⟩ ⟨own10, w10.setCell ⟨bq, an, none⟩ (.bool true)⟩ := Mod.st (g := ⟨own10, w10⟩) Mod.self B10.out.own
                                have mp : Mod (fun _ => False) ⟨own10, w10.setCell ⟨bq, an, none⟩ (.bool true)⟩ (GW.pt ⟨own10, w10.setCell ⟨bq, an, none⟩ (.bool true)⟩ Y2) := Mod.pt (Mod.refl _ _) Y2
                                refine ⟨_, Lib.hid ⟨M10.out.trans ((ms.mono (fun x hx => by omega)).trans (mp.mono (fun _ => False.elim))), (R10.out.keep ms (by decide)).keep mp id, (F10.out.keep ms (by decide) (by decide)).keep mp id id, ?_⟩⟩
                                rw [List.map_set]
                                exact (B10.out.set an (.bool true)).keep mp id
                              clear M10 R10 F10 B10 HSP HRF
                              go_wp2_with fail
                              refine (mem_peek ⟨own12, _⟩ 300 bm an _ HF12.out.2.1).mono ?_
                              rintro e wv ⟨rfl, rfl⟩
                              rw [show (mAt mm (((cnt + q : Nat) : Int) + j)).peek an = mm.peek an from rfl, HWD.out]
                              go_wp2_with fail
                              refine (find_ref ⟨own12, _⟩ 310 bf S HF12.out.2.2.1).mono ?_
                              rintro e wv ⟨rfl, rfl⟩
                              rw [HSA.out, HSR.out, decide_eq_true (show 0 ≤ ((an : Nat) : Int) by omega), Bool.true_and]
                              go_wp2_with fail
                              refine (blank13 _ _).mono ?_
                              rintro e w13 ⟨rfl, hE13⟩
                              obtain ⟨own13, HF13⟩ : ∃ own13, Hid (Mod (fun x => x ≠ 0) ⟨fun _ => 0, wc⟩ ⟨own13, w13⟩ ∧ MemAt ⟨own13, w13⟩ 300 bm (mAt mm (((cnt + q : Nat) : Int) + j)) ∧ Blk ⟨own13, w13⟩ 330 bq 4 ((L.set an true).map Value.bool)) := by
                                have m13 := Mod.ext (T := fun _ => False) (g := ⟨own12, (w10.setCell ⟨bq, an, none⟩ (.bool true)).patch Y2⟩) (show Ext _ w13 from hE13) 0
                                exact ⟨_, Lib.hid ⟨HF12.out.1.trans (m13.mono (fun _ => False.elim)), HF12.out.2.1.keep m13 id, HF12.out.2.2.2.keep m13 id⟩⟩
                              clear hE13 HF12
                              go_wp2_with fail
                              refine (word_same (blankF _) _).mono ?_
                              rintro e w14 ⟨rfl, hE14⟩
                              obtain ⟨own14, HF14⟩ : ∃ own14, Hid (Mod (fun x => x ≠ 0) ⟨fun _ => 0, wc⟩ ⟨own14, w14⟩ ∧ MemAt ⟨own14, w14⟩ 300 bm (mAt mm (((cnt + q : Nat) : Int) + j)) ∧ Blk ⟨own14, w14⟩ 330 bq 4 ((L.set an true).map Value.bool)) := by
                                have m14 := Mod.ext (T := fun _ => False) (g := ⟨own13, w13⟩) (show Ext w13 w14 from hE14) 0
                                exact ⟨_, Lib.hid ⟨HF13.out.1.trans (m14.mono (fun _ => False.elim)), HF13.out.2.1.keep m14 id, HF13.out.2.2.keep m14 id⟩⟩
                              clear hE14 HF13
                              go_wp2_with fail
                              go_roundw
                              case rel => exact ⟨zn + 2, cnt + q, own14, L.set an true, by omega, by omega, congrArg _ (by omega), by rw [List.length_set]; exact hLl, Lib.hid (fun x hx => by
                                by_cases hxa : x = an
                                · subst hxa
                                  exact ⟨zn, by omega, by omega, HAN.out⟩
                                · rw [List.getD_eq_getElem?_getD, List.getElem?_set_ne (fun h => hxa h.symm), ← List.getD_eq_getElem?_getD] at hx
                                  obtain ⟨p, h1, h2, h3⟩ := HLI.out x hx
                                  exact ⟨p, by omega, h2, h3⟩), Lib.hid HF14.out.1, Lib.hid HF14.out.2.1, Lib.hid HF14.out.2.2⟩
                              case measure => simp [intOf]; omega
                      · have hout : EachEnd (S) false (eachA got true z.toNat) (eachR true refs' z.toNat) (if true = true then 5 else 1 + Shp.placeF z) := by
                          have := EE.out
                          rw [decide_eq_false hin] at this
                          exact this
                        unfold EachEnd at hout
                        rw [if_neg (by decide)] at hout
                        have HSE := Lib.hid hout.1
                        have HSA := Lib.hid hout.2
                        clear hout EE
                        by_cases hz0 : z < 0
                        · have hd1 : decide (z < 0) = true := decide_eq_true hz0
                          as_aux_lemma =>
                            go_wp2_with fail
                            refine (find_errno ⟨own10, w10⟩ 310 bf S F10.out).mono ?_
                            rintro e wv ⟨rfl, rfl⟩
                            rw [HSE.out]
                            go_wp2_with fail
                            refine (find_at ⟨own10, w10⟩ 310 bf S F10.out).mono ?_
                            rintro e wv ⟨rfl, rfl⟩
                            rw [HSA.out]
                            go_wp2_with fail
                            go_roundw
                            case rel => exact ⟨k + 1, cnt + q, own10, L, by omega, by omega, congrArg _ (by omega), hLl, Lib.hid (fun x hx => by
                              obtain ⟨p, h1, h2, h3⟩ := HLI.out x hx
                              exact ⟨p, by omega, h2, h3⟩), M10, R10, B10⟩
                            case measure => simp [intOf]; omega
                        · have hd1 : decide (z < 0) = false := decide_eq_false hz0
                          have hd2 : decide (mn ≤ z) = true := decide_eq_true (by omega)
                          as_aux_lemma =>
                            go_wp2_with fail
                            refine (find_errno ⟨own10, w10⟩ 310 bf S F10.out).mono ?_
                            rintro e wv ⟨rfl, rfl⟩
                            rw [HSE.out]
                            go_wp2_with fail
                            refine (find_at ⟨own10, w10⟩ 310 bf S F10.out).mono ?_
                            rintro e wv ⟨rfl, rfl⟩
                            rw [HSA.out]
                            go_wp2_with fail
                            go_roundw
                            case rel => exact ⟨k + 1, cnt + q, own10, L, by omega, by omega, congrArg _ (by omega), hLl, Lib.hid (fun x hx => by
                              obtain ⟨p, h1, h2, h3⟩ := HLI.out x hx
                              exact ⟨p, by omega, h2, h3⟩), M10, R10, B10⟩
                            case measure => simp [intOf]; omega
                    · rw [decide_eq_false hqe]
                      obtain ⟨x, hst⟩ := EW.out.step q (by omega) (((cnt + q : Nat) : Int) + j) ⟨by omega, by have := HJ.out; omega⟩ ⟨own10, w10⟩ bf bm F10.out R10.out
                      have HST := Lib.hid hst
                      have hqs : q + 1 ≤ W := by omega
                      clear hst HPC hqe hw6
                      as_aux_lemma =>
                       go_wp2_with fail
                       refine HST.out.mono ?_
                       rintro e w11 ⟨rfl, own11, m11, f11, r11⟩
                       have M11 := Lib.hid (M10.out.trans (m11.mono (S := fun x => x ≠ 0) (fun x hx => by omega)))
                       have R11 := Lib.hid (show MemAt ⟨own11, w11⟩ 300 bm (mAt mm (((cnt + (q + 1) : Nat) : Int) + j)) from by
                         rw [show (((cnt + (q + 1) : Nat) : Int) + j) = ((cnt + q : Nat) : Int) + j + 1 by omega]
                         exact r11)
                       have F11 := Lib.hid f11
                       have B11 := Lib.hid (B10.out.keep m11 (by decide))
                       clear m11 f11 r11
                       go_wp2_with fail
                       go_roundw
                       case rel => exact ⟨q + 1, own11, hqs, by go_num, M11, F11, R11, B11⟩
                       case measure => simp [intOf]; omega
            · obtain rfl : z = mn + 1 := by omega
              have hdm : decide (mn + 1 ≤ mn) = false := decide_eq_false (by omega)
              go_wp2_with fail
              refine (H.out _).mono ?_
              rintro e w9 ⟨rfl, hE9⟩
              have HE9 := Lib.hid (show Ext w8 w9 from hE9)
              clear hE9
              go_wp2_with fail
              go_ret
              exact Gives.bool rfl ((HW0.out.trans (HEC.out.trans HE8.out)).trans HE9.out)
end Go.Proofs.Ytmgkfpmmlibmcaa
