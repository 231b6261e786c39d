/-
  spolaw12.PlanOnce.
-/
import Derived.Test.YteemflefaiphnaaOnceP
import Derived.Test.YteemflefaiphnaaSide6
import Derived.Test.YteemflefaiphnaaFirst12
namespace Go.Proofs.Yteemflefaiphnaa
open Go Go.RowKit
set_option linter.unusedVariables false
set_option linter.unusedSimpArgs false
/-- A block of this call's, in every later world. -/
theorem later_blk {w : World} (o : Obj) : ∀ w', Ext (w.alloc o) w' → w'.heap[w.heap.size]? = some o := fun w' he => (he.heap w.heap.size (by rw [World.size_alloc]; omega)).trans (World.row_alloc_new w)
set_option maxRecDepth 100000 in
set_option maxHeartbeats 4000000 in
theorem once_any (c : Cnf) (kind n : Int) (A : Option Addr) (cap : Nat) (got : List Int) (at_ : Int) (w : World) (hc : c.Ok w) (hg : CellsAt w A (got.map (Value.int .i64))) (hcap : got.length ≤ cap) (hcm : cap ≤ 9223372036854775807) (hw : ∀ x ∈ got, -9223372036854775808 ≤ x ∧ x ≤ 9223372036854775807)
    (hat : -9223372036854775808 ≤ at_ ∧ at_ ≤ 9223372036854775807) :
    Calls Try.prog 4 #[c.val, .int .i64 kind, .int .i64 n, .slice A got.length cap, .int .i64 at_] w (Gives (.bool true) w) := by
  have H := Lib.hid (fun w' => first12_any w')
  have HSH := Lib.hid (fun w' (he : Ext w w') => shape_any c kind w' (hc.ext he))
  have HFW := Lib.hid (fun w' (he : Ext w w') => few_any c w' (hc.ext he))
  have HCK := Lib.hid (fun w' (he : Ext w w') => check_any c w' (hc.ext he))
  have HAR := Lib.hid (fun (h : got.length ≤ 200) w' (he : Ext w w') => array_any c kind n at_ A cap got w' (hc.ext he) (hg.ext he) (by omega) hcap hcm hw hat.1 hat.2)
  have HOB := Lib.hid (fun (h : got.length ≤ 200) w' (he : Ext w w') => object_any c kind A cap got w' (hc.ext he) (hg.ext he) (by omega) hw)
  have HSD := Lib.hid (fun (h : got.length ≤ 200) w' (he : Ext w w') => rside_any A cap got w' (hg.ext he) (by omega) hw)
  have HG := Lib.hid hg
  have HAT := Lib.hid hat
  clear hc hg hw hat
  unfold Cnf.val at HSH HFW HCK HAR HOB ⊢
  go_enter Try.func4, Try.ntmps4
  go_wp2_with fail
  have HB := Lib.hid (later_blk (w := w) (.cells #[.int .i64 c.frags, .int .i64 c.spine, .int .i64 c.globals, .int .i64 c.threads, .int .i64 c.locals, .int .i64 c.cache, .int .i64 c.stack, .int .i64 c.low, .slice c.A c.shapes.length c.cap] 29))
  have HW0 := Lib.hid (show Ext w (w.alloc (.cells #[.int .i64 c.frags, .int .i64 c.spine, .int .i64 c.globals, .int .i64 c.threads, .int .i64 c.locals, .int .i64 c.cache, .int .i64 c.stack, .int .i64 c.low, .slice c.A c.shapes.length c.cap] 29)) by (repeat (first | (with_reducible assumption) | (with_reducible exact Ext.refl _) | (with_reducible exact Ext.more _ _ _ _) | (with_reducible apply Ext.alloc) | (with_reducible apply Ext.patch) | (with_reducible apply Ext.drew) | (with_reducible apply Ext.drewN) | (with_reducible refine Ext.setCell ?_ (by first | assumption | exact Nat.le_refl _ | exact Nat.le_add_right _ _) _))))
  refine (H.out _).mono ?_
  rintro e w1 ⟨rfl, hE⟩
  have HE1 := Lib.hid (show Ext (w.alloc (.cells #[.int .i64 c.frags, .int .i64 c.spine, .int .i64 c.globals, .int .i64 c.threads, .int .i64 c.locals, .int .i64 c.cache, .int .i64 c.stack, .int .i64 c.low, .slice c.A c.shapes.length c.cap] 29)) w1 from hE)
  clear hE
  have g0 : w1.cell? ⟨w.heap.size, 0, none⟩ = some (.int .i64 c.frags) := (by simp only [World.cell?, (HB.out _ HE1.out)]; rfl)
  have g1 : w1.cell? ⟨w.heap.size, 1, none⟩ = some (.int .i64 c.spine) := (by simp only [World.cell?, (HB.out _ HE1.out)]; rfl)
  have g2 : w1.cell? ⟨w.heap.size, 2, none⟩ = some (.int .i64 c.globals) := (by simp only [World.cell?, (HB.out _ HE1.out)]; rfl)
  have g3 : w1.cell? ⟨w.heap.size, 3, none⟩ = some (.int .i64 c.threads) := (by simp only [World.cell?, (HB.out _ HE1.out)]; rfl)
  have g4 : w1.cell? ⟨w.heap.size, 4, none⟩ = some (.int .i64 c.locals) := (by simp only [World.cell?, (HB.out _ HE1.out)]; rfl)
  have g5 : w1.cell? ⟨w.heap.size, 5, none⟩ = some (.int .i64 c.cache) := (by simp only [World.cell?, (HB.out _ HE1.out)]; rfl)
  have g6 : w1.cell? ⟨w.heap.size, 6, none⟩ = some (.int .i64 c.stack) := (by simp only [World.cell?, (HB.out _ HE1.out)]; rfl)
  have g7 : w1.cell? ⟨w.heap.size, 7, none⟩ = some (.int .i64 c.low) := (by simp only [World.cell?, (HB.out _ HE1.out)]; rfl)
  have g8 : w1.cell? ⟨w.heap.size, 8, none⟩ = some (.slice c.A c.shapes.length c.cap) := (by simp only [World.cell?, (HB.out _ HE1.out)]; rfl)
  have gl : w.heap.size < w1.heap.size := (Array.getElem?_eq_some_iff.1 (HB.out _ HE1.out)).1
  go_wp2_with fail
  refine (HFW.out _ (HW0.out.trans HE1.out)).mono ?_
  rintro e w2 ⟨rfl, hE⟩
  have HE2 := Lib.hid (HE1.out.trans (show Ext w1 w2 from hE))
  clear hE HE1 HFW
  clear g0 g1 g2 g3 g4 g5 g6 g7 g8 gl
  have g0 : w2.cell? ⟨w.heap.size, 0, none⟩ = some (.int .i64 c.frags) := (by simp only [World.cell?, (HB.out _ HE2.out)]; rfl)
  have g1 : w2.cell? ⟨w.heap.size, 1, none⟩ = some (.int .i64 c.spine) := (by simp only [World.cell?, (HB.out _ HE2.out)]; rfl)
  have g2 : w2.cell? ⟨w.heap.size, 2, none⟩ = some (.int .i64 c.globals) := (by simp only [World.cell?, (HB.out _ HE2.out)]; rfl)
  have g3 : w2.cell? ⟨w.heap.size, 3, none⟩ = some (.int .i64 c.threads) := (by simp only [World.cell?, (HB.out _ HE2.out)]; rfl)
  have g4 : w2.cell? ⟨w.heap.size, 4, none⟩ = some (.int .i64 c.locals) := (by simp only [World.cell?, (HB.out _ HE2.out)]; rfl)
  have g5 : w2.cell? ⟨w.heap.size, 5, none⟩ = some (.int .i64 c.cache) := (by simp only [World.cell?, (HB.out _ HE2.out)]; rfl)
  have g6 : w2.cell? ⟨w.heap.size, 6, none⟩ = some (.int .i64 c.stack) := (by simp only [World.cell?, (HB.out _ HE2.out)]; rfl)
  have g7 : w2.cell? ⟨w.heap.size, 7, none⟩ = some (.int .i64 c.low) := (by simp only [World.cell?, (HB.out _ HE2.out)]; rfl)
  have g8 : w2.cell? ⟨w.heap.size, 8, none⟩ = some (.slice c.A c.shapes.length c.cap) := (by simp only [World.cell?, (HB.out _ HE2.out)]; rfl)
  have gl : w.heap.size < w2.heap.size := (Array.getElem?_eq_some_iff.1 (HB.out _ HE2.out)).1
  cases Few c
  · go_wp2_with fail
    refine (H.out _).mono ?_
    rintro e w9 ⟨rfl, hE9⟩
    have HE9 := Lib.hid (HE2.out.trans (show Ext w2 w9 from hE9))
    clear hE9
    go_wp2_with fail
    go_ret
    exact Gives.bool rfl (HW0.out.trans HE9.out)
  go_wp2_with fail
  refine (HCK.out _ (HW0.out.trans HE2.out)).mono ?_
  rintro e w3 ⟨rfl, hE⟩
  have HE3 := Lib.hid (HE2.out.trans (show Ext w2 w3 from hE))
  clear hE HE2 HCK
  clear g0 g1 g2 g3 g4 g5 g6 g7 g8 gl
  have g0 : w3.cell? ⟨w.heap.size, 0, none⟩ = some (.int .i64 c.frags) := (by simp only [World.cell?, (HB.out _ HE3.out)]; rfl)
  have g1 : w3.cell? ⟨w.heap.size, 1, none⟩ = some (.int .i64 c.spine) := (by simp only [World.cell?, (HB.out _ HE3.out)]; rfl)
  have g2 : w3.cell? ⟨w.heap.size, 2, none⟩ = some (.int .i64 c.globals) := (by simp only [World.cell?, (HB.out _ HE3.out)]; rfl)
  have g3 : w3.cell? ⟨w.heap.size, 3, none⟩ = some (.int .i64 c.threads) := (by simp only [World.cell?, (HB.out _ HE3.out)]; rfl)
  have g4 : w3.cell? ⟨w.heap.size, 4, none⟩ = some (.int .i64 c.locals) := (by simp only [World.cell?, (HB.out _ HE3.out)]; rfl)
  have g5 : w3.cell? ⟨w.heap.size, 5, none⟩ = some (.int .i64 c.cache) := (by simp only [World.cell?, (HB.out _ HE3.out)]; rfl)
  have g6 : w3.cell? ⟨w.heap.size, 6, none⟩ = some (.int .i64 c.stack) := (by simp only [World.cell?, (HB.out _ HE3.out)]; rfl)
  have g7 : w3.cell? ⟨w.heap.size, 7, none⟩ = some (.int .i64 c.low) := (by simp only [World.cell?, (HB.out _ HE3.out)]; rfl)
  have g8 : w3.cell? ⟨w.heap.size, 8, none⟩ = some (.slice c.A c.shapes.length c.cap) := (by simp only [World.cell?, (HB.out _ HE3.out)]; rfl)
  have gl : w.heap.size < w3.heap.size := (Array.getElem?_eq_some_iff.1 (HB.out _ HE3.out)).1
  by_cases hck : c.check = 0
  case neg =>
    generalize c.check = ck at *
    have hckb : (ck != 0) = true := by simp [hck]
    go_wp2_with fail
    refine (H.out _).mono ?_
    rintro e w9 ⟨rfl, hE9⟩
    have HE9 := Lib.hid (HE3.out.trans (show Ext w3 w9 from hE9))
    clear hE9
    go_wp2_with fail
    go_ret
    exact Gives.bool rfl (HW0.out.trans HE9.out)
  rw [hck]
  clear hck
  by_cases hl : 200 < got.length
  · have hl' : decide ((200 : Int) < got.length) = true := decide_eq_true (by omega)
    go_wp2_with fail
    refine (H.out _).mono ?_
    rintro e w9 ⟨rfl, hE9⟩
    have HE9 := Lib.hid (HE3.out.trans (show Ext w3 w9 from hE9))
    clear hE9
    go_wp2_with fail
    go_ret
    exact Gives.bool rfl (HW0.out.trans HE9.out)
  have hl' : decide ((200 : Int) < got.length) = false := decide_eq_false (by omega)
  go_wp2_with fail
  refine (HSH.out _ (HW0.out.trans HE3.out)).mono ?_
  rintro e w4 ⟨s', rfl, hs, hfr, hok, hE⟩
  have HE4 := Lib.hid (HE3.out.trans (show Ext w3 w4 from hE))
  have HS := Lib.hid hs
  have HOK := Lib.hid hok
  clear hE hfr hs hok HE3 HSH
  clear g0 g1 g2 g3 g4 g5 g6 g7 g8 gl
  generalize hI : (c.shapeAt kind).isSome = is
  have HI := Lib.hid hI
  clear hI
  obtain ⟨arr', A', cap', refs'⟩ := s'
  unfold Shp.val
  have g0 : w4.cell? ⟨w.heap.size, 0, none⟩ = some (.int .i64 c.frags) := (by simp only [World.cell?, (HB.out _ HE4.out)]; rfl)
  have g1 : w4.cell? ⟨w.heap.size, 1, none⟩ = some (.int .i64 c.spine) := (by simp only [World.cell?, (HB.out _ HE4.out)]; rfl)
  have g2 : w4.cell? ⟨w.heap.size, 2, none⟩ = some (.int .i64 c.globals) := (by simp only [World.cell?, (HB.out _ HE4.out)]; rfl)
  have g3 : w4.cell? ⟨w.heap.size, 3, none⟩ = some (.int .i64 c.threads) := (by simp only [World.cell?, (HB.out _ HE4.out)]; rfl)
  have g4 : w4.cell? ⟨w.heap.size, 4, none⟩ = some (.int .i64 c.locals) := (by simp only [World.cell?, (HB.out _ HE4.out)]; rfl)
  have g5 : w4.cell? ⟨w.heap.size, 5, none⟩ = some (.int .i64 c.cache) := (by simp only [World.cell?, (HB.out _ HE4.out)]; rfl)
  have g6 : w4.cell? ⟨w.heap.size, 6, none⟩ = some (.int .i64 c.stack) := (by simp only [World.cell?, (HB.out _ HE4.out)]; rfl)
  have g7 : w4.cell? ⟨w.heap.size, 7, none⟩ = some (.int .i64 c.low) := (by simp only [World.cell?, (HB.out _ HE4.out)]; rfl)
  have g8 : w4.cell? ⟨w.heap.size, 8, none⟩ = some (.slice c.A c.shapes.length c.cap) := (by simp only [World.cell?, (HB.out _ HE4.out)]; rfl)
  have gl : w.heap.size < w4.heap.size := (Array.getElem?_eq_some_iff.1 (HB.out _ HE4.out)).1
  have HBS := Lib.hid (later_blk (w := w4) (.cells #[.bool arr', .slice A' refs'.length cap'] 26))
  have hz4 : w4.heap.size < (w4.alloc (.cells #[.bool arr', .slice A' refs'.length cap'] 26)).heap.size := by rw [World.size_alloc]; omega
  go_wp2_with fail
  refine (HOB.out (by omega) _ (HW0.out.trans (HE4.out.alloc _))).mono ?_
  rintro e w5 ⟨s5, l, nl, rfl, hs5, hown, hE⟩
  have HX5 := Lib.hid (show Ext (w4.alloc (.cells #[.bool arr', .slice A' refs'.length cap'] 26)) w5 from hE)
  have HE5 := Lib.hid ((HE4.out.alloc _).trans HX5.out)
  clear hE HOB hz4
  clear g0 g1 g2 g3 g4 g5 g6 g7 g8 gl
  rw [HI.out] at hown
  rw [HI.out]
  obtain ⟨Al, cl, rfl⟩ := own_form hown
  have m0 : w5.cell? ⟨w4.heap.size, 0, none⟩ = some (.bool arr') := by simp only [World.cell?, HBS.out _ HX5.out]; rfl
  have m1 : w5.cell? ⟨w4.heap.size, 1, none⟩ = some (.slice A' refs'.length cap') := by simp only [World.cell?, HBS.out _ HX5.out]; rfl
  have hz5 : w4.heap.size < w5.heap.size := (Array.getElem?_eq_some_iff.1 (HBS.out _ HX5.out)).1
  have HONE := Lib.hid (fun (hno : (is && arr') = false) => show OnceGot got at_ (onceWords ⟨arr', A', cap', refs'⟩ n got) w5 (.slice Al nl cl) (.int .i64 (wrongE c is s5 0 false got)) w5 from ?h1)
  case h1 =>
    by_cases hz : wrongE c is s5 0 false got = 0
    · rw [if_pos hz] at hown
      have hn := hown.1
      rw [objWrites_length] at hn
      have he : s5.arr = arr' ∧ s5.refs = refs' := by
        have := hs5.trans HS.out.symm
        simpa using this
      have hwd : onceWords ⟨arr', A', cap', refs'⟩ n got = onceWords s5 n got := by
        unfold onceWords Shp.spine Shp.may
        rw [he.1, he.2]
      obtain ⟨o1, o2⟩ := once_object (kind := kind) (at_ := at_) (n := n) hz
      obtain rfl : nl = 8 * got.length := by omega
      refine ⟨Al, _, cl, _, rfl, by rw [hz], Ext.refl _, by simp, fun _ => ⟨by rw [hwd]; exact o1, _, cellsAt_of_own hown, by rw [objWrites_length]; omega, o2⟩⟩
    · rw [if_neg hz] at hown
      have hn := hown.1
      refine ⟨Al, nl, cl, _, rfl, rfl, Ext.refl _, fun _ => by simp at hn; omega, fun h => absurd h hz⟩
  clear hown hs5
  generalize wrongE c is s5 0 false got = e5 at *
  go_upto_region 7 with fail
  go_cut [53] (fun v wx => v = .bool (is && arr') ∧ w5 = wx)
  case first =>
    cases is
    · go_wp2_with fail
      go_meet
      exact ⟨rfl, rfl⟩
    · cases arr'
      · go_wp2_with fail
        go_meet
        exact ⟨rfl, rfl⟩
      · go_wp2_with fail
        go_meet
        exact ⟨rfl, rfl⟩
  obtain ⟨rfl, rfl⟩ := hcut
  go_upto_if 53 with fail
  go_cut [13, 14] (fun l e wx => OnceGot got at_ (onceWords ⟨arr', A', cap', refs'⟩ n got) w5 l e wx)
  case first =>
    cases is
    · have HD := Lib.hid (HONE.out rfl)
      rw [show (false && arr') = false from rfl]
      clear HONE
      go_wp2_with fail
      go_meet
      exact HD.out
    · cases arr'
      · have HD := Lib.hid (HONE.out rfl)
        rw [show (true && false) = false from rfl]
        clear HONE
        go_wp2_with fail
        go_meet
        exact HD.out
      · clear HONE
        rw [show (true && true) = true from rfl]
        have g0 : w5.cell? ⟨w.heap.size, 0, none⟩ = some (.int .i64 c.frags) := (by simp only [World.cell?, (HB.out _ HE5.out)]; rfl)
        have g1 : w5.cell? ⟨w.heap.size, 1, none⟩ = some (.int .i64 c.spine) := (by simp only [World.cell?, (HB.out _ HE5.out)]; rfl)
        have g2 : w5.cell? ⟨w.heap.size, 2, none⟩ = some (.int .i64 c.globals) := (by simp only [World.cell?, (HB.out _ HE5.out)]; rfl)
        have g3 : w5.cell? ⟨w.heap.size, 3, none⟩ = some (.int .i64 c.threads) := (by simp only [World.cell?, (HB.out _ HE5.out)]; rfl)
        have g4 : w5.cell? ⟨w.heap.size, 4, none⟩ = some (.int .i64 c.locals) := (by simp only [World.cell?, (HB.out _ HE5.out)]; rfl)
        have g5 : w5.cell? ⟨w.heap.size, 5, none⟩ = some (.int .i64 c.cache) := (by simp only [World.cell?, (HB.out _ HE5.out)]; rfl)
        have g6 : w5.cell? ⟨w.heap.size, 6, none⟩ = some (.int .i64 c.stack) := (by simp only [World.cell?, (HB.out _ HE5.out)]; rfl)
        have g7 : w5.cell? ⟨w.heap.size, 7, none⟩ = some (.int .i64 c.low) := (by simp only [World.cell?, (HB.out _ HE5.out)]; rfl)
        have g8 : w5.cell? ⟨w.heap.size, 8, none⟩ = some (.slice c.A c.shapes.length c.cap) := (by simp only [World.cell?, (HB.out _ HE5.out)]; rfl)
        have gl : w.heap.size < w5.heap.size := (Array.getElem?_eq_some_iff.1 (HB.out _ HE5.out)).1
        go_wp2_with fail
        refine (HAR.out (by omega) _ (HW0.out.trans HE5.out)).mono ?_
        rintro e w6 ⟨s6, l, nl, rfl, hs6, hown, hE⟩
        obtain ⟨Al, cl, rfl⟩ := own_form hown
        rw [HI.out] at hown ⊢
        have HD := Lib.hid (show OnceGot got at_ (onceWords ⟨true, A', cap', refs'⟩ n got) w5 (.slice Al nl cl) (.int .i64 (arrE c true s6 n got at_)) w6 from ?h2)
        case h2 =>
          by_cases hz : arrE c true s6 n got at_ = 0
          · rw [if_pos hz] at hown
            have hn := hown.1
            have he : s6.arr = true ∧ s6.refs = refs' := by
              have := hs6.trans HS.out.symm
              simpa using this
            have hwd : onceWords ⟨true, A', cap', refs'⟩ n got = onceWords s6 n got := by
              unfold onceWords Shp.spine Shp.may
              rw [he.1, he.2]
            have h1 := (arr_size (arrE_fine hz).1).2.1
            have hd := sData_bd n
            have hal := arrWrites_length s6 kind n at_ got (by omega)
            rw [hal] at hn
            obtain ⟨o1, o2⟩ := once_array (kind := kind) hz
            obtain rfl : nl = arrLen n got := by omega
            refine ⟨Al, _, cl, _, rfl, by rw [hz], hE, by simp, fun _ => ⟨by rw [hwd]; exact o1, _, cellsAt_of_own hown, hal, o2⟩⟩
          · rw [if_neg hz] at hown
            have hn := hown.1
            refine ⟨Al, nl, cl, _, rfl, rfl, hE, fun _ => by simp at hn; omega, fun h => absurd h hz⟩
        clear hown hs6 hE
        generalize arrE c true s6 n got at_ = e6 at *
        go_wp2_with fail
        go_meet
        exact HD.out
  case rest =>
    obtain ⟨Ax, m, cx_, ev, rfl, rfl, hX, h0, h1⟩ := hcut
    have HXC := Lib.hid hX
    have HEC := Lib.hid (HE5.out.trans hX)
    clear hX
    by_cases hev : ev = 0
    case neg =>
      obtain rfl : m = 0 := h0 hev
      have hevb : (ev != 0) = true := by simp [hev]
      clear h0 h1 HONE HAR HSD HBS
      go_wp2_with fail
      refine (H.out _).mono ?_
      rintro e w9 ⟨rfl, hE9⟩
      have HE9 := Lib.hid (HEC.out.trans (show Ext wc w9 from hE9))
      clear hE9
      go_wp2_with fail
      go_ret
      exact Gives.bool rfl (HW0.out.trans HE9.out)
    subst hev
    obtain ⟨hO, xs, hcx, hxl, hx⟩ := h1 rfl
    have HO := Lib.hid hO
    have HXS := Lib.hid (And.intro hcx (And.intro hxl hx))
    have hwd := hO.words
    have hml := hO.len
    clear h0 h1 hO hcx hxl hx HONE HAR
    have m0' : wc.cell? ⟨w4.heap.size, 0, none⟩ = some (.bool arr') := (HXC.out.cell hz5).trans m0
    have m1' : wc.cell? ⟨w4.heap.size, 1, none⟩ = some (.slice A' refs'.length cap') := (HXC.out.cell hz5).trans m1
    have hzc : w4.heap.size < wc.heap.size := Nat.lt_of_lt_of_le hz5 HXC.out.size
    clear m0 m1 hz5
    have HX4 := Lib.hid (show Ext w4 wc from ((Ext.refl w4).alloc _).trans (HX5.out.trans HXC.out))
    have HSPN := Lib.hid (fun w' (he : Ext w4 w') => sspine_any ⟨arr', A', cap', refs'⟩ n w' (HOK.out.ext he))
    unfold Shp.val at HSPN
    simp only at HSPN
    have HWE := Lib.hid (show onceWords ⟨arr', A', cap', refs'⟩ n got = if (arr' && decide (0 < Shp.spine ⟨arr', A', cap', refs'⟩ n) && !isSide got) = true then Shp.spine ⟨arr', A', cap', refs'⟩ n else 0 from rfl)
    generalize onceWords ⟨arr', A', cap', refs'⟩ n got = W at *
    generalize Shp.spine ⟨arr', A', cap', refs'⟩ n = sp at *
    generalize isSide got = sd at *
    obtain ⟨wb, rfl⟩ : ∃ wb : World, wb = wc := ⟨_, rfl⟩
    have HML := Lib.hid hml
    have hmlb : ((m : Int) != 8 * (got.length : Int) + W) = false := by simp; omega
    have hf0 := IntWalk.i64_in (8 * (got.length : Int)) (by omega)
    have hf1 := IntWalk.i64_in (8 * (got.length : Int) + W) (by omega)
    have hm31 : m ≤ 100000 := by omega
    obtain ⟨hW0, hW1, hW2⟩ := hwd
    have HW2 := Lib.hid hW2
    clear hml hW2 HBS HS HI
    go_upto_region 12 with fail
    go_cut [83] (fun v wx => v = .bool (arr' && decide (0 < sp) && !sd) ∧ Ext wb wx)
    case first =>
      cases arr'
      · go_wp2_with fail
        go_meet
        exact ⟨by simp, Ext.refl _⟩
      · go_wp2_with fail
        refine (HSPN.out _ HX4.out).mono ?_
        rintro e w6 ⟨rfl, hE⟩
        have HE6 := Lib.hid (show Ext wb w6 from hE)
        clear hE
        by_cases hs0 : 0 < sp
        · have hs0b : decide (0 < sp) = true := decide_eq_true hs0
          go_wp2_with fail
          refine (HSD.out (by omega) _ (HW0.out.trans (HEC.out.trans HE6.out))).mono ?_
          rintro e w7 ⟨rfl, hE⟩
          have HE7 := Lib.hid (HE6.out.trans (show Ext w6 w7 from hE))
          clear hE
          go_wp2_with fail
          go_meet
          exact ⟨by simp [hs0], HE7.out⟩
        · have hs0b : decide (0 < sp) = false := decide_eq_false hs0
          go_wp2_with fail
          go_meet
          exact ⟨by rw [hs0b]; rfl, HE6.out⟩
    case rest =>
      obtain ⟨rfl, hX⟩ := hcut
      have HX6 := Lib.hid hX
      clear hX
      generalize (arr' && decide (0 < sp) && !sd) = bad at *
      have n0 : wc.cell? ⟨w4.heap.size, 0, none⟩ = some (.bool arr') := (HX6.out.cell hzc).trans m0'
      have n1 : wc.cell? ⟨w4.heap.size, 1, none⟩ = some (.slice A' refs'.length cap') := (HX6.out.cell hzc).trans m1'
      have hzd : w4.heap.size < wc.heap.size := Nat.lt_of_lt_of_le hzc HX6.out.size
      obtain ⟨wa, rfl⟩ : ∃ wa : World, wa = wc := ⟨_, rfl⟩
      clear m0' m1'
      go_upto_if 83 with fail
      go_cut [15] (fun v wx => v = .int .i64 W ∧ Ext wa wx)
      case first =>
        cases bad
        · have hw0 : W = 0 := HWE.out
          go_wp2_with fail
          go_meet
          exact ⟨by rw [hw0], Ext.refl _⟩
        · have hw0 := Lib.hid (show W = sp from HWE.out)
          go_wp2_with fail
          refine (HSPN.out _ (HX4.out.trans HX6.out)).mono ?_
          rintro e w6 ⟨rfl, hE⟩
          have HE6 := Lib.hid (show Ext wa w6 from hE)
          clear hE
          go_wp2_with fail
          go_meet
          exact ⟨by rw [hw0.out], HE6.out⟩
      case rest =>
        obtain ⟨rfl, hX⟩ := hcut
        have HX7 := Lib.hid (HX6.out.trans hX)
        clear hX n0 n1 hzd hzc
        obtain ⟨wd, rfl⟩ : ∃ wd : World, wd = wc := ⟨_, rfl⟩
        go_wp2_with fail
        go_loopw [16] (fun i wx => ∃ k : Nat, k ≤ m ∧ i = .int .i64 k ∧ Hid (Ext wb wx)) (fun i _ => m - (intOf i).toNat)
        case atStart => exact ⟨0, Nat.zero_le _, rfl, HX7⟩
        case round =>
          obtain ⟨k, hk, rfl, HE⟩ := hrel
          obtain ⟨wx, rfl⟩ : ∃ wx : World, wx = wr := ⟨_, rfl⟩
          by_cases hlt : k < m
          · obtain ⟨bl, ol, hAx, hbl, hcl⟩ := (HXS.out.1.ext HE.out).cases (by have := HXS.out.2.1; omega)
            have l0 := hcl _ _ (HXS.out.2.2 k hlt)
            obtain ⟨hb0, hb1⟩ := HO.out.bd k hlt
            have HIN := Lib.hid (anyTo_all HO.out hlt)
            have HDI := Lib.hid (fun j (hj : j < k) => And.intro (hcl _ _ (HXS.out.2.2 j (by omega))) (HO.out.diff k hlt j hj))
            subst hAx
            clear hcl
            generalize onceAt got at_ k = x at *
            obtain ⟨ha0, ha1⟩ := HAT.out
            have hf2 : IntKind.i64.wrap (at_ + W) = at_ + W := by
              by_cases hp : 0 < W
              · have := HW2.out hp
                exact IntWalk.i64_in _ (by omega)
              · exact IntWalk.i64_in _ (by omega)
            have hx8 : x / 8 = x / 8 := rfl
            clear hx8
            go_upto_region 19 with fail
            go_cut [17] (fun v wy => v = .bool (decide (at_ ≤ x) && decide (x < at_ + W)) ∧ wx = wy)
            case first =>
              by_cases hA : at_ ≤ x
              · by_cases hB : x < at_ + W
                · have d1 : decide (at_ ≤ x) = true := decide_eq_true hA
                  have d2 : decide (x < at_ + W) = true := decide_eq_true hB
                  go_wp2_with fail
                  go_meet
                  exact ⟨by rw [d1, d2]; rfl, rfl⟩
                · have d1 : decide (at_ ≤ x) = true := decide_eq_true hA
                  have d2 : decide (x < at_ + W) = false := decide_eq_false hB
                  go_wp2_with fail
                  go_meet
                  exact ⟨by rw [d1, d2]; rfl, rfl⟩
              · have d1 : decide (at_ ≤ x) = false := decide_eq_false hA
                go_wp2_with fail
                go_meet
                exact ⟨by rw [d1]; rfl, rfl⟩
            case rest =>
              obtain ⟨rfl, rfl⟩ := hcut
              generalize (decide (at_ ≤ x) && decide (x < at_ + W)) = b0 at *
              go_wp2_with fail
              go_loopw [17, 18] (fun v i wy => ∃ j : Nat, j ≤ got.length ∧ i = .int .i64 j ∧ v = .bool (anyTo got b0 (x / 8) j) ∧ Hid (Ext wx wy)) (fun _ i _ => got.length - (intOf i).toNat)
              case atStart => exact ⟨0, Nat.zero_le _, rfl, by rw [anyTo_zero], Lib.hid (Ext.refl _)⟩
              case round =>
                obtain ⟨j, hj, rfl, rfl, HY⟩ := hrel
                obtain ⟨wy, rfl⟩ : ∃ wy : World, wy = wr := ⟨_, rfl⟩
                have l1 := (HY.out.cell hbl).trans l0
                have hbl1 := Nat.lt_of_lt_of_le hbl HY.out.size
                by_cases hjl : j < got.length
                · have HT := Lib.hid (anyTo_succ got b0 (x / 8) j)
                  generalize anyTo got b0 (x / 8) j = va at *
                  obtain ⟨bq, oq, hAq, hq, hcq⟩ := ints_at (HG.out.ext (HW0.out.trans (HEC.out.trans (HE.out.trans HY.out)))) hjl
                  have z0 := hcq j hjl
                  generalize got.getD j 0 = y at *
                  subst hAq
                  clear hcq
                  cases va
                  · cases hxy : (x / 8 == y)
                    · have HT2 := Lib.hid (show anyTo got b0 (x / 8) (j + 1) = false by rw [HT.out, decide_eq_false (beq_eq_false_iff_ne.1 hxy)]; rfl)
                      go_wp2_with fail
                      refine wp_region_mixed [true, true, true, true, true, true, true, true, true, true, true, true, true, true, true] 0 15 (by kernel_rfl) (by kernel_rfl) (by kernel_rfl) ?_ (by decide) (by decide) (by decide) (by kernel_rfl) ?_
                      · intro c a d v w h; cases d <;> exact h
                      intro X00
                      simp only [pickOps]
                      repeat (go_big_quiet_step (fail))
                      refine wpQuiet_nil (fun X0 => ?_)
                      clear X00
                      refine wpAnyM_done (by kernel_rfl) (fun X0' => ?_) _
                      go_wp2_with fail
                      go_roundw
                      case rel => exact ⟨j + 1, by omega, by go_num, by rw [HT2.out], Lib.hid (HY.out.trans (by (repeat (first | (with_reducible assumption) | (with_reducible exact Ext.refl _) | (with_reducible exact Ext.more _ _ _ _) | apply Ext.alloc | refine Ext.setCell ?_ (by first | exact Nat.le_refl _ | exact Nat.le_add_right _ _ | assumption) _ | apply Ext.patch | apply Ext.drew | apply Ext.drewN))))⟩
                      case measure => simp [intOf]; omega
                    · have HT2 := Lib.hid (show anyTo got b0 (x / 8) (j + 1) = true by rw [HT.out, decide_eq_true (beq_iff_eq.1 hxy)]; rfl)
                      go_wp2_with fail
                      refine wp_region_mixed [true, true, true, true, true, true, true, true, true, true, true, true, true, true, true] 0 15 (by kernel_rfl) (by kernel_rfl) (by kernel_rfl) ?_ (by decide) (by decide) (by decide) (by kernel_rfl) ?_
                      · intro c a d v w h; cases d <;> exact h
                      intro X00
                      simp only [pickOps]
                      repeat (go_big_quiet_step (fail))
                      refine wpQuiet_nil (fun X0 => ?_)
                      clear X00
                      refine wpAnyM_done (by kernel_rfl) (fun X0' => ?_) _
                      go_wp2_with fail
                      go_roundw
                      case rel => exact ⟨j + 1, by omega, by go_num, by rw [HT2.out], Lib.hid (HY.out.trans (by (repeat (first | (with_reducible assumption) | (with_reducible exact Ext.refl _) | (with_reducible exact Ext.more _ _ _ _) | apply Ext.alloc | refine Ext.setCell ?_ (by first | exact Nat.le_refl _ | exact Nat.le_add_right _ _ | assumption) _ | apply Ext.patch | apply Ext.drew | apply Ext.drewN))))⟩
                      case measure => simp [intOf]; omega
                  · have HT2 := Lib.hid (show anyTo got b0 (x / 8) (j + 1) = true by rw [HT.out]; rfl)
                    go_wp2_with fail
                    refine wp_region_mixed [true, true, true, true, true, true, true, true, true, true, true, true, true, true, true] 0 15 (by kernel_rfl) (by kernel_rfl) (by kernel_rfl) ?_ (by decide) (by decide) (by decide) (by kernel_rfl) ?_
                    · intro c a d v w h; cases d <;> exact h
                    intro X00
                    simp only [pickOps]
                    repeat (go_big_quiet_step (fail))
                    refine wpQuiet_nil (fun X0 => ?_)
                    clear X00
                    refine wpAnyM_done (by kernel_rfl) (fun X0' => ?_) _
                    go_wp2_with fail
                    go_roundw
                    case rel => exact ⟨j + 1, by omega, by go_num, by rw [HT2.out], Lib.hid (HY.out.trans (by (repeat (first | (with_reducible assumption) | (with_reducible exact Ext.refl _) | (with_reducible exact Ext.more _ _ _ _) | apply Ext.alloc | refine Ext.setCell ?_ (by first | exact Nat.le_refl _ | exact Nat.le_add_right _ _ | assumption) _ | apply Ext.patch | apply Ext.drew | apply Ext.drewN))))⟩
                    case measure => simp [intOf]; omega
                · obtain rfl : j = got.length := by omega
                  rw [HIN.out]
                  have hx0 : decide (x < 0) = false := decide_eq_false (by omega)
                  go_wp2_with fail
                  go_loopw [19] (fun i wz => ∃ j : Nat, j ≤ k ∧ i = .int .i64 j ∧ Hid (Ext wx wz)) (fun i _ => k - (intOf i).toNat)
                  case atStart => exact ⟨0, Nat.zero_le _, rfl, HY⟩
                  case round =>
                    obtain ⟨j, hj2, rfl, HZ⟩ := hrel
                    obtain ⟨wz, rfl⟩ : ∃ wz : World, wz = wr := ⟨_, rfl⟩
                    by_cases hjk : j < k
                    · obtain ⟨e0, e1⟩ := HDI.out j hjk
                      have l3 := (HZ.out.cell hbl).trans l0
                      have l4 := (HZ.out.cell hbl).trans e0
                      have hbl3 := Nat.lt_of_lt_of_le hbl HZ.out.size
                      generalize onceAt got at_ j = y at *
                      have hyx : (y == x) = false := beq_eq_false_iff_ne.2 e1
                      clear e0 e1 l1
                      go_wp2_with fail
                      refine wp_region_mixed [true, true, true, true, true, true, true, true, true, true, true] 0 11 (by kernel_rfl) (by kernel_rfl) (by kernel_rfl) ?_ (by decide) (by decide) (by decide) (by kernel_rfl) ?_
                      · intro c a d v w h; cases d <;> exact h
                      intro X00
                      simp only [pickOps]
                      repeat (go_big_quiet_step (fail))
                      refine wpQuiet_nil (fun X0 => ?_)
                      clear X00
                      refine wpAnyM_done (by kernel_rfl) (fun X0' => ?_) _
                      go_wp2_with fail
                      go_roundw
                      case rel => exact ⟨j + 1, by omega, by go_num, Lib.hid (HZ.out.trans (by (repeat (first | (with_reducible assumption) | (with_reducible exact Ext.refl _) | (with_reducible exact Ext.more _ _ _ _) | apply Ext.alloc | refine Ext.setCell ?_ (by first | exact Nat.le_refl _ | exact Nat.le_add_right _ _ | assumption) _ | apply Ext.patch | apply Ext.drew | apply Ext.drewN))))⟩
                      case measure => simp [intOf]; omega
                    · obtain rfl : j = k := by omega
                      go_wp2_with fail
                      go_roundw
                      case rel => exact ⟨j + 1, by omega, by go_num, Lib.hid (HE.out.trans HZ.out)⟩
                      case measure => simp [intOf]; omega
          · obtain rfl : k = m := by omega
            go_wp2_with fail
            refine (H.out _).mono ?_
            rintro e w9 ⟨rfl, hE9⟩
            have HE9 := Lib.hid (HEC.out.trans (HE.out.trans (show Ext wx w9 from hE9)))
            clear hE9
            go_wp2_with fail
            go_ret
            exact Gives.bool rfl (HW0.out.trans HE9.out)
end Go.Proofs.Yteemflefaiphnaa
