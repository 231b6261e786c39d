/-
  spolaw13.FindKinds.
-/
import Derived.Test.YteemflefaiphnaaFirst13
namespace Go.Proofs.Yteemflefaiphnaa
open Go Go.RowKit
set_option linter.unusedVariables false
set_option linter.unnecessarySimpa false
set_option linter.unusedSimpArgs false
theorem putFields_one (s : Shp) (vs : List Value) (n : Nat) : (putFields s 0 vs n)[1]? = vs[1]? := by
  induction n with
  | zero => rfl
  | succ n ih =>
    by_cases h : s.hasField n = true ∧ Shp.placeF n = 0
    · have h2 : Shp.placeW n = 2 + n := by
        have h3 := h.2
        unfold Shp.placeF at h3
        unfold Shp.placeW
        split at h3
        · rw [if_pos (by assumption)]
        · omega
      rw [putFields_yes h, List.getElem?_set_ne (by omega), ih]
    · rw [putFields_no h, ih]
theorem obj_head {s : Shp} {kind : Int} {got : List Int} (hg : 0 < got.length) (hk : 0 ≤ kind ∧ kind ≤ 1000000) : objV s kind got 1 = (floatOfInt .f64 kind, floatOfInt .f64 (if isSide got = true then 1 else 0)) := by
  have h := objV_row s kind got hg (k := 1) (by decide)
  rw [Nat.zero_mul, Nat.zero_add] at h
  refine cx_inj (h.symm.trans ?_)
  unfold objRow
  rw [show ((0 : Nat) : Int) = 0 from rfl, putFields_one]
  show some (wHead kind (if isSide got = true then 1 else 0)) = _
  unfold wHead
  rw [if_neg (by split <;> omega)]
/-- What was laid into memory, whatever it was. -/
def Laid (c : Cnf) (kind at_ : Int) (got : List Int) (w0 : World) (l e : Value) (w : World) : Prop :=
  ∃ (A : Option Addr) (m cap : Nat) (ev : Int), l = .slice A m cap ∧ e = .int .i64 ev ∧ Ext w0 w ∧ (ev = 0 → 1 ≤ got.length ∧ c.check = 0 ∧ (0 ≤ got.getD 0 0 ∧ got.getD 0 0 < c.frags) ∧ 8 * got.length ≤ m ∧ m ≤ 10000 ∧
    ∃ xs V words md, CellsAt w A xs ∧ Wr xs m (onceAt got at_) V ∧ Once got at_ words m (onceAt got at_) ∧ (∀ i, i < m → inB (onceAt got at_ i) (cWords c).toNat = true) ∧ (0 ≤ md ∧ md ≤ 1) ∧ V 1 = (floatOfInt .f64 kind, floatOfInt .f64 md))
theorem laid_object {c : Cnf} {kind at_ : Int} {got : List Int} {s : Shp} {w0 w : World} {A : Option Addr} {m cap : Nat} (hl : got.length ≤ 1000) (hk : 0 ≤ kind ∧ kind ≤ 1000000) {is : Bool} {base : Nat} (hown : w.ownsRow base 69 2 (.slice A m cap) m (if wrongE c is s 0 false got = 0 then objWrites s kind got (isSide got) got.length else [])) (hE : Ext w0 w) :
    Laid c kind at_ got w0 (.slice A m cap) (.int .i64 (wrongE c is s 0 false got)) w := by
  refine ⟨A, m, cap, _, rfl, rfl, hE, fun hz => ?_⟩
  rw [if_pos hz] at hown
  have hn := hown.1
  rw [objWrites_length] at hn
  obtain rfl : m = 8 * got.length := by omega
  have hf := wrongE_fine hz
  have hg1 : 1 ≤ got.length := by omega
  obtain ⟨o1, o2⟩ := once_object (kind := kind) (at_ := at_) (n := 0) hz
  exact ⟨hg1, hf.1, got_bd hz 0 (by omega), Nat.le_refl _, by omega, _, objV s kind got, _, if isSide got = true then 1 else 0, cellsAt_of_own hown, wr_object hz, o1, once_in_obj hz, by split <;> omega, obj_head (by omega) hk⟩
theorem laid_array {c : Cnf} {kind n at_ : Int} {got : List Int} {s : Shp} {w0 w : World} {A : Option Addr} {m cap : Nat} (hl : got.length ≤ 1000) (hk : 0 ≤ kind ∧ kind ≤ 1000000) {is : Bool} {base : Nat} (hown : w.ownsRow base 69 2 (.slice A m cap) m (if arrE c is s n got at_ = 0 then arrWrites s kind n at_ got else [])) (hE : Ext w0 w) :
    Laid c kind at_ got w0 (.slice A m cap) (.int .i64 (arrE c is s n got at_)) w := by
  refine ⟨A, m, cap, _, rfl, rfl, hE, fun hz => ?_⟩
  rw [if_pos hz] at hown
  have hn := hown.1
  obtain ⟨h0, -⟩ := arrE_fine hz
  obtain ⟨z1, z2, -, -⟩ := arr_size h0
  have hd := sData_bd n
  rw [arrWrites_length _ _ _ _ _ (by omega)] at hn
  obtain rfl : m = arrLen n got := by omega
  have hf := wrongE_fine h0
  have hb : 8 * got.length ≤ arrLen n got ∧ arrLen n got ≤ 10000 := by unfold arrLen; split <;> omega
  exact ⟨by omega, hf.1, got_bd h0 0 (by omega), hb.1, hb.2, _, arrV s kind n at_ got, _, 0, cellsAt_of_own hown, wr_array hz, (once_array (kind := kind) hz).1, once_in hz, by omega, arr_head (by omega) hk⟩
theorem later_blk (w : World) (o : Obj) : ∀ w', Ext (w.alloc o) w' → w'.heap[w.heap.size]? = some o := fun w' he => (he.heap w.heap.size (by rw [World.size_alloc]; omega)).trans (World.row_alloc_new w)
theorem nothing_of {T : Nat → Prop} {g g' : GW} (h : Mod T g g') (hn : ∀ k, k < g.w.heap.size → ¬ T (g.own k)) : Mod (fun _ => False) g g' := ⟨h.os, h.tape, h.output, h.size, h.own, fun k hk _ => h.block k hk (hn k hk)⟩
theorem kind_in {c : Cnf} {kind : Int} (h : (c.shapeAt kind).isSome = true) (hm : c.check = 0) : 0 ≤ kind ∧ kind ≤ 1000000 := by
  unfold Cnf.shapeAt at h
  split at h
  · cases h
  · have h8 : kind.toNat < c.shapes.length := by simpa using h
    have h9 := (Cnf.check_zero hm).2.2.1
    unfold within at h9
    simp only [decide_eq_true_eq] at h9
    omega
set_option maxRecDepth 100000 in
set_option maxHeartbeats 4000000 in
theorem kinds_any (c : Cnf) (kind n : Int) (A : Option Addr) (cap : Nat) (got : List Int) (at_ k : Int) (w : World) (hc : c.Ok w) (hg : CellsAt w A (got.map (Value.int .i64))) (hcap : got.length ≤ cap) (hcm : cap ≤ 9223372036854775807) (hw : ∀ x ∈ got, -9223372036854775808 ≤ x ∧ x ≤ 9223372036854775807)
    (hat : -9223372036854775808 ≤ at_ ∧ at_ ≤ 9223372036854775807) :
    Calls Try.prog 12 #[c.val, .int .i64 kind, .int .i64 n, .slice A got.length cap, .int .i64 at_, .int .i64 k] w (Gives (.bool true) w) := by
  have H := Lib.hid (fun w' => first13_any w')
  have HSH := Lib.hid (fun w' (he : Ext w w') => shape_any c kind w' (hc.ext he))
  have HFW := Lib.hid (fun w' (he : Ext w w') => few_any c w' (hc.ext he))
  have HAR := Lib.hid (fun (h : got.length ≤ 200) w' (he : Ext w w') => array_any c kind n at_ A cap got w' (hc.ext he) (hg.ext he) (by omega) hcap hcm hw hat.1 hat.2)
  have HOB := Lib.hid (fun (h : got.length ≤ 200) w' (he : Ext w w') => object_any c kind A cap got w' (hc.ext he) (hg.ext he) (by omega) hw)
  have HG := Lib.hid hg
  have HCO := Lib.hid hc
  clear hc hg hw hat
  unfold Cnf.val at HSH HFW HAR HOB ⊢
  go_enter Try.func12, Try.ntmps12
  go_wp2_with fail
  have HB := Lib.hid (later_blk w (.cells #[.int .i64 c.frags, .int .i64 c.spine, .int .i64 c.globals, .int .i64 c.threads, .int .i64 c.locals, .int .i64 c.cache, .int .i64 c.stack, .int .i64 c.low, .slice c.A c.shapes.length c.cap] 29))
  have HW0 := Lib.hid (show Ext w (w.alloc (.cells #[.int .i64 c.frags, .int .i64 c.spine, .int .i64 c.globals, .int .i64 c.threads, .int .i64 c.locals, .int .i64 c.cache, .int .i64 c.stack, .int .i64 c.low, .slice c.A c.shapes.length c.cap] 29)) by (repeat (first | (with_reducible assumption) | (with_reducible exact Ext.refl _) | (with_reducible exact Ext.more _ _ _ _) | (with_reducible apply Ext.alloc) | (with_reducible apply Ext.patch) | (with_reducible apply Ext.drew) | (with_reducible apply Ext.drewN) | (with_reducible refine Ext.setCell ?_ (by first | assumption | exact Nat.le_refl _ | exact Nat.le_add_right _ _) _))))
  refine (H.out _).mono ?_
  rintro e w1 ⟨rfl, hE⟩
  have HE1 := Lib.hid (show Ext (w.alloc (.cells #[.int .i64 c.frags, .int .i64 c.spine, .int .i64 c.globals, .int .i64 c.threads, .int .i64 c.locals, .int .i64 c.cache, .int .i64 c.stack, .int .i64 c.low, .slice c.A c.shapes.length c.cap] 29)) w1 from hE)
  clear hE
  have g0 : w1.cell? ⟨w.heap.size, 0, none⟩ = some (.int .i64 c.frags) := (by simp only [World.cell?, (HB.out _ HE1.out)]; rfl)
  have g1 : w1.cell? ⟨w.heap.size, 1, none⟩ = some (.int .i64 c.spine) := (by simp only [World.cell?, (HB.out _ HE1.out)]; rfl)
  have g2 : w1.cell? ⟨w.heap.size, 2, none⟩ = some (.int .i64 c.globals) := (by simp only [World.cell?, (HB.out _ HE1.out)]; rfl)
  have g3 : w1.cell? ⟨w.heap.size, 3, none⟩ = some (.int .i64 c.threads) := (by simp only [World.cell?, (HB.out _ HE1.out)]; rfl)
  have g4 : w1.cell? ⟨w.heap.size, 4, none⟩ = some (.int .i64 c.locals) := (by simp only [World.cell?, (HB.out _ HE1.out)]; rfl)
  have g5 : w1.cell? ⟨w.heap.size, 5, none⟩ = some (.int .i64 c.cache) := (by simp only [World.cell?, (HB.out _ HE1.out)]; rfl)
  have g6 : w1.cell? ⟨w.heap.size, 6, none⟩ = some (.int .i64 c.stack) := (by simp only [World.cell?, (HB.out _ HE1.out)]; rfl)
  have g7 : w1.cell? ⟨w.heap.size, 7, none⟩ = some (.int .i64 c.low) := (by simp only [World.cell?, (HB.out _ HE1.out)]; rfl)
  have g8 : w1.cell? ⟨w.heap.size, 8, none⟩ = some (.slice c.A c.shapes.length c.cap) := (by simp only [World.cell?, (HB.out _ HE1.out)]; rfl)
  have gl : w.heap.size < w1.heap.size := (Array.getElem?_eq_some_iff.1 (HB.out _ HE1.out)).1
  go_wp2_with fail
  refine (HSH.out _ (HW0.out.trans HE1.out)).mono ?_
  rintro e w2 ⟨s', rfl, hs, hfr, hok, hE⟩
  have HE2 := Lib.hid (HE1.out.trans (show Ext w1 w2 from hE))
  have HS := Lib.hid hs
  clear hE hfr hs hok HE1 HSH
  clear g0 g1 g2 g3 g4 g5 g6 g7 g8 gl
  generalize hI : (c.shapeAt kind).isSome = is
  have HI := Lib.hid hI
  clear hI
  obtain ⟨arr', A', cap', refs'⟩ := s'
  unfold Shp.val
  have g0 : w2.cell? ⟨w.heap.size, 0, none⟩ = some (.int .i64 c.frags) := (by simp only [World.cell?, (HB.out _ HE2.out)]; rfl)
  have g1 : w2.cell? ⟨w.heap.size, 1, none⟩ = some (.int .i64 c.spine) := (by simp only [World.cell?, (HB.out _ HE2.out)]; rfl)
  have g2 : w2.cell? ⟨w.heap.size, 2, none⟩ = some (.int .i64 c.globals) := (by simp only [World.cell?, (HB.out _ HE2.out)]; rfl)
  have g3 : w2.cell? ⟨w.heap.size, 3, none⟩ = some (.int .i64 c.threads) := (by simp only [World.cell?, (HB.out _ HE2.out)]; rfl)
  have g4 : w2.cell? ⟨w.heap.size, 4, none⟩ = some (.int .i64 c.locals) := (by simp only [World.cell?, (HB.out _ HE2.out)]; rfl)
  have g5 : w2.cell? ⟨w.heap.size, 5, none⟩ = some (.int .i64 c.cache) := (by simp only [World.cell?, (HB.out _ HE2.out)]; rfl)
  have g6 : w2.cell? ⟨w.heap.size, 6, none⟩ = some (.int .i64 c.stack) := (by simp only [World.cell?, (HB.out _ HE2.out)]; rfl)
  have g7 : w2.cell? ⟨w.heap.size, 7, none⟩ = some (.int .i64 c.low) := (by simp only [World.cell?, (HB.out _ HE2.out)]; rfl)
  have g8 : w2.cell? ⟨w.heap.size, 8, none⟩ = some (.slice c.A c.shapes.length c.cap) := (by simp only [World.cell?, (HB.out _ HE2.out)]; rfl)
  have gl : w.heap.size < w2.heap.size := (Array.getElem?_eq_some_iff.1 (HB.out _ HE2.out)).1
  have HBS := Lib.hid (later_blk w2 (.cells #[.bool arr', .slice A' refs'.length cap'] 26))
  go_wp2_with fail
  refine (HFW.out _ (HW0.out.trans (HE2.out.alloc _))).mono ?_
  rintro e w3 ⟨rfl, hE⟩
  have HX3 := Lib.hid (show Ext (w2.alloc (.cells #[.bool arr', .slice A' refs'.length cap'] 26)) w3 from hE)
  have HE3 := Lib.hid ((HE2.out.alloc _).trans HX3.out)
  clear hE HFW HE2
  clear g0 g1 g2 g3 g4 g5 g6 g7 g8 gl
  have g0 : w3.cell? ⟨w.heap.size, 0, none⟩ = some (.int .i64 c.frags) := (by simp only [World.cell?, (HB.out _ HE3.out)]; rfl)
  have g1 : w3.cell? ⟨w.heap.size, 1, none⟩ = some (.int .i64 c.spine) := (by simp only [World.cell?, (HB.out _ HE3.out)]; rfl)
  have g2 : w3.cell? ⟨w.heap.size, 2, none⟩ = some (.int .i64 c.globals) := (by simp only [World.cell?, (HB.out _ HE3.out)]; rfl)
  have g3 : w3.cell? ⟨w.heap.size, 3, none⟩ = some (.int .i64 c.threads) := (by simp only [World.cell?, (HB.out _ HE3.out)]; rfl)
  have g4 : w3.cell? ⟨w.heap.size, 4, none⟩ = some (.int .i64 c.locals) := (by simp only [World.cell?, (HB.out _ HE3.out)]; rfl)
  have g5 : w3.cell? ⟨w.heap.size, 5, none⟩ = some (.int .i64 c.cache) := (by simp only [World.cell?, (HB.out _ HE3.out)]; rfl)
  have g6 : w3.cell? ⟨w.heap.size, 6, none⟩ = some (.int .i64 c.stack) := (by simp only [World.cell?, (HB.out _ HE3.out)]; rfl)
  have g7 : w3.cell? ⟨w.heap.size, 7, none⟩ = some (.int .i64 c.low) := (by simp only [World.cell?, (HB.out _ HE3.out)]; rfl)
  have g8 : w3.cell? ⟨w.heap.size, 8, none⟩ = some (.slice c.A c.shapes.length c.cap) := (by simp only [World.cell?, (HB.out _ HE3.out)]; rfl)
  have gl : w.heap.size < w3.heap.size := (Array.getElem?_eq_some_iff.1 (HB.out _ HE3.out)).1
  cases Few c
  · go_wp2_with fail
    refine (H.out _).mono ?_
    rintro e w9 ⟨rfl, hE9⟩
    have HE9 := Lib.hid (HE3.out.trans (show Ext w3 w9 from hE9))
    clear hE9
    go_wp2_with fail
    go_ret
    exact Gives.bool rfl (HW0.out.trans HE9.out)
  cases is
  · go_wp2_with fail
    refine (H.out _).mono ?_
    rintro e w9 ⟨rfl, hE9⟩
    have HE9 := Lib.hid (HE3.out.trans (show Ext w3 w9 from hE9))
    clear hE9
    go_wp2_with fail
    go_ret
    exact Gives.bool rfl (HW0.out.trans HE9.out)
  by_cases hl : 200 < got.length
  · have hl' : decide ((200 : Int) < got.length) = true := decide_eq_true (by omega)
    go_wp2_with fail
    refine (H.out _).mono ?_
    rintro e w9 ⟨rfl, hE9⟩
    have HE9 := Lib.hid (HE3.out.trans (show Ext w3 w9 from hE9))
    clear hE9
    go_wp2_with fail
    go_ret
    exact Gives.bool rfl (HW0.out.trans HE9.out)
  have hl' : decide ((200 : Int) < got.length) = false := decide_eq_false (by omega)
  go_wp2_with fail
  refine (HOB.out (by omega) _ (HW0.out.trans HE3.out)).mono ?_
  rintro e w5 ⟨s5, l, nl, rfl, hs5, hown, hE⟩
  have HX5 := Lib.hid (HX3.out.trans (show Ext w3 w5 from hE))
  have HE5 := Lib.hid (HE3.out.trans (show Ext w3 w5 from hE))
  clear hE HOB HE3 HX3
  clear g0 g1 g2 g3 g4 g5 g6 g7 g8 gl
  rw [HI.out] at hown
  rw [HI.out]
  obtain ⟨Al, cl, rfl⟩ := own_form hown
  have m0 : w5.cell? ⟨w2.heap.size, 0, none⟩ = some (.bool arr') := by simp only [World.cell?, HBS.out _ HX5.out]; rfl
  have hz5 : w2.heap.size < w5.heap.size := (Array.getElem?_eq_some_iff.1 (HBS.out _ HX5.out)).1
  have HKI := Lib.hid (fun (h : c.check = 0) => kind_in HI.out h)
  have HONE := Lib.hid (show Laid c kind at_ got w5 (.slice Al nl cl) (.int .i64 (wrongE c true s5 0 false got)) w5 from by
    by_cases hz : wrongE c true s5 0 false got = 0
    · exact laid_object (by omega) (HKI.out (wrongE_fine hz).1) hown (Ext.refl _)
    · exact ⟨_, _, _, _, rfl, rfl, Ext.refl _, fun h => absurd h hz⟩)
  clear hown hs5
  generalize wrongE c true s5 0 false got = e5 at *
  go_upto_if 50 with fail
  go_cut [15, 16] (fun l e wx => Laid c kind at_ got w5 l e wx)
  case first =>
    cases arr'
    · go_wp2_with fail
      go_meet
      exact HONE.out
    · clear HONE
      have g0 : w5.cell? ⟨w.heap.size, 0, none⟩ = some (.int .i64 c.frags) := (by simp only [World.cell?, (HB.out _ HE5.out)]; rfl)
      have g1 : w5.cell? ⟨w.heap.size, 1, none⟩ = some (.int .i64 c.spine) := (by simp only [World.cell?, (HB.out _ HE5.out)]; rfl)
      have g2 : w5.cell? ⟨w.heap.size, 2, none⟩ = some (.int .i64 c.globals) := (by simp only [World.cell?, (HB.out _ HE5.out)]; rfl)
      have g3 : w5.cell? ⟨w.heap.size, 3, none⟩ = some (.int .i64 c.threads) := (by simp only [World.cell?, (HB.out _ HE5.out)]; rfl)
      have g4 : w5.cell? ⟨w.heap.size, 4, none⟩ = some (.int .i64 c.locals) := (by simp only [World.cell?, (HB.out _ HE5.out)]; rfl)
      have g5 : w5.cell? ⟨w.heap.size, 5, none⟩ = some (.int .i64 c.cache) := (by simp only [World.cell?, (HB.out _ HE5.out)]; rfl)
      have g6 : w5.cell? ⟨w.heap.size, 6, none⟩ = some (.int .i64 c.stack) := (by simp only [World.cell?, (HB.out _ HE5.out)]; rfl)
      have g7 : w5.cell? ⟨w.heap.size, 7, none⟩ = some (.int .i64 c.low) := (by simp only [World.cell?, (HB.out _ HE5.out)]; rfl)
      have g8 : w5.cell? ⟨w.heap.size, 8, none⟩ = some (.slice c.A c.shapes.length c.cap) := (by simp only [World.cell?, (HB.out _ HE5.out)]; rfl)
      have gl : w.heap.size < w5.heap.size := (Array.getElem?_eq_some_iff.1 (HB.out _ HE5.out)).1
      go_wp2_with fail
      refine (HAR.out (by omega) _ (HW0.out.trans HE5.out)).mono ?_
      rintro e w6 ⟨s6, l, nl, rfl, hs6, hown, hE⟩
      obtain ⟨Al, cl, rfl⟩ := own_form hown
      rw [HI.out] at hown ⊢
      have HD := Lib.hid (show Laid c kind at_ got w5 (.slice Al nl cl) (.int .i64 (arrE c true s6 n got at_)) w6 from by
        by_cases hz : arrE c true s6 n got at_ = 0
        · exact laid_array (by omega) (HKI.out (wrongE_fine (arrE_fine hz).1).1) hown hE
        · exact ⟨_, _, _, _, rfl, rfl, hE, fun h => absurd h hz⟩)
      clear hown hs6 hE
      generalize arrE c true s6 n got at_ = e6 at *
      go_wp2_with fail
      go_meet
      exact HD.out
  case rest =>
    obtain ⟨Ax, m, cx_, ev, rfl, rfl, hX, h1⟩ := hcut
    have HEC := Lib.hid (HE5.out.trans hX)
    have HSB := Lib.hid ((hX.heap _ hz5).trans (HBS.out _ HX5.out))
    have HLD := Lib.hid h1
    clear hX h1 HONE HAR m0 hz5 HX5 HE5
    have g0 : wc.cell? ⟨w.heap.size, 0, none⟩ = some (.int .i64 c.frags) := (by simp only [World.cell?, (HB.out _ HEC.out)]; rfl)
    have g1 : wc.cell? ⟨w.heap.size, 1, none⟩ = some (.int .i64 c.spine) := (by simp only [World.cell?, (HB.out _ HEC.out)]; rfl)
    have g2 : wc.cell? ⟨w.heap.size, 2, none⟩ = some (.int .i64 c.globals) := (by simp only [World.cell?, (HB.out _ HEC.out)]; rfl)
    have g3 : wc.cell? ⟨w.heap.size, 3, none⟩ = some (.int .i64 c.threads) := (by simp only [World.cell?, (HB.out _ HEC.out)]; rfl)
    have g4 : wc.cell? ⟨w.heap.size, 4, none⟩ = some (.int .i64 c.locals) := (by simp only [World.cell?, (HB.out _ HEC.out)]; rfl)
    have g5 : wc.cell? ⟨w.heap.size, 5, none⟩ = some (.int .i64 c.cache) := (by simp only [World.cell?, (HB.out _ HEC.out)]; rfl)
    have g6 : wc.cell? ⟨w.heap.size, 6, none⟩ = some (.int .i64 c.stack) := (by simp only [World.cell?, (HB.out _ HEC.out)]; rfl)
    have g7 : wc.cell? ⟨w.heap.size, 7, none⟩ = some (.int .i64 c.low) := (by simp only [World.cell?, (HB.out _ HEC.out)]; rfl)
    have g8 : wc.cell? ⟨w.heap.size, 8, none⟩ = some (.slice c.A c.shapes.length c.cap) := (by simp only [World.cell?, (HB.out _ HEC.out)]; rfl)
    have gl : w.heap.size < wc.heap.size := (Array.getElem?_eq_some_iff.1 (HB.out _ HEC.out)).1
    go_wp2_with fail
    have HFL := Lib.hid (fill_nil c 300 ⟨fun _ => 0, wc⟩ (HCO.out.ext (HW0.out.trans HEC.out)))
    unfold Cnf.val at HFL
    refine HFL.out.mono ?_
    rintro e w6 ⟨own6, bm, rfl, m6, r6⟩
    have M6 := Lib.hid m6
    have R6 := Lib.hid r6
    clear m6 r6 HFL
    clear g0 g1 g2 g3 g4 g5 g6 g7 g8 gl
    by_cases hev : ev = 0
    case neg =>
      have hevb : (ev != 0) = true := by simp [hev]
      have HE6 := Lib.hid (HEC.out.trans M6.out.toExt)
      clear HLD
      go_wp2_with fail
      refine (H.out _).mono ?_
      rintro e w9 ⟨rfl, hE9⟩
      have HE9 := Lib.hid (HE6.out.trans (show Ext w6 w9 from hE9))
      clear hE9
      go_wp2_with fail
      go_ret
      exact Gives.bool rfl (HW0.out.trans HE9.out)
    subst hev
    obtain ⟨hg1, hck, hgb, hm8, hm4, xs, V, words, md, hcx, hwr, hon, hin, hmd, hv1⟩ := HLD.out rfl
    have HWR := Lib.hid hwr
    have HYB0 := Lib.hid hgb
    have HMD := Lib.hid (show (0 ≤ md ∧ md ≤ 1099511627776) from by omega)
    have HCK := Lib.hid hck
    have hmx : c.shapes.length ≤ 1000000 := by
      have h9 := (Cnf.check_zero hck).2.2.1
      unfold within at h9
      simp only [decide_eq_true_eq] at h9
      omega
    have HKD := Lib.hid (show (0 ≤ kind ∧ kind ≤ 1099511627776) from by have := HKI.out hck; omega)
    have HATC := Lib.hid (show c.shapeAt kind = some (arr', refs') from by
      have h1 := HI.out
      have h2 := HS.out
      cases h3 : c.shapeAt kind with
      | none => rw [h3] at h1; cases h1
      | some p => rw [h3] at h2; rw [h2]; rfl)
    have HW32 := Lib.hid (show cWords c = c.frags * 8 + c.spine + c.spine + c.globals ∧ 0 ≤ c.spine ∧ 0 ≤ c.globals from by
      obtain ⟨⟨_, _⟩, ⟨_, _⟩, ⟨_, _⟩, _⟩ := Cnf.ranged (Cnf.check_zero hck).1
      exact ⟨by unfold cWords; rw [if_pos hck], by omega, by omega⟩)
    have HC6 := Lib.hid ((show Seg ⟨fun _ => 0, wc⟩ 0 Ax xs from ⟨hcx, fun _ _ _ => rfl⟩).keep M6.out id)
    have HB6 := Lib.hid ((show Blk ⟨fun _ => 0, wc⟩ 0 w.heap.size 29 [.int .i64 c.frags, .int .i64 c.spine, .int .i64 c.globals, .int .i64 c.threads, .int .i64 c.locals, .int .i64 c.cache, .int .i64 c.stack, .int .i64 c.low, .slice c.A c.shapes.length c.cap] from ⟨HB.out _ HEC.out, rfl⟩).keep M6.out id)
    have HS6 := Lib.hid ((show Blk ⟨fun _ => 0, wc⟩ 0 w2.heap.size 26 [.bool arr', .slice A' refs'.length cap'] from ⟨HSB.out, rfl⟩).keep M6.out id)
    have HG6 := Lib.hid ((show Seg ⟨fun _ => 0, wc⟩ 0 A (got.map (Value.int .i64)) from ⟨HG.out.ext (HW0.out.trans HEC.out), fun _ _ _ => rfl⟩).keep M6.out id)
    have HCN6 := Lib.hid ((cnf_zero (HCO.out.ext (HW0.out.trans HEC.out))).keep M6.out id)
    have HPK := Lib.hid ((put_frag (V := V) hon hm8 hin (i := 0) (k := 1) (by omega) (by decide)).trans hv1)
    have HLN := Lib.hid (fun k => (memPut_len ⟨List.replicate (cWords c).toNat (0, 0), 0⟩ (onceAt got at_) V k).trans (show (List.replicate (cWords c).toNat ((0, 0) : Nat × Nat)).length = (cWords c).toNat by simp))
    have HCT := Lib.hid (fun k => memPut_count ⟨List.replicate (cWords c).toNat (0, 0), 0⟩ (onceAt got at_) V k)
    simp only at HCT
    have R6' := Lib.hid (show MemAt ⟨own6, w6⟩ 300 bm (memPut ⟨List.replicate (cWords c).toNat (0, 0), 0⟩ (onceAt got at_) V 0) from R6.out)
    generalize hMP : memPut ⟨List.replicate (cWords c).toNat (0, 0), 0⟩ (onceAt got at_) V = MP at *
    have HMP := Lib.hid (fun k => show MP (k + 1) = (MP k).tick.lay (onceAt got at_ k) (V k) by rw [← hMP]; rfl)
    have hgz : ((got.length : Int) == 0) = false := beq_eq_false_iff_ne.2 (by omega)
    clear hMP hck hgb hcx hwr hon hin hmd hv1 HLD R6 HKI
    go_wp2_with fail
    go_loopw [18] (fun i wr => ∃ (j : Nat) (own : Nat → Nat), j ≤ m ∧ i = .int .i64 j ∧ Hid (Mod (fun x => x = 300) ⟨own6, w6⟩ ⟨own, wr⟩) ∧ Hid (MemAt ⟨own, wr⟩ 300 bm (MP j))) (fun i _ => m - (intOf i).toNat)
    case atStart => exact ⟨0, own6, Nat.zero_le _, rfl, Lib.hid (Mod.refl _ _), R6'⟩
    case round =>
      obtain ⟨j, own3, hj, rfl, M3, R3⟩ := hrel
      obtain ⟨w3, rfl⟩ : ∃ w3 : World, w3 = wr := ⟨_, rfl⟩
      by_cases hlt : j < m
      · obtain ⟨bl, ol, hA, hbl, hcl⟩ := (HC6.out.keep M3.out (by decide)).cells.cases (by rw [HWR.out.len]; omega)
        have l0 := hcl _ _ (HWR.out.at_ j hlt)
        have l1 := hcl _ _ (HWR.out.w j hlt)
        rw [← Nat.add_assoc] at l1
        have HK1 := Lib.hid (HMP.out j)
        have hcb := HCT.out j
        have HC3 := Lib.hid (show 0 ≤ (MP j).count ∧ (MP j).count ≤ 1099511627776 by rw [hcb]; omega)
        have HW := Lib.hid (fun X => mem_write (GW.pt ⟨own3, w3⟩ X) 300 bm (onceAt got at_ j) (V j).1 (V j).2 (MP j) (R3.out.pt X) HC3.out)
        subst hA
        simp only at hbl l0 l1
        generalize V j = pq at *
        obtain ⟨p, q⟩ := pq
        generalize onceAt got at_ j = a at *
        clear hcl hcb
        go_wp2_with fail
        refine wp_region_mixed [true, true, true, true, true, true, true, true, true, true, true, false] 1 11 (by kernel_rfl) (by kernel_rfl) (by kernel_rfl) ?_ (by decide) (by decide) (by decide) (by kernel_rfl) ?_
        · intro c a d v w h; cases d <;> exact h
        intro X00
        simp only [pickOps]
        repeat (go_big_quiet_step (fail))
        refine wpQuiet_nil (fun X0 => ?_)
        clear X00
        refine wpAnyM_tailL rfl (by kernel_rfl) (fun X2 => ?_)
        simp only [List.drop_succ_cons, List.drop_zero]
        go_wp2_with fail
        refine (HW.out _).mono ?_
        rintro e w4 ⟨rfl, own4, m4, r4⟩
        have M4 := Lib.hid m4
        have R4 := Lib.hid r4
        clear m4 r4
        go_wp2_with fail
        go_roundw
        case rel => exact ⟨j + 1, own4, by omega, by go_num, Lib.hid ((M3.out.trans (Mod.pt (Mod.refl _ _) _)).trans M4.out), Lib.hid (by rw [HK1.out]; exact R4.out)⟩
        case measure => simp [intOf]; omega
      · obtain rfl : j = m := by omega
        have hct := HCT.out j
        have HCT2 := Lib.hid (show (MP j).count = (j : Int) by omega)
        have HCT3 := Lib.hid (show ((MP j).tick).count = (j : Int) + 1 from by show (MP j).count + 1 = _; omega)
        have HCB := Lib.hid (show 0 ≤ (MP j).count ∧ (MP j).count ≤ 1099511627776 by omega)
        have HB3 := Lib.hid (HB6.out.keep M3.out (by decide))
        have HS3 := Lib.hid (HS6.out.keep M3.out (by decide))
        have HCN3 := Lib.hid (HCN6.out.keep M3.out (by decide))
        have HIN1 := Lib.hid (show inB (got.getD 0 0 * 8 + 1) (MP j).l.length = true from by
          rw [HLN.out]
          obtain ⟨e1, e2, e3⟩ := HW32.out
          obtain ⟨y1, y2⟩ := HYB0.out
          unfold inB
          apply decide_eq_true
          omega)
        have HP1 := Lib.hid (show (MP j).peek (got.getD 0 0 * 8 + 1) = (floatOfInt .f64 kind, floatOfInt .f64 md) from HPK.out)
        have HGS3 := Lib.hid (HG6.out.keep M3.out (by decide))
        clear hct HG6 HC6 HB6 HS6 HCN6 R6' HPK HLN HCT HMP HWR HW32
        obtain ⟨bq, oq, rfl, hq, hcq⟩ := ints_at HGS3.out.cells (k := 0) hg1
        have z0 := hcq 0 hg1
        rw [Nat.add_zero] at z0
        simp only at hq z0
        generalize got.getD 0 0 = y0 at *
        have s0 := HS3.out.cell (i := 0) rfl
        have sl := HS3.out.lt
        simp only at s0 sl
        have HFI := Lib.hid (fun X => find_field c y0 k 310 (GW.pt ⟨own3, w3⟩ X) ((HCN3.out.keep (Mod.pt (Mod.refl (fun _ => False) _) X) id).ok) hmx)
        unfold Cnf.val at HFI
        have g0 := HB3.out.cell (i := 0) rfl
        have g1 := HB3.out.cell (i := 1) rfl
        have g2 := HB3.out.cell (i := 2) rfl
        have g3 := HB3.out.cell (i := 3) rfl
        have g4 := HB3.out.cell (i := 4) rfl
        have g5 := HB3.out.cell (i := 5) rfl
        have g6 := HB3.out.cell (i := 6) rfl
        have g7 := HB3.out.cell (i := 7) rfl
        have g8 := HB3.out.cell (i := 8) rfl
        have gl := HB3.out.lt
        simp only [GW.to, GW.pt] at g0 g1 g2 g3 g4 g5 g6 g7 g8 gl
        clear hcq
        go_wp2_with fail
        refine wp_region_mixed [true, true, true, true, true, false, false] 2 5 (by kernel_rfl) (by kernel_rfl) (by kernel_rfl) ?_ (by decide) (by decide) (by decide) (by kernel_rfl) ?_
        · intro c a d v w h; cases d <;> exact h
        intro X00
        simp only [pickOps]
        repeat (go_big_quiet_step (fail))
        refine wpQuiet_nil (fun X0 => ?_)
        clear X00
        refine wpAnyM_tailL rfl (by kernel_rfl) (fun X2 => ?_)
        simp only [List.drop_succ_cons, List.drop_zero]
        go_wp2_with fail
        refine (HFI.out _).mono ?_
        rintro e w7 ⟨own7, bf, cm, rfl, m7, r7, hs7⟩
        have mm : Mod (fun _ => False) ⟨own3, w3⟩ ⟨own7, w7⟩ := (Mod.pt (Mod.refl (fun _ => False) _) _).trans m7
        have M7 := Lib.hid (M3.out.trans (mm.mono (T := fun _ => False) (S := fun x => x = 300) (fun _ => False.elim)))
        have F7 := Lib.hid (show FindAt ⟨own7, w7⟩ 310 bf (FindS.fresh cm y0 k false y0) from r7)
        have R7 := Lib.hid (R3.out.keep mm id)
        have HSC := Lib.hid ((same_check hs7).trans HCK.out)
        have HSF := Lib.hid (show cm.frags = c.frags from hs7.frags)
        have HSA := Lib.hid ((Cnf.Same.shapeAt hs7 kind).trans HATC.out)
        have HYB := Lib.hid (show 0 ≤ y0 ∧ y0 < c.frags from HYB0.out)
        have t0 := (mm.toExt.cell sl).trans s0
        have tl := Nat.lt_of_lt_of_le sl mm.toExt.size
        cases arr'
        · have HB7 := Lib.hid (HB3.out.keep mm id)
          have HCN7 := Lib.hid (HCN3.out.keep mm id)
          have z7 := (mm.toExt.cell hq).trans z0
          have hq7 := Nat.lt_of_lt_of_le hq mm.toExt.size
          have M7a := M7
          have R7a := R7
          clear m7 r7 hs7 g0 g1 g2 g3 g4 g5 g6 g7 g8 gl s0 sl z0 hq HFI mm M7 F7 R7 HSC HSF HSA
          have HEI := Lib.hid (fun X => find_elem c y0 k 320 (GW.pt ⟨own7, w7⟩ X) ((HCN7.out.keep (Mod.pt (Mod.refl (fun _ => False) _) X) id).ok) hmx)
          unfold Cnf.val at HEI
          have g0 := HB7.out.cell (i := 0) rfl
          have g1 := HB7.out.cell (i := 1) rfl
          have g2 := HB7.out.cell (i := 2) rfl
          have g3 := HB7.out.cell (i := 3) rfl
          have g4 := HB7.out.cell (i := 4) rfl
          have g5 := HB7.out.cell (i := 5) rfl
          have g6 := HB7.out.cell (i := 6) rfl
          have g7 := HB7.out.cell (i := 7) rfl
          have g8 := HB7.out.cell (i := 8) rfl
          have gl := HB7.out.lt
          simp only [GW.to, GW.pt] at g0 g1 g2 g3 g4 g5 g6 g7 g8 gl
          go_wp2_with fail
          refine wp_region_mixed [true, true, true, true, true, false, false] 2 5 (by kernel_rfl) (by kernel_rfl) (by kernel_rfl) ?_ (by decide) (by decide) (by decide) (by kernel_rfl) ?_
          · intro c a d v w h; cases d <;> exact h
          intro X00
          simp only [pickOps]
          repeat (go_big_quiet_step (fail))
          refine wpQuiet_nil (fun X0 => ?_)
          clear X00
          refine wpAnyM_tailL rfl (by kernel_rfl) (fun X2 => ?_)
          simp only [List.drop_succ_cons, List.drop_zero]
          go_wp2_with fail
          refine (HEI.out _).mono ?_
          rintro e w8 ⟨own8, bf8, cm8, rfl, m8, r8, hs8⟩
          have mm : Mod (fun _ => False) ⟨own7, w7⟩ ⟨own8, w8⟩ := (Mod.pt (Mod.refl (fun _ => False) _) _).trans m8
          have M7 := Lib.hid (M7a.out.trans (mm.mono (T := fun _ => False) (S := fun x => x = 300) (fun _ => False.elim)))
          have F7 := Lib.hid (show FindAt ⟨own8, w8⟩ 320 bf8 (FindS.fresh cm8 y0 k true 0) from r8)
          have R7 := Lib.hid (R7a.out.keep mm id)
          have HSC := Lib.hid ((same_check hs8).trans HCK.out)
          have HSF := Lib.hid (show cm8.frags = c.frags from hs8.frags)
          have HSA := Lib.hid ((Cnf.Same.shapeAt hs8 kind).trans HATC.out)
          clear mm m8 r8 hs8 g0 g1 g2 g3 g4 g5 g6 g7 g8 gl t0 tl z7 hq7 HEI M7a R7a HB7 HCN7 HB3 HS3 HCN3 HGS3
          go_wp2_with fail
          refine (mem_count ⟨own8, w8⟩ 300 bm (MP j) R7.out).mono ?_
          rintro e wv ⟨rfl, rfl⟩
          rw [HCT2.out]
          go_wp2_with fail
          refine (H.out _).mono ?_
          rintro e wv ⟨rfl, hE⟩
          have M8 := Lib.hid (Mod.ext (T := fun _ => False) (g := ⟨own8, w8⟩) (show Ext w8 wv from hE) 0)
          have F8 := Lib.hid (F7.out.keep M8.out id id)
          have R8 := Lib.hid (R7.out.keep M8.out id)
          have HST := Lib.hid (find_step_b (GW.to ⟨own8, w8⟩ 0 wv) 320 bf8 bm (FindS.fresh cm8 y0 k true 0) true (fun x => x = 320 ∨ x = 300) (fun g' => FindAt g' 320 bf8 (FindS.ends { (FindS.fresh cm8 y0 k true 0) with steps := 0 + 1 } 4) ∧ MemAt g' 300 bm (MP j).tick) F8.out (Or.inl rfl) ⟨by show (0 : Int) ≤ 0; decide, by show (0 : Int) ≤ 1099511627776; decide⟩ (Or.inl rfl) (fun g' m' h' =>
            find_begins_head g' 320 bf8 300 bm _ (FindS.ends { (FindS.fresh cm8 y0 k true 0) with steps := 0 + 1 } 4) (MP j) false _ _ h' (R8.out.keep m' (by decide)) HCB.out rfl (okAt_of HSC.out HSF.out _ rfl HYB.out (by decide)) HIN1.out HP1.out (by decide) (by decide) (fun g'' h'' =>
              find_first_kind g'' 320 bf8 _ _ _ kind md false refs' h'' (fun w => tell_head kind md HKD.out.1 HKD.out.2 HMD.out.1 HMD.out.2 w) HSA.out (show false ≠ true from by decide))))
          clear hE
          go_wp2_with fail
          refine HST.out.mono ?_
          rintro e w9 ⟨rfl, own9, m9, f9, r9⟩
          have M9 := Lib.hid m9
          have F9 := Lib.hid f9
          have R9 := Lib.hid r9
          clear m9 f9 r9
          go_wp2_with fail
          refine (find_errno ⟨own9, w9⟩ 320 bf8 _ F9.out).mono ?_
          rintro e w10 ⟨rfl, rfl⟩
          rw [show (FindS.ends { (FindS.fresh cm8 y0 k true 0) with steps := 0 + 1 } 4).e = 4 from rfl]
          go_wp2_with fail
          refine (find_at ⟨own9, w9⟩ 320 bf8 _ F9.out).mono ?_
          rintro e w10 ⟨rfl, rfl⟩
          rw [show (FindS.ends { (FindS.fresh cm8 y0 k true 0) with steps := 0 + 1 } 4).at_ = -1 from rfl]
          go_wp2_with fail
          refine (find_steps ⟨own9, w9⟩ 320 bf8 _ F9.out).mono ?_
          rintro e w10 ⟨rfl, rfl⟩
          rw [show (FindS.ends { (FindS.fresh cm8 y0 k true 0) with steps := 0 + 1 } 4).steps = 1 from rfl]
          go_wp2_with fail
          refine (mem_count ⟨own9, w9⟩ 300 bm (MP j).tick R9.out).mono ?_
          rintro e w10 ⟨rfl, rfl⟩
          rw [show ((MP j).tick).count = (j : Int) + 1 from HCT3.out]
          go_wp2_with fail
          go_ret
          have mAll : Mod (fun x => x = 310 ∨ x = 320 ∨ x = 300) ⟨fun _ => 0, wc⟩ ⟨own9, w9⟩ := (M6.out.mono (fun _ => False.elim)).trans ((M7.out.mono (fun x hx => Or.inr (Or.inr hx))).trans ((M8.out.mono (fun _ => False.elim)).trans (M9.out.mono (fun x hx => by omega))))
          exact Gives.bool rfl ((HW0.out.trans HEC.out).trans (nothing_of mAll (fun k _ => by simp)).toExt)
        · clear mm m7 r7 hs7 g0 g1 g2 g3 g4 g5 g6 g7 g8 gl s0 sl z0 hq HFI HB3 HS3 HCN3 HGS3
          go_wp2_with fail
          refine (mem_count ⟨own7, w7⟩ 300 bm (MP j) R7.out).mono ?_
          rintro e wv ⟨rfl, rfl⟩
          rw [HCT2.out]
          go_wp2_with fail
          refine (H.out _).mono ?_
          rintro e wv ⟨rfl, hE⟩
          have M8 := Lib.hid (Mod.ext (T := fun _ => False) (g := ⟨own7, w7⟩) (show Ext w7 wv from hE) 0)
          have F8 := Lib.hid (F7.out.keep M8.out id id)
          have R8 := Lib.hid (R7.out.keep M8.out id)
          have HST := Lib.hid (find_step_b (GW.to ⟨own7, w7⟩ 0 wv) 310 bf bm (FindS.fresh cm y0 k false y0) true (fun x => x = 310 ∨ x = 300) (fun g' => FindAt g' 310 bf (FindS.ends { (FindS.fresh cm y0 k false y0) with steps := 0 + 1 } 4) ∧ MemAt g' 300 bm (MP j).tick) F8.out (Or.inl rfl) ⟨by show (0 : Int) ≤ 0; decide, by show (0 : Int) ≤ 1099511627776; decide⟩ (Or.inl rfl) (fun g' m' h' =>
            find_begins_head g' 310 bf 300 bm _ (FindS.ends { (FindS.fresh cm y0 k false y0) with steps := 0 + 1 } 4) (MP j) false _ _ h' (R8.out.keep m' (by decide)) HCB.out rfl (okAt_of HSC.out HSF.out _ rfl HYB.out (by decide)) HIN1.out HP1.out (by decide) (by decide) (fun g'' h'' =>
              find_first_kind g'' 310 bf _ _ _ kind md true refs' h'' (fun w => tell_head kind md HKD.out.1 HKD.out.2 HMD.out.1 HMD.out.2 w) HSA.out (show true ≠ false from by decide))))
          clear hE
          go_wp2_with fail
          refine HST.out.mono ?_
          rintro e w9 ⟨rfl, own9, m9, f9, r9⟩
          have M9 := Lib.hid m9
          have F9 := Lib.hid f9
          have R9 := Lib.hid r9
          clear m9 f9 r9
          go_wp2_with fail
          refine (find_errno ⟨own9, w9⟩ 310 bf _ F9.out).mono ?_
          rintro e w10 ⟨rfl, rfl⟩
          rw [show (FindS.ends { (FindS.fresh cm y0 k false y0) with steps := 0 + 1 } 4).e = 4 from rfl]
          go_wp2_with fail
          refine (find_at ⟨own9, w9⟩ 310 bf _ F9.out).mono ?_
          rintro e w10 ⟨rfl, rfl⟩
          rw [show (FindS.ends { (FindS.fresh cm y0 k false y0) with steps := 0 + 1 } 4).at_ = -1 from rfl]
          go_wp2_with fail
          refine (find_steps ⟨own9, w9⟩ 310 bf _ F9.out).mono ?_
          rintro e w10 ⟨rfl, rfl⟩
          rw [show (FindS.ends { (FindS.fresh cm y0 k false y0) with steps := 0 + 1 } 4).steps = 1 from rfl]
          go_wp2_with fail
          refine (mem_count ⟨own9, w9⟩ 300 bm (MP j).tick R9.out).mono ?_
          rintro e w10 ⟨rfl, rfl⟩
          rw [show ((MP j).tick).count = (j : Int) + 1 from HCT3.out]
          go_wp2_with fail
          go_ret
          have mAll : Mod (fun x => x = 310 ∨ x = 320 ∨ x = 300) ⟨fun _ => 0, wc⟩ ⟨own9, w9⟩ := (M6.out.mono (fun _ => False.elim)).trans ((M7.out.mono (fun x hx => Or.inr (Or.inr hx))).trans ((M8.out.mono (fun _ => False.elim)).trans (M9.out.mono (fun x hx => by omega))))
          exact Gives.bool rfl ((HW0.out.trans HEC.out).trans (nothing_of mAll (fun k _ => by simp)).toExt)
end Go.Proofs.Yteemflefaiphnaa
