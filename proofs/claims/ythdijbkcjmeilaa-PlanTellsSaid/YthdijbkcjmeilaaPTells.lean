/-
  spolaw12.PlanTells.
-/
import Derived.Test.YthdijbkcjmeilaaSixA
import Derived.Test.YthdijbkcjmeilaaFirst12
import Derived.Test.YthdijbkcjmeilaaWr
import Derived.Test.YthdijbkcjmeilaaBits
namespace Go.Proofs.Ythdijbkcjmeilaa
open Go Go.RowKit
set_option linter.unusedVariables false
set_option linter.unnecessarySimpa false
set_option linter.unusedSimpArgs false
set_option maxHeartbeats 4000000
theorem word_twice (p q : Nat) (w : World) : Calls Try.prog 58 #[.complex .f64 p q, .complex .f64 p q] w (Gives (.bool true) w) :=
  (word_any (p, q) (p, q) w).mono fun e w' ⟨h1, h2⟩ => by
    subst h2
    rw [h1]
    exact Gives.mk (by simp [sameW]) (Ext.refl _)
theorem samew_any {xs : List Value} {m : Nat} {AT : Nat → Int} {V : Nat → Nat × Nat} (hx : Wr xs m AT V) (A B : Option Addr) (ca cb : Nat) (w : World) (hA : CellsAt w A xs) (hB : CellsAt w B xs) (hm : m ≤ 1000000) :
    Calls Try.prog 13 #[.slice A m ca, .slice B m cb] w (Gives (.bool true) w) := by
  have hne : ((m : Int) != (m : Int)) = false := by simp
  go_enter Try.func13, Try.ntmps13
  go_wp2_with fail
  clear hne
  go_loopw [5] (fun i wr => ∃ k : Nat, k ≤ m ∧ i = .int .i64 k ∧ Ext w wr) (fun i _ => m - (intOf i).toNat)
  case atStart => exact ⟨0, Nat.zero_le _, rfl, Ext.refl _⟩
  case round =>
    obtain ⟨k, hk, rfl, hX⟩ := hrel
    obtain ⟨wx, rfl⟩ : ∃ wx : World, wx = wr := ⟨_, rfl⟩
    by_cases hlt : k < m
    · obtain ⟨b, o, hA1, hb, hcell⟩ := (hA.ext hX).cases (by rw [hx.len]; omega)
      obtain ⟨b2, o2, hB1, hb2, hcell2⟩ := (hB.ext hX).cases (by rw [hx.len]; omega)
      have l0 := hcell _ _ (hx.at_ k hlt)
      have l1 := hcell _ _ (hx.w k hlt)
      have r0 := hcell2 _ _ (hx.at_ k hlt)
      have r1 := hcell2 _ _ (hx.w k hlt)
      rw [← Nat.add_assoc] at l1 r1
      subst hA1 hB1
      (try simp only at hb hb2 l0 l1 r0 r1)
      generalize V k = pq at *
      obtain ⟨p, q⟩ := pq
      generalize AT k = a at *
      have hne : (a != a) = false := by simp
      have HWD := Lib.hid (fun w' => word_twice p q w')
      have HXX := Lib.hid hX
      clear hcell hcell2 hX
      go_wp2_with fail
      refine wp_region_mixed [true, true, true, true, true, true, true, true, true, true, true, true, true, true, true, true, true, true, true, true, true, true, true, true, true] 0 25 (by kernel_rfl) (by kernel_rfl) (by kernel_rfl) ?_ (by decide) (by decide) (by decide) (by kernel_rfl) ?_
      · intro c a d v w h; cases d <;> exact h
      intro X00
      simp only [pickOps]
      repeat (go_big_quiet_step ((go_at_call 58; exact Calls.added (HWD.out _))))
      refine wpQuiet_nil (fun X0 => ?_)
      clear X00
      refine wpAnyM_done (by kernel_rfl) (fun X0' => ?_) _
      (try go_simp)
      go_wp2_with fail
      go_roundw
      case rel => exact ⟨k + 1, by omega, by go_num, HXX.out.trans (by (repeat (first | (with_reducible assumption) | (with_reducible exact Ext.refl _) | (with_reducible exact Ext.more _ _ _ _) | apply Ext.alloc | refine Ext.setCell ?_ (by first | exact Nat.le_refl _ | exact Nat.le_add_right _ _ | assumption) _ | apply Ext.patch | apply Ext.drew | apply Ext.drewN)))⟩
      case measure => simp [intOf]; omega
    · obtain rfl : k = m := by omega
      go_wp2_with fail
      go_ret
      exact Gives.bool rfl (hX.trans (by (repeat (first | (with_reducible assumption) | (with_reducible exact Ext.refl _) | (with_reducible exact Ext.more _ _ _ _) | apply Ext.alloc | refine Ext.setCell ?_ (by first | exact Nat.le_refl _ | exact Nat.le_add_right _ _ | assumption) _ | apply Ext.patch | apply Ext.drew | apply Ext.drewN))))
theorem own_wr {w : World} {base m : Nat} {l : Value} {xs : List Value} (h : w.ownsRow base 48 2 l m xs) : ∃ A c, l = .slice A m c ∧ CellsAt w A xs ∧ m * 2 = xs.length := by
  obtain ⟨A, c, rfl⟩ := own_form h
  exact ⟨A, c, rfl, cellsAt_of_own h, by have := h.1; omega⟩
theorem obj_wr (c : Cnf) (is : Bool) (s : Shp) (kind : Int) (got : List Int) (hl : got.length ≤ 200) : ∃ m AT V, Wr (if wrongE c is s 0 false got = 0 then objWrites s kind got (isSide got) got.length else []) m AT V ∧ m ≤ 1000000 := by
  by_cases h : wrongE c is s 0 false got = 0
  · rw [if_pos h]
    exact ⟨_, _, _, wr_object (kind := kind) (at_ := 0) h, by omega⟩
  · rw [if_neg h]
    exact ⟨0, fun _ => 0, fun _ => (0, 0), ⟨rfl, fun i hi => by omega, fun i hi => by omega⟩, by omega⟩
theorem arr_wr (c : Cnf) (is : Bool) (s : Shp) (kind n at_ : Int) (got : List Int) (hl : got.length ≤ 200) : ∃ m AT V, Wr (if arrE c is s n got at_ = 0 then arrWrites s kind n at_ got else []) m AT V ∧ m ≤ 1000000 := by
  by_cases h : arrE c is s n got at_ = 0
  · rw [if_pos h]
    exact ⟨_, _, _, wr_array (kind := kind) h, by unfold arrLen; split <;> omega⟩
  · rw [if_neg h]
    exact ⟨0, fun _ => 0, fun _ => (0, 0), ⟨rfl, fun i hi => by omega, fun i hi => by omega⟩, by omega⟩
theorem objX_like {c : Cnf} {is : Bool} {s t : Shp} (h : (s.arr, s.refs) = (t.arr, t.refs)) (kind : Int) (got : List Int) : wrongE c is s 0 false got = wrongE c is t 0 false got ∧ (if wrongE c is s 0 false got = 0 then objWrites s kind got (isSide got) got.length else []) = (if wrongE c is t 0 false got = 0 then objWrites t kind got (isSide got) got.length else []) := by
  have h1 : s.arr = t.arr := congrArg Prod.fst h
  have h2 : s.refs = t.refs := congrArg Prod.snd h
  have hw : wrongE c is s 0 false got = wrongE c is t 0 false got := by
    obtain ⟨a, A, k, r⟩ := s
    obtain ⟨b, B, l, q⟩ := t
    simp only at h1 h2
    subst h1 h2
    rfl
  exact ⟨hw, by rw [hw, objWrites_like h1 h2]⟩
theorem arrX_like {c : Cnf} {is : Bool} {s t : Shp} (h : (s.arr, s.refs) = (t.arr, t.refs)) (kind n at_ : Int) (got : List Int) : arrE c is s n got at_ = arrE c is t n got at_ ∧ (if arrE c is s n got at_ = 0 then arrWrites s kind n at_ got else []) = (if arrE c is t n got at_ = 0 then arrWrites t kind n at_ got else []) := by
  have h1 : s.arr = t.arr := congrArg Prod.fst h
  have h2 : s.refs = t.refs := congrArg Prod.snd h
  obtain ⟨a, A, k, r⟩ := s
  obtain ⟨b, B, l, q⟩ := t
  simp only at h1 h2
  subst h1 h2
  exact ⟨rfl, rfl⟩
/-- The shape by itself, wherever its flags lie. -/
def shp0 (c : Cnf) (kind : Int) : Shp := ⟨((c.shapeAt kind).getD (false, [])).1, none, 0, ((c.shapeAt kind).getD (false, [])).2⟩
def objE0 (c : Cnf) (kind : Int) (got : List Int) : Int := wrongE c (c.shapeAt kind).isSome (shp0 c kind) 0 false got
def objX0 (c : Cnf) (kind : Int) (got : List Int) : List Value := if objE0 c kind got = 0 then objWrites (shp0 c kind) kind got (isSide got) got.length else []
def arrE0 (c : Cnf) (kind n at_ : Int) (got : List Int) : Int := arrE c (c.shapeAt kind).isSome (shp0 c kind) n got at_
def arrX0 (c : Cnf) (kind n at_ : Int) (got : List Int) : List Value := if arrE0 c kind n at_ got = 0 then arrWrites (shp0 c kind) kind n at_ got else []
theorem objGot_canon {c : Cnf} {kind : Int} {got : List Int} {m : Nat} {AT : Nat → Int} {V : Nat → Nat × Nat} (hwr : Wr (objX0 c kind got) m AT V) {w w' : World} {e : Ending} (h : ObjGot c kind got w e w') :
    ∃ A1 c1, e = .returned (.tuple #[.slice A1 m c1, .int .i64 (objE0 c kind got)]) ∧ CellsAt w' A1 (objX0 c kind got) ∧ Ext w w' := by
  obtain ⟨s, l, n, rfl, hs, hown, hE⟩ := h
  have hk := objX_like (c := c) (is := (c.shapeAt kind).isSome) (s := s) (t := shp0 c kind) hs kind got
  rw [hk.2] at hown
  obtain ⟨A1, c1, rfl, hA, hm⟩ := own_wr hown
  have hm2 := hwr.len
  obtain rfl : n = m := by
    have h3 : (objX0 c kind got).length = n * 2 := hm.symm
    omega
  exact ⟨A1, c1, by rw [hk.1]; rfl, hA, hE⟩
theorem arrGot_canon {c : Cnf} {kind n at_ : Int} {got : List Int} {m : Nat} {AT : Nat → Int} {V : Nat → Nat × Nat} (hwr : Wr (arrX0 c kind n at_ got) m AT V) {w w' : World} {e : Ending} (h : ArrGot c kind n got at_ w e w') :
    ∃ A1 c1, e = .returned (.tuple #[.slice A1 m c1, .int .i64 (arrE0 c kind n at_ got)]) ∧ CellsAt w' A1 (arrX0 c kind n at_ got) ∧ Ext w w' := by
  obtain ⟨s, l, k, rfl, hs, hown, hE⟩ := h
  have hk := arrX_like (c := c) (is := (c.shapeAt kind).isSome) (s := s) (t := shp0 c kind) hs kind n at_ got
  rw [hk.2] at hown
  obtain ⟨A1, c1, rfl, hA, hm⟩ := own_wr hown
  have hm2 := hwr.len
  obtain rfl : k = m := by
    have h3 : (arrX0 c kind n at_ got).length = k * 2 := hm.symm
    omega
  exact ⟨A1, c1, by rw [hk.1]; rfl, hA, hE⟩
set_option maxRecDepth 100000 in
theorem ptells_any (c : Cnf) (kind n at_ : Int) (A : Option Addr) (cap : Nat) (got : List Int) (w : World) (hc : c.Ok w) (hg : CellsAt w A (got.map (Value.int .i64))) (hcap : got.length ≤ cap) (hcm : cap ≤ 9223372036854775807) (hw : ∀ x ∈ got, -9223372036854775808 ≤ x ∧ x ≤ 9223372036854775807) (ha : -9223372036854775808 ≤ at_ ∧ at_ ≤ 9223372036854775807) :
    Calls Try.prog 3 #[c.val, .int .i64 kind, .int .i64 n, .slice A got.length cap, .int .i64 at_] w (Gives (.bool true) w) := by
  have H := Lib.hid (fun w' => first12_any w')
  have HFW := Lib.hid (fun w' (he : Ext w w') => few_any c w' (hc.ext he))
  have HOB := Lib.hid (fun (h : got.length ≤ 200) w' (he : Ext w w') => object_any c kind A cap got w' (hc.ext he) (hg.ext he) (by omega) hw)
  have HRO := Lib.hid (fun (h : got.length ≤ 200) w' (he : Ext w w') => robject_any c kind A cap got w' (hc.ext he) (hg.ext he) (by omega) hcap hcm hw)
  have HAR := Lib.hid (fun (h : got.length ≤ 200) w' (he : Ext w w') => array_any c kind n at_ A cap got w' (hc.ext he) (hg.ext he) (by omega) hcap hcm hw ha.1 ha.2)
  have HRA := Lib.hid (fun (h : got.length ≤ 200) w' (he : Ext w w') => rarray_any c kind n at_ A cap got w' (hc.ext he) (hg.ext he) (by omega) hcap hcm hw ha.1 ha.2)
  have HB := Lib.hid (blk6 w (.cells #[.int .i64 c.frags, .int .i64 c.spine, .int .i64 c.globals, .int .i64 c.threads, .int .i64 c.locals, .int .i64 c.cache, .int .i64 c.stack, .int .i64 c.low, .slice c.A c.shapes.length c.cap] 24))
  have HW0 := Lib.hid (show Ext w (w.alloc (.cells #[.int .i64 c.frags, .int .i64 c.spine, .int .i64 c.globals, .int .i64 c.threads, .int .i64 c.locals, .int .i64 c.cache, .int .i64 c.stack, .int .i64 c.low, .slice c.A c.shapes.length c.cap] 24)) by (repeat (first | (with_reducible assumption) | (with_reducible exact Ext.refl _) | (with_reducible exact Ext.more _ _ _ _) | (with_reducible apply Ext.alloc) | (with_reducible apply Ext.patch) | (with_reducible apply Ext.drew) | (with_reducible apply Ext.drewN) | (with_reducible refine Ext.setCell ?_ (by first | assumption | exact Nat.le_refl _ | exact Nat.le_add_right _ _) _))))
  unfold Cnf.val at HFW HOB HRO HAR HRA ⊢
  clear hc hg hw ha
  go_enter Try.func3, Try.ntmps3
  go_wp2_with fail
  refine (H.out _).mono ?_
  rintro e w1 ⟨rfl, hE⟩
  have HE1 := Lib.hid (show Ext (w.alloc (.cells #[.int .i64 c.frags, .int .i64 c.spine, .int .i64 c.globals, .int .i64 c.threads, .int .i64 c.locals, .int .i64 c.cache, .int .i64 c.stack, .int .i64 c.low, .slice c.A c.shapes.length c.cap] 24)) w1 from hE)
  clear hE
  have g0 : w1.cell? ⟨w.heap.size, 0, none⟩ = some (.int .i64 c.frags) := (by simp only [World.cell?, (HB.out _ HE1.out)]; rfl)
  have g1 : w1.cell? ⟨w.heap.size, 1, none⟩ = some (.int .i64 c.spine) := (by simp only [World.cell?, (HB.out _ HE1.out)]; rfl)
  have g2 : w1.cell? ⟨w.heap.size, 2, none⟩ = some (.int .i64 c.globals) := (by simp only [World.cell?, (HB.out _ HE1.out)]; rfl)
  have g3 : w1.cell? ⟨w.heap.size, 3, none⟩ = some (.int .i64 c.threads) := (by simp only [World.cell?, (HB.out _ HE1.out)]; rfl)
  have g4 : w1.cell? ⟨w.heap.size, 4, none⟩ = some (.int .i64 c.locals) := (by simp only [World.cell?, (HB.out _ HE1.out)]; rfl)
  have g5 : w1.cell? ⟨w.heap.size, 5, none⟩ = some (.int .i64 c.cache) := (by simp only [World.cell?, (HB.out _ HE1.out)]; rfl)
  have g6 : w1.cell? ⟨w.heap.size, 6, none⟩ = some (.int .i64 c.stack) := (by simp only [World.cell?, (HB.out _ HE1.out)]; rfl)
  have g7 : w1.cell? ⟨w.heap.size, 7, none⟩ = some (.int .i64 c.low) := (by simp only [World.cell?, (HB.out _ HE1.out)]; rfl)
  have g8 : w1.cell? ⟨w.heap.size, 8, none⟩ = some (.slice c.A c.shapes.length c.cap) := (by simp only [World.cell?, (HB.out _ HE1.out)]; rfl)
  have gl : w.heap.size < w1.heap.size := (Array.getElem?_eq_some_iff.1 (HB.out _ HE1.out)).1
  go_wp2_with fail
  refine (HFW.out _ (HW0.out.trans HE1.out)).mono ?_
  rintro e w2 ⟨rfl, hE⟩
  have HE2 := Lib.hid (HE1.out.trans (show Ext w1 w2 from hE))
  clear hE HE1 HFW
  clear g0 g1 g2 g3 g4 g5 g6 g7 g8 gl
  cases Few c
  · go_wp2_with fail
    refine (H.out _).mono ?_
    rintro e w9 ⟨rfl, hE9⟩
    have HE9 := Lib.hid (HE2.out.trans (show Ext w2 w9 from hE9))
    clear hE9
    go_wp2_with fail
    go_ret
    exact Gives.bool rfl (HW0.out.trans HE9.out)
  by_cases hl : 200 < got.length
  · have hl' : decide ((200 : Int) < got.length) = true := decide_eq_true (by omega)
    go_wp2_with fail
    refine (H.out _).mono ?_
    rintro e w9 ⟨rfl, hE9⟩
    have HE9 := Lib.hid (HE2.out.trans (show Ext w2 w9 from hE9))
    clear hE9
    go_wp2_with fail
    go_ret
    exact Gives.bool rfl (HW0.out.trans HE9.out)
  have hl' : decide ((200 : Int) < got.length) = false := decide_eq_false (by omega)
  have HL := Lib.hid (show got.length ≤ 200 by omega)
  clear hl
  obtain ⟨m, AT, V, hwr, hmm⟩ := obj_wr c (c.shapeAt kind).isSome (shp0 c kind) kind got HL.out
  obtain ⟨q, BT, U, hwq, hqm⟩ := arr_wr c (c.shapeAt kind).isSome (shp0 c kind) kind n at_ got HL.out
  have HC1 := Lib.hid (fun (w w' : World) (e : Ending) (h : ObjGot c kind got w e w') => objGot_canon hwr h)
  have HC2 := Lib.hid (fun (w w' : World) (e : Ending) (h : ArrGot c kind n got at_ w e w') => arrGot_canon hwq h)
  have HWM := Lib.hid (show Wr (objX0 c kind got) m AT V from hwr)
  have HWQ := Lib.hid (show Wr (arrX0 c kind n at_ got) q BT U from hwq)
  clear hwr hwq
  generalize objX0 c kind got = X1 at *
  generalize objE0 c kind got = E1 at *
  generalize arrX0 c kind n at_ got = X2 at *
  generalize arrE0 c kind n at_ got = E2 at *
  have g0 : w2.cell? ⟨w.heap.size, 0, none⟩ = some (.int .i64 c.frags) := (by simp only [World.cell?, (HB.out _ HE2.out)]; rfl)
  have g1 : w2.cell? ⟨w.heap.size, 1, none⟩ = some (.int .i64 c.spine) := (by simp only [World.cell?, (HB.out _ HE2.out)]; rfl)
  have g2 : w2.cell? ⟨w.heap.size, 2, none⟩ = some (.int .i64 c.globals) := (by simp only [World.cell?, (HB.out _ HE2.out)]; rfl)
  have g3 : w2.cell? ⟨w.heap.size, 3, none⟩ = some (.int .i64 c.threads) := (by simp only [World.cell?, (HB.out _ HE2.out)]; rfl)
  have g4 : w2.cell? ⟨w.heap.size, 4, none⟩ = some (.int .i64 c.locals) := (by simp only [World.cell?, (HB.out _ HE2.out)]; rfl)
  have g5 : w2.cell? ⟨w.heap.size, 5, none⟩ = some (.int .i64 c.cache) := (by simp only [World.cell?, (HB.out _ HE2.out)]; rfl)
  have g6 : w2.cell? ⟨w.heap.size, 6, none⟩ = some (.int .i64 c.stack) := (by simp only [World.cell?, (HB.out _ HE2.out)]; rfl)
  have g7 : w2.cell? ⟨w.heap.size, 7, none⟩ = some (.int .i64 c.low) := (by simp only [World.cell?, (HB.out _ HE2.out)]; rfl)
  have g8 : w2.cell? ⟨w.heap.size, 8, none⟩ = some (.slice c.A c.shapes.length c.cap) := (by simp only [World.cell?, (HB.out _ HE2.out)]; rfl)
  have gl : w.heap.size < w2.heap.size := (Array.getElem?_eq_some_iff.1 (HB.out _ HE2.out)).1
  go_wp2_with fail
  refine (HOB.out HL.out _ (HW0.out.trans HE2.out)).mono ?_
  intro e w3 hgot
  obtain ⟨A1, c1, rfl, hA, hE⟩ := HC1.out _ _ _ hgot
  have HE3 := Lib.hid (HE2.out.trans hE)
  have HA1 := Lib.hid hA
  clear hA hE hgot HE2 HOB
  clear g0 g1 g2 g3 g4 g5 g6 g7 g8 gl
  have g0 : w3.cell? ⟨w.heap.size, 0, none⟩ = some (.int .i64 c.frags) := (by simp only [World.cell?, (HB.out _ HE3.out)]; rfl)
  have g1 : w3.cell? ⟨w.heap.size, 1, none⟩ = some (.int .i64 c.spine) := (by simp only [World.cell?, (HB.out _ HE3.out)]; rfl)
  have g2 : w3.cell? ⟨w.heap.size, 2, none⟩ = some (.int .i64 c.globals) := (by simp only [World.cell?, (HB.out _ HE3.out)]; rfl)
  have g3 : w3.cell? ⟨w.heap.size, 3, none⟩ = some (.int .i64 c.threads) := (by simp only [World.cell?, (HB.out _ HE3.out)]; rfl)
  have g4 : w3.cell? ⟨w.heap.size, 4, none⟩ = some (.int .i64 c.locals) := (by simp only [World.cell?, (HB.out _ HE3.out)]; rfl)
  have g5 : w3.cell? ⟨w.heap.size, 5, none⟩ = some (.int .i64 c.cache) := (by simp only [World.cell?, (HB.out _ HE3.out)]; rfl)
  have g6 : w3.cell? ⟨w.heap.size, 6, none⟩ = some (.int .i64 c.stack) := (by simp only [World.cell?, (HB.out _ HE3.out)]; rfl)
  have g7 : w3.cell? ⟨w.heap.size, 7, none⟩ = some (.int .i64 c.low) := (by simp only [World.cell?, (HB.out _ HE3.out)]; rfl)
  have g8 : w3.cell? ⟨w.heap.size, 8, none⟩ = some (.slice c.A c.shapes.length c.cap) := (by simp only [World.cell?, (HB.out _ HE3.out)]; rfl)
  have gl : w.heap.size < w3.heap.size := (Array.getElem?_eq_some_iff.1 (HB.out _ HE3.out)).1
  go_wp2_with fail
  refine (HRO.out HL.out _ (HW0.out.trans HE3.out)).mono ?_
  intro e w4 hgot
  obtain ⟨A2, c2, rfl, hA, hE⟩ := HC1.out _ _ _ hgot
  have HE4 := Lib.hid (HE3.out.trans hE)
  have HA1b := Lib.hid (HA1.out.ext hE)
  have HA2 := Lib.hid hA
  clear hA hE hgot HE3 HRO HA1
  clear g0 g1 g2 g3 g4 g5 g6 g7 g8 gl
  have g0 : w4.cell? ⟨w.heap.size, 0, none⟩ = some (.int .i64 c.frags) := (by simp only [World.cell?, (HB.out _ HE4.out)]; rfl)
  have g1 : w4.cell? ⟨w.heap.size, 1, none⟩ = some (.int .i64 c.spine) := (by simp only [World.cell?, (HB.out _ HE4.out)]; rfl)
  have g2 : w4.cell? ⟨w.heap.size, 2, none⟩ = some (.int .i64 c.globals) := (by simp only [World.cell?, (HB.out _ HE4.out)]; rfl)
  have g3 : w4.cell? ⟨w.heap.size, 3, none⟩ = some (.int .i64 c.threads) := (by simp only [World.cell?, (HB.out _ HE4.out)]; rfl)
  have g4 : w4.cell? ⟨w.heap.size, 4, none⟩ = some (.int .i64 c.locals) := (by simp only [World.cell?, (HB.out _ HE4.out)]; rfl)
  have g5 : w4.cell? ⟨w.heap.size, 5, none⟩ = some (.int .i64 c.cache) := (by simp only [World.cell?, (HB.out _ HE4.out)]; rfl)
  have g6 : w4.cell? ⟨w.heap.size, 6, none⟩ = some (.int .i64 c.stack) := (by simp only [World.cell?, (HB.out _ HE4.out)]; rfl)
  have g7 : w4.cell? ⟨w.heap.size, 7, none⟩ = some (.int .i64 c.low) := (by simp only [World.cell?, (HB.out _ HE4.out)]; rfl)
  have g8 : w4.cell? ⟨w.heap.size, 8, none⟩ = some (.slice c.A c.shapes.length c.cap) := (by simp only [World.cell?, (HB.out _ HE4.out)]; rfl)
  have gl : w.heap.size < w4.heap.size := (Array.getElem?_eq_some_iff.1 (HB.out _ HE4.out)).1
  go_wp2_with fail
  refine (HAR.out HL.out _ (HW0.out.trans HE4.out)).mono ?_
  intro e w5 hgot
  obtain ⟨A3, c3, rfl, hA, hE⟩ := HC2.out _ _ _ hgot
  have HE5 := Lib.hid (HE4.out.trans hE)
  have HA1c := Lib.hid (HA1b.out.ext hE)
  have HA2c := Lib.hid (HA2.out.ext hE)
  have HA3 := Lib.hid hA
  clear hA hE hgot HE4 HAR HA1b HA2
  clear g0 g1 g2 g3 g4 g5 g6 g7 g8 gl
  have g0 : w5.cell? ⟨w.heap.size, 0, none⟩ = some (.int .i64 c.frags) := (by simp only [World.cell?, (HB.out _ HE5.out)]; rfl)
  have g1 : w5.cell? ⟨w.heap.size, 1, none⟩ = some (.int .i64 c.spine) := (by simp only [World.cell?, (HB.out _ HE5.out)]; rfl)
  have g2 : w5.cell? ⟨w.heap.size, 2, none⟩ = some (.int .i64 c.globals) := (by simp only [World.cell?, (HB.out _ HE5.out)]; rfl)
  have g3 : w5.cell? ⟨w.heap.size, 3, none⟩ = some (.int .i64 c.threads) := (by simp only [World.cell?, (HB.out _ HE5.out)]; rfl)
  have g4 : w5.cell? ⟨w.heap.size, 4, none⟩ = some (.int .i64 c.locals) := (by simp only [World.cell?, (HB.out _ HE5.out)]; rfl)
  have g5 : w5.cell? ⟨w.heap.size, 5, none⟩ = some (.int .i64 c.cache) := (by simp only [World.cell?, (HB.out _ HE5.out)]; rfl)
  have g6 : w5.cell? ⟨w.heap.size, 6, none⟩ = some (.int .i64 c.stack) := (by simp only [World.cell?, (HB.out _ HE5.out)]; rfl)
  have g7 : w5.cell? ⟨w.heap.size, 7, none⟩ = some (.int .i64 c.low) := (by simp only [World.cell?, (HB.out _ HE5.out)]; rfl)
  have g8 : w5.cell? ⟨w.heap.size, 8, none⟩ = some (.slice c.A c.shapes.length c.cap) := (by simp only [World.cell?, (HB.out _ HE5.out)]; rfl)
  have gl : w.heap.size < w5.heap.size := (Array.getElem?_eq_some_iff.1 (HB.out _ HE5.out)).1
  go_wp2_with fail
  refine (HRA.out HL.out _ (HW0.out.trans HE5.out)).mono ?_
  intro e w6 hgot
  obtain ⟨A4, c4, rfl, hA, hE⟩ := HC2.out _ _ _ hgot
  have HE6 := Lib.hid (HE5.out.trans hE)
  have HS1 := Lib.hid (fun w' (he : Ext w6 w') => samew_any HWM.out A1 A2 c1 c2 w' (HA1c.out.ext (hE.trans he)) (HA2c.out.ext (hE.trans he)) hmm)
  have HS2 := Lib.hid (fun w' (he : Ext w6 w') => samew_any HWQ.out A3 A4 c3 c4 w' (HA3.out.ext (hE.trans he)) (hA.ext he) hqm)
  clear hA hE hgot HE5 HRA HA1c HA2c HA3
  clear g0 g1 g2 g3 g4 g5 g6 g7 g8 gl
  go_wp2_with fail
  refine (H.out _).mono ?_
  rintro e w7 ⟨rfl, hE⟩
  have HX7 := Lib.hid (show Ext w6 w7 from hE)
  clear hE
  go_wp2_with fail
  refine (HS1.out _ HX7.out).mono ?_
  rintro e w8 ⟨rfl, hE⟩
  have HX8 := Lib.hid (HX7.out.trans (show Ext w7 w8 from hE))
  clear hE HX7
  go_wp2_with fail
  refine (HS2.out _ HX8.out).mono ?_
  rintro e w9 ⟨rfl, hE⟩
  have HX9 := Lib.hid (HX8.out.trans (show Ext w8 w9 from hE))
  clear hE HX8
  go_wp2_with fail
  go_ret
  exact Gives.bool (by simp) (HW0.out.trans (HE6.out.trans (HX9.out.trans (by (repeat (first | (with_reducible assumption) | (with_reducible exact Ext.refl _) | (with_reducible exact Ext.more _ _ _ _) | apply Ext.alloc | refine Ext.setCell ?_ (by first | exact Nat.le_refl _ | exact Nat.le_add_right _ _ | assumption) _ | apply Ext.patch | apply Ext.drew | apply Ext.drewN))))))
end Go.Proofs.Ythdijbkcjmeilaa
