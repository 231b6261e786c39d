/-
  sporef6.Array.
-/
import Derived.Test.YthdijbkcjmeilaaSixO
import Derived.Test.YthdijbkcjmeilaaArray
namespace Go.Proofs.Ythdijbkcjmeilaa
open Go Go.RowKit
set_option linter.unusedVariables false
set_option linter.unnecessarySimpa false
set_option linter.unusedSimpArgs false
set_option maxHeartbeats 4000000
theorem arrE_of {c : Cnf} {is : Bool} {s : Shp} {n : Int} {got : List Int} {at_ e : Int} (h : wrongE c is s n true got = e) (he : e ≠ 0) : arrE c is s n got at_ = e := by
  unfold arrE
  rw [if_neg (by rw [h]; exact he), h]
theorem blk0 {w w' : World} {b : Nat} {T : TypeId} {L : List Value} (h : Blk ⟨fun _ => 0, w⟩ 0 b T L) (he : Ext w w') : Blk ⟨fun _ => 0, w'⟩ 0 b T L := ⟨(he.heap b h.lt).trans h.row, rfl⟩
theorem ext_at {w w' : World} (h : Ext w w') (b i : Nat) (hb : w.heap.size ≤ b) (v : Value) : Ext w (w'.setCell ⟨b, i, none⟩ v) := Ext.setCell h hb v
def zero8 : List Value := [wZero, wZero, wZero, wZero, wZero, wZero, wZero, wZero]
/-- The sentinel of a short array behind k rounds. -/
def inlTo (kind n : Int) (got : List Int) (k : Nat) : List Value := [wNone, wHead kind 0, wWhole n, wWhole 0, if 0 < k then sentIn got 0 else wZero, if 1 < k then sentIn got 1 else wZero, if 2 < k then sentIn got 2 else wZero, if 3 < k then sentIn got 3 else wZero]
theorem inlTo_succ (kind n : Int) (got : List Int) {k : Nat} (hk : k < 4) : (inlTo kind n got k).set (4 + k) (sentIn got k) = inlTo kind n got (k + 1) := by
  rcases (show k = 0 ∨ k = 1 ∨ k = 2 ∨ k = 3 by omega) with rfl | rfl | rfl | rfl <;> rfl
theorem inlTo_all (kind n at_ : Int) (got : List Int) : inlTo kind n got 4 = sentWords kind n 0 got at_ := rfl
theorem inlTo_len (kind n : Int) (got : List Int) (k : Nat) : (inlTo kind n got k).length = 8 := rfl
set_option maxRecDepth 100000 in
theorem rarray_any (c : Cnf) (kind n at_ : Int) (A : Option Addr) (cap : Nat) (got : List Int) (w : World) (hc : c.Ok w) (hg : CellsAt w A (got.map (Value.int .i64))) (hl : got.length ≤ 1000) (hcap : got.length ≤ cap) (hcm : cap ≤ 9223372036854775807) (hw : ∀ x ∈ got, -9223372036854775808 ≤ x ∧ x ≤ 9223372036854775807) (ha0 : -9223372036854775808 ≤ at_) (ha1 : at_ ≤ 9223372036854775807) :
    Calls Try.prog 12 #[c.val, .int .i64 kind, .int .i64 n, .slice A got.length cap, .int .i64 at_] w (ArrGot c kind n got at_ w) := by
  have HCK := Lib.hid (fun w' (he : Ext w w') => rcheck_any c w' (hc.ext he))
  have HWR := Lib.hid (fun w' (he : Ext w w') => rwrong_any c A cap got w' (hg.ext he) (by omega) hw)
  have HSH := Lib.hid (fun w' (he : Ext w w') => rshape_any c kind w' (hc.ext he))
  have HTW := Lib.hid (fun w' (he : Ext w w') => rtwice_any A cap got w' (hg.ext he) (by omega) hcap hcm)
  have HSD := Lib.hid (fun w' (he : Ext w w') => rside_any A cap got w' (hg.ext he) (by omega) hw)
  have HSPT := Lib.hid (fun (m : Int) (hm : 0 ≤ m ∧ m ≤ 1000) w' (he : Ext w w') => rspot_any c at_ m w' (hc.ext he) hm)
  have HG := Lib.hid hg
  have HCO := Lib.hid hc
  have HAT := Lib.hid (And.intro ha0 ha1)
  unfold Cnf.val at HCK HWR HSH HSPT ⊢
  clear hc hg hw ha0 ha1
  obtain ⟨pa, pr, hp⟩ : ∃ pa pr, (c.shapeAt kind).getD (false, []) = (pa, pr) := ⟨_, _, rfl⟩
  have HP := Lib.hid hp.symm
  clear hp
  by_cases hck : c.check = 0
  case neg =>
    have hckb : (c.check != 0) = true := by simp [hck]
    have HE := Lib.hid (show arrE c (c.shapeAt kind).isSome ⟨pa, none, 0, pr⟩ n got at_ = 1 from arrE_of (by unfold wrongE; rw [if_pos (Or.inl hck)]) (by decide))
    clear hck
    go_enter Try.func12, Try.ntmps12
    go_wp2_with fail
    refine (HCK.out _ (by (repeat (first | (with_reducible assumption) | (with_reducible exact Ext.refl _) | (with_reducible exact Ext.more _ _ _ _) | apply Ext.alloc | refine Ext.setCell ?_ (by first | exact Nat.le_refl _ | exact Nat.le_add_right _ _ | assumption) _ | apply Ext.patch | apply Ext.drew | apply Ext.drewN)))).mono ?_
    rintro e w1 ⟨rfl, X1, rfl⟩
    go_wp2_with fail
    go_ret2
    exact ⟨⟨pa, none, 0, pr⟩, .slice none 0 0, 0, by rw [HE.out]; rfl, HP.out, by rw [HE.out, if_neg (by decide)]; exact ⟨rfl, Or.inl ⟨rfl, rfl⟩⟩, (by (repeat (first | (with_reducible assumption) | (with_reducible exact Ext.refl _) | (with_reducible exact Ext.more _ _ _ _) | apply Ext.alloc | refine Ext.setCell ?_ (by first | exact Nat.le_refl _ | exact Nat.le_add_right _ _ | assumption) _ | apply Ext.patch | apply Ext.drew | apply Ext.drewN)))⟩
  have hckb : (c.check != 0) = false := by simp [hck]
  have HCZ := Lib.hid hck
  cases hfr : got.all (fragIn c)
  · have HE := Lib.hid (show arrE c (c.shapeAt kind).isSome ⟨pa, none, 0, pr⟩ n got at_ = 1 from arrE_of (by unfold wrongE; rw [if_pos (Or.inr (by rw [all_fragIn hck, hfr]))]) (by decide))
    rw [hfr] at HWR
    clear hck hfr
    go_enter Try.func12, Try.ntmps12
    go_wp2_with fail
    refine (HCK.out _ (by (repeat (first | (with_reducible assumption) | (with_reducible exact Ext.refl _) | (with_reducible exact Ext.more _ _ _ _) | apply Ext.alloc | refine Ext.setCell ?_ (by first | exact Nat.le_refl _ | exact Nat.le_add_right _ _ | assumption) _ | apply Ext.patch | apply Ext.drew | apply Ext.drewN)))).mono ?_
    rintro e w1 ⟨rfl, X1, rfl⟩
    go_wp2_with fail
    refine (HWR.out _ (by (repeat (first | (with_reducible assumption) | (with_reducible exact Ext.refl _) | (with_reducible exact Ext.more _ _ _ _) | apply Ext.alloc | refine Ext.setCell ?_ (by first | exact Nat.le_refl _ | exact Nat.le_add_right _ _ | assumption) _ | apply Ext.patch | apply Ext.drew | apply Ext.drewN)))).mono ?_
    rintro e w2 ⟨rfl, X2, rfl⟩
    go_wp2_with fail
    go_ret2
    exact ⟨⟨pa, none, 0, pr⟩, .slice none 0 0, 0, by rw [HE.out]; rfl, HP.out, by rw [HE.out, if_neg (by decide)]; exact ⟨rfl, Or.inl ⟨rfl, rfl⟩⟩, (by (repeat (first | (with_reducible assumption) | (with_reducible exact Ext.refl _) | (with_reducible exact Ext.more _ _ _ _) | apply Ext.alloc | refine Ext.setCell ?_ (by first | exact Nat.le_refl _ | exact Nat.le_add_right _ _ | assumption) _ | apply Ext.patch | apply Ext.drew | apply Ext.drewN)))⟩
  rw [hfr] at HWR
  have HFI := Lib.hid hfr
  clear hck hfr
  have HBX := Lib.hid (blk6 w (.cells #[.int .i64 c.frags, .int .i64 c.spine, .int .i64 c.globals, .int .i64 c.threads, .int .i64 c.locals, .int .i64 c.cache, .int .i64 c.stack, .int .i64 c.low, .slice c.A c.shapes.length c.cap] 24))
  go_enter Try.func12, Try.ntmps12
  go_wp2_with fail
  refine (HCK.out _ (by (repeat (first | (with_reducible assumption) | (with_reducible exact Ext.refl _) | (with_reducible exact Ext.more _ _ _ _) | apply Ext.alloc | refine Ext.setCell ?_ (by first | exact Nat.le_refl _ | exact Nat.le_add_right _ _ | assumption) _ | apply Ext.patch | apply Ext.drew | apply Ext.drewN)))).mono ?_
  rintro e w1 ⟨rfl, X1, rfl⟩
  go_wp2_with fail
  refine (HWR.out _ (by (repeat (first | (with_reducible assumption) | (with_reducible exact Ext.refl _) | (with_reducible exact Ext.more _ _ _ _) | apply Ext.alloc | refine Ext.setCell ?_ (by first | exact Nat.le_refl _ | exact Nat.le_add_right _ _ | assumption) _ | apply Ext.patch | apply Ext.drew | apply Ext.drewN)))).mono ?_
  rintro e w2 ⟨rfl, X2, rfl⟩
  go_wp2_with fail
  refine (HSH.out _ (by (repeat (first | (with_reducible assumption) | (with_reducible exact Ext.refl _) | (with_reducible exact Ext.more _ _ _ _) | apply Ext.alloc | refine Ext.setCell ?_ (by first | exact Nat.le_refl _ | exact Nat.le_add_right _ _ | assumption) _ | apply Ext.patch | apply Ext.drew | apply Ext.drewN)))).mono ?_
  rintro e w3 ⟨s', rfl, hs, hok, hE⟩
  have HE3 := Lib.hid ((show Ext w _ by (repeat (first | (with_reducible assumption) | (with_reducible exact Ext.refl _) | (with_reducible exact Ext.more _ _ _ _) | apply Ext.alloc | refine Ext.setCell ?_ (by first | exact Nat.le_refl _ | exact Nat.le_add_right _ _ | assumption) _ | apply Ext.patch | apply Ext.drew | apply Ext.drewN))).trans hE)
  have HEB := Lib.hid ((show Ext (w.alloc (.cells #[.int .i64 c.frags, .int .i64 c.spine, .int .i64 c.globals, .int .i64 c.threads, .int .i64 c.locals, .int .i64 c.cache, .int .i64 c.stack, .int .i64 c.low, .slice c.A c.shapes.length c.cap] 24)) _ by (repeat (first | (with_reducible assumption) | (with_reducible exact Ext.refl _) | (with_reducible exact Ext.more _ _ _ _) | apply Ext.alloc | refine Ext.setCell ?_ (by first | exact Nat.le_refl _ | exact Nat.le_add_right _ _ | assumption) _ | apply Ext.patch | apply Ext.drew | apply Ext.drewN))).trans hE)
  have HOK := Lib.hid (hok.ext hE)
  clear HP
  have HP := Lib.hid hs
  clear hE hok hs HCK HWR HSH
  obtain ⟨arr, A', cap', refs⟩ := s'
  unfold Shp.val
  have HBS := Lib.hid (blk6 w3 (.cells #[.bool arr, .slice A' refs.length cap'] 37))
  generalize his : (c.shapeAt kind).isSome = is
  have HI := Lib.hid his
  clear his
  cases is
  · have HE := Lib.hid (show arrE c (c.shapeAt kind).isSome ⟨arr, A', cap', refs⟩ n got at_ = 4 from arrE_of (by unfold wrongE; rw [HI.out, if_neg (by rw [all_fragIn HCZ.out, HFI.out]; simp [HCZ.out]), if_pos (Or.inl rfl)]) (by decide))
    go_wp2_with fail
    go_ret2
    exact ⟨⟨arr, A', cap', refs⟩, .slice none 0 0, 0, by rw [HE.out]; rfl, HP.out, by rw [HE.out, if_neg (by decide)]; exact ⟨rfl, Or.inl ⟨rfl, rfl⟩⟩, (HE3.out.trans (by (repeat (first | (with_reducible assumption) | (with_reducible exact Ext.refl _) | (with_reducible exact Ext.more _ _ _ _) | apply Ext.alloc | refine Ext.setCell ?_ (by first | exact Nat.le_refl _ | exact Nat.le_add_right _ _ | assumption) _ | apply Ext.patch | apply Ext.drew | apply Ext.drewN))))⟩
  cases arr
  case false =>
    have HE := Lib.hid (show arrE c (c.shapeAt kind).isSome ⟨false, A', cap', refs⟩ n got at_ = 4 from arrE_of (by unfold wrongE; rw [HI.out, if_neg (by rw [all_fragIn HCZ.out, HFI.out]; simp [HCZ.out]), if_pos (Or.inr (by simp))]) (by decide))
    go_wp2_with fail
    go_ret2
    exact ⟨⟨false, A', cap', refs⟩, .slice none 0 0, 0, by rw [HE.out]; rfl, HP.out, by rw [HE.out, if_neg (by decide)]; exact ⟨rfl, Or.inl ⟨rfl, rfl⟩⟩, (HE3.out.trans (by (repeat (first | (with_reducible assumption) | (with_reducible exact Ext.refl _) | (with_reducible exact Ext.more _ _ _ _) | apply Ext.alloc | refine Ext.setCell ?_ (by first | exact Nat.le_refl _ | exact Nat.le_add_right _ _ | assumption) _ | apply Ext.patch | apply Ext.drew | apply Ext.drewN))))⟩
  have HMY := Lib.hid (show Shp.may ⟨true, A', cap', refs⟩ = true from by
    have h1 := HI.out
    have h2 := HP.out
    cases h3 : c.shapeAt kind with
    | none => rw [h3] at h1; cases h1
    | some p => rw [h3] at h2; exact may_of HCZ.out (by rw [h3]; exact congrArg some h2.symm) A' cap')
  have HSZ := Lib.hid (fun w' (he : Ext w3 w') => show Calls Try.prog 41 #[.agg #[.bool true, .slice A' refs.length cap'], .int .i64 n] w' (Gives (.int .i64 (Shp.size ⟨true, A', cap', refs⟩ n)) w') from rsize_any ⟨true, A', cap', refs⟩ n w' (HOK.out.ext he))
  have HSPN := Lib.hid (fun w' (he : Ext w3 w') => show Calls Try.prog 55 #[.agg #[.bool true, .slice A' refs.length cap'], .int .i64 n] w' (Gives (.int .i64 (Shp.spine ⟨true, A', cap', refs⟩ n)) w') from rspine_any ⟨true, A', cap', refs⟩ n w' (HOK.out.ext he))
  have HW4 := Lib.hid (show Ext w3 (w3.alloc (.cells #[.bool true, .slice A' refs.length cap'] 37)) by (repeat (first | (with_reducible assumption) | (with_reducible exact Ext.refl _) | (with_reducible exact Ext.more _ _ _ _) | apply Ext.alloc | refine Ext.setCell ?_ (by first | exact Nat.le_refl _ | exact Nat.le_add_right _ _ | assumption) _ | apply Ext.patch | apply Ext.drew | apply Ext.drewN)))
  have HN5 := Lib.hid (fun (h : Shp.size ⟨true, A', cap', refs⟩ n < 0) => show arrE c (c.shapeAt kind).isSome ⟨true, A', cap', refs⟩ n got at_ = 5 from arrE_of (by unfold wrongE; rw [HI.out, if_neg (by rw [all_fragIn HCZ.out, HFI.out]; simp [HCZ.out]), if_neg (by simp), if_pos h]) (by decide))
  have HNE := Lib.hid (fun (h0 : ¬ Shp.size ⟨true, A', cap', refs⟩ n < 0) (h : (got.length : Int) ≠ Shp.size ⟨true, A', cap', refs⟩ n ∨ twiceIn got = true) => show arrE c (c.shapeAt kind).isSome ⟨true, A', cap', refs⟩ n got at_ = 2 from arrE_of (by
    unfold wrongE
    rw [HI.out, if_neg (by rw [all_fragIn HCZ.out, HFI.out]; simp [HCZ.out]), if_neg (by simp), if_neg h0, if_pos h]) (by decide))
  have HYE := Lib.hid (fun (h0 : ¬ Shp.size ⟨true, A', cap', refs⟩ n < 0) (h : (got.length : Int) = Shp.size ⟨true, A', cap', refs⟩ n) (h2 : twiceIn got = false) => show wrongE c (c.shapeAt kind).isSome ⟨true, A', cap', refs⟩ n true got = 0 from by
    unfold wrongE
    rw [HI.out, if_neg (by rw [all_fragIn HCZ.out, HFI.out]; simp [HCZ.out]), if_neg (by simp), if_neg h0, if_neg (by rw [h2]; simp [h])])
  generalize Shp.size ⟨true, A', cap', refs⟩ n = sz at *
  go_wp2_with fail
  refine (HSZ.out _ (by (repeat (first | (with_reducible assumption) | (with_reducible exact Ext.refl _) | (with_reducible exact Ext.more _ _ _ _) | apply Ext.alloc | refine Ext.setCell ?_ (by first | exact Nat.le_refl _ | exact Nat.le_add_right _ _ | assumption) _ | apply Ext.patch | apply Ext.drew | apply Ext.drewN)))).mono ?_
  rintro e w5 ⟨rfl, hE⟩
  have HX5 := Lib.hid (show Ext (w3.alloc (.cells #[.bool true, .slice A' refs.length cap'] 37)) w5 from hE)
  clear hE
  by_cases hs0 : sz < 0
  · have HE := Lib.hid (HN5.out hs0)
    have hd : decide (sz < 0) = true := decide_eq_true hs0
    go_wp2_with fail
    go_ret2
    exact ⟨⟨true, A', cap', refs⟩, .slice none 0 0, 0, by rw [HE.out]; rfl, HP.out, by rw [HE.out, if_neg (by decide)]; exact ⟨rfl, Or.inl ⟨rfl, rfl⟩⟩, (HE3.out.trans (HW4.out.trans (HX5.out.trans (by (repeat (first | (with_reducible assumption) | (with_reducible exact Ext.refl _) | (with_reducible exact Ext.more _ _ _ _) | apply Ext.alloc | refine Ext.setCell ?_ (by first | exact Nat.le_refl _ | exact Nat.le_add_right _ _ | assumption) _ | apply Ext.patch | apply Ext.drew | apply Ext.drewN))))))⟩
  have hd : decide (sz < 0) = false := decide_eq_false hs0
  have HS0 := Lib.hid hs0
  clear hs0 HN5
  have sa0 : w5.cell? ⟨w3.heap.size, 0, none⟩ = some (.bool true) := (by simp only [World.cell?, HBS.out _ HX5.out]; rfl)
  have sa1 : w5.cell? ⟨w3.heap.size, 1, none⟩ = some (.slice A' refs.length cap') := (by simp only [World.cell?, HBS.out _ HX5.out]; rfl)
  have sal : w3.heap.size < w5.heap.size := (Array.getElem?_eq_some_iff.1 (HBS.out _ HX5.out)).1
  go_wp2_with fail
  refine (HSZ.out _ (HW4.out.trans HX5.out)).mono ?_
  rintro e w5b ⟨rfl, hE⟩
  have HX5b := Lib.hid (HX5.out.trans (show Ext w5 w5b from hE))
  clear hE HSZ HX5 sa0 sa1 sal
  cases hlz : ((got.length : Int) != sz)
  case true =>
    have HE := Lib.hid (HNE.out HS0.out (Or.inl (by rwa [bne_iff_ne] at hlz)))
    go_wp2_with fail
    go_ret2
    exact ⟨⟨true, A', cap', refs⟩, .slice none 0 0, 0, by rw [HE.out]; rfl, HP.out, by rw [HE.out, if_neg (by decide)]; exact ⟨rfl, Or.inl ⟨rfl, rfl⟩⟩, (HE3.out.trans (HW4.out.trans (HX5b.out.trans (by (repeat (first | (with_reducible assumption) | (with_reducible exact Ext.refl _) | (with_reducible exact Ext.more _ _ _ _) | apply Ext.alloc | refine Ext.setCell ?_ (by first | exact Nat.le_refl _ | exact Nat.le_add_right _ _ | assumption) _ | apply Ext.patch | apply Ext.drew | apply Ext.drewN))))))⟩
  go_wp2_with fail
  refine (HTW.out _ (HE3.out.trans (HW4.out.trans HX5b.out))).mono ?_
  rintro e w6 ⟨rfl, hE⟩
  have HX6 := Lib.hid (HX5b.out.trans (show Ext w5b w6 from hE))
  clear hE HTW HX5b
  cases htw : twiceIn got
  case true =>
    have HE := Lib.hid (HNE.out HS0.out (Or.inr htw))
    go_wp2_with fail
    go_ret2
    exact ⟨⟨true, A', cap', refs⟩, .slice none 0 0, 0, by rw [HE.out]; rfl, HP.out, by rw [HE.out, if_neg (by decide)]; exact ⟨rfl, Or.inl ⟨rfl, rfl⟩⟩, (HE3.out.trans (HW4.out.trans (HX6.out.trans (by (repeat (first | (with_reducible assumption) | (with_reducible exact Ext.refl _) | (with_reducible exact Ext.more _ _ _ _) | apply Ext.alloc | refine Ext.setCell ?_ (by first | exact Nat.le_refl _ | exact Nat.le_add_right _ _ | assumption) _ | apply Ext.patch | apply Ext.drew | apply Ext.drewN))))))⟩
  have HWE := Lib.hid (HYE.out HS0.out (bne_eq_false_iff_eq.1 hlz) htw)
  have har := arr_size HWE.out
  obtain ⟨hr1, hg1, -, -⟩ := har
  have HR1 := Lib.hid (show refs.length = 1 from hr1)
  have HLN := Lib.hid hg1
  clear HNE HYE htw hlz hr1 hd HS0
  have hsb := sData_bd n
  obtain ⟨D, hD⟩ : ∃ D : Nat, got.length = D + 1 := ⟨got.length - 1, by omega⟩
  have HDD := Lib.hid (show got.length = D + 1 ∧ D ≤ 64 ∧ (D : Int) = sData n from by omega)
  have hD1 : (got.length : Int) - 1 = (D : Int) := by omega
  have e1 := IntWalk.i64_in (D : Int) (by omega)
  clear hg1 hD
  have sa0 : w6.cell? ⟨w3.heap.size, 0, none⟩ = some (.bool true) := (by simp only [World.cell?, HBS.out _ HX6.out]; rfl)
  have sa1 : w6.cell? ⟨w3.heap.size, 1, none⟩ = some (.slice A' refs.length cap') := (by simp only [World.cell?, HBS.out _ HX6.out]; rfl)
  have sal : w3.heap.size < w6.heap.size := (Array.getElem?_eq_some_iff.1 (HBS.out _ HX6.out)).1
  by_cases h4 : sData n ≤ 4
  · have hsp : Shp.spine ⟨true, A', cap', refs⟩ n = 0 := by unfold Shp.spine; rw [if_pos (Or.inr (Or.inr h4))]
    rw [hsp] at HSPN
    have HMD := Lib.hid (show arrMode n got = 0 from by unfold arrMode modeOf; rw [if_pos h4])
    clear hsp h4 hsb
    go_wp2_with fail
    refine (HSPN.out _ (HW4.out.trans HX6.out)).mono ?_
    rintro e w8 ⟨rfl, hE⟩
    have HX8 := Lib.hid (show Ext w6 w8 from hE)
    clear hE sa0 sa1 sal
    go_wp2_with fail
    have HHD := Lib.hid (fun w' => rhead_all kind 0 w')
    have HW1 := Lib.hid (fun w' => rwhole_all n w')
    have HW2 := Lib.hid (fun w' => rwhole_all 0 w')
    obtain ⟨h1, h2, hh⟩ := isCx_head kind 0
    obtain ⟨n1, n2, hn⟩ := isCx_whole n
    obtain ⟨m1, m2, hm⟩ := isCx_whole 0
    have HHH := Lib.hid hh
    have HNN := Lib.hid hn
    have HMM := Lib.hid hm
    rw [hh] at HHD
    rw [hn] at HW1
    rw [hm] at HW2
    clear hh hn hm
    have B9 := Lib.hid (show Blk ⟨fun _ => 0, w8.alloc (.cells #[.complex .f64 0 0, .complex .f64 0 0, .complex .f64 0 0, .complex .f64 0 0, .complex .f64 0 0, .complex .f64 0 0, .complex .f64 0 0, .complex .f64 0 0] 74)⟩ 0 w8.heap.size 74 zero8 from ⟨World.row_alloc_new _, rfl⟩)
    have HX9 := Lib.hid (HX8.out.trans (show Ext w8 (w8.alloc (.cells #[.complex .f64 0 0, .complex .f64 0 0, .complex .f64 0 0, .complex .f64 0 0, .complex .f64 0 0, .complex .f64 0 0, .complex .f64 0 0, .complex .f64 0 0] 74)) by (repeat (first | (with_reducible assumption) | (with_reducible exact Ext.refl _) | (with_reducible exact Ext.more _ _ _ _) | apply Ext.alloc | refine Ext.setCell ?_ (by first | exact Nat.le_refl _ | exact Nat.le_add_right _ _ | assumption) _ | apply Ext.patch | apply Ext.drew | apply Ext.drewN))))
    have hsz9 : w6.heap.size ≤ w8.heap.size := Ext.size HX8.out
    generalize w8.alloc (.cells #[.complex .f64 0 0, .complex .f64 0 0, .complex .f64 0 0, .complex .f64 0 0, .complex .f64 0 0, .complex .f64 0 0, .complex .f64 0 0, .complex .f64 0 0] 74) = w9 at *
    generalize w8.heap.size = bs at *
    refine (rnone_any _).mono ?_
    rintro e w9' ⟨rfl, rfl⟩
    go_wp2_with fail
    refine (HHD.out _).mono ?_
    rintro e w10 ⟨rfl, hE10⟩
    have HX10 := Lib.hid (show Ext w9 w10 from hE10)
    clear hE10
    go_wp2_with fail
    refine (HW1.out _).mono ?_
    rintro e w11 ⟨rfl, hE11⟩
    have HX11 := Lib.hid (HX10.out.trans (show Ext w10 w11 from hE11))
    clear hE11 HX10
    go_wp2_with fail
    refine (HW2.out _).mono ?_
    rintro e w12 ⟨rfl, hE12⟩
    have HX12 := Lib.hid (HX11.out.trans (show Ext w11 w12 from hE12))
    have B12 := blk0 B9.out HX12.out
    clear hE12 HX11 B9
    have c0 : w12.cell? ⟨bs, 0, none⟩ = some (.complex .f64 0 0) := B12.cell (i := 0) rfl
    have c1 : w12.cell? ⟨bs, 1, none⟩ = some (.complex .f64 0 0) := B12.cell (i := 1) rfl
    have c2 : w12.cell? ⟨bs, 2, none⟩ = some (.complex .f64 0 0) := B12.cell (i := 2) rfl
    have c3 : w12.cell? ⟨bs, 3, none⟩ = some (.complex .f64 0 0) := B12.cell (i := 3) rfl
    have f0 : w12.frozen? ⟨bs, 0, none⟩ = false := B12.live 0
    have f1 : w12.frozen? ⟨bs, 1, none⟩ = false := B12.live 1
    have f2 : w12.frozen? ⟨bs, 2, none⟩ = false := B12.live 2
    have f3 : w12.frozen? ⟨bs, 3, none⟩ = false := B12.live 3
    have fl : bs < w12.heap.size := B12.lt
    have B13 := Lib.hid (show Blk ⟨fun _ => 0, (((w12.setCell ⟨bs, 0, none⟩ (.complex .f64 0 4607182418800017408)).setCell ⟨bs, 1, none⟩ (.complex .f64 h1 h2)).setCell ⟨bs, 2, none⟩ (.complex .f64 n1 n2)).setCell ⟨bs, 3, none⟩ (.complex .f64 m1 m2)⟩ 0 bs 74 [wNone, wHead kind 0, wWhole n, wWhole 0, wZero, wZero, wZero, wZero] from by
      rw [HHH.out, HNN.out, HMM.out]
      exact (((B12.set 0 (.complex .f64 0 4607182418800017408)).set 1 (.complex .f64 h1 h2)).set 2 (.complex .f64 n1 n2)).set 3 (.complex .f64 m1 m2))
    have HX13 := Lib.hid (ext_at (ext_at (ext_at (ext_at (HX9.out.trans HX12.out) bs 0 hsz9 (.complex .f64 0 4607182418800017408)) bs 1 hsz9 (.complex .f64 h1 h2)) bs 2 hsz9 (.complex .f64 n1 n2)) bs 3 hsz9 (.complex .f64 m1 m2))
    clear B12 HX12 HX9
    go_wp2_with fail
    generalize (((w12.setCell ⟨bs, 0, none⟩ (.complex .f64 0 4607182418800017408)).setCell ⟨bs, 1, none⟩ (.complex .f64 h1 h2)).setCell ⟨bs, 2, none⟩ (.complex .f64 n1 n2)).setCell ⟨bs, 3, none⟩ (.complex .f64 m1 m2) = w13 at *
    clear c0 c1 c2 c3 f0 f1 f2 f3 fl
    go_loopw [18] (fun i wr => ∃ k : Nat, k ≤ 4 ∧ i = .int .i64 k ∧ Hid (Blk ⟨fun _ => 0, wr⟩ 0 bs 74 (inlTo kind n got k)) ∧ Hid (Ext w6 wr)) (fun i _ => 4 - (intOf i).toNat)
    case atStart => exact ⟨0, Nat.zero_le _, rfl, B13, HX13⟩
    case round =>
      obtain ⟨k, hk, rfl, B14, HX14⟩ := hrel
      obtain ⟨w14, rfl⟩ : ∃ w14 : World, w14 = wr := ⟨_, rfl⟩
      clear B13 HX13
      by_cases hlt : k < 4
      · obtain ⟨vy, hvy⟩ : ∃ v, (inlTo kind n got k)[4 + k]? = some v := ⟨_, List.getElem?_eq_getElem (by rw [inlTo_len]; omega)⟩
        have cy : w14.cell? ⟨bs, 4 + k, none⟩ = some vy := B14.out.cell hvy
        have fy : w14.frozen? ⟨bs, 4 + k, none⟩ = false := B14.out.live (4 + k)
        have ly : bs < w14.heap.size := B14.out.lt
        have HIS := Lib.hid (inlTo_succ kind n got hlt)
        clear hvy
        have B15 := Lib.hid (B14.out.set (4 + k) (.complex .f64 0 4607182418800017408))
        have HX15 := Lib.hid (ext_at HX14.out bs (4 + k) (show w6.heap.size ≤ bs from hsz9) (.complex .f64 0 4607182418800017408))
        go_wp2_with fail
        refine (rnone_any _).mono ?_
        rintro e w15 ⟨rfl, rfl⟩
        go_upto_if 104 with fail
        generalize w14.setCell ⟨bs, 4 + k, none⟩ (.complex .f64 0 4607182418800017408) = w15 at *
        clear cy fy ly B14 HX14
        by_cases h1 : k < D
        · have d2 : decide ((k : Int) < (D : Int)) = true := decide_eq_true (by omega)
          have hkg : k + 1 < got.length := by have := HDD.out; omega
          obtain ⟨bg, og, hA, hb, hcell⟩ := ints_at (HG.out.ext (HE3.out.trans (HW4.out.trans (HX6.out.trans HX15.out)))) hkg
          have g1 : w15.cell? ⟨bg, og + (1 + k), none⟩ = some (.int .i64 (got.getD (k + 1) 0)) := by rw [Nat.add_comm 1 k]; exact hcell (k + 1) hkg
          subst hA
          have HSI := Lib.hid (show sentIn got k = wRef (got.getD (k + 1) 0) from by unfold sentIn; rw [if_pos hkg])
          have HRF := Lib.hid (fun w' => rref_all (got.getD (k + 1) 0) w')
          obtain ⟨p1, p2, hp⟩ := isCx_ref (got.getD (k + 1) 0)
          rw [hp] at HSI HRF
          clear hp hcell
          generalize got.getD (k + 1) 0 = y at *
          go_wp2_with fail
          refine (HRF.out _).mono ?_
          rintro e w16 ⟨rfl, hE16⟩
          have B16 := blk0 B15.out (show Ext w15 w16 from hE16)
          have HX16 := Lib.hid (HX15.out.trans (show Ext w15 w16 from hE16))
          have cy : w16.cell? ⟨bs, 4 + k, none⟩ = some wNone := B16.cell (by rw [List.getElem?_set_self (by rw [inlTo_len]; omega)]; rfl)
          have fy : w16.frozen? ⟨bs, 4 + k, none⟩ = false := B16.live (4 + k)
          have ly : bs < w16.heap.size := B16.lt
          have B17 := Lib.hid (show Blk ⟨fun _ => 0, w16.setCell ⟨bs, 4 + k, none⟩ (.complex .f64 p1 p2)⟩ 0 bs 74 (inlTo kind n got (k + 1)) from by
            have h := B16.set (4 + k) (.complex .f64 p1 p2)
            rw [List.set_set, ← HSI.out, HIS.out] at h
            rw [← HSI.out]
            exact h)
          have HX17 := Lib.hid (ext_at HX16.out bs (4 + k) (show w6.heap.size ≤ bs from hsz9) (.complex .f64 p1 p2))
          clear B16 HX16 hE16 B15 HX15
          go_wp2_with fail
          go_roundw
          case rel => exact ⟨k + 1, by omega, by go_num, B17, HX17⟩
          case measure => simp [intOf]; omega
        · have d2 : decide ((k : Int) < (D : Int)) = false := decide_eq_false (by omega)
          have HSI := Lib.hid (show sentIn got k = wNone from by unfold sentIn; rw [if_neg (by have := HDD.out; omega)])
          go_wp2_with fail
          go_roundw
          case rel => exact ⟨k + 1, by omega, by go_num, by rw [← HIS.out, HSI.out]; exact B15, HX15⟩
          case measure => simp [intOf]; omega
      · obtain rfl : k = 4 := by omega
        have B14 := Lib.hid (show Blk ⟨fun _ => 0, w14⟩ 0 bs 74 (sentWords kind n 0 got at_) from B14.out)
        have hg0 : 0 < got.length := by have := HDD.out; omega
        have HEW := Lib.hid (HE3.out.trans (HW4.out.trans (HX6.out.trans HX14.out)))
        have HBE := Lib.hid (HX6.out.trans HX14.out)
        obtain ⟨bg, og, hA, hb, hcell⟩ := ints_at (HG.out.ext HEW.out) hg0
        have g0 : w14.cell? ⟨bg, og, none⟩ = some (.int .i64 (got.getD 0 0)) := by have h := hcell 0 hg0; rwa [Nat.add_zero] at h
        (first | subst hA | (simp only [Option.some.injEq, Addr.mk.injEq] at hA; obtain ⟨rfl, rfl, -⟩ := hA))
        have hfg : c.frags ≤ 1099511627776 := by have := (Cnf.ranged (Cnf.check_zero HCZ.out).1).1.2; omega
        have hfy : 0 ≤ got.getD 0 0 ∧ got.getD 0 0 < c.frags := of_decide_eq_true (List.all_eq_true.1 HFI.out _ (getD_mem hg0))
        have hv : ∀ i, i < 8 → w14.cell? ⟨bs, i, none⟩ = some (cx (rowF (sentWords kind n 0 got at_) i)) := fun i hi => B14.out.cell (row_f (sentWords_length _ _ _ _ _) (sentWords_cx _ _ _ _ _) hi)
        have HF := Lib.hid (show arrFrags ⟨true, A', cap', refs⟩ kind n at_ got 1 = [] ++ writes (got.getD 0 0) (rowF (sentWords kind n 0 got at_)) 8 from by rw [arrFrags_one]; unfold sentF; rw [HMD.out])
        generalize rowF (sentWords kind n 0 got at_) = f at *
        generalize got.getD 0 0 = y at *
        have v0 : w14.cell? ⟨bs, 0, none⟩ = some (.complex .f64 (f 0).1 (f 0).2) := hv 0 (by omega)
        have v1 : w14.cell? ⟨bs, 1, none⟩ = some (.complex .f64 (f 1).1 (f 1).2) := hv 1 (by omega)
        have v2 : w14.cell? ⟨bs, 2, none⟩ = some (.complex .f64 (f 2).1 (f 2).2) := hv 2 (by omega)
        have v3 : w14.cell? ⟨bs, 3, none⟩ = some (.complex .f64 (f 3).1 (f 3).2) := hv 3 (by omega)
        have v4 : w14.cell? ⟨bs, 4, none⟩ = some (.complex .f64 (f 4).1 (f 4).2) := hv 4 (by omega)
        have v5 : w14.cell? ⟨bs, 5, none⟩ = some (.complex .f64 (f 5).1 (f 5).2) := hv 5 (by omega)
        have v6 : w14.cell? ⟨bs, 6, none⟩ = some (.complex .f64 (f 6).1 (f 6).2) := hv 6 (by omega)
        have v7 : w14.cell? ⟨bs, 7, none⟩ = some (.complex .f64 (f 7).1 (f 7).2) := hv 7 (by omega)
        have hbs : bs < w14.heap.size := B14.out.lt
        have HLY := Lib.hid (fun X => rput_any (.slice none 0 0) 0 [] y f (w14.patch X) w14 w14.heap.size hfy.1 (by omega) ⟨X, rfl⟩ (Nat.le_refl _) (by rw [World.size_patch]; exact Nat.le_add_right _ _) ⟨rfl, Or.inl ⟨rfl, rfl⟩⟩ (by omega))
        clear hv hcell
        go_wp2_with fail
        refine wp_region_mixed [true, true, true, true, false, false] 2 4 (by kernel_rfl) (by kernel_rfl) (by kernel_rfl) ?_ (by decide) (by decide) (by decide) (by kernel_rfl) ?_
        · intro c a d v w h; cases d <;> exact h
        intro X00
        simp only [pickOps]
        repeat (go_big_quiet_step (fail))
        refine wpQuiet_nil (fun X0 => ?_)
        clear X00
        refine wpAnyM_tailL rfl (by kernel_rfl) (fun X2 => ?_)
        simp only [List.drop_succ_cons, List.drop_zero]
        go_wp2_with fail
        refine (HLY.out _).mono ?_
        rintro e w20 ⟨v', rfl, hown, hE20, hz20⟩
        rw [← HF.out] at hown
        have HR20 := Lib.hid (show w20.ownsRow w14.heap.size 48 2 v' (8 * (0 + 1)) (arrFrags ⟨true, A', cap', refs⟩ kind n at_ got (0 + 1)) from hown)
        have HX20 := Lib.hid (show Ext w14 w20 from hE20)
        clear hown hE20 hz20 v0 v1 v2 v3 v4 v5 v6 v7 hbs g0 hfy HLY HF
        go_wp2_with fail
        go_loopw [19, 20] (fun l j wr => ∃ k : Nat, k ≤ D ∧ j = .int .i64 k ∧ Hid (wr.ownsRow w14.heap.size 48 2 l (8 * (k + 1)) (arrFrags ⟨true, A', cap', refs⟩ kind n at_ got (k + 1))) ∧ Hid (Ext w14 wr)) (fun _ j _ => D - (intOf j).toNat)
        case atStart => exact ⟨0, Nat.zero_le _, rfl, HR20, HX20⟩
        case round =>
          obtain ⟨k, hk, rfl, HR, HX⟩ := hrel
          obtain ⟨w21, rfl⟩ : ∃ w21 : World, w21 = wr := ⟨_, rfl⟩
          clear HR20 HX20
          by_cases hlt : k < D
          · have d3 : decide ((k : Int) < (D : Int)) = true := decide_eq_true (by omega)
            have HXB := Lib.hid (HBE.out.trans HX.out)
            have hsz21 : w14.heap.size ≤ w21.heap.size := Ext.size HX.out
            obtain ⟨br, or, hA2, hbr, zr⟩ := bool_at6 (HOK.out.ext (HW4.out.trans HXB.out)).refs (k := 0) (by have := HR1.out; show 0 < refs.length; omega)
            have hZR := Lib.hid (fun (wx : World) (he : Ext w21 wx) => (show wx.cell? ⟨br, or, none⟩ = some (.bool (refs.getD 0 false)) ∧ br < wx.heap.size from by
              have hz := zr
              rw [Nat.add_zero] at hz
              refine ⟨?_, Nat.lt_of_lt_of_le hbr (Ext.size he)⟩
              have h2 := he.heap br hbr
              simp only [World.cell?, h2] at hz ⊢
              exact hz))
            have hrl : 0 < refs.length := by rw [HR1.out]; decide
            clear zr hbr
            simp only at hA2
            subst hA2
            have HRB := Lib.hid (fun w' => rblank_any (refs.getD 0 false) w')
            have HDA := Lib.hid (show dataTo (wBlank (refs.getD 0 false)) 8 = cxs (dataF ⟨true, some ⟨br, or, none⟩, cap', refs⟩) from dataTo_all ⟨true, some ⟨br, or, none⟩, cap', refs⟩)
            have HAS := Lib.hid (arrFrags_succ ⟨true, some ⟨br, or, none⟩, cap', refs⟩ kind n at_ got (j := k + 1) (by omega))
            obtain ⟨p1, p2, hp⟩ := isCx_blank (refs.getD 0 false)
            rw [hp] at HRB HDA
            clear hp
            generalize refs.getD 0 false = rb at *
            have BE := Lib.hid (show Blk ⟨fun _ => 0, w21.alloc (.cells #[.complex .f64 0 0, .complex .f64 0 0, .complex .f64 0 0, .complex .f64 0 0, .complex .f64 0 0, .complex .f64 0 0, .complex .f64 0 0, .complex .f64 0 0] 74)⟩ 0 w21.heap.size 74 (dataTo (.complex .f64 p1 p2) 0) from ⟨World.row_alloc_new _, rfl⟩)
            have HXE := Lib.hid (show Ext w21 (w21.alloc (.cells #[.complex .f64 0 0, .complex .f64 0 0, .complex .f64 0 0, .complex .f64 0 0, .complex .f64 0 0, .complex .f64 0 0, .complex .f64 0 0, .complex .f64 0 0] 74)) by (repeat (first | (with_reducible assumption) | (with_reducible exact Ext.refl _) | (with_reducible exact Ext.more _ _ _ _) | apply Ext.alloc | refine Ext.setCell ?_ (by first | exact Nat.le_refl _ | exact Nat.le_add_right _ _ | assumption) _ | apply Ext.patch | apply Ext.drew | apply Ext.drewN)))
            go_wp2_with fail
            generalize w21.alloc (.cells #[.complex .f64 0 0, .complex .f64 0 0, .complex .f64 0 0, .complex .f64 0 0, .complex .f64 0 0, .complex .f64 0 0, .complex .f64 0 0, .complex .f64 0 0] 74) = w22 at *
            have hbe : w21.heap.size ≤ w21.heap.size := Nat.le_refl _
            obtain ⟨be, hbq⟩ : ∃ be, w21.heap.size = be := ⟨_, rfl⟩
            rw [hbq] at BE
            rw [hbq]
            have HBQ := Lib.hid hbq
            clear hbq hbe
            go_loopw [22] (fun i wr => ∃ q : Nat, q ≤ 8 ∧ i = .int .i64 q ∧ Hid (Blk ⟨fun _ => 0, wr⟩ 0 be 74 (dataTo (.complex .f64 p1 p2) q)) ∧ Hid (Ext w21 wr)) (fun i _ => 8 - (intOf i).toNat)
            case atStart => exact ⟨0, Nat.zero_le _, rfl, BE, HXE⟩
            case round =>
              obtain ⟨q, hq, rfl, BQ, HXQ⟩ := hrel
              obtain ⟨w23, rfl⟩ : ∃ w23 : World, w23 = wr := ⟨_, rfl⟩
              clear BE HXE
              by_cases hl8 : q < 8
              · have sa0 : w23.cell? ⟨w3.heap.size, 0, none⟩ = some (.bool true) := (by simp only [World.cell?, HBS.out _ (HXB.out.trans HXQ.out)]; rfl)
                have sa1 : w23.cell? ⟨w3.heap.size, 1, none⟩ = some (.slice (some ⟨br, or, none⟩) refs.length cap') := (by simp only [World.cell?, HBS.out _ (HXB.out.trans HXQ.out)]; rfl)
                have sal : w3.heap.size < w23.heap.size := (Array.getElem?_eq_some_iff.1 (HBS.out _ (HXB.out.trans HXQ.out))).1
                obtain ⟨zr, hbr⟩ := hZR.out _ HXQ.out
                have HDS := Lib.hid (dataTo_succ (.complex .f64 p1 p2) hl8)
                have HDL := Lib.hid (dataTo_length (.complex .f64 p1 p2) hq)
                go_wp2_with fail
                refine (HRB.out _).mono ?_
                rintro e w24 ⟨rfl, hE24⟩
                have B24 := blk0 BQ.out (show Ext w23 w24 from hE24)
                have HX24 := Lib.hid (HXQ.out.trans (show Ext w23 w24 from hE24))
                obtain ⟨vy, hvy⟩ : ∃ v, (dataTo (.complex .f64 p1 p2) q)[q]? = some v := ⟨_, List.getElem?_eq_getElem (by rw [HDL.out]; exact hl8)⟩
                have cy : w24.cell? ⟨be, q, none⟩ = some vy := B24.cell hvy
                have fy : w24.frozen? ⟨be, q, none⟩ = false := B24.live q
                have ly : be < w24.heap.size := B24.lt
                have B25 := Lib.hid (show Blk ⟨fun _ => 0, w24.setCell ⟨be, q, none⟩ (.complex .f64 p1 p2)⟩ 0 be 74 (dataTo (.complex .f64 p1 p2) (q + 1)) from by rw [← HDS.out]; exact B24.set q (.complex .f64 p1 p2))
                have HX25 := Lib.hid (ext_at HX24.out be q (show w21.heap.size ≤ be from Nat.le_of_eq HBQ.out) (.complex .f64 p1 p2))
                clear hE24 B24 HX24 sa0 sa1 sal zr hbr hvy
                go_wp2_with fail
                go_roundw
                case rel => exact ⟨q + 1, by omega, by go_num, B25, HX25⟩
                case measure => simp [intOf]; omega
              · obtain rfl : q = 8 := by omega
                have hkg : k + 1 < got.length := by have := HDD.out; omega
                obtain ⟨bh, oh, hA3, hb3, hcell⟩ := ints_at (HG.out.ext (HEW.out.trans (HX.out.trans HXQ.out))) hkg
                have g1 : w23.cell? ⟨bh, oh + (1 + k), none⟩ = some (.int .i64 (got.getD (k + 1) 0)) := by rw [Nat.add_comm 1 k]; exact hcell (k + 1) hkg
                simp only [Option.some.injEq, Addr.mk.injEq] at hA3
                obtain ⟨rfl, rfl, -⟩ := hA3
                have hfy : 0 ≤ got.getD (k + 1) 0 ∧ got.getD (k + 1) 0 < c.frags := of_decide_eq_true (List.all_eq_true.1 HFI.out _ (getD_mem hkg))
                have BQ8 := Lib.hid (show Blk ⟨fun _ => 0, w23⟩ 0 be 74 (cxs (dataF ⟨true, some ⟨br, or, none⟩, cap', refs⟩)) from by rw [← HDA.out]; exact BQ.out)
                have hv : ∀ i, i < 8 → w23.cell? ⟨be, i, none⟩ = some (cx (dataF ⟨true, some ⟨br, or, none⟩, cap', refs⟩ i)) := fun i hi => BQ8.out.cell (by unfold cxs; rw [List.getElem?_map, List.getElem?_range hi]; rfl)
                generalize dataF ⟨true, some ⟨br, or, none⟩, cap', refs⟩ = f at *
                generalize got.getD (k + 1) 0 = y at *
                have v0 : w23.cell? ⟨be, 0, none⟩ = some (.complex .f64 (f 0).1 (f 0).2) := hv 0 (by omega)
                have v1 : w23.cell? ⟨be, 1, none⟩ = some (.complex .f64 (f 1).1 (f 1).2) := hv 1 (by omega)
                have v2 : w23.cell? ⟨be, 2, none⟩ = some (.complex .f64 (f 2).1 (f 2).2) := hv 2 (by omega)
                have v3 : w23.cell? ⟨be, 3, none⟩ = some (.complex .f64 (f 3).1 (f 3).2) := hv 3 (by omega)
                have v4 : w23.cell? ⟨be, 4, none⟩ = some (.complex .f64 (f 4).1 (f 4).2) := hv 4 (by omega)
                have v5 : w23.cell? ⟨be, 5, none⟩ = some (.complex .f64 (f 5).1 (f 5).2) := hv 5 (by omega)
                have v6 : w23.cell? ⟨be, 6, none⟩ = some (.complex .f64 (f 6).1 (f 6).2) := hv 6 (by omega)
                have v7 : w23.cell? ⟨be, 7, none⟩ = some (.complex .f64 (f 7).1 (f 7).2) := hv 7 (by omega)
                have hbs : be < w23.heap.size := BQ.out.lt
                have HLY := Lib.hid (fun X => rput_any _ (8 * (k + 1)) (arrFrags ⟨true, some ⟨br, or, none⟩, cap', refs⟩ kind n at_ got (k + 1)) y f (w23.patch X) w14 w14.heap.size hfy.1 (by omega) (HX.out.trans (HXQ.out.trans ⟨X, rfl⟩)) (Nat.le_refl _) (by rw [World.size_patch]; exact Nat.le_trans hsz21 (Nat.le_trans (Ext.size HXQ.out) (Nat.le_add_right _ _))) (own_ext HR.out (HXQ.out.trans ⟨X, rfl⟩)) (by have := HDD.out; omega))
                clear hv hcell hfy
                go_wp2_with fail
                refine wp_region_mixed [true, true, true, true, true, true, true, false, false] 2 7 (by kernel_rfl) (by kernel_rfl) (by kernel_rfl) ?_ (by decide) (by decide) (by decide) (by kernel_rfl) ?_
                · intro c a d v w h; cases d <;> exact h
                intro X00
                simp only [pickOps]
                repeat (go_big_quiet_step (fail))
                refine wpQuiet_nil (fun X0 => ?_)
                clear X00
                refine wpAnyM_tailL rfl (by kernel_rfl) (fun X2 => ?_)
                simp only [List.drop_succ_cons, List.drop_zero]
                go_wp2_with fail
                refine (HLY.out _).mono ?_
                rintro e w26 ⟨v', rfl, hown, hE26, hz26⟩
                rw [← HAS.out] at hown
                have HR6 := Lib.hid (show w26.ownsRow w14.heap.size 48 2 v' (8 * (k + 1 + 1)) (arrFrags ⟨true, some ⟨br, or, none⟩, cap', refs⟩ kind n at_ got (k + 1 + 1)) from hown)
                have HX6b := Lib.hid (show Ext w14 w26 from hE26)
                clear hown hE26 hz26 v0 v1 v2 v3 v4 v5 v6 v7 hbs g1
                go_wp2_with fail
                go_roundw
                case rel => exact ⟨k + 1, by omega, by go_num, HR6, HX6b⟩
                case measure => simp [intOf]; omega
          · obtain rfl : k = D := by omega
            have HE := Lib.hid (show arrE c (c.shapeAt kind).isSome ⟨true, A', cap', refs⟩ n got at_ = 0 from by unfold arrE; rw [if_pos HWE.out, HMD.out]; rfl)
            have HLN2 := Lib.hid (show got.length = k + 1 from HDD.out.1)
            go_wp2_with fail
            go_ret2
            exact ⟨⟨true, A', cap', refs⟩, _, 8 * (k + 1), by rw [HE.out]; rfl, HP.out, by
              rw [if_pos HE.out]
              unfold arrWrites
              rw [HMD.out, if_neg (by decide), List.append_nil, HLN2.out]
              exact own_lower HR.out (Ext.size HEW.out), HEW.out.trans HX.out⟩
  · have hsp : Shp.spine ⟨true, A', cap', refs⟩ n = sData n + 2 := by unfold Shp.spine; rw [if_neg (by rw [HMY.out]; simp [h4])]
    rw [hsp] at HSPN
    have hsb2 : 0 ≤ sData n + 2 ∧ sData n + 2 ≤ 1000 := by omega
    have d1 : decide (0 < sData n + 2) = true := decide_eq_true (by omega)
    have HSPT2 := Lib.hid (HSPT.out _ hsb2)
    have H4 := Lib.hid (show 4 < sData n by omega)
    cases hsd : isSide got
    · have HMD := Lib.hid (show arrMode n got = 1 from by unfold arrMode modeOf; rw [if_neg h4, hsd, if_neg (by decide)])
      rw [hsd] at HSD
      have HSPV := Lib.hid hsp
      clear hsp h4 hsb hsb2 hsd
      go_wp2_with fail
      refine (HSPN.out _ (HW4.out.trans HX6.out)).mono ?_
      rintro e w7 ⟨rfl, hE⟩
      have HX7 := Lib.hid (show Ext w6 w7 from hE)
      clear hE sa0 sa1 sal
      go_wp2_with fail
      refine (HSD.out _ (HE3.out.trans (HW4.out.trans (HX6.out.trans HX7.out)))).mono ?_
      rintro e w7b ⟨rfl, hE⟩
      have HX7b := Lib.hid (HX7.out.trans (show Ext w7 w7b from hE))
      clear hE HX7
      have g0 : w7b.cell? ⟨w.heap.size, 0, none⟩ = some (.int .i64 c.frags) := (by simp only [World.cell?, (HBX.out _ (HEB.out.trans (HW4.out.trans (HX6.out.trans HX7b.out))))]; rfl)
      have g1 : w7b.cell? ⟨w.heap.size, 1, none⟩ = some (.int .i64 c.spine) := (by simp only [World.cell?, (HBX.out _ (HEB.out.trans (HW4.out.trans (HX6.out.trans HX7b.out))))]; rfl)
      have g2 : w7b.cell? ⟨w.heap.size, 2, none⟩ = some (.int .i64 c.globals) := (by simp only [World.cell?, (HBX.out _ (HEB.out.trans (HW4.out.trans (HX6.out.trans HX7b.out))))]; rfl)
      have g3 : w7b.cell? ⟨w.heap.size, 3, none⟩ = some (.int .i64 c.threads) := (by simp only [World.cell?, (HBX.out _ (HEB.out.trans (HW4.out.trans (HX6.out.trans HX7b.out))))]; rfl)
      have g4 : w7b.cell? ⟨w.heap.size, 4, none⟩ = some (.int .i64 c.locals) := (by simp only [World.cell?, (HBX.out _ (HEB.out.trans (HW4.out.trans (HX6.out.trans HX7b.out))))]; rfl)
      have g5 : w7b.cell? ⟨w.heap.size, 5, none⟩ = some (.int .i64 c.cache) := (by simp only [World.cell?, (HBX.out _ (HEB.out.trans (HW4.out.trans (HX6.out.trans HX7b.out))))]; rfl)
      have g6 : w7b.cell? ⟨w.heap.size, 6, none⟩ = some (.int .i64 c.stack) := (by simp only [World.cell?, (HBX.out _ (HEB.out.trans (HW4.out.trans (HX6.out.trans HX7b.out))))]; rfl)
      have g7 : w7b.cell? ⟨w.heap.size, 7, none⟩ = some (.int .i64 c.low) := (by simp only [World.cell?, (HBX.out _ (HEB.out.trans (HW4.out.trans (HX6.out.trans HX7b.out))))]; rfl)
      have g8 : w7b.cell? ⟨w.heap.size, 8, none⟩ = some (.slice c.A c.shapes.length c.cap) := (by simp only [World.cell?, (HBX.out _ (HEB.out.trans (HW4.out.trans (HX6.out.trans HX7b.out))))]; rfl)
      have gl : w.heap.size < w7b.heap.size := (Array.getElem?_eq_some_iff.1 (HBX.out _ (HEB.out.trans (HW4.out.trans (HX6.out.trans HX7b.out))))).1
      go_wp2_with fail
      refine (HSPT2.out _ (HE3.out.trans (HW4.out.trans (HX6.out.trans HX7b.out)))).mono ?_
      rintro e w8 ⟨rfl, hE⟩
      have HX8 := Lib.hid (HX7b.out.trans (show Ext w7b w8 from hE))
      clear hE HX7b
      clear g0 g1 g2 g3 g4 g5 g6 g7 g8 gl
      cases hbg : beginsAt c at_ (sData n + 2)
      · have HE := Lib.hid (show arrE c (c.shapeAt kind).isSome ⟨true, A', cap', refs⟩ n got at_ = 2 from by unfold arrE; rw [if_pos HWE.out, HMD.out, HSPV.out, hbg]; rfl)
        go_wp2_with fail
        go_ret2
        exact ⟨⟨true, A', cap', refs⟩, .slice none 0 0, 0, by rw [HE.out]; rfl, HP.out, by rw [HE.out, if_neg (by decide)]; exact ⟨rfl, Or.inl ⟨rfl, rfl⟩⟩, (HE3.out.trans (HW4.out.trans (HX6.out.trans (HX8.out.trans (by (repeat (first | (with_reducible assumption) | (with_reducible exact Ext.refl _) | (with_reducible exact Ext.more _ _ _ _) | apply Ext.alloc | refine Ext.setCell ?_ (by first | exact Nat.le_refl _ | exact Nat.le_add_right _ _ | assumption) _ | apply Ext.patch | apply Ext.drew | apply Ext.drewN)))))))⟩
      · have HBG := Lib.hid hbg
        clear hbg
        go_wp2_with fail
        have HHD := Lib.hid (fun w' => rhead_all kind 0 w')
        have HW1 := Lib.hid (fun w' => rwhole_all n w')
        have HW2 := Lib.hid (fun w' => rwhole_all 1 w')
        obtain ⟨h1, h2, hh⟩ := isCx_head kind 0
        obtain ⟨n1, n2, hn⟩ := isCx_whole n
        obtain ⟨m1, m2, hm⟩ := isCx_whole 1
        have HHH := Lib.hid hh
        have HNN := Lib.hid hn
        have HMM := Lib.hid hm
        rw [hh] at HHD
        rw [hn] at HW1
        rw [hm] at HW2
        clear hh hn hm
        have B9 := Lib.hid (show Blk ⟨fun _ => 0, w8.alloc (.cells #[.complex .f64 0 0, .complex .f64 0 0, .complex .f64 0 0, .complex .f64 0 0, .complex .f64 0 0, .complex .f64 0 0, .complex .f64 0 0, .complex .f64 0 0] 74)⟩ 0 w8.heap.size 74 zero8 from ⟨World.row_alloc_new _, rfl⟩)
        have HX9 := Lib.hid (HX8.out.trans (show Ext w8 (w8.alloc (.cells #[.complex .f64 0 0, .complex .f64 0 0, .complex .f64 0 0, .complex .f64 0 0, .complex .f64 0 0, .complex .f64 0 0, .complex .f64 0 0, .complex .f64 0 0] 74)) by (repeat (first | (with_reducible assumption) | (with_reducible exact Ext.refl _) | (with_reducible exact Ext.more _ _ _ _) | apply Ext.alloc | refine Ext.setCell ?_ (by first | exact Nat.le_refl _ | exact Nat.le_add_right _ _ | assumption) _ | apply Ext.patch | apply Ext.drew | apply Ext.drewN))))
        have hsz9 : w6.heap.size ≤ w8.heap.size := Ext.size HX8.out
        generalize w8.alloc (.cells #[.complex .f64 0 0, .complex .f64 0 0, .complex .f64 0 0, .complex .f64 0 0, .complex .f64 0 0, .complex .f64 0 0, .complex .f64 0 0, .complex .f64 0 0] 74) = w9 at *
        generalize w8.heap.size = bs at *
        refine (rnone_any _).mono ?_
        rintro e w9' ⟨rfl, rfl⟩
        go_wp2_with fail
        refine (HHD.out _).mono ?_
        rintro e w10 ⟨rfl, hE10⟩
        have HX10 := Lib.hid (show Ext w9 w10 from hE10)
        clear hE10
        go_wp2_with fail
        refine (HW1.out _).mono ?_
        rintro e w11 ⟨rfl, hE11⟩
        have HX11 := Lib.hid (HX10.out.trans (show Ext w10 w11 from hE11))
        clear hE11 HX10
        go_wp2_with fail
        refine (HW2.out _).mono ?_
        rintro e w12 ⟨rfl, hE12⟩
        have HX12 := Lib.hid (HX11.out.trans (show Ext w11 w12 from hE12))
        have B12 := blk0 B9.out HX12.out
        clear hE12 HX11 B9
        have c0 : w12.cell? ⟨bs, 0, none⟩ = some (.complex .f64 0 0) := B12.cell (i := 0) rfl
        have c1 : w12.cell? ⟨bs, 1, none⟩ = some (.complex .f64 0 0) := B12.cell (i := 1) rfl
        have c2 : w12.cell? ⟨bs, 2, none⟩ = some (.complex .f64 0 0) := B12.cell (i := 2) rfl
        have c3 : w12.cell? ⟨bs, 3, none⟩ = some (.complex .f64 0 0) := B12.cell (i := 3) rfl
        have f0 : w12.frozen? ⟨bs, 0, none⟩ = false := B12.live 0
        have f1 : w12.frozen? ⟨bs, 1, none⟩ = false := B12.live 1
        have f2 : w12.frozen? ⟨bs, 2, none⟩ = false := B12.live 2
        have f3 : w12.frozen? ⟨bs, 3, none⟩ = false := B12.live 3
        have fl : bs < w12.heap.size := B12.lt
        have B13 := Lib.hid (show Blk ⟨fun _ => 0, (((w12.setCell ⟨bs, 0, none⟩ (.complex .f64 0 4607182418800017408)).setCell ⟨bs, 1, none⟩ (.complex .f64 h1 h2)).setCell ⟨bs, 2, none⟩ (.complex .f64 n1 n2)).setCell ⟨bs, 3, none⟩ (.complex .f64 m1 m2)⟩ 0 bs 74 [wNone, wHead kind 0, wWhole n, wWhole 1, wZero, wZero, wZero, wZero] from by
          rw [HHH.out, HNN.out, HMM.out]
          exact (((B12.set 0 (.complex .f64 0 4607182418800017408)).set 1 (.complex .f64 h1 h2)).set 2 (.complex .f64 n1 n2)).set 3 (.complex .f64 m1 m2))
        have HX13 := Lib.hid (ext_at (ext_at (ext_at (ext_at (HX9.out.trans HX12.out) bs 0 hsz9 (.complex .f64 0 4607182418800017408)) bs 1 hsz9 (.complex .f64 h1 h2)) bs 2 hsz9 (.complex .f64 n1 n2)) bs 3 hsz9 (.complex .f64 m1 m2))
        clear B12 HX12 HX9
        go_upto_if 114 with fail
        generalize (((w12.setCell ⟨bs, 0, none⟩ (.complex .f64 0 4607182418800017408)).setCell ⟨bs, 1, none⟩ (.complex .f64 h1 h2)).setCell ⟨bs, 2, none⟩ (.complex .f64 n1 n2)).setCell ⟨bs, 3, none⟩ (.complex .f64 m1 m2) = w13 at *
        clear c0 c1 c2 c3 f0 f1 f2 f3 fl
        have HRF := Lib.hid (fun w' => rwhole_all at_ w')
        obtain ⟨p1, p2, hp⟩ := isCx_whole at_
        rw [hp] at HRF
        have HSI := Lib.hid hp
        clear hp
        go_wp2_with fail
        refine (HRF.out _).mono ?_
        rintro e w14 ⟨rfl, hE14⟩
        have B14 := blk0 B13.out (show Ext w13 w14 from hE14)
        have HX14 := Lib.hid (HX13.out.trans (show Ext w13 w14 from hE14))
        have cy : w14.cell? ⟨bs, 4, none⟩ = some wZero := B14.cell (i := 4) rfl
        have fy : w14.frozen? ⟨bs, 4, none⟩ = false := B14.live 4
        have ly : bs < w14.heap.size := B14.lt
        have B15 := Lib.hid (show Blk ⟨fun _ => 0, w14.setCell ⟨bs, 4, none⟩ (.complex .f64 p1 p2)⟩ 0 bs 74 (sentWords kind n 1 got at_) from by
          have h := B14.set 4 (.complex .f64 p1 p2)
          rw [show sentWords kind n 1 got at_ = [wNone, wHead kind 0, wWhole n, wWhole 1, .complex .f64 p1 p2, wZero, wZero, wZero] from by rw [← HSI.out]; rfl]
          exact h)
        have HX15 := Lib.hid (ext_at HX14.out bs 4 (show w6.heap.size ≤ bs from hsz9) (.complex .f64 p1 p2))
        clear hE14 B14 HX14 B13 HX13
        go_upto_region 33 with fail
        generalize w14.setCell ⟨bs, 4, none⟩ (.complex .f64 p1 p2) = w15 at *
        clear cy fy ly
        obtain ⟨w14, rfl⟩ : ∃ w14 : World, w14 = w15 := ⟨_, rfl⟩
        have B14 := B15
        have HX14 := HX15
        clear B15 HX15
        have hg0 : 0 < got.length := by have := HDD.out; omega
        have HEW := Lib.hid (HE3.out.trans (HW4.out.trans (HX6.out.trans HX14.out)))
        have HBE := Lib.hid (HX6.out.trans HX14.out)
        obtain ⟨bg, og, hA, hb, hcell⟩ := ints_at (HG.out.ext HEW.out) hg0
        have g0 : w14.cell? ⟨bg, og, none⟩ = some (.int .i64 (got.getD 0 0)) := by have h := hcell 0 hg0; rwa [Nat.add_zero] at h
        (first | subst hA | (simp only [Option.some.injEq, Addr.mk.injEq] at hA; obtain ⟨rfl, rfl, -⟩ := hA))
        have hfg : c.frags ≤ 1099511627776 := by have := (Cnf.ranged (Cnf.check_zero HCZ.out).1).1.2; omega
        have hfy : 0 ≤ got.getD 0 0 ∧ got.getD 0 0 < c.frags := of_decide_eq_true (List.all_eq_true.1 HFI.out _ (getD_mem hg0))
        have hv : ∀ i, i < 8 → w14.cell? ⟨bs, i, none⟩ = some (cx (rowF (sentWords kind n 1 got at_) i)) := fun i hi => B14.out.cell (row_f (sentWords_length _ _ _ _ _) (sentWords_cx _ _ _ _ _) hi)
        have HF := Lib.hid (show arrFrags ⟨true, A', cap', refs⟩ kind n at_ got 1 = [] ++ writes (got.getD 0 0) (rowF (sentWords kind n 1 got at_)) 8 from by rw [arrFrags_one]; unfold sentF; rw [HMD.out])
        generalize rowF (sentWords kind n 1 got at_) = f at *
        generalize got.getD 0 0 = y at *
        have v0 : w14.cell? ⟨bs, 0, none⟩ = some (.complex .f64 (f 0).1 (f 0).2) := hv 0 (by omega)
        have v1 : w14.cell? ⟨bs, 1, none⟩ = some (.complex .f64 (f 1).1 (f 1).2) := hv 1 (by omega)
        have v2 : w14.cell? ⟨bs, 2, none⟩ = some (.complex .f64 (f 2).1 (f 2).2) := hv 2 (by omega)
        have v3 : w14.cell? ⟨bs, 3, none⟩ = some (.complex .f64 (f 3).1 (f 3).2) := hv 3 (by omega)
        have v4 : w14.cell? ⟨bs, 4, none⟩ = some (.complex .f64 (f 4).1 (f 4).2) := hv 4 (by omega)
        have v5 : w14.cell? ⟨bs, 5, none⟩ = some (.complex .f64 (f 5).1 (f 5).2) := hv 5 (by omega)
        have v6 : w14.cell? ⟨bs, 6, none⟩ = some (.complex .f64 (f 6).1 (f 6).2) := hv 6 (by omega)
        have v7 : w14.cell? ⟨bs, 7, none⟩ = some (.complex .f64 (f 7).1 (f 7).2) := hv 7 (by omega)
        have hbs : bs < w14.heap.size := B14.out.lt
        have HLY := Lib.hid (fun X => rput_any (.slice none 0 0) 0 [] y f (w14.patch X) w14 w14.heap.size hfy.1 (by omega) ⟨X, rfl⟩ (Nat.le_refl _) (by rw [World.size_patch]; exact Nat.le_add_right _ _) ⟨rfl, Or.inl ⟨rfl, rfl⟩⟩ (by omega))
        clear hv hcell
        go_wp2_with fail
        refine wp_region_mixed [true, true, true, true, false, false] 2 4 (by kernel_rfl) (by kernel_rfl) (by kernel_rfl) ?_ (by decide) (by decide) (by decide) (by kernel_rfl) ?_
        · intro c a d v w h; cases d <;> exact h
        intro X00
        simp only [pickOps]
        repeat (go_big_quiet_step (fail))
        refine wpQuiet_nil (fun X0 => ?_)
        clear X00
        refine wpAnyM_tailL rfl (by kernel_rfl) (fun X2 => ?_)
        simp only [List.drop_succ_cons, List.drop_zero]
        go_wp2_with fail
        refine (HLY.out _).mono ?_
        rintro e w20 ⟨v', rfl, hown, hE20, hz20⟩
        rw [← HF.out] at hown
        have HR20 := Lib.hid (show w20.ownsRow w14.heap.size 48 2 v' (8 * (0 + 1)) (arrFrags ⟨true, A', cap', refs⟩ kind n at_ got (0 + 1)) from hown)
        have HX20 := Lib.hid (show Ext w14 w20 from hE20)
        clear hown hE20 hz20 v0 v1 v2 v3 v4 v5 v6 v7 hbs g0 hfy HLY HF
        go_wp2_with fail
        go_loopw [19, 20] (fun l j wr => ∃ k : Nat, k ≤ D ∧ j = .int .i64 k ∧ Hid (wr.ownsRow w14.heap.size 48 2 l (8 * (k + 1)) (arrFrags ⟨true, A', cap', refs⟩ kind n at_ got (k + 1))) ∧ Hid (Ext w14 wr)) (fun _ j _ => D - (intOf j).toNat)
        case atStart => exact ⟨0, Nat.zero_le _, rfl, HR20, HX20⟩
        case round =>
          obtain ⟨k, hk, rfl, HR, HX⟩ := hrel
          obtain ⟨w21, rfl⟩ : ∃ w21 : World, w21 = wr := ⟨_, rfl⟩
          clear HR20 HX20
          by_cases hlt : k < D
          · have d3 : decide ((k : Int) < (D : Int)) = true := decide_eq_true (by omega)
            have HXB := Lib.hid (HBE.out.trans HX.out)
            have hsz21 : w14.heap.size ≤ w21.heap.size := Ext.size HX.out
            obtain ⟨br, or, hA2, hbr, zr⟩ := bool_at6 (HOK.out.ext (HW4.out.trans HXB.out)).refs (k := 0) (by have := HR1.out; show 0 < refs.length; omega)
            have hZR := Lib.hid (fun (wx : World) (he : Ext w21 wx) => (show wx.cell? ⟨br, or, none⟩ = some (.bool (refs.getD 0 false)) ∧ br < wx.heap.size from by
              have hz := zr
              rw [Nat.add_zero] at hz
              refine ⟨?_, Nat.lt_of_lt_of_le hbr (Ext.size he)⟩
              have h2 := he.heap br hbr
              simp only [World.cell?, h2] at hz ⊢
              exact hz))
            have hrl : 0 < refs.length := by rw [HR1.out]; decide
            clear zr hbr
            simp only at hA2
            subst hA2
            have HRB := Lib.hid (fun w' => rblank_any (refs.getD 0 false) w')
            have HDA := Lib.hid (show dataTo (wBlank (refs.getD 0 false)) 8 = cxs (dataF ⟨true, some ⟨br, or, none⟩, cap', refs⟩) from dataTo_all ⟨true, some ⟨br, or, none⟩, cap', refs⟩)
            have HAS := Lib.hid (arrFrags_succ ⟨true, some ⟨br, or, none⟩, cap', refs⟩ kind n at_ got (j := k + 1) (by omega))
            obtain ⟨p1, p2, hp⟩ := isCx_blank (refs.getD 0 false)
            rw [hp] at HRB HDA
            clear hp
            generalize refs.getD 0 false = rb at *
            have BE := Lib.hid (show Blk ⟨fun _ => 0, w21.alloc (.cells #[.complex .f64 0 0, .complex .f64 0 0, .complex .f64 0 0, .complex .f64 0 0, .complex .f64 0 0, .complex .f64 0 0, .complex .f64 0 0, .complex .f64 0 0] 74)⟩ 0 w21.heap.size 74 (dataTo (.complex .f64 p1 p2) 0) from ⟨World.row_alloc_new _, rfl⟩)
            have HXE := Lib.hid (show Ext w21 (w21.alloc (.cells #[.complex .f64 0 0, .complex .f64 0 0, .complex .f64 0 0, .complex .f64 0 0, .complex .f64 0 0, .complex .f64 0 0, .complex .f64 0 0, .complex .f64 0 0] 74)) by (repeat (first | (with_reducible assumption) | (with_reducible exact Ext.refl _) | (with_reducible exact Ext.more _ _ _ _) | apply Ext.alloc | refine Ext.setCell ?_ (by first | exact Nat.le_refl _ | exact Nat.le_add_right _ _ | assumption) _ | apply Ext.patch | apply Ext.drew | apply Ext.drewN)))
            go_wp2_with fail
            generalize w21.alloc (.cells #[.complex .f64 0 0, .complex .f64 0 0, .complex .f64 0 0, .complex .f64 0 0, .complex .f64 0 0, .complex .f64 0 0, .complex .f64 0 0, .complex .f64 0 0] 74) = w22 at *
            have hbe : w21.heap.size ≤ w21.heap.size := Nat.le_refl _
            obtain ⟨be, hbq⟩ : ∃ be, w21.heap.size = be := ⟨_, rfl⟩
            rw [hbq] at BE
            rw [hbq]
            have HBQ := Lib.hid hbq
            clear hbq hbe
            go_loopw [22] (fun i wr => ∃ q : Nat, q ≤ 8 ∧ i = .int .i64 q ∧ Hid (Blk ⟨fun _ => 0, wr⟩ 0 be 74 (dataTo (.complex .f64 p1 p2) q)) ∧ Hid (Ext w21 wr)) (fun i _ => 8 - (intOf i).toNat)
            case atStart => exact ⟨0, Nat.zero_le _, rfl, BE, HXE⟩
            case round =>
              obtain ⟨q, hq, rfl, BQ, HXQ⟩ := hrel
              obtain ⟨w23, rfl⟩ : ∃ w23 : World, w23 = wr := ⟨_, rfl⟩
              clear BE HXE
              by_cases hl8 : q < 8
              · have sa0 : w23.cell? ⟨w3.heap.size, 0, none⟩ = some (.bool true) := (by simp only [World.cell?, HBS.out _ (HXB.out.trans HXQ.out)]; rfl)
                have sa1 : w23.cell? ⟨w3.heap.size, 1, none⟩ = some (.slice (some ⟨br, or, none⟩) refs.length cap') := (by simp only [World.cell?, HBS.out _ (HXB.out.trans HXQ.out)]; rfl)
                have sal : w3.heap.size < w23.heap.size := (Array.getElem?_eq_some_iff.1 (HBS.out _ (HXB.out.trans HXQ.out))).1
                obtain ⟨zr, hbr⟩ := hZR.out _ HXQ.out
                have HDS := Lib.hid (dataTo_succ (.complex .f64 p1 p2) hl8)
                have HDL := Lib.hid (dataTo_length (.complex .f64 p1 p2) hq)
                go_wp2_with fail
                refine (HRB.out _).mono ?_
                rintro e w24 ⟨rfl, hE24⟩
                have B24 := blk0 BQ.out (show Ext w23 w24 from hE24)
                have HX24 := Lib.hid (HXQ.out.trans (show Ext w23 w24 from hE24))
                obtain ⟨vy, hvy⟩ : ∃ v, (dataTo (.complex .f64 p1 p2) q)[q]? = some v := ⟨_, List.getElem?_eq_getElem (by rw [HDL.out]; exact hl8)⟩
                have cy : w24.cell? ⟨be, q, none⟩ = some vy := B24.cell hvy
                have fy : w24.frozen? ⟨be, q, none⟩ = false := B24.live q
                have ly : be < w24.heap.size := B24.lt
                have B25 := Lib.hid (show Blk ⟨fun _ => 0, w24.setCell ⟨be, q, none⟩ (.complex .f64 p1 p2)⟩ 0 be 74 (dataTo (.complex .f64 p1 p2) (q + 1)) from by rw [← HDS.out]; exact B24.set q (.complex .f64 p1 p2))
                have HX25 := Lib.hid (ext_at HX24.out be q (show w21.heap.size ≤ be from Nat.le_of_eq HBQ.out) (.complex .f64 p1 p2))
                clear hE24 B24 HX24 sa0 sa1 sal zr hbr hvy
                go_wp2_with fail
                go_roundw
                case rel => exact ⟨q + 1, by omega, by go_num, B25, HX25⟩
                case measure => simp [intOf]; omega
              · obtain rfl : q = 8 := by omega
                have hkg : k + 1 < got.length := by have := HDD.out; omega
                obtain ⟨bh, oh, hA3, hb3, hcell⟩ := ints_at (HG.out.ext (HEW.out.trans (HX.out.trans HXQ.out))) hkg
                have g1 : w23.cell? ⟨bh, oh + (1 + k), none⟩ = some (.int .i64 (got.getD (k + 1) 0)) := by rw [Nat.add_comm 1 k]; exact hcell (k + 1) hkg
                simp only [Option.some.injEq, Addr.mk.injEq] at hA3
                obtain ⟨rfl, rfl, -⟩ := hA3
                have hfy : 0 ≤ got.getD (k + 1) 0 ∧ got.getD (k + 1) 0 < c.frags := of_decide_eq_true (List.all_eq_true.1 HFI.out _ (getD_mem hkg))
                have BQ8 := Lib.hid (show Blk ⟨fun _ => 0, w23⟩ 0 be 74 (cxs (dataF ⟨true, some ⟨br, or, none⟩, cap', refs⟩)) from by rw [← HDA.out]; exact BQ.out)
                have hv : ∀ i, i < 8 → w23.cell? ⟨be, i, none⟩ = some (cx (dataF ⟨true, some ⟨br, or, none⟩, cap', refs⟩ i)) := fun i hi => BQ8.out.cell (by unfold cxs; rw [List.getElem?_map, List.getElem?_range hi]; rfl)
                generalize dataF ⟨true, some ⟨br, or, none⟩, cap', refs⟩ = f at *
                generalize got.getD (k + 1) 0 = y at *
                have v0 : w23.cell? ⟨be, 0, none⟩ = some (.complex .f64 (f 0).1 (f 0).2) := hv 0 (by omega)
                have v1 : w23.cell? ⟨be, 1, none⟩ = some (.complex .f64 (f 1).1 (f 1).2) := hv 1 (by omega)
                have v2 : w23.cell? ⟨be, 2, none⟩ = some (.complex .f64 (f 2).1 (f 2).2) := hv 2 (by omega)
                have v3 : w23.cell? ⟨be, 3, none⟩ = some (.complex .f64 (f 3).1 (f 3).2) := hv 3 (by omega)
                have v4 : w23.cell? ⟨be, 4, none⟩ = some (.complex .f64 (f 4).1 (f 4).2) := hv 4 (by omega)
                have v5 : w23.cell? ⟨be, 5, none⟩ = some (.complex .f64 (f 5).1 (f 5).2) := hv 5 (by omega)
                have v6 : w23.cell? ⟨be, 6, none⟩ = some (.complex .f64 (f 6).1 (f 6).2) := hv 6 (by omega)
                have v7 : w23.cell? ⟨be, 7, none⟩ = some (.complex .f64 (f 7).1 (f 7).2) := hv 7 (by omega)
                have hbs : be < w23.heap.size := BQ.out.lt
                have HLY := Lib.hid (fun X => rput_any _ (8 * (k + 1)) (arrFrags ⟨true, some ⟨br, or, none⟩, cap', refs⟩ kind n at_ got (k + 1)) y f (w23.patch X) w14 w14.heap.size hfy.1 (by omega) (HX.out.trans (HXQ.out.trans ⟨X, rfl⟩)) (Nat.le_refl _) (by rw [World.size_patch]; exact Nat.le_trans hsz21 (Nat.le_trans (Ext.size HXQ.out) (Nat.le_add_right _ _))) (own_ext HR.out (HXQ.out.trans ⟨X, rfl⟩)) (by have := HDD.out; omega))
                clear hv hcell hfy
                go_wp2_with fail
                refine wp_region_mixed [true, true, true, true, true, true, true, false, false] 2 7 (by kernel_rfl) (by kernel_rfl) (by kernel_rfl) ?_ (by decide) (by decide) (by decide) (by kernel_rfl) ?_
                · intro c a d v w h; cases d <;> exact h
                intro X00
                simp only [pickOps]
                repeat (go_big_quiet_step (fail))
                refine wpQuiet_nil (fun X0 => ?_)
                clear X00
                refine wpAnyM_tailL rfl (by kernel_rfl) (fun X2 => ?_)
                simp only [List.drop_succ_cons, List.drop_zero]
                go_wp2_with fail
                refine (HLY.out _).mono ?_
                rintro e w26 ⟨v', rfl, hown, hE26, hz26⟩
                rw [← HAS.out] at hown
                have HR6 := Lib.hid (show w26.ownsRow w14.heap.size 48 2 v' (8 * (k + 1 + 1)) (arrFrags ⟨true, some ⟨br, or, none⟩, cap', refs⟩ kind n at_ got (k + 1 + 1)) from hown)
                have HX6b := Lib.hid (show Ext w14 w26 from hE26)
                clear hown hE26 hz26 v0 v1 v2 v3 v4 v5 v6 v7 hbs g1
                go_wp2_with fail
                go_roundw
                case rel => exact ⟨k + 1, by omega, by go_num, HR6, HX6b⟩
                case measure => simp [intOf]; omega
          · obtain rfl : k = D := by omega
            obtain ⟨i0, hi0, hz0, hz1, hz2⟩ := info_parts infoWrite
            have HE := Lib.hid (show arrE c (c.shapeAt kind).isSome ⟨true, A', cap', refs⟩ n got at_ = 0 from by unfold arrE; rw [if_pos HWE.out, HMD.out, HSPV.out, HBG.out]; rfl)
            have HLN2 := Lib.hid (show got.length = k + 1 from HDD.out.1)
            have hab := begins_bd HBG.out
            have hk64 : k ≤ 64 := HDD.out.2.1
            have e2 := IntWalk.i64_in (at_ + 1) (by omega)
            have hg0 : 0 < got.length := by have := HDD.out; omega
            obtain ⟨bh, oh, hA, hb, hcell⟩ := ints_at (HG.out.ext (HEW.out.trans HX.out)) hg0
            have g0 : w21.cell? ⟨bh, oh, none⟩ = some (.int .i64 (got.getD 0 0)) := by have h := hcell 0 hg0; rwa [Nat.add_zero] at h
            simp only [Option.some.injEq, Addr.mk.injEq] at hA
            obtain ⟨rfl, rfl, -⟩ := hA
            have HRF := Lib.hid (fun w' => rref_all (got.getD 0 0) w')
            have HWL := Lib.hid (fun w' => rwhole_all (k : Int) w')
            have HS0 := Lib.hid (show spineW got at_ 0 = [.int .i64 at_, wRef (got.getD 0 0), .int .i64 (at_ + 1), wWhole (k : Int)] from by unfold spineW; rw [show (got.length : Int) - 1 = (k : Int) from by rw [HLN2.out]; omega])
            obtain ⟨p1, q1, hp1⟩ := isCx_ref (got.getD 0 0)
            obtain ⟨p2, q2, hp2⟩ := isCx_whole (k : Int)
            rw [hp1] at HRF HS0
            rw [hp2] at HWL HS0
            clear hp1 hp2 hcell
            generalize got.getD 0 0 = y0 at *
            go_wp2_with fail
            refine (HRF.out _).mono ?_
            rintro e w30 ⟨rfl, hE30⟩
            have HX30 := Lib.hid (HX.out.trans (show Ext w21 w30 from hE30))
            have HR30 := Lib.hid (own_ext HR.out (show Ext w21 w30 from hE30))
            clear hE30
            go_wp2_with fail
            refine (HWL.out _).mono ?_
            rintro e w31 ⟨rfl, hE31⟩
            have HX31 := Lib.hid (HX30.out.trans (show Ext w30 w31 from hE31))
            have HR31 := Lib.hid (own_ext HR30.out (show Ext w30 w31 from hE31))
            have hsz31 : w14.heap.size ≤ w31.heap.size := Ext.size HX31.out
            clear hE31 HX30 HR30
            go_wp2_with (at_builtin; refine wpList_append_own_at _ rfl (.tmp 157) (.tmp 169) 28 rfl w14.heap.size 48 i0 (.agg #[.int .i64 0, .complex .f64 0 0]) 2 24 Try.underlying28 hi0 hz0 hz1 hz2 rfl (by decide) _ (8 * (k + 1)) _ rfl (own_ext HR31.out (show Ext w31 _ by (repeat (first | (with_reducible assumption) | (with_reducible exact Ext.refl _) | (with_reducible exact Ext.more _ _ _ _) | apply Ext.alloc | refine Ext.setCell ?_ (by first | exact Nat.le_refl _ | exact Nat.le_add_right _ _ | assumption) _ | apply Ext.patch | apply Ext.drew | apply Ext.drewN)))) _ 2 2 [.int .i64 at_, .complex .f64 p1 q1, .int .i64 (at_ + 1), .complex .f64 p2 q2] rfl rfl (news_new _ _ _) (by intro u hu; simp at hu; rcases hu with rfl | rfl | rfl | rfl <;> rfl) (by unfold maxLen; omega) (by omega) (Nat.le_trans hsz31 (Ext.size (show Ext w31 _ by (repeat (first | (with_reducible assumption) | (with_reducible exact Ext.refl _) | (with_reducible exact Ext.more _ _ _ _) | apply Ext.alloc | refine Ext.setCell ?_ (by first | exact Nat.le_refl _ | exact Nat.le_add_right _ _ | assumption) _ | apply Ext.patch | apply Ext.drew | apply Ext.drewN))))) ?_; intro v1 w32 hown32 hgrow32 _ hblk32)
            have HR32 := Lib.hid (show w32.ownsRow w14.heap.size 48 2 v1 (8 * (k + 1) + 2 + 0) (arrFrags ⟨true, A', cap', refs⟩ kind n at_ got (k + 1) ++ spineW got at_ 0) from by rw [HS0.out]; exact hown32)
            have HX32 := Lib.hid (show Ext w14 w32 from ext_grown (HX31.out.trans (show Ext w31 _ by (repeat (first | (with_reducible assumption) | (with_reducible exact Ext.refl _) | (with_reducible exact Ext.more _ _ _ _) | apply Ext.alloc | refine Ext.setCell ?_ (by first | exact Nat.le_refl _ | exact Nat.le_add_right _ _ | assumption) _ | apply Ext.patch | apply Ext.drew | apply Ext.drewN)))) hgrow32 (fun q hq => (HR31.out.lt q hq).1))
            clear hown32 hgrow32 hblk32 HR31 HX31 hsz31 g0
            go_loopw [19, 23] (fun l j wr => ∃ q : Nat, q ≤ k ∧ j = .int .i64 q ∧ Hid (wr.ownsRow w14.heap.size 48 2 l (8 * (k + 1) + 2 + q) (arrFrags ⟨true, A', cap', refs⟩ kind n at_ got (k + 1) ++ spineW got at_ q)) ∧ Hid (Ext w14 wr)) (fun _ j _ => k - (intOf j).toNat)
            case atStart => exact ⟨0, Nat.zero_le _, rfl, HR32, HX32⟩
            case round =>
              obtain ⟨q, hq, rfl, HRq, HXq⟩ := hrel
              obtain ⟨w33, rfl⟩ : ∃ w33 : World, w33 = wr := ⟨_, rfl⟩
              clear HR32 HX32
              by_cases hqk : q < k
              · have d5 : decide ((q : Int) < (k : Int)) = true := decide_eq_true (by omega)
                have hkg : q + 1 < got.length := by have := HDD.out; omega
                obtain ⟨bj, oj, hA, hb, hcell⟩ := ints_at (HG.out.ext (HEW.out.trans HXq.out)) hkg
                have g1 : w33.cell? ⟨bj, oj + (1 + q), none⟩ = some (.int .i64 (got.getD (q + 1) 0)) := by rw [Nat.add_comm 1 q]; exact hcell (q + 1) hkg
                simp only [Option.some.injEq, Addr.mk.injEq] at hA
                obtain ⟨rfl, rfl, -⟩ := hA
                have HRF2 := Lib.hid (fun w' => rref_all (got.getD (q + 1) 0) w')
                have HSq := Lib.hid (show spineW got at_ (q + 1) = spineW got at_ q ++ [.int .i64 (at_ + 2 + q), wRef (got.getD (q + 1) 0)] from rfl)
                obtain ⟨p3, q3, hp3⟩ := isCx_ref (got.getD (q + 1) 0)
                rw [hp3] at HRF2 HSq
                clear hp3 hcell
                generalize got.getD (q + 1) 0 = y at *
                have e3 := IntWalk.i64_in (at_ + 2) (by omega)
                have e4 := IntWalk.i64_in (at_ + 2 + q) (by omega)
                go_wp2_with fail
                refine (HRF2.out _).mono ?_
                rintro e w34 ⟨rfl, hE34⟩
                have HX34 := Lib.hid (HXq.out.trans (show Ext w33 w34 from hE34))
                have HR34 := Lib.hid (own_ext HRq.out (show Ext w33 w34 from hE34))
                have hsz34 : w14.heap.size ≤ w34.heap.size := Ext.size HX34.out
                clear hE34 HRq HXq g1
                go_wp2_with (at_builtin; refine wpList_append_own_at _ rfl (.tmp 176) (.tmp 188) 28 rfl w14.heap.size 48 i0 (.agg #[.int .i64 0, .complex .f64 0 0]) 2 24 Try.underlying28 hi0 hz0 hz1 hz2 rfl (by decide) _ (8 * (k + 1) + 2 + q) _ rfl (own_ext HR34.out (show Ext w34 _ by (repeat (first | (with_reducible assumption) | (with_reducible exact Ext.refl _) | (with_reducible exact Ext.more _ _ _ _) | apply Ext.alloc | refine Ext.setCell ?_ (by first | exact Nat.le_refl _ | exact Nat.le_add_right _ _ | assumption) _ | apply Ext.patch | apply Ext.drew | apply Ext.drewN)))) _ 1 1 [.int .i64 (at_ + 2 + q), .complex .f64 p3 q3] rfl rfl (news_new _ _ _) (by intro u hu; simp at hu; rcases hu with rfl | rfl <;> rfl) (by unfold maxLen; omega) (by omega) (Nat.le_trans hsz34 (Ext.size (show Ext w34 _ by (repeat (first | (with_reducible assumption) | (with_reducible exact Ext.refl _) | (with_reducible exact Ext.more _ _ _ _) | apply Ext.alloc | refine Ext.setCell ?_ (by first | exact Nat.le_refl _ | exact Nat.le_add_right _ _ | assumption) _ | apply Ext.patch | apply Ext.drew | apply Ext.drewN))))) ?_; intro v2 w35 hown35 hgrow35 _ hblk35)
                have HR35 := Lib.hid (show w35.ownsRow w14.heap.size 48 2 v2 (8 * (k + 1) + 2 + (q + 1)) (arrFrags ⟨true, A', cap', refs⟩ kind n at_ got (k + 1) ++ spineW got at_ (q + 1)) from by rw [HSq.out, ← List.append_assoc]; exact hown35)
                have HX35 := Lib.hid (show Ext w14 w35 from ext_grown (HX34.out.trans (show Ext w34 _ by (repeat (first | (with_reducible assumption) | (with_reducible exact Ext.refl _) | (with_reducible exact Ext.more _ _ _ _) | apply Ext.alloc | refine Ext.setCell ?_ (by first | exact Nat.le_refl _ | exact Nat.le_add_right _ _ | assumption) _ | apply Ext.patch | apply Ext.drew | apply Ext.drewN)))) hgrow35 (fun q hq => (HR34.out.lt q hq).1))
                clear hown35 hgrow35 hblk35 HR34 HX34 hsz34
                go_roundw
                case rel => exact ⟨q + 1, by omega, by go_num, HR35, HX35⟩
                case measure => simp [intOf]; omega
              · obtain rfl : q = k := by omega
                have d5 : decide ((q : Int) < (q : Int)) = false := decide_eq_false (by omega)
                go_wp2_with fail
                go_ret2
                exact ⟨⟨true, A', cap', refs⟩, _, 8 * (q + 1) + 2 + q, by rw [HE.out]; rfl, HP.out, by
                  rw [if_pos HE.out]
                  unfold arrWrites
                  rw [HMD.out, if_pos rfl, HLN2.out, Nat.add_sub_cancel]
                  exact own_lower HRq.out (Ext.size HEW.out), HEW.out.trans HXq.out⟩
    · have HMD := Lib.hid (show arrMode n got = 2 from by unfold arrMode modeOf; rw [if_neg h4, hsd, if_pos rfl])
      rw [hsd] at HSD
      clear hsp h4 hsb hsb2 hsd
      go_wp2_with fail
      refine (HSPN.out _ (HW4.out.trans HX6.out)).mono ?_
      rintro e w7 ⟨rfl, hE⟩
      have HX7 := Lib.hid (show Ext w6 w7 from hE)
      clear hE sa0 sa1 sal
      go_wp2_with fail
      refine (HSD.out _ (HE3.out.trans (HW4.out.trans (HX6.out.trans HX7.out)))).mono ?_
      rintro e w8 ⟨rfl, hE⟩
      have HX8 := Lib.hid (HX7.out.trans (show Ext w7 w8 from hE))
      clear hE HX7
      go_wp2_with fail
      have HHD := Lib.hid (fun w' => rhead_all kind 0 w')
      have HW1 := Lib.hid (fun w' => rwhole_all n w')
      have HW2 := Lib.hid (fun w' => rwhole_all 2 w')
      obtain ⟨h1, h2, hh⟩ := isCx_head kind 0
      obtain ⟨n1, n2, hn⟩ := isCx_whole n
      obtain ⟨m1, m2, hm⟩ := isCx_whole 2
      have HHH := Lib.hid hh
      have HNN := Lib.hid hn
      have HMM := Lib.hid hm
      rw [hh] at HHD
      rw [hn] at HW1
      rw [hm] at HW2
      clear hh hn hm
      have B9 := Lib.hid (show Blk ⟨fun _ => 0, w8.alloc (.cells #[.complex .f64 0 0, .complex .f64 0 0, .complex .f64 0 0, .complex .f64 0 0, .complex .f64 0 0, .complex .f64 0 0, .complex .f64 0 0, .complex .f64 0 0] 74)⟩ 0 w8.heap.size 74 zero8 from ⟨World.row_alloc_new _, rfl⟩)
      have HX9 := Lib.hid (HX8.out.trans (show Ext w8 (w8.alloc (.cells #[.complex .f64 0 0, .complex .f64 0 0, .complex .f64 0 0, .complex .f64 0 0, .complex .f64 0 0, .complex .f64 0 0, .complex .f64 0 0, .complex .f64 0 0] 74)) by (repeat (first | (with_reducible assumption) | (with_reducible exact Ext.refl _) | (with_reducible exact Ext.more _ _ _ _) | apply Ext.alloc | refine Ext.setCell ?_ (by first | exact Nat.le_refl _ | exact Nat.le_add_right _ _ | assumption) _ | apply Ext.patch | apply Ext.drew | apply Ext.drewN))))
      have hsz9 : w6.heap.size ≤ w8.heap.size := Ext.size HX8.out
      generalize w8.alloc (.cells #[.complex .f64 0 0, .complex .f64 0 0, .complex .f64 0 0, .complex .f64 0 0, .complex .f64 0 0, .complex .f64 0 0, .complex .f64 0 0, .complex .f64 0 0] 74) = w9 at *
      generalize w8.heap.size = bs at *
      refine (rnone_any _).mono ?_
      rintro e w9' ⟨rfl, rfl⟩
      go_wp2_with fail
      refine (HHD.out _).mono ?_
      rintro e w10 ⟨rfl, hE10⟩
      have HX10 := Lib.hid (show Ext w9 w10 from hE10)
      clear hE10
      go_wp2_with fail
      refine (HW1.out _).mono ?_
      rintro e w11 ⟨rfl, hE11⟩
      have HX11 := Lib.hid (HX10.out.trans (show Ext w10 w11 from hE11))
      clear hE11 HX10
      go_wp2_with fail
      refine (HW2.out _).mono ?_
      rintro e w12 ⟨rfl, hE12⟩
      have HX12 := Lib.hid (HX11.out.trans (show Ext w11 w12 from hE12))
      have B12 := blk0 B9.out HX12.out
      clear hE12 HX11 B9
      have c0 : w12.cell? ⟨bs, 0, none⟩ = some (.complex .f64 0 0) := B12.cell (i := 0) rfl
      have c1 : w12.cell? ⟨bs, 1, none⟩ = some (.complex .f64 0 0) := B12.cell (i := 1) rfl
      have c2 : w12.cell? ⟨bs, 2, none⟩ = some (.complex .f64 0 0) := B12.cell (i := 2) rfl
      have c3 : w12.cell? ⟨bs, 3, none⟩ = some (.complex .f64 0 0) := B12.cell (i := 3) rfl
      have f0 : w12.frozen? ⟨bs, 0, none⟩ = false := B12.live 0
      have f1 : w12.frozen? ⟨bs, 1, none⟩ = false := B12.live 1
      have f2 : w12.frozen? ⟨bs, 2, none⟩ = false := B12.live 2
      have f3 : w12.frozen? ⟨bs, 3, none⟩ = false := B12.live 3
      have fl : bs < w12.heap.size := B12.lt
      have B13 := Lib.hid (show Blk ⟨fun _ => 0, (((w12.setCell ⟨bs, 0, none⟩ (.complex .f64 0 4607182418800017408)).setCell ⟨bs, 1, none⟩ (.complex .f64 h1 h2)).setCell ⟨bs, 2, none⟩ (.complex .f64 n1 n2)).setCell ⟨bs, 3, none⟩ (.complex .f64 m1 m2)⟩ 0 bs 74 [wNone, wHead kind 0, wWhole n, wWhole 2, wZero, wZero, wZero, wZero] from by
        rw [HHH.out, HNN.out, HMM.out]
        exact (((B12.set 0 (.complex .f64 0 4607182418800017408)).set 1 (.complex .f64 h1 h2)).set 2 (.complex .f64 n1 n2)).set 3 (.complex .f64 m1 m2))
      have HX13 := Lib.hid (ext_at (ext_at (ext_at (ext_at (HX9.out.trans HX12.out) bs 0 hsz9 (.complex .f64 0 4607182418800017408)) bs 1 hsz9 (.complex .f64 h1 h2)) bs 2 hsz9 (.complex .f64 n1 n2)) bs 3 hsz9 (.complex .f64 m1 m2))
      clear B12 HX12 HX9
      go_upto_if 119 with fail
      generalize (((w12.setCell ⟨bs, 0, none⟩ (.complex .f64 0 4607182418800017408)).setCell ⟨bs, 1, none⟩ (.complex .f64 h1 h2)).setCell ⟨bs, 2, none⟩ (.complex .f64 n1 n2)).setCell ⟨bs, 3, none⟩ (.complex .f64 m1 m2) = w13 at *
      clear c0 c1 c2 c3 f0 f1 f2 f3 fl
      have hkg : 1 < got.length := by have := HDD.out; have := H4.out; omega
      obtain ⟨bg, og, hA, hb, hcell⟩ := ints_at (HG.out.ext (HE3.out.trans (HW4.out.trans (HX6.out.trans HX13.out)))) hkg
      have g1 := hcell 1 hkg
      subst hA
      have HRF := Lib.hid (fun w' => rref_all (got.getD 1 0) w')
      obtain ⟨p1, p2, hp⟩ := isCx_ref (got.getD 1 0)
      rw [hp] at HRF
      have HSI := Lib.hid hp
      clear hp hcell
      generalize hyy : got.getD 1 0 = y at *
      have HYY := Lib.hid hyy
      clear hyy
      go_wp2_with fail
      refine (HRF.out _).mono ?_
      rintro e w14 ⟨rfl, hE14⟩
      have B14 := blk0 B13.out (show Ext w13 w14 from hE14)
      have HX14 := Lib.hid (HX13.out.trans (show Ext w13 w14 from hE14))
      have cy : w14.cell? ⟨bs, 4, none⟩ = some wZero := B14.cell (i := 4) rfl
      have fy : w14.frozen? ⟨bs, 4, none⟩ = false := B14.live 4
      have ly : bs < w14.heap.size := B14.lt
      have B15 := Lib.hid (show Blk ⟨fun _ => 0, w14.setCell ⟨bs, 4, none⟩ (.complex .f64 p1 p2)⟩ 0 bs 74 (sentWords kind n 2 got at_) from by
        have h := B14.set 4 (.complex .f64 p1 p2)
        rw [show sentWords kind n 2 got at_ = [wNone, wHead kind 0, wWhole n, wWhole 2, .complex .f64 p1 p2, wZero, wZero, wZero] from by rw [← HSI.out, ← HYY.out]; rfl]
        exact h)
      have HX15 := Lib.hid (ext_at HX14.out bs 4 (show w6.heap.size ≤ bs from hsz9) (.complex .f64 p1 p2))
      clear hE14 B14 HX14 B13 HX13 g1
      go_upto_region 33 with fail
      generalize w14.setCell ⟨bs, 4, none⟩ (.complex .f64 p1 p2) = w15 at *
      clear cy fy ly
      obtain ⟨w14, rfl⟩ : ∃ w14 : World, w14 = w15 := ⟨_, rfl⟩
      have B14 := B15
      have HX14 := HX15
      clear B15 HX15
      have hg0 : 0 < got.length := by have := HDD.out; omega
      have HEW := Lib.hid (HE3.out.trans (HW4.out.trans (HX6.out.trans HX14.out)))
      have HBE := Lib.hid (HX6.out.trans HX14.out)
      obtain ⟨bg, og, hA, hb, hcell⟩ := ints_at (HG.out.ext HEW.out) hg0
      have g0 : w14.cell? ⟨bg, og, none⟩ = some (.int .i64 (got.getD 0 0)) := by have h := hcell 0 hg0; rwa [Nat.add_zero] at h
      (first | subst hA | (simp only [Option.some.injEq, Addr.mk.injEq] at hA; obtain ⟨rfl, rfl, -⟩ := hA))
      have hfg : c.frags ≤ 1099511627776 := by have := (Cnf.ranged (Cnf.check_zero HCZ.out).1).1.2; omega
      have hfy : 0 ≤ got.getD 0 0 ∧ got.getD 0 0 < c.frags := of_decide_eq_true (List.all_eq_true.1 HFI.out _ (getD_mem hg0))
      have hv : ∀ i, i < 8 → w14.cell? ⟨bs, i, none⟩ = some (cx (rowF (sentWords kind n 2 got at_) i)) := fun i hi => B14.out.cell (row_f (sentWords_length _ _ _ _ _) (sentWords_cx _ _ _ _ _) hi)
      have HF := Lib.hid (show arrFrags ⟨true, A', cap', refs⟩ kind n at_ got 1 = [] ++ writes (got.getD 0 0) (rowF (sentWords kind n 2 got at_)) 8 from by rw [arrFrags_one]; unfold sentF; rw [HMD.out])
      generalize rowF (sentWords kind n 2 got at_) = f at *
      generalize got.getD 0 0 = y at *
      have v0 : w14.cell? ⟨bs, 0, none⟩ = some (.complex .f64 (f 0).1 (f 0).2) := hv 0 (by omega)
      have v1 : w14.cell? ⟨bs, 1, none⟩ = some (.complex .f64 (f 1).1 (f 1).2) := hv 1 (by omega)
      have v2 : w14.cell? ⟨bs, 2, none⟩ = some (.complex .f64 (f 2).1 (f 2).2) := hv 2 (by omega)
      have v3 : w14.cell? ⟨bs, 3, none⟩ = some (.complex .f64 (f 3).1 (f 3).2) := hv 3 (by omega)
      have v4 : w14.cell? ⟨bs, 4, none⟩ = some (.complex .f64 (f 4).1 (f 4).2) := hv 4 (by omega)
      have v5 : w14.cell? ⟨bs, 5, none⟩ = some (.complex .f64 (f 5).1 (f 5).2) := hv 5 (by omega)
      have v6 : w14.cell? ⟨bs, 6, none⟩ = some (.complex .f64 (f 6).1 (f 6).2) := hv 6 (by omega)
      have v7 : w14.cell? ⟨bs, 7, none⟩ = some (.complex .f64 (f 7).1 (f 7).2) := hv 7 (by omega)
      have hbs : bs < w14.heap.size := B14.out.lt
      have HLY := Lib.hid (fun X => rput_any (.slice none 0 0) 0 [] y f (w14.patch X) w14 w14.heap.size hfy.1 (by omega) ⟨X, rfl⟩ (Nat.le_refl _) (by rw [World.size_patch]; exact Nat.le_add_right _ _) ⟨rfl, Or.inl ⟨rfl, rfl⟩⟩ (by omega))
      clear hv hcell
      go_wp2_with fail
      refine wp_region_mixed [true, true, true, true, false, false] 2 4 (by kernel_rfl) (by kernel_rfl) (by kernel_rfl) ?_ (by decide) (by decide) (by decide) (by kernel_rfl) ?_
      · intro c a d v w h; cases d <;> exact h
      intro X00
      simp only [pickOps]
      repeat (go_big_quiet_step (fail))
      refine wpQuiet_nil (fun X0 => ?_)
      clear X00
      refine wpAnyM_tailL rfl (by kernel_rfl) (fun X2 => ?_)
      simp only [List.drop_succ_cons, List.drop_zero]
      go_wp2_with fail
      refine (HLY.out _).mono ?_
      rintro e w20 ⟨v', rfl, hown, hE20, hz20⟩
      rw [← HF.out] at hown
      have HR20 := Lib.hid (show w20.ownsRow w14.heap.size 48 2 v' (8 * (0 + 1)) (arrFrags ⟨true, A', cap', refs⟩ kind n at_ got (0 + 1)) from hown)
      have HX20 := Lib.hid (show Ext w14 w20 from hE20)
      clear hown hE20 hz20 v0 v1 v2 v3 v4 v5 v6 v7 hbs g0 hfy HLY HF
      go_wp2_with fail
      go_loopw [19, 20] (fun l j wr => ∃ k : Nat, k ≤ D ∧ j = .int .i64 k ∧ Hid (wr.ownsRow w14.heap.size 48 2 l (8 * (k + 1)) (arrFrags ⟨true, A', cap', refs⟩ kind n at_ got (k + 1))) ∧ Hid (Ext w14 wr)) (fun _ j _ => D - (intOf j).toNat)
      case atStart => exact ⟨0, Nat.zero_le _, rfl, HR20, HX20⟩
      case round =>
        obtain ⟨k, hk, rfl, HR, HX⟩ := hrel
        obtain ⟨w21, rfl⟩ : ∃ w21 : World, w21 = wr := ⟨_, rfl⟩
        clear HR20 HX20
        by_cases hlt : k < D
        · have d3 : decide ((k : Int) < (D : Int)) = true := decide_eq_true (by omega)
          have HXB := Lib.hid (HBE.out.trans HX.out)
          have hsz21 : w14.heap.size ≤ w21.heap.size := Ext.size HX.out
          obtain ⟨br, or, hA2, hbr, zr⟩ := bool_at6 (HOK.out.ext (HW4.out.trans HXB.out)).refs (k := 0) (by have := HR1.out; show 0 < refs.length; omega)
          have hZR := Lib.hid (fun (wx : World) (he : Ext w21 wx) => (show wx.cell? ⟨br, or, none⟩ = some (.bool (refs.getD 0 false)) ∧ br < wx.heap.size from by
            have hz := zr
            rw [Nat.add_zero] at hz
            refine ⟨?_, Nat.lt_of_lt_of_le hbr (Ext.size he)⟩
            have h2 := he.heap br hbr
            simp only [World.cell?, h2] at hz ⊢
            exact hz))
          have hrl : 0 < refs.length := by rw [HR1.out]; decide
          clear zr hbr
          simp only at hA2
          subst hA2
          have HRB := Lib.hid (fun w' => rblank_any (refs.getD 0 false) w')
          have HDA := Lib.hid (show dataTo (wBlank (refs.getD 0 false)) 8 = cxs (dataF ⟨true, some ⟨br, or, none⟩, cap', refs⟩) from dataTo_all ⟨true, some ⟨br, or, none⟩, cap', refs⟩)
          have HAS := Lib.hid (arrFrags_succ ⟨true, some ⟨br, or, none⟩, cap', refs⟩ kind n at_ got (j := k + 1) (by omega))
          obtain ⟨p1, p2, hp⟩ := isCx_blank (refs.getD 0 false)
          rw [hp] at HRB HDA
          clear hp
          generalize refs.getD 0 false = rb at *
          have BE := Lib.hid (show Blk ⟨fun _ => 0, w21.alloc (.cells #[.complex .f64 0 0, .complex .f64 0 0, .complex .f64 0 0, .complex .f64 0 0, .complex .f64 0 0, .complex .f64 0 0, .complex .f64 0 0, .complex .f64 0 0] 74)⟩ 0 w21.heap.size 74 (dataTo (.complex .f64 p1 p2) 0) from ⟨World.row_alloc_new _, rfl⟩)
          have HXE := Lib.hid (show Ext w21 (w21.alloc (.cells #[.complex .f64 0 0, .complex .f64 0 0, .complex .f64 0 0, .complex .f64 0 0, .complex .f64 0 0, .complex .f64 0 0, .complex .f64 0 0, .complex .f64 0 0] 74)) by (repeat (first | (with_reducible assumption) | (with_reducible exact Ext.refl _) | (with_reducible exact Ext.more _ _ _ _) | apply Ext.alloc | refine Ext.setCell ?_ (by first | exact Nat.le_refl _ | exact Nat.le_add_right _ _ | assumption) _ | apply Ext.patch | apply Ext.drew | apply Ext.drewN)))
          go_wp2_with fail
          generalize w21.alloc (.cells #[.complex .f64 0 0, .complex .f64 0 0, .complex .f64 0 0, .complex .f64 0 0, .complex .f64 0 0, .complex .f64 0 0, .complex .f64 0 0, .complex .f64 0 0] 74) = w22 at *
          have hbe : w21.heap.size ≤ w21.heap.size := Nat.le_refl _
          obtain ⟨be, hbq⟩ : ∃ be, w21.heap.size = be := ⟨_, rfl⟩
          rw [hbq] at BE
          rw [hbq]
          have HBQ := Lib.hid hbq
          clear hbq hbe
          go_loopw [22] (fun i wr => ∃ q : Nat, q ≤ 8 ∧ i = .int .i64 q ∧ Hid (Blk ⟨fun _ => 0, wr⟩ 0 be 74 (dataTo (.complex .f64 p1 p2) q)) ∧ Hid (Ext w21 wr)) (fun i _ => 8 - (intOf i).toNat)
          case atStart => exact ⟨0, Nat.zero_le _, rfl, BE, HXE⟩
          case round =>
            obtain ⟨q, hq, rfl, BQ, HXQ⟩ := hrel
            obtain ⟨w23, rfl⟩ : ∃ w23 : World, w23 = wr := ⟨_, rfl⟩
            clear BE HXE
            by_cases hl8 : q < 8
            · have sa0 : w23.cell? ⟨w3.heap.size, 0, none⟩ = some (.bool true) := (by simp only [World.cell?, HBS.out _ (HXB.out.trans HXQ.out)]; rfl)
              have sa1 : w23.cell? ⟨w3.heap.size, 1, none⟩ = some (.slice (some ⟨br, or, none⟩) refs.length cap') := (by simp only [World.cell?, HBS.out _ (HXB.out.trans HXQ.out)]; rfl)
              have sal : w3.heap.size < w23.heap.size := (Array.getElem?_eq_some_iff.1 (HBS.out _ (HXB.out.trans HXQ.out))).1
              obtain ⟨zr, hbr⟩ := hZR.out _ HXQ.out
              have HDS := Lib.hid (dataTo_succ (.complex .f64 p1 p2) hl8)
              have HDL := Lib.hid (dataTo_length (.complex .f64 p1 p2) hq)
              go_wp2_with fail
              refine (HRB.out _).mono ?_
              rintro e w24 ⟨rfl, hE24⟩
              have B24 := blk0 BQ.out (show Ext w23 w24 from hE24)
              have HX24 := Lib.hid (HXQ.out.trans (show Ext w23 w24 from hE24))
              obtain ⟨vy, hvy⟩ : ∃ v, (dataTo (.complex .f64 p1 p2) q)[q]? = some v := ⟨_, List.getElem?_eq_getElem (by rw [HDL.out]; exact hl8)⟩
              have cy : w24.cell? ⟨be, q, none⟩ = some vy := B24.cell hvy
              have fy : w24.frozen? ⟨be, q, none⟩ = false := B24.live q
              have ly : be < w24.heap.size := B24.lt
              have B25 := Lib.hid (show Blk ⟨fun _ => 0, w24.setCell ⟨be, q, none⟩ (.complex .f64 p1 p2)⟩ 0 be 74 (dataTo (.complex .f64 p1 p2) (q + 1)) from by rw [← HDS.out]; exact B24.set q (.complex .f64 p1 p2))
              have HX25 := Lib.hid (ext_at HX24.out be q (show w21.heap.size ≤ be from Nat.le_of_eq HBQ.out) (.complex .f64 p1 p2))
              clear hE24 B24 HX24 sa0 sa1 sal zr hbr hvy
              go_wp2_with fail
              go_roundw
              case rel => exact ⟨q + 1, by omega, by go_num, B25, HX25⟩
              case measure => simp [intOf]; omega
            · obtain rfl : q = 8 := by omega
              have hkg : k + 1 < got.length := by have := HDD.out; omega
              obtain ⟨bh, oh, hA3, hb3, hcell⟩ := ints_at (HG.out.ext (HEW.out.trans (HX.out.trans HXQ.out))) hkg
              have g1 : w23.cell? ⟨bh, oh + (1 + k), none⟩ = some (.int .i64 (got.getD (k + 1) 0)) := by rw [Nat.add_comm 1 k]; exact hcell (k + 1) hkg
              simp only [Option.some.injEq, Addr.mk.injEq] at hA3
              obtain ⟨rfl, rfl, -⟩ := hA3
              have hfy : 0 ≤ got.getD (k + 1) 0 ∧ got.getD (k + 1) 0 < c.frags := of_decide_eq_true (List.all_eq_true.1 HFI.out _ (getD_mem hkg))
              have BQ8 := Lib.hid (show Blk ⟨fun _ => 0, w23⟩ 0 be 74 (cxs (dataF ⟨true, some ⟨br, or, none⟩, cap', refs⟩)) from by rw [← HDA.out]; exact BQ.out)
              have hv : ∀ i, i < 8 → w23.cell? ⟨be, i, none⟩ = some (cx (dataF ⟨true, some ⟨br, or, none⟩, cap', refs⟩ i)) := fun i hi => BQ8.out.cell (by unfold cxs; rw [List.getElem?_map, List.getElem?_range hi]; rfl)
              generalize dataF ⟨true, some ⟨br, or, none⟩, cap', refs⟩ = f at *
              generalize got.getD (k + 1) 0 = y at *
              have v0 : w23.cell? ⟨be, 0, none⟩ = some (.complex .f64 (f 0).1 (f 0).2) := hv 0 (by omega)
              have v1 : w23.cell? ⟨be, 1, none⟩ = some (.complex .f64 (f 1).1 (f 1).2) := hv 1 (by omega)
              have v2 : w23.cell? ⟨be, 2, none⟩ = some (.complex .f64 (f 2).1 (f 2).2) := hv 2 (by omega)
              have v3 : w23.cell? ⟨be, 3, none⟩ = some (.complex .f64 (f 3).1 (f 3).2) := hv 3 (by omega)
              have v4 : w23.cell? ⟨be, 4, none⟩ = some (.complex .f64 (f 4).1 (f 4).2) := hv 4 (by omega)
              have v5 : w23.cell? ⟨be, 5, none⟩ = some (.complex .f64 (f 5).1 (f 5).2) := hv 5 (by omega)
              have v6 : w23.cell? ⟨be, 6, none⟩ = some (.complex .f64 (f 6).1 (f 6).2) := hv 6 (by omega)
              have v7 : w23.cell? ⟨be, 7, none⟩ = some (.complex .f64 (f 7).1 (f 7).2) := hv 7 (by omega)
              have hbs : be < w23.heap.size := BQ.out.lt
              have HLY := Lib.hid (fun X => rput_any _ (8 * (k + 1)) (arrFrags ⟨true, some ⟨br, or, none⟩, cap', refs⟩ kind n at_ got (k + 1)) y f (w23.patch X) w14 w14.heap.size hfy.1 (by omega) (HX.out.trans (HXQ.out.trans ⟨X, rfl⟩)) (Nat.le_refl _) (by rw [World.size_patch]; exact Nat.le_trans hsz21 (Nat.le_trans (Ext.size HXQ.out) (Nat.le_add_right _ _))) (own_ext HR.out (HXQ.out.trans ⟨X, rfl⟩)) (by have := HDD.out; omega))
              clear hv hcell hfy
              go_wp2_with fail
              refine wp_region_mixed [true, true, true, true, true, true, true, false, false] 2 7 (by kernel_rfl) (by kernel_rfl) (by kernel_rfl) ?_ (by decide) (by decide) (by decide) (by kernel_rfl) ?_
              · intro c a d v w h; cases d <;> exact h
              intro X00
              simp only [pickOps]
              repeat (go_big_quiet_step (fail))
              refine wpQuiet_nil (fun X0 => ?_)
              clear X00
              refine wpAnyM_tailL rfl (by kernel_rfl) (fun X2 => ?_)
              simp only [List.drop_succ_cons, List.drop_zero]
              go_wp2_with fail
              refine (HLY.out _).mono ?_
              rintro e w26 ⟨v', rfl, hown, hE26, hz26⟩
              rw [← HAS.out] at hown
              have HR6 := Lib.hid (show w26.ownsRow w14.heap.size 48 2 v' (8 * (k + 1 + 1)) (arrFrags ⟨true, some ⟨br, or, none⟩, cap', refs⟩ kind n at_ got (k + 1 + 1)) from hown)
              have HX6b := Lib.hid (show Ext w14 w26 from hE26)
              clear hown hE26 hz26 v0 v1 v2 v3 v4 v5 v6 v7 hbs g1
              go_wp2_with fail
              go_roundw
              case rel => exact ⟨k + 1, by omega, by go_num, HR6, HX6b⟩
              case measure => simp [intOf]; omega
        · obtain rfl : k = D := by omega
          have HE := Lib.hid (show arrE c (c.shapeAt kind).isSome ⟨true, A', cap', refs⟩ n got at_ = 0 from by unfold arrE; rw [if_pos HWE.out, HMD.out]; rfl)
          have HLN2 := Lib.hid (show got.length = k + 1 from HDD.out.1)
          go_wp2_with fail
          go_ret2
          exact ⟨⟨true, A', cap', refs⟩, _, 8 * (k + 1), by rw [HE.out]; rfl, HP.out, by
            rw [if_pos HE.out]
            unfold arrWrites
            rw [HMD.out, if_neg (by decide), List.append_nil, HLN2.out]
            exact own_lower HR.out (Ext.size HEW.out), HEW.out.trans HX.out⟩
end Go.Proofs.Ythdijbkcjmeilaa
