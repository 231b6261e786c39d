/-
  Merged: XEachP, XEachL.
-/
import Derived.Test.YtmgkfpmmlibmcaaFarS
import Derived.Test.YtmgkfpmmlibmcaaFindJ
/-
  FindEach: the way of each field, of each element, to its place. No walk here.
-/
namespace Go.Proofs.Ytmgkfpmmlibmcaa
open Go Go.RowKit
set_option linter.unusedVariables false
/-- From a state on, so many steps, each as it is said, then the end. -/
structure EachWay (mm : MemS) (S0 : FindS) (W : Nat) (st : Nat → FindS) : Prop where
  st0 : st 0 = S0
  le : W ≤ 6
  pc : ∀ j, j ≤ W → ((st j).pc == 6) = decide (j = W)
  step : ∀ j, j < W → ∀ n : Int, 0 ≤ n ∧ n ≤ 1099511627776 → ∀ (g : GW) (b bm : Nat), FindAt g 310 b (st j) → MemAt g 300 bm (mAt mm n) →
    ∃ x : Bool, Calls Try.prog 24 #[.pointer (some ⟨b, 0, none⟩), .pointer (some ⟨bm, 0, none⟩)] g.w (Does (.bool x) g (fun x => x = 310 ∨ x = 300) (fun g' => FindAt g' 310 b (st (j + 1)) ∧ MemAt g' 300 bm (mAt mm (n + 1))))
/-- The end: an index that is none, or a place. -/
def EachEnd (S : FindS) (inn : Bool) (a : Int) (rf : Bool) (top : Int) : Prop := if inn = true then S.e = 0 ∧ S.at_ = a ∧ S.ref = rf ∧ S.steps ≤ top else S.e = 5 ∧ S.at_ = -1
variable {cm : Cnf} {got : List Int} {kd md : Int} {refs : List Bool} {F : Int} {mm : MemS}
theorem each_obj_in (H : FarAll cm got kd md refs F mm) (hmd : md = 0 ∨ md = 1) (hside : md = 1 → ∀ j, j < got.length → got.getD j 0 = got.getD 0 0 + j) (k pf : Nat) (pw : Int) (hk : k < refs.length) (hpf : Shp.placeF k = pf) (hpw : Shp.placeW k = pw) :
    ∃ W st, EachWay mm (FindS.fresh cm (got.getD 0 0) k false (got.getD 0 0)) W st ∧ EachEnd (st W) true (got.getD pf 0 * 8 + pw) (refs.getD k false) (1 + pf) := by
  have hl := H.len k hk
  have hlp : pf < got.length := by omega
  have hW := Shp.placeW_bd k (by omega)
  have h0 := H.gotb 0 (by omega)
  have hp := H.gotb pf hlp
  have hc := H.few
  have hpf5 : pf ≤ 1000 := by have := H.small; omega
  by_cases h1 : md = 1 ∨ md = 0 ∧ pf = 0
  · have hgp : got.getD pf 0 = got.getD 0 0 + pf := by
      rcases h1 with h1 | ⟨-, rfl⟩
      · exact hside h1 pf hlp
      · simp
    refine ⟨1, fun j => if j = 0 then FindS.fresh cm (got.getD 0 0) k false (got.getD 0 0) else ⟨cm, got.getD 0 0, k, false, 6, got.getD 0 0, 0, 0, 0, 0, 0, (got.getD 0 0 + pf) * 8 + pw, refs.getD k false, 0, 1⟩, ⟨rfl, by decide, ?_, ?_⟩, ?_⟩
    · intro j hj
      rcases (show j = 0 ∨ j = 1 by omega) with rfl | rfl <;> rfl
    · intro j hj n hn g b bm h hm
      obtain rfl : j = 0 := by omega
      refine ⟨true, ?_⟩
      have FO := H.ok hk hpf hpw hn
      refine find_step_b g 310 b bm _ true _ _ h (Or.inl rfl) ⟨by show (0 : Int) ≤ 0; decide, by show (0 : Int) ≤ 1099511627776; decide⟩ (Or.inl rfl) (fun g' m' h' => ?_)
      refine (find_begins_head g' 310 b 300 bm _ _ (mAt mm n) false _ _ h' (hm.keep m' (by decide)) hn rfl (okAt_of H.check H.frags _ rfl h0 (by decide)) (H.mlen _ (by show 0 ≤ got.getD 0 0 * 8 + 1; omega) (by show got.getD 0 0 * 8 + 1 < F * 8; omega)) H.head (by decide) (by decide) (fun g'' h'' =>
        find_first_here g'' 310 b _ _ _ kd md refs k h'' (fun w => tell_head kd md H.kdb.1 (by have := H.kdb.2; omega) (by omega) (by omega) w) H.shape rfl rfl hk (H.fld k hk) (by rw [hpf]; omega) ⟨h0.1, by show got.getD 0 0 ≤ 100000; omega⟩)).mono ?_
      rintro e w' ⟨rfl, own, md', r1, r2⟩
      refine ⟨rfl, own, md', ?_, r2⟩
      unfold FindS.stands at r1
      rw [hpf, hpw] at r1
      rw [if_pos (okAt_of H.check H.frags _ rfl (by show 0 ≤ got.getD 0 0 + (pf : Int) ∧ got.getD 0 0 + (pf : Int) < F; omega) (by omega))] at r1
      exact r1
    · unfold EachEnd
      rw [if_pos rfl]
      exact ⟨rfl, by rw [hgp]; rfl, rfl, by show (1 : Int) ≤ 1 + pf; omega⟩
  · obtain ⟨rfl, hpos⟩ : md = 0 ∧ 0 < pf := by omega
    have hpf6 : pf + 1 ≤ 6 ∨ 6 < pf + 1 := by omega
    have hr40 : k < 40 := by
      have := H.fld k hk none 0
      unfold Shp.hasField Shp.may Shp.len at this
      simp at this
      omega
    refine ⟨pf + 1, farSt cm got k (refs.getD k false) pf pw, ⟨rfl, by unfold Shp.placeF at hpf; split at hpf <;> omega, ?_, ?_⟩, ?_⟩
    · intro j hj
      rw [farSt_pc]
      split
      · rw [decide_eq_false (by omega)]; rfl
      · split
        · rw [decide_eq_false (by omega)]; rfl
        · rw [decide_eq_true (by omega)]; rfl
    · intro j hj n hn g b bm h hm
      have FO := H.ok hk hpf hpw hn
      by_cases hj0 : j = 0
      · subst hj0
        exact ⟨false, far_first FO hpos g b bm h hm⟩
      · exact ⟨_, far_link FO (j := j) (by omega) (by omega) g b bm h hm⟩
    · unfold EachEnd
      rw [if_pos rfl, farSt_end]
      exact ⟨rfl, rfl, rfl, by show (pf : Int) + 1 ≤ 1 + pf; omega⟩
theorem each_obj_out (H : FarAll cm got kd md refs F mm) (hmd : md = 0 ∨ md = 1) (hg : 1 ≤ got.length) (k : Int) (hk : k < 0 ∨ refs.length ≤ k) (hkb : -9223372036854775808 ≤ k ∧ k ≤ 9223372036854775807) (a : Int) (rf : Bool) (top : Int) :
    ∃ W st, EachWay mm (FindS.fresh cm (got.getD 0 0) k false (got.getD 0 0)) W st ∧ EachEnd (st W) false a rf top := by
  have h0 := H.gotb 0 (by omega)
  have hc := H.few
  refine ⟨1, fun j => if j = 0 then FindS.fresh cm (got.getD 0 0) k false (got.getD 0 0) else FindS.ends { FindS.fresh cm (got.getD 0 0) k false (got.getD 0 0) with steps := 0 + 1 } 5, ⟨rfl, by decide, ?_, ?_⟩, ?_⟩
  · intro j hj
    rcases (show j = 0 ∨ j = 1 by omega) with rfl | rfl <;> rfl
  · intro j hj n hn g b bm h hm
    obtain rfl : j = 0 := by omega
    refine ⟨true, ?_⟩
    exact find_step_b g 310 b bm _ true _ _ h (Or.inl rfl) ⟨by show (0 : Int) ≤ 0; decide, by show (0 : Int) ≤ 1099511627776; decide⟩ (Or.inl rfl) (fun g' m' h' =>
      find_begins_head g' 310 b 300 bm _ _ (mAt mm n) false _ _ h' (hm.keep m' (by decide)) hn rfl (okAt_of H.check H.frags _ rfl h0 (by decide)) (H.mlen _ (by show 0 ≤ got.getD 0 0 * 8 + 1; omega) (by show got.getD 0 0 * 8 + 1 < F * 8; omega)) H.head (by decide) (by decide) (fun g'' h'' =>
        find_first_index g'' 310 b _ _ _ kd md k refs h'' (fun w => tell_head kd md H.kdb.1 (by have := H.kdb.2; omega) (by omega) (by omega) w) H.shape rfl rfl hk hkb (by omega)))
  · unfold EachEnd
    rw [if_neg (by decide)]
    exact ⟨rfl, rfl⟩
/-- A reference's word. -/
def wR (i : Int) : Nat × Nat := (floatOfInt .f64 (i + 1), 4607182418800017408)
/-- What is known of an array in memory. -/
structure EachA (cm : Cnf) (got : List Int) (kd n md at_ : Int) (refs : List Bool) (F : Int) (m : MemS) : Prop where
  check : cm.check = 0
  frags : cm.frags = F
  few : F ≤ 1024
  gotb : ∀ i, i < got.length → 0 ≤ got.getD i 0 ∧ got.getD i 0 < F
  shape : cm.shapeAt kd = some (true, refs)
  refs1 : 0 < refs.length
  kdb : 0 ≤ kd ∧ kd ≤ 1000000
  small : got.length ≤ 1000
  mlen : ∀ a, 0 ≤ a → a < F * 8 → inB a m.l.length = true
  one : 1 ≤ got.length
  nb : 0 ≤ n ∧ n ≤ 512
  len : (got.length : Int) = 1 + sData n
  head : m.peek (got.getD 0 0 * 8 + 1) = (floatOfInt .f64 kd, floatOfInt .f64 0)
  lenw : m.peek (got.getD 0 0 * 8 + 2) = (floatOfInt .f64 n, 0)
  modew : m.peek (got.getD 0 0 * 8 + 3) = (floatOfInt .f64 md, 0)
  mode : md = 0 ∧ sData n ≤ 4 ∧ (∀ j : Nat, j < 4 → j + 1 < got.length → m.peek (got.getD 0 0 * 8 + (4 + j)) = wR (got.getD (j + 1) 0)) ∨
    md = 2 ∧ 4 < sData n ∧ m.peek (got.getD 0 0 * 8 + 4) = wR (got.getD 1 0) ∧ (∀ j, j < got.length → got.getD j 0 = got.getD 0 0 + j) ∨
    md = 1 ∧ 4 < sData n ∧ m.peek (got.getD 0 0 * 8 + 4) = (floatOfInt .f64 at_, 0) ∧ 0 ≤ at_ ∧ at_ < cWords cm ∧ at_ ≤ 1000000 ∧ ∀ j : Nat, j + 1 < got.length → inB (at_ + 2 + j) m.l.length = true ∧ m.peek (at_ + 2 + j) = wR (got.getD (j + 1) 0)
theorem stands_as {S : FindS} {fr k F : Int} {cm : Cnf} (hc : cm.check = 0) (hf : cm.frags = F) (hs : S.c = cm) (h1 : 0 ≤ fr ∧ fr < F) (h2 : 0 ≤ k ∧ k < 8) : S.stands fr k = { S with pc := 6, at_ := fr * 8 + k } := by
  unfold FindS.stands
  rw [if_pos (okAt_of hc hf _ hs h1 h2)]
def arrA (cm : Cnf) (h k : Int) (rf : Bool) (n md : Int) : Nat → FindS
  | 0 => FindS.fresh cm h k true 0
  | 1 => ⟨cm, h, k, true, 2, 0, 0, 0, 0, 0, 0, -1, rf, 0, 1⟩
  | 2 => ⟨cm, h, k, true, 3, 0, 0, 0, sData n, 0, 0, -1, rf, 0, 2⟩
  | _ => ⟨cm, h, k, true, 4, 0, 0, 0, sData n, md, 0, -1, rf, 0, 3⟩
variable {n at_ : Int}
/-- Its first steps. -/
theorem each_arr_first (H : EachA cm got kd n md at_ refs F mm) (k : Int) (c : Int) (hc : 0 ≤ c ∧ c ≤ 1099511627776) (g : GW) (b bm : Nat) (h : FindAt g 310 b (arrA cm (got.getD 0 0) k (refs.getD 0 false) n md 0)) (hm : MemAt g 300 bm (mAt mm c)) :
    Calls Try.prog 24 #[.pointer (some ⟨b, 0, none⟩), .pointer (some ⟨bm, 0, none⟩)] g.w (Does (.bool false) g (fun x => x = 310 ∨ x = 300) (fun g' => FindAt g' 310 b (arrA cm (got.getD 0 0) k (refs.getD 0 false) n md 1) ∧ MemAt g' 300 bm (mAt mm (c + 1)))) := by
  have h0 := H.gotb 0 (by have := H.one; omega)
  exact find_step_b g 310 b bm _ false _ _ h (Or.inl rfl) ⟨by show (0 : Int) ≤ 0; decide, by show (0 : Int) ≤ 1099511627776; decide⟩ (Or.inl rfl) (fun g' m' h' =>
    find_begins_head g' 310 b 300 bm _ (arrA cm (got.getD 0 0) k (refs.getD 0 false) n md 1) (mAt mm c) true _ _ h' (hm.keep m' (by decide)) hc rfl (okAt_of H.check H.frags _ rfl h0 (by decide)) (H.mlen _ (by show 0 ≤ got.getD 0 0 * 8 + 1; omega) (by show got.getD 0 0 * 8 + 1 < F * 8; omega)) H.head (by decide) (by decide) (fun g'' h'' =>
      find_first_array g'' 310 b _ _ _ kd refs h'' (fun w => tell_head kd 0 H.kdb.1 (by have := H.kdb.2; omega) (by decide) (by decide) w) H.shape rfl H.refs1))
theorem each_arr_len (H : EachA cm got kd n md at_ refs F mm) (k : Int) (hk : 0 ≤ k ∧ k < n) (c : Int) (hc : 0 ≤ c ∧ c ≤ 1099511627776) (g : GW) (b bm : Nat) (h : FindAt g 310 b (arrA cm (got.getD 0 0) k (refs.getD 0 false) n md 1)) (hm : MemAt g 300 bm (mAt mm c)) :
    Calls Try.prog 24 #[.pointer (some ⟨b, 0, none⟩), .pointer (some ⟨bm, 0, none⟩)] g.w (Does (.bool false) g (fun x => x = 310 ∨ x = 300) (fun g' => FindAt g' 310 b (arrA cm (got.getD 0 0) k (refs.getD 0 false) n md 2) ∧ MemAt g' 300 bm (mAt mm (c + 1)))) := by
  have h0 := H.gotb 0 (by have := H.one; omega)
  exact find_step_e g 310 b bm _ false _ _ h (Or.inl rfl) ⟨by show (0 : Int) ≤ 1; decide, by show (1 : Int) ≤ 1099511627776; decide⟩ (Or.inl rfl) (fun g' m' h' =>
    find_elem_length g' 310 b 300 bm _ (mAt mm c) n h' (hm.keep m' (by decide)) hc rfl (okAt_of H.check H.frags _ rfl h0 (by decide)) (H.mlen _ (by show 0 ≤ got.getD 0 0 * 8 + 2; omega) (by show got.getD 0 0 * 8 + 2 < F * 8; omega)) H.lenw (by decide) (by decide) H.nb.1 H.nb.2 hk.1 hk.2)
theorem each_arr_mode (H : EachA cm got kd n md at_ refs F mm) (k : Int) (c : Int) (hc : 0 ≤ c ∧ c ≤ 1099511627776) (g : GW) (b bm : Nat) (h : FindAt g 310 b (arrA cm (got.getD 0 0) k (refs.getD 0 false) n md 2)) (hm : MemAt g 300 bm (mAt mm c)) :
    Calls Try.prog 24 #[.pointer (some ⟨b, 0, none⟩), .pointer (some ⟨bm, 0, none⟩)] g.w (Does (.bool false) g (fun x => x = 310 ∨ x = 300) (fun g' => FindAt g' 310 b (arrA cm (got.getD 0 0) k (refs.getD 0 false) n md 3) ∧ MemAt g' 300 bm (mAt mm (c + 1)))) := by
  have h0 := H.gotb 0 (by have := H.one; omega)
  have hmd : md = 0 ∧ sData n ≤ 4 ∨ (md = 1 ∨ md = 2) ∧ 4 < sData n := by
    rcases H.mode with ⟨h1, h2, -⟩ | ⟨h1, h2, -⟩ | ⟨h1, h2, -⟩ <;> omega
  exact find_step_e g 310 b bm _ false _ _ h (Or.inr (Or.inl rfl)) ⟨by show (0 : Int) ≤ 2; decide, by show (2 : Int) ≤ 1099511627776; decide⟩ (Or.inl rfl) (fun g' m' h' =>
    find_elem_mode g' 310 b 300 bm _ (mAt mm c) md h' (hm.keep m' (by decide)) hc rfl (okAt_of H.check H.frags _ rfl h0 (by decide)) (H.mlen _ (by show 0 ≤ got.getD 0 0 * 8 + 3; omega) (by show got.getD 0 0 * 8 + 3 < F * 8; omega)) H.modew (by decide) (by decide) hmd)
theorem each_arr_out (H : EachA cm got kd n md at_ refs F mm) (k : Int) (hk : k < 0 ∨ n ≤ k) (a : Int) (rf : Bool) (top : Int) :
    ∃ W st, EachWay mm (FindS.fresh cm (got.getD 0 0) k true 0) W st ∧ EachEnd (st W) false a rf top := by
  have h0 := H.gotb 0 (by have := H.one; omega)
  refine ⟨2, fun j => if j = 0 then FindS.fresh cm (got.getD 0 0) k true 0 else if j = 1 then arrA cm (got.getD 0 0) k (refs.getD 0 false) n md 1 else FindS.ends { arrA cm (got.getD 0 0) k (refs.getD 0 false) n md 1 with steps := 1 + 1 } 5, ⟨rfl, by decide, ?_, ?_⟩, ?_⟩
  · intro j hj
    rcases (show j = 0 ∨ j = 1 ∨ j = 2 by omega) with rfl | rfl | rfl <;> rfl
  · intro j hj c hc g b bm h hm
    rcases (show j = 0 ∨ j = 1 by omega) with rfl | rfl
    · exact ⟨false, each_arr_first H k c hc g b bm h hm⟩
    · refine ⟨true, ?_⟩
      exact find_step_e g 310 b bm _ true _ _ h (Or.inl rfl) ⟨by show (0 : Int) ≤ 1; decide, by show (1 : Int) ≤ 1099511627776; decide⟩ (Or.inl rfl) (fun g' m' h' =>
        find_elem_index g' 310 b 300 bm _ (mAt mm c) n h' (hm.keep m' (by decide)) hc rfl (okAt_of H.check H.frags _ rfl h0 (by decide)) (H.mlen _ (by show 0 ≤ got.getD 0 0 * 8 + 2; omega) (by show got.getD 0 0 * 8 + 2 < F * 8; omega)) H.lenw (by decide) (by decide) H.nb.1 H.nb.2 hk)
  · unfold EachEnd
    rw [if_neg (by decide)]
    exact ⟨rfl, rfl⟩
theorem sData_in {n k : Int} (h0 : 0 ≤ k) (h1 : k < n) (h2 : n ≤ 512) : k / 8 < sData n := by unfold sData; rw [if_neg (by omega)]; omega
theorem each_arr_in (H : EachA cm got kd n md at_ refs F mm) (k : Int) (hk : 0 ≤ k ∧ k < n) :
    ∃ W st, EachWay mm (FindS.fresh cm (got.getD 0 0) k true 0) W st ∧ EachEnd (st W) true (got.getD (1 + (k / 8).toNat) 0 * 8 + k % 8) (refs.getD 0 false) 5 := by
  have h0 := H.gotb 0 (by have := H.one; omega)
  have hs := sData_in hk.1 hk.2 H.nb.2
  have hl := H.len
  obtain ⟨q, hq⟩ : ∃ q : Nat, k / 8 = q := ⟨(k / 8).toNat, by omega⟩
  have hfr := H.gotb (1 + q) (by omega)
  have hc8 : 0 ≤ k % 8 ∧ k % 8 < 8 := by omega
  have hnb := H.nb
  have hfew := H.few
  have e1 : (k / 8).toNat = q := by omega
  rw [e1]
  rcases H.mode with ⟨rfl, h1, h2⟩ | ⟨rfl, h1, h2, h3⟩ | ⟨rfl, h1, h2, h3, h4, h5, h6⟩
  · refine ⟨4, fun j => if j ≤ 3 then arrA cm (got.getD 0 0) k (refs.getD 0 false) n 0 j else ⟨cm, got.getD 0 0, k, true, 6, 0, 0, 0, sData n, 0, 0, got.getD (1 + q) 0 * 8 + k % 8, refs.getD 0 false, 0, 4⟩, ⟨rfl, by decide, ?_, ?_⟩, ?_⟩
    · intro j hj
      rcases (show j = 0 ∨ j = 1 ∨ j = 2 ∨ j = 3 ∨ j = 4 by omega) with rfl | rfl | rfl | rfl | rfl <;> rfl
    · intro j hj c hc g b bm h hm
      rcases (show j = 0 ∨ j = 1 ∨ j = 2 ∨ j = 3 by omega) with rfl | rfl | rfl | rfl
      · exact ⟨false, each_arr_first H k c hc g b bm h hm⟩
      · exact ⟨false, each_arr_len H k hk c hc g b bm h hm⟩
      · exact ⟨false, each_arr_mode H k c hc g b bm h hm⟩
      · refine ⟨true, ?_⟩
        have h := (show FindAt g 310 b (arrA cm (got.getD 0 0) k (refs.getD 0 false) n 0 3) from h)
        refine (find_step_e g 310 b bm (arrA cm (got.getD 0 0) k (refs.getD 0 false) n 0 3) true _ _ h (Or.inr (Or.inr (Or.inl rfl))) ⟨by show (0 : Int) ≤ 3; decide, by show (3 : Int) ≤ 1099511627776; decide⟩ (Or.inl rfl) (fun g' m' h' =>
          find_elem_inline g' 310 b 300 bm _ (mAt mm c) (got.getD (1 + q) 0) h' (hm.keep m' (by decide)) hc rfl rfl hk.1 (by show k / 8 < 4; omega) (okAt_of H.check H.frags _ rfl h0 (by show 0 ≤ 4 + k / 8 ∧ 4 + k / 8 < 8; omega)) (H.mlen _ (by show 0 ≤ got.getD 0 0 * 8 + (4 + k / 8); omega) (by show got.getD 0 0 * 8 + (4 + k / 8) < F * 8; omega)) (by
            have := h2 q (by omega) (by omega)
            rw [Nat.add_comm q 1] at this
            show mm.peek (got.getD 0 0 * 8 + (4 + k / 8)) = _
            rw [hq]
            exact this) (by decide) (by decide) hfr.1 (by omega))).mono ?_
        rintro e w' ⟨rfl, own, md', r1, r2⟩
        refine ⟨rfl, own, md', ?_, r2⟩
        have r1 := (show FindAt ⟨own, w'⟩ 310 b (FindS.stands ⟨cm, got.getD 0 0, k, true, 4, 0, 0, 0, sData n, 0, 0, -1, refs.getD 0 false, 0, 3 + 1⟩ (got.getD (1 + q) 0) (k % 8)) from r1)
        rw [stands_as H.check H.frags ?_ hfr hc8] at r1
        · exact r1
        · rfl
    · unfold EachEnd
      rw [if_pos rfl]
      exact ⟨rfl, rfl, rfl, by show (4 : Int) ≤ 5; decide⟩
  · refine ⟨4, fun j => if j ≤ 3 then arrA cm (got.getD 0 0) k (refs.getD 0 false) n 2 j else ⟨cm, got.getD 0 0, k, true, 6, 0, 0, 0, sData n, 2, 0, (got.getD 1 0 + k / 8) * 8 + k % 8, refs.getD 0 false, 0, 4⟩, ⟨rfl, by decide, ?_, ?_⟩, ?_⟩
    · intro j hj
      rcases (show j = 0 ∨ j = 1 ∨ j = 2 ∨ j = 3 ∨ j = 4 by omega) with rfl | rfl | rfl | rfl | rfl <;> rfl
    · intro j hj c hc g b bm h hm
      rcases (show j = 0 ∨ j = 1 ∨ j = 2 ∨ j = 3 by omega) with rfl | rfl | rfl | rfl
      · exact ⟨false, each_arr_first H k c hc g b bm h hm⟩
      · exact ⟨false, each_arr_len H k hk c hc g b bm h hm⟩
      · exact ⟨false, each_arr_mode H k c hc g b bm h hm⟩
      · refine ⟨true, ?_⟩
        have hf1 := H.gotb 1 (by omega)
        have e1 := h3 1 (by omega)
        have e2 := h3 (1 + q) (by omega)
        have h := (show FindAt g 310 b (arrA cm (got.getD 0 0) k (refs.getD 0 false) n 2 3) from h)
        refine (find_step_e g 310 b bm (arrA cm (got.getD 0 0) k (refs.getD 0 false) n 2 3) true _ _ h (Or.inr (Or.inr (Or.inl rfl))) ⟨by show (0 : Int) ≤ 3; decide, by show (3 : Int) ≤ 1099511627776; decide⟩ (Or.inl rfl) (fun g' m' h' =>
          find_elem_beside g' 310 b 300 bm _ (mAt mm c) (got.getD 1 0) h' (hm.keep m' (by decide)) hc rfl rfl ⟨hk.1, by show k ≤ 1000; omega⟩ (okAt_of H.check H.frags _ rfl h0 (by decide)) (H.mlen _ (by show 0 ≤ got.getD 0 0 * 8 + 4; omega) (by show got.getD 0 0 * 8 + 4 < F * 8; omega)) h2 (by decide) (by decide) hf1.1 (by omega))).mono ?_
        rintro e w' ⟨rfl, own, md', r1, r2⟩
        refine ⟨rfl, own, md', ?_, r2⟩
        have r1 := (show FindAt ⟨own, w'⟩ 310 b (FindS.stands ⟨cm, got.getD 0 0, k, true, 4, 0, 0, 0, sData n, 2, 0, -1, refs.getD 0 false, 0, 3 + 1⟩ (got.getD 1 0 + k / 8) (k % 8)) from r1)
        rw [stands_as H.check H.frags ?_ (show 0 ≤ got.getD 1 0 + k / 8 ∧ got.getD 1 0 + k / 8 < F by omega) hc8] at r1
        · exact r1
        · rfl
    · unfold EachEnd
      rw [if_pos rfl]
      have e1 := h3 1 (by omega)
      have e2 := h3 (1 + q) (by omega)
      exact ⟨rfl, by show (got.getD 1 0 + k / 8) * 8 + k % 8 = got.getD (1 + q) 0 * 8 + k % 8; omega, rfl, by show (4 : Int) ≤ 5; decide⟩
  · refine ⟨5, fun j => if j ≤ 3 then arrA cm (got.getD 0 0) k (refs.getD 0 false) n 1 j else if j = 4 then ⟨cm, got.getD 0 0, k, true, 5, 0, 0, 0, sData n, 1, at_, -1, refs.getD 0 false, 0, 4⟩ else ⟨cm, got.getD 0 0, k, true, 6, 0, 0, 0, sData n, 1, at_, got.getD (1 + q) 0 * 8 + k % 8, refs.getD 0 false, 0, 5⟩, ⟨rfl, by decide, ?_, ?_⟩, ?_⟩
    · intro j hj
      rcases (show j = 0 ∨ j = 1 ∨ j = 2 ∨ j = 3 ∨ j = 4 ∨ j = 5 by omega) with rfl | rfl | rfl | rfl | rfl | rfl <;> rfl
    · intro j hj c hc g b bm h hm
      rcases (show j = 0 ∨ j = 1 ∨ j = 2 ∨ j = 3 ∨ j = 4 by omega) with rfl | rfl | rfl | rfl | rfl
      · exact ⟨false, each_arr_first H k c hc g b bm h hm⟩
      · exact ⟨false, each_arr_len H k hk c hc g b bm h hm⟩
      · exact ⟨false, each_arr_mode H k c hc g b bm h hm⟩
      · refine ⟨false, ?_⟩
        exact find_step_e g 310 b bm _ false _ _ h (Or.inr (Or.inr (Or.inl rfl))) ⟨by show (0 : Int) ≤ 3; decide, by show (3 : Int) ≤ 1099511627776; decide⟩ (Or.inl rfl) (fun g' m' h' =>
          find_elem_spine g' 310 b 300 bm _ (mAt mm c) at_ h' (hm.keep m' (by decide)) hc rfl rfl (okAt_of H.check H.frags _ rfl h0 (by decide)) (H.mlen _ (by show 0 ≤ got.getD 0 0 * 8 + 4; omega) (by show got.getD 0 0 * 8 + 4 < F * 8; omega)) h2 (by decide) (by decide) h3 h4 h5)
      · refine ⟨true, ?_⟩
        have h7 := h6 q (by omega)
        rw [Nat.add_comm q 1] at h7
        have h := (show FindAt g 310 b ⟨cm, got.getD 0 0, k, true, 5, 0, 0, 0, sData n, 1, at_, -1, refs.getD 0 false, 0, 4⟩ from h)
        refine (find_step_e g 310 b bm ⟨cm, got.getD 0 0, k, true, 5, 0, 0, 0, sData n, 1, at_, -1, refs.getD 0 false, 0, 4⟩ true _ _ h (Or.inr (Or.inr (Or.inr rfl))) ⟨by show (0 : Int) ≤ 4; decide, by show (4 : Int) ≤ 1099511627776; decide⟩ (Or.inl rfl) (fun g' m' h' =>
          find_elem_slot g' 310 b 300 bm _ (mAt mm c) (got.getD (1 + q) 0) h' (hm.keep m' (by decide)) hc rfl ⟨hk.1, by show k ≤ 1000; omega⟩ ⟨h3, h5⟩ (by show inB (at_ + 2 + k / 8) mm.l.length = true; rw [hq]; exact h7.1) (by show mm.peek (at_ + 2 + k / 8) = _; rw [hq]; exact h7.2) (by decide) (by decide) hfr.1 (by omega))).mono ?_
        rintro e w' ⟨rfl, own, md', r1, r2⟩
        refine ⟨rfl, own, md', ?_, r2⟩
        have r1 := (show FindAt ⟨own, w'⟩ 310 b (FindS.stands ⟨cm, got.getD 0 0, k, true, 5, 0, 0, 0, sData n, 1, at_, -1, refs.getD 0 false, 0, 4 + 1⟩ (got.getD (1 + q) 0) (k % 8)) from r1)
        rw [stands_as H.check H.frags ?_ hfr hc8] at r1
        · exact r1
        · rfl
    · unfold EachEnd
      rw [if_pos rfl]
      exact ⟨rfl, rfl, rfl, by show (5 : Int) ≤ 5; decide⟩
end Go.Proofs.Ytmgkfpmmlibmcaa
/-
  FindEach: what the plan laid down, as the way to each field and element. No walk here.
-/
namespace Go.Proofs.Ytmgkfpmmlibmcaa
open Go Go.RowKit
set_option linter.unusedVariables false
set_option linter.unusedSimpArgs false
def blankF (r : Bool) : Nat × Nat := if r = true then (0, 4607182418800017408) else (0, 0)
theorem wBlank_cx (r : Bool) : wBlank r = cx (blankF r) := by cases r <;> rfl
theorem cx_eq {p q : Nat × Nat} (h : cx p = cx q) : p = q := by
  obtain ⟨a, b⟩ := p
  obtain ⟨x, y⟩ := q
  unfold cx at h
  injection h with _ h1 h2
  simp only at h1 h2
  rw [h1, h2]
theorem cWords_same {c d : Cnf} (h : c.Same d) : cWords c = cWords d := by
  unfold cWords
  rw [same_check h, h.frags, h.spine, h.globals]
/-- Where a field or an element is, and what. -/
def eachA (got : List Int) (arr : Bool) (k : Nat) : Int := if arr = true then got.getD (1 + k / 8) 0 * 8 + (k % 8 : Nat) else got.getD (Shp.placeF k).toNat 0 * 8 + Shp.placeW k
def eachR (arr : Bool) (refs : List Bool) (k : Nat) : Bool := if arr = true then refs.getD 0 false else refs.getD k false
structure EachOk (c : Cnf) (got : List Int) (arr : Bool) (refs : List Bool) (mn : Int) (mm : MemS) : Prop where
  top : 0 ≤ mn ∧ mn ≤ 512
  way : ∀ cm : Cnf, cm.Same c → ∀ k : Int, -1 ≤ k → k ≤ 512 → ∃ W st, EachWay mm (FindS.fresh cm (got.getD 0 0) k arr (if arr = true then 0 else got.getD 0 0)) W st ∧
    EachEnd (st W) (decide (0 ≤ k ∧ k < mn)) (eachA got arr k.toNat) (eachR arr refs k.toNat) (if arr = true then 5 else 1 + Shp.placeF k)
  inn : ∀ k : Nat, (k : Int) < mn → 0 ≤ eachA got arr k ∧ eachA got arr k < cWords c
  inj : ∀ i j : Nat, (i : Int) < mn → (j : Int) < mn → eachA got arr i = eachA got arr j → i = j
  word : ∀ k : Nat, (k : Int) < mn → mm.peek (eachA got arr k) = blankF (eachR arr refs k)
  frag : ∀ k : Nat, (k : Int) < mn → (if arr = true then 1 + k / 8 else (Shp.placeF k).toNat) < got.length
  gotb : ∀ i, i < got.length → 0 ≤ got.getD i 0 ∧ got.getD i 0 < 1024
  refs : if arr = true then 0 < refs.length else mn = refs.length ∧ ∀ k, k < refs.length → ∀ A cap, Shp.hasField ⟨false, A, cap, refs⟩ (k : Nat) = true
/-- What was laid down, behind all writes. -/
structure LaidOk (c : Cnf) (at_ : Int) (got : List Int) (arr : Bool) (refs : List Bool) (w : World) (A : Option Addr) (m : Nat) (mn : Int) (xs : List Value) (V : Nat → Nat × Nat) : Prop where
  one : 1 ≤ got.length
  check : c.check = 0
  m4 : m ≤ 10000
  cells : CellsAt w A xs
  wr : Wr xs m (onceAt got at_) V
  diff : ∀ i, i < m → ∀ k, k < i → onceAt got at_ k ≠ onceAt got at_ i
  inb : ∀ i, i < m → inB (onceAt got at_ i) (cWords c).toNat = true
  each : ∀ mm : MemS, mm.l.length = (cWords c).toNat → (∀ i, i < m → mm.peek (onceAt got at_ i) = V i) → EachOk c got arr refs mn mm
theorem side_run {got : List Int} (hb : ∀ i, i < got.length → got.getD i 0 < 1024) (hs : isSide got = true) : ∀ j, j < got.length → got.getD j 0 = got.getD 0 0 + j := by
  intro j hj
  have h := run_side hb (by omega)
  rw [hs] at h
  exact runTo_get h j (by omega)
theorem inB_bd {a : Int} {n : Nat} (h : inB a n = true) : 0 ≤ a ∧ a < n := by
  unfold inB at h
  simpa using h
theorem onceAt_frag {got : List Int} {at_ : Int} {i k : Nat} (hi : i < got.length) (hk : k < 8) : onceAt got at_ (i * 8 + k) = got.getD i 0 * 8 + k := by
  unfold onceAt
  rw [if_pos (by omega), show (i * 8 + k) / 8 = i by omega, show (i * 8 + k) % 8 = k by omega]
theorem onceAt_spine {got : List Int} {at_ : Int} {k : Nat} : onceAt got at_ (8 * got.length + k) = at_ + k := by
  unfold onceAt
  rw [if_neg (by omega), show 8 * got.length + k - 8 * got.length = k by omega]
theorem diff_inj {m : Nat} {AT : Nat → Int} (h : ∀ i, i < m → ∀ k, k < i → AT k ≠ AT i) {i j : Nat} (hi : i < m) (hj : j < m) (e : AT i = AT j) : i = j := by
  rcases Nat.lt_trichotomy i j with h1 | h1 | h1
  · exact absurd e (h j hj i h1)
  · exact h1
  · exact absurd e.symm (h i hi j h1)
theorem laid_obj {c : Cnf} {kind at_ : Int} {got : List Int} {s : Shp} {w : World} {A : Option Addr} {m cap base : Nat} {is : Bool} (hz : wrongE c is s 0 false got = 0) (hk : 0 ≤ kind ∧ kind ≤ 1000000) (hat : c.shapeAt kind = some (false, s.refs)) (hl : got.length ≤ 1000)
    (hown : w.ownsRow base 42 2 (.slice A m cap) m (if wrongE c is s 0 false got = 0 then objWrites s kind got (isSide got) got.length else [])) : ∃ xs V, LaidOk c at_ got false s.refs w A m s.refs.length xs V := by
  rw [if_pos hz] at hown
  have hn := hown.1
  rw [objWrites_length] at hn
  obtain rfl : m = 8 * got.length := by omega
  obtain ⟨fc, fa, -, farr, fl, fs, -⟩ := wrongE_fine hz
  have hg1 : 1 ≤ got.length := by omega
  obtain ⟨o1, o2⟩ := once_object (kind := kind) (at_ := at_) (n := 0) hz
  have hgb := got_bd hz
  have hfr := (Cnf.ranged (Cnf.check_zero fc).1).1.2
  have hfr0 := (Cnf.ranged (Cnf.check_zero fc).1).1.1
  obtain ⟨arr, As, caps, refs⟩ := s
  simp only at farr hat
  subst farr
  have hmay : ∀ A cap, Shp.may ⟨false, A, cap, refs⟩ = true := by
    intro A cap
    cases hm : Shp.may ⟨false, As, caps, refs⟩
    · unfold Shp.size at fs; rw [if_pos (Or.inl hm)] at fs; omega
    · exact hm
  have hsz : Shp.size ⟨false, As, caps, refs⟩ 0 = if (refs.length : Int) ≤ 6 then 1 else 1 + (refs.length : Int) / 7 := by
    unfold Shp.size
    rw [if_neg (by rw [hmay]; simp), if_neg (by simp)]
    rfl
  rw [hsz] at fl
  have hfld : ∀ k, k < refs.length → ∀ A cap, Shp.hasField ⟨false, A, cap, refs⟩ (k : Nat) = true := fun k h A cap => by
    unfold Shp.hasField Shp.len
    rw [hmay]
    simpa using h
  have hlen : ∀ k : Nat, k < refs.length → Shp.placeF k < got.length := fun k h => by
    unfold Shp.placeF
    split <;> split at fl <;> omega
  have hr40 : refs.length ≤ 40 := by
    have := hmay none 0
    unfold Shp.may at this
    simp only [decide_eq_true_eq] at this
    exact this.1
  have hF0 : ∀ k : Nat, 0 ≤ Shp.placeF k := fun k => by unfold Shp.placeF; split <;> omega
  have hAT : ∀ k : Nat, k < refs.length → eachA got false k = onceAt got at_ ((Shp.placeF k).toNat * 8 + (Shp.placeW k).toNat) ∧ (Shp.placeF k).toNat * 8 + (Shp.placeW k).toNat < 8 * got.length := fun k h => by
    have h1 := hlen k h
    have h2 := Shp.placeW_bd k (by omega)
    have h3 := hF0 k
    rw [onceAt_frag (by omega) (by omega)]
    unfold eachA
    rw [if_neg (by decide)]
    exact ⟨by omega, by omega⟩
  have hib := once_in_obj (at_ := at_) hz
  refine ⟨_, objV ⟨false, As, caps, refs⟩ kind got, hg1, fc, by omega, cellsAt_of_own hown, wr_object hz, o1.diff, hib, fun mm hmm hpk => ?_⟩
  have hw : cWords c = c.frags * 8 + c.spine + c.spine + c.globals ∧ 0 ≤ c.spine ∧ 0 ≤ c.globals := by
    obtain ⟨⟨_, _⟩, ⟨_, _⟩, ⟨_, _⟩, _⟩ := Cnf.ranged (Cnf.check_zero fc).1
    exact ⟨by unfold cWords; rw [if_pos fc], by omega, by omega⟩
  have hp : ∀ i k : Nat, i < got.length → k < 8 → mm.peek (got.getD i 0 * 8 + k) = objV ⟨false, As, caps, refs⟩ kind got (i * 8 + k) := fun i k hi hk8 => by
    have := hpk (i * 8 + k) (by omega)
    rw [onceAt_frag hi hk8] at this
    exact this
  have hall : ∀ cm : Cnf, cm.Same c → FarAll cm got kind (if isSide got = true then 1 else 0) refs c.frags mm := fun cm hs =>
    ⟨(same_check hs).trans fc, hs.frags, by omega, hgb, (Cnf.Same.shapeAt hs kind).trans hat, hk, hfld, hlen, by omega, fun a h0 h1 => by
      rw [hmm]
      unfold inB
      apply decide_eq_true
      omega, (hp 0 1 hg1 (by decide)).trans (by rw [Nat.zero_mul, Nat.zero_add]; exact obj_head (by omega) hk), fun i hi => (hp i 0 (by omega) (by decide)).trans (obj_link hi (by have := hgb (i + 1) hi; omega))⟩
  show EachOk c got false refs refs.length mm
  refine ⟨⟨by omega, by omega⟩, fun cm hs k hk1 hk2 => ?_, fun k hk1 => ?_, fun i j hi hj e => ?_, fun k hk1 => ?_, fun k hk1 => ?_, fun i hi => by have := hgb i hi; omega, ?_⟩
  · rw [if_neg (by decide), if_neg (by decide)]
    by_cases hin : 0 ≤ k ∧ k < (refs.length : Int)
    · rw [decide_eq_true hin]
      obtain ⟨q, rfl⟩ := Int.eq_ofNat_of_zero_le hin.1
      have h3 := hF0 q
      obtain ⟨W, st, h1, h2⟩ := each_obj_in (hall cm hs) (by split <;> omega) (fun h => side_run (fun i hi => by have := hgb i hi; omega) (by
        by_cases h5 : isSide got = true
        · exact h5
        · rw [if_neg h5] at h; omega)) q (Shp.placeF q).toNat (Shp.placeW q) (by omega) (by omega) rfl
      refine ⟨W, st, h1, ?_⟩
      rw [Int.toNat_natCast]
      unfold eachA eachR
      rw [if_neg (by decide), if_neg (by decide)]
      rw [show ((Shp.placeF (q : Int)).toNat : Int) = Shp.placeF q by omega] at h2
      exact h2
    · rw [decide_eq_false hin]
      exact each_obj_out (hall cm hs) (by split <;> omega) hg1 k (by omega) (by omega) _ _ _
  · obtain ⟨h1, h2⟩ := hAT k (by omega)
    rw [h1]
    have := inB_bd (hib _ h2)
    omega
  · obtain ⟨h1, h2⟩ := hAT i (by omega)
    obtain ⟨h3, h4⟩ := hAT j (by omega)
    rw [h1, h3] at e
    have h5 := diff_inj o1.diff h2 h4 e
    have b1 := Shp.placeW_bd i (by omega)
    have b2 := Shp.placeW_bd j (by omega)
    have b3 := hF0 i
    have b4 := hF0 j
    exact Shp.place_inj (by omega) (by omega)
  · obtain ⟨h1, h2⟩ := hAT k (by omega)
    have b1 := Shp.placeW_bd k (by omega)
    have b3 := hF0 k
    have b4 := hlen k (by omega)
    rw [h1, hpk _ h2]
    have h5 := objV_row ⟨false, As, caps, refs⟩ kind got (i := (Shp.placeF k).toNat) (k := (Shp.placeW k).toNat) (by omega) (by omega)
    have h6 := objRow_field ⟨false, As, caps, refs⟩ kind got (isSide got) (hfld k (by omega) As caps) (show Shp.placeF k = ((Shp.placeF k).toNat : Nat) by omega)
    rw [h5] at h6
    injection h6 with h6
    rw [wBlank_cx] at h6
    have h7 := cx_eq h6
    unfold eachR
    rw [if_neg (by decide)]
    exact h7
  · rw [if_neg (by decide)]
    have := hlen k (by omega)
    have := hF0 k
    omega
  · rw [if_neg (by decide)]
    exact ⟨rfl, hfld⟩
theorem modeOf_cases (n : Int) (got : List Int) : (arrMode n got = 0 ∧ sData n ≤ 4) ∨ (arrMode n got = 2 ∧ 4 < sData n ∧ isSide got = true) ∨ (arrMode n got = 1 ∧ 4 < sData n) := by
  unfold arrMode modeOf
  split
  · exact Or.inl ⟨rfl, by omega⟩
  · split
    · exact Or.inr (Or.inl ⟨rfl, by omega, by assumption⟩)
    · exact Or.inr (Or.inr ⟨rfl, by omega⟩)
theorem wRef_cx2 {i : Int} (h : 0 ≤ i ∧ i ≤ 1000000) : wRef i = cx (wR i) := by
  unfold wRef
  rw [if_neg (by omega)]
  rfl
theorem laid_arr {c : Cnf} {kind n at_ : Int} {got : List Int} {s : Shp} {w : World} {A : Option Addr} {m cap base : Nat} {is : Bool} (hz : arrE c is s n got at_ = 0) (hk : 0 ≤ kind ∧ kind ≤ 1000000) (hat : c.shapeAt kind = some (true, s.refs)) (hl : got.length ≤ 1000)
    (hown : w.ownsRow base 42 2 (.slice A m cap) m (if arrE c is s n got at_ = 0 then arrWrites s kind n at_ got else [])) : ∃ xs V, LaidOk c at_ got true s.refs w A m n xs V := by
  rw [if_pos hz] at hown
  have hn := hown.1
  obtain ⟨h0, hbeg⟩ := arrE_fine hz
  obtain ⟨z1, z2, z3, z4⟩ := arr_size h0
  have hd := sData_bd n
  rw [arrWrites_length _ _ _ _ _ (by omega)] at hn
  obtain rfl : m = arrLen n got := by omega
  obtain ⟨fc, fa, -, farr, fl, fs, -⟩ := wrongE_fine h0
  have hg1 : 1 ≤ got.length := by omega
  have hnb : 0 ≤ n ∧ n ≤ 512 := by
    unfold Shp.size at fs
    split at fs
    · omega
    · omega
  have hgb := got_bd h0
  have hfr := (Cnf.ranged (Cnf.check_zero fc).1).1.2
  have hfr0 := (Cnf.ranged (Cnf.check_zero fc).1).1.1
  have o1 := (once_array (kind := kind) hz).1
  have hib := once_in hz
  have hm8 : 8 * got.length ≤ arrLen n got ∧ arrLen n got ≤ 10000 := by unfold arrLen; split <;> omega
  refine ⟨_, arrV s kind n at_ got, hg1, fc, hm8.2, cellsAt_of_own hown, wr_array hz, o1.diff, hib, fun mm hmm hpk => ?_⟩
  have hw : cWords c = c.frags * 8 + c.spine + c.spine + c.globals ∧ 0 ≤ c.spine ∧ c.spine ≤ 8192 ∧ 0 ≤ c.globals ∧ c.globals ≤ 100000 := by
    obtain ⟨⟨_, _⟩, ⟨_, _⟩, ⟨_, _⟩, _⟩ := Cnf.ranged (Cnf.check_zero fc).1
    exact ⟨by unfold cWords; rw [if_pos fc], by omega, by omega, by omega, by omega⟩
  have hp : ∀ i k : Nat, i < got.length → k < 8 → mm.peek (got.getD i 0 * 8 + k) = arrV s kind n at_ got (i * 8 + k) := fun i k hi hk8 => by
    have := hpk (i * 8 + k) (by omega)
    rw [onceAt_frag hi hk8] at this
    exact this
  have hq : ∀ k : Nat, k < 8 → mm.peek (got.getD 0 0 * 8 + k) = arrV s kind n at_ got k := fun k hk8 => by
    have := hp 0 k hg1 hk8
    rw [Nat.zero_mul, Nat.zero_add] at this
    exact this
  have hsent : ∀ k : Nat, k < 8 → some (cx (mm.peek (got.getD 0 0 * 8 + k))) = (sentWords kind n (arrMode n got) got at_)[k]? := fun k hk8 => by
    rw [hq k hk8]
    exact arrV_sent s kind n at_ got (by omega) hk8
  have hmd : arrMode n got = 0 ∧ sData n ≤ 4 ∧ (∀ j : Nat, j < 4 → j + 1 < got.length → mm.peek (got.getD 0 0 * 8 + (4 + j)) = wR (got.getD (j + 1) 0)) ∨
    arrMode n got = 2 ∧ 4 < sData n ∧ mm.peek (got.getD 0 0 * 8 + 4) = wR (got.getD 1 0) ∧ (∀ j, j < got.length → got.getD j 0 = got.getD 0 0 + j) ∨
    arrMode n got = 1 ∧ 4 < sData n ∧ mm.peek (got.getD 0 0 * 8 + 4) = (floatOfInt .f64 at_, 0) ∧ 0 ≤ at_ ∧ at_ < cWords c ∧ at_ ≤ 1000000 ∧ ∀ j : Nat, j + 1 < got.length → inB (at_ + 2 + j) mm.l.length = true ∧ mm.peek (at_ + 2 + j) = wR (got.getD (j + 1) 0) := by
    rcases modeOf_cases n got with ⟨h1, h2⟩ | ⟨h1, h2, h3⟩ | ⟨h1, h2⟩
    · refine Or.inl ⟨h1, h2, fun j hj hj1 => ?_⟩
      have := hgb (j + 1) hj1
      have h5 := hq (4 + j) (by omega)
      rw [arr_inline h1 hj hj1 (by omega)] at h5
      rw [show got.getD 0 0 * 8 + ((4 : Int) + (j : Int)) = got.getD 0 0 * 8 + ((4 + j : Nat) : Int) by omega]
      exact h5
    · refine Or.inr (Or.inl ⟨h1, h2, ?_, side_run (fun i hi => by have := hgb i hi; omega) h3⟩)
      have h5 := hsent 4 (by decide)
      rw [h1] at h5
      have h6 : some (cx (mm.peek (got.getD 0 0 * 8 + 4))) = some (wRef (got.getD 1 0)) := h5
      injection h6 with h6
      have := hgb 1 (by omega)
      rw [wRef_cx2 (by omega)] at h6
      exact cx_eq h6
    · have hb := begins_in (hbeg h1)
      have hsp : s.spine n = sData n + 2 := by unfold Shp.spine; rw [z3, z4]; simp; omega
      refine Or.inr (Or.inr ⟨h1, h2, ?_, by omega, by omega, by omega, fun j hj => ?_⟩)
      · have h5 := hsent 4 (by decide)
        rw [h1] at h5
        have h6 : some (cx (mm.peek (got.getD 0 0 * 8 + 4))) = some (wWhole at_) := h5
        injection h6 with h6
        unfold wWhole at h6
        rw [if_neg (by omega)] at h6
        exact cx_eq h6
      · have hm2 : arrLen n got = 8 * got.length + (got.length + 1) := by unfold arrLen; rw [if_pos h1]
        have h5 := hpk (8 * got.length + (j + 2)) (by omega)
        have h7 := hib (8 * got.length + (j + 2)) (by omega)
        rw [onceAt_spine] at h5 h7
        rw [show at_ + 2 + (j : Int) = at_ + ((j + 2 : Nat) : Int) by omega, hmm]
        refine ⟨h7, ?_⟩
        rw [h5]
        have e := (arrWrites_spine s kind n at_ got h1 hg1 (k := j + 2) (by omega)).2
        have h8 := (wr_array (kind := kind) hz).w (8 * got.length + (j + 2)) (by omega)
        rw [e] at h8
        injection h8 with h8
        have h9 : spineV got (j + 2) = wRef (got.getD (j + 1) 0) := by unfold spineV; rw [if_neg (by omega), if_neg (by omega)]; rfl
        rw [h9] at h8
        have := hgb (j + 1) hj
        rw [wRef_cx2 (by omega)] at h8
        exact (cx_eq h8).symm
  have hall : ∀ cm : Cnf, cm.Same c → EachA cm got kind n (arrMode n got) at_ s.refs c.frags mm := fun cm hs =>
    ⟨(same_check hs).trans fc, hs.frags, by omega, hgb, (Cnf.Same.shapeAt hs kind).trans hat, by omega, hk, by omega, fun a h0 h1 => by
      rw [hmm]
      unfold inB
      apply decide_eq_true
      omega, hg1, hnb, z2, (hq 1 (by decide)).trans (arr_head (by omega) hk), (hq 2 (by decide)).trans (arr_len (by omega) hnb), (hq 3 (by decide)).trans (arr_mode (by omega)), by rw [cWords_same hs]; exact hmd⟩
  have hfrag : ∀ k : Nat, (k : Int) < n → 1 + k / 8 < got.length := fun k hk1 => by
    have := sData_in (k := (k : Int)) (by omega) hk1 hnb.2
    omega
  have hAT : ∀ k : Nat, (k : Int) < n → eachA got true k = onceAt got at_ ((1 + k / 8) * 8 + k % 8) ∧ (1 + k / 8) * 8 + k % 8 < arrLen n got := fun k hk1 => by
    have h1 := hfrag k hk1
    rw [onceAt_frag h1 (by omega)]
    unfold eachA
    rw [if_pos rfl]
    exact ⟨rfl, by omega⟩
  refine ⟨hnb, fun cm hs k hk1 hk2 => ?_, fun k hk1 => ?_, fun i j hi hj e => ?_, fun k hk1 => ?_, fun k hk1 => ?_, fun i hi => by have := hgb i hi; omega, ?_⟩
  · rw [if_pos rfl, if_pos rfl]
    by_cases hin : 0 ≤ k ∧ k < n
    · rw [decide_eq_true hin]
      obtain ⟨W, st, h1, h2⟩ := each_arr_in (hall cm hs) k hin
      refine ⟨W, st, h1, ?_⟩
      obtain ⟨q, rfl⟩ := Int.eq_ofNat_of_zero_le hin.1
      unfold eachA eachR
      rw [if_pos rfl, if_pos rfl, Int.toNat_natCast]
      rw [show ((q : Int) / 8).toNat = q / 8 by omega, show (q : Int) % 8 = ((q % 8 : Nat) : Int) by omega] at h2
      exact h2
    · rw [decide_eq_false hin]
      exact each_arr_out (hall cm hs) k (by omega) _ _ _
  · obtain ⟨h1, h2⟩ := hAT k hk1
    rw [h1]
    have := inB_bd (hib _ h2)
    omega
  · obtain ⟨h1, h2⟩ := hAT i hi
    obtain ⟨h3, h4⟩ := hAT j hj
    rw [h1, h3] at e
    have h5 := diff_inj o1.diff h2 h4 e
    omega
  · obtain ⟨h1, h2⟩ := hAT k hk1
    have h3 := hfrag k hk1
    rw [h1, hpk _ h2, arrV_frag s kind n at_ got h3 (by omega), if_neg (by omega)]
    unfold dataF eachR
    rw [if_pos rfl, wBlank_cx]
    rfl
  · rw [if_pos rfl]
    exact hfrag k hk1
  · rw [if_pos rfl]
    omega
end Go.Proofs.Ytmgkfpmmlibmcaa
