/-
  Merged: XFarS, XFarW.
-/
import Derived.Test.YtmgkfpmmlibmcaaKinds
import Derived.Test.YtmgkfpmmlibmcaaFindJ
/-
  Merged: XFarP, XFarS.
-/
/-
  FindFar: the states on the way to a field. No walk here.
-/
namespace Go.Proofs.Ytmgkfpmmlibmcaa
open Go Go.RowKit
set_option linter.unusedVariables false
/-- The link of a fragment. -/
theorem obj_link {s : Shp} {kind : Int} {got : List Int} {i : Nat} (hi : i + 1 < got.length) (hb : 0 ≤ got.getD (i + 1) 0 ∧ got.getD (i + 1) 0 ≤ 1000000) : objV s kind got (i * 8 + 0) = (floatOfInt .f64 (got.getD (i + 1) 0 + 1), 4607182418800017408) := by
  have h := objV_row s kind got (i := i) (k := 0) (by omega) (by decide)
  refine cx_inj (h.symm.trans ?_)
  rw [objRow_link, if_pos hi]
  unfold wRef
  rw [if_neg (by omega)]
/-- Behind j steps of the way to a field in fragment pf > 0, word pw. -/
def farSt (cm : Cnf) (got : List Int) (k : Int) (rf : Bool) (pf : Nat) (pw : Int) (j : Nat) : FindS :=
  if j = 0 then FindS.fresh cm (got.getD 0 0) k false (got.getD 0 0)
  else if j ≤ pf then ⟨cm, got.getD 0 0, k, false, 1, got.getD (j - 1) 0, (pf : Int) - (j - 1 : Nat), pw, 0, 0, 0, -1, rf, 0, j⟩
  else ⟨cm, got.getD 0 0, k, false, 6, got.getD pf 0, 0, pw, 0, 0, 0, got.getD pf 0 * 8 + pw, rf, 0, pf + 1⟩
theorem farSt_zero (cm : Cnf) (got : List Int) (k : Int) (rf : Bool) (pf : Nat) (pw : Int) : farSt cm got k rf pf pw 0 = FindS.fresh cm (got.getD 0 0) k false (got.getD 0 0) := rfl
theorem farSt_mid (cm : Cnf) (got : List Int) (k : Int) (rf : Bool) {pf : Nat} (pw : Int) {j : Nat} (h0 : 0 < j) (h1 : j ≤ pf) : farSt cm got k rf pf pw j = ⟨cm, got.getD 0 0, k, false, 1, got.getD (j - 1) 0, (pf : Int) - (j - 1 : Nat), pw, 0, 0, 0, -1, rf, 0, j⟩ := by
  unfold farSt
  rw [if_neg (by omega), if_pos h1]
theorem farSt_end (cm : Cnf) (got : List Int) (k : Int) (rf : Bool) (pf : Nat) (pw : Int) : farSt cm got k rf pf pw (pf + 1) = ⟨cm, got.getD 0 0, k, false, 6, got.getD pf 0, 0, pw, 0, 0, 0, got.getD pf 0 * 8 + pw, rf, 0, pf + 1⟩ := by
  unfold farSt
  rw [if_neg (by omega), if_neg (by omega)]
theorem farSt_steps (cm : Cnf) (got : List Int) (k : Int) (rf : Bool) (pf : Nat) (pw : Int) {j : Nat} (h : j ≤ pf + 1) : (farSt cm got k rf pf pw j).steps = j := by
  unfold farSt
  split
  · rename_i h0; subst h0; rfl
  · split
    · rfl
    · show ((pf : Int) + 1) = j
      omega
theorem farSt_pc (cm : Cnf) (got : List Int) (k : Int) (rf : Bool) (pf : Nat) (pw : Int) (j : Nat) : (farSt cm got k rf pf pw j).pc = if j = 0 then 0 else if j ≤ pf then 1 else 6 := by
  unfold farSt
  split
  · rfl
  · split <;> rfl
end Go.Proofs.Ytmgkfpmmlibmcaa
/-
  FindFar: one step on the way. No walk here.
-/
namespace Go.Proofs.Ytmgkfpmmlibmcaa
open Go Go.RowKit
set_option linter.unusedVariables false
theorem stands_pc (S : FindS) (f k : Int) : (S.stands f k).pc = 6 := by unfold FindS.stands; split <;> rfl
theorem stands_steps (S : FindS) (f k : Int) : (S.stands f k).steps = S.steps := by unfold FindS.stands; split <;> rfl
/-- What is known of memory, of the copy of the configuration, of the field. -/
structure FarOk (cm : Cnf) (got : List Int) (kd md : Int) (refs : List Bool) (k pf : Nat) (pw F : Int) (m : MemS) : Prop where
  check : cm.check = 0
  frags : cm.frags = F
  few : F ≤ 1024
  gotb : ∀ i, i < got.length → 0 ≤ got.getD i 0 ∧ got.getD i 0 < F
  shape : cm.shapeAt kd = some (false, refs)
  kdb : 0 ≤ kd ∧ kd ≤ 1000000
  lt : k < refs.length
  fld : ∀ A cap, Shp.hasField ⟨false, A, cap, refs⟩ k = true
  pfe : Shp.placeF k = pf
  pwe : Shp.placeW k = pw
  pwb : 0 ≤ pw ∧ pw < 8
  len : pf < got.length
  small : got.length ≤ 1000
  mlen : ∀ a, 0 ≤ a → a < F * 8 → inB a m.l.length = true
  head : m.peek (got.getD 0 0 * 8 + 1) = (floatOfInt .f64 kd, floatOfInt .f64 md)
  link : ∀ i, i + 1 < got.length → m.peek (got.getD i 0 * 8 + 0) = (floatOfInt .f64 (got.getD (i + 1) 0 + 1), 4607182418800017408)
  cnt : 0 ≤ m.count ∧ m.count ≤ 1099511627776
variable {cm : Cnf} {got : List Int} {kd md : Int} {refs : List Bool} {k pf : Nat} {pw F : Int} {m : MemS}
theorem far_here (H : FarOk cm got kd md refs k pf pw F m) (hmd : md = 1 ∨ md = 0 ∧ pf = 0) (g : GW) (b bm : Nat) (h : FindAt g 310 b (FindS.fresh cm (got.getD 0 0) k false (got.getD 0 0))) (hm : MemAt g 300 bm m) :
    Calls Try.prog 24 #[.pointer (some ⟨b, 0, none⟩), .pointer (some ⟨bm, 0, none⟩)] g.w (Does (.bool true) g (fun x => x = 310 ∨ x = 300) (fun g' => (∃ S : FindS, S.pc = 6 ∧ S.steps = 1 ∧ FindAt g' 310 b S) ∧ MemAt g' 300 bm m.tick)) := by
  have h0 := H.gotb 0 (by have := H.len; omega)
  have hc := H.few
  refine find_step_b g 310 b bm _ true _ _ h (Or.inl rfl) ⟨by show (0 : Int) ≤ 0; decide, by show (0 : Int) ≤ 1099511627776; decide⟩ (Or.inl rfl) (fun g' m' h' => ?_)
  refine (find_begins_head g' 310 b 300 bm _ _ m false _ _ h' (hm.keep m' (by decide)) H.cnt rfl (okAt_of H.check H.frags _ rfl h0 (by decide)) (H.mlen _ (by show 0 ≤ got.getD 0 0 * 8 + 1; omega) (by show got.getD 0 0 * 8 + 1 < F * 8; omega)) H.head (by decide) (by decide) (fun g'' h'' =>
    find_first_here g'' 310 b _ _ _ kd md refs k h'' (fun w => tell_head kd md H.kdb.1 (by have := H.kdb.2; omega) (by omega) (by omega) w) H.shape rfl rfl H.lt H.fld (by rw [H.pfe]; omega) ⟨h0.1, by show got.getD 0 0 ≤ 100000; omega⟩)).mono ?_
  rintro e w' ⟨rfl, own, md', r1, r2⟩
  exact ⟨rfl, own, md', ⟨_, stands_pc _ _ _, (stands_steps _ _ _).trans rfl, r1⟩, r2⟩
theorem far_first (H : FarOk cm got kd 0 refs k pf pw F m) (hpf : 0 < pf) (g : GW) (b bm : Nat) (h : FindAt g 310 b (farSt cm got k (refs.getD k false) pf pw 0)) (hm : MemAt g 300 bm m) :
    Calls Try.prog 24 #[.pointer (some ⟨b, 0, none⟩), .pointer (some ⟨bm, 0, none⟩)] g.w (Does (.bool false) g (fun x => x = 310 ∨ x = 300) (fun g' => FindAt g' 310 b (farSt cm got k (refs.getD k false) pf pw (0 + 1)) ∧ MemAt g' 300 bm m.tick)) := by
  have h0 := H.gotb 0 (by have := H.len; omega)
  rw [farSt_zero] at h
  refine find_step_b g 310 b bm _ false _ _ h (Or.inl rfl) ⟨by show (0 : Int) ≤ 0; decide, by show (0 : Int) ≤ 1099511627776; decide⟩ (Or.inl rfl) (fun g' m' h' => ?_)
  refine (find_begins_head g' 310 b 300 bm _ _ m true _ _ h' (hm.keep m' (by decide)) H.cnt rfl (okAt_of H.check H.frags _ rfl h0 (by decide)) (H.mlen _ (by show 0 ≤ got.getD 0 0 * 8 + 1; omega) (by show got.getD 0 0 * 8 + 1 < F * 8; omega)) H.head (by decide) (by decide) (fun g'' h'' =>
    find_first_far g'' 310 b _ _ _ kd refs k h'' (fun w => tell_head kd 0 H.kdb.1 (by have := H.kdb.2; omega) (by decide) (by decide) w) H.shape rfl rfl H.lt H.fld (by rw [H.pfe]; omega))).mono ?_
  rintro e w' ⟨rfl, own, md', r1, r2⟩
  refine ⟨rfl, own, md', ?_, r2⟩
  rw [farSt_mid cm got k (refs.getD k false) pw (Nat.succ_pos 0) hpf]
  rw [H.pfe, H.pwe] at r1
  have e : ((pf : Int) - ((0 + 1 - 1 : Nat) : Int)) = pf := by omega
  rw [e]
  exact r1
theorem far_link (H : FarOk cm got kd md refs k pf pw F m) {rf : Bool} {j : Nat} (h1 : 1 ≤ j) (h2 : j ≤ pf) (g : GW) (b bm : Nat) (h : FindAt g 310 b (farSt cm got k rf pf pw j)) (hm : MemAt g 300 bm m) :
    Calls Try.prog 24 #[.pointer (some ⟨b, 0, none⟩), .pointer (some ⟨bm, 0, none⟩)] g.w (Does (.bool ((pf : Int) - (j - 1 : Nat) == 1)) g (fun x => x = 310 ∨ x = 300) (fun g' => FindAt g' 310 b (farSt cm got k rf pf pw (j + 1)) ∧ MemAt g' 300 bm m.tick)) := by
  have hl := H.len
  have hc := H.few
  have ha := H.gotb (j - 1) (by omega)
  have hb := H.gotb j (by omega)
  have hbf := H.frags
  rw [farSt_mid cm got k rf pw (by omega) h2] at h
  refine find_step_b g 310 b bm _ _ _ _ h (Or.inr rfl) ⟨by show (0 : Int) ≤ (j : Int); omega, by show (j : Int) ≤ 1099511627776; have := H.small; omega⟩ (Or.inl rfl) (fun g' m' h' => ?_)
  have hlk := H.link (j - 1) (by omega)
  rw [show j - 1 + 1 = j by omega] at hlk
  refine (find_begins_link g' 310 b 300 bm _ m (got.getD j 0) h' (hm.keep m' (by decide)) H.cnt rfl (okAt_of H.check H.frags _ rfl ha (by decide)) (H.mlen _ (by show 0 ≤ got.getD (j - 1) 0 * 8 + 0; omega) (by show got.getD (j - 1) 0 * 8 + 0 < F * 8; omega)) hlk (by decide) (by decide) hb.1 (by show got.getD j 0 < cm.frags; omega) (by omega) ⟨by show (1 : Int) ≤ (pf : Int) - (j - 1 : Nat); omega, by show (pf : Int) - (j - 1 : Nat) ≤ 1000000; have := H.small; omega⟩).mono ?_
  rintro e w' ⟨rfl, own, md', r1, r2⟩
  refine ⟨rfl, own, md', ?_, r2⟩
  simp only at r1
  by_cases he : j = pf
  · subst he
    rw [if_pos (by omega)] at r1
    rw [farSt_end]
    unfold FindS.stands at r1
    rw [if_pos (okAt_of H.check H.frags _ rfl hb H.pwb)] at r1
    have e : ((j : Int) - (j - 1 : Nat) - 1) = 0 := by omega
    rw [e] at r1
    exact r1
  · rw [if_neg (by omega)] at r1
    rw [farSt_mid cm got k rf pw (by omega) (by omega)]
    have e : ((pf : Int) - (j - 1 : Nat) - 1) = (pf : Int) - (j + 1 - 1 : Nat) := by omega
    rw [e] at r1
    exact r1
end Go.Proofs.Ytmgkfpmmlibmcaa
/-
  FindFar: the way to a field, whichever it is: one step of it. No walk here.
-/
namespace Go.Proofs.Ytmgkfpmmlibmcaa
open Go Go.RowKit
set_option linter.unusedVariables false
/-- What is known of all fields alike. -/
structure FarAll (cm : Cnf) (got : List Int) (kd md : Int) (refs : List Bool) (F : Int) (m : MemS) : Prop where
  check : cm.check = 0
  frags : cm.frags = F
  few : F ≤ 1024
  gotb : ∀ i, i < got.length → 0 ≤ got.getD i 0 ∧ got.getD i 0 < F
  shape : cm.shapeAt kd = some (false, refs)
  kdb : 0 ≤ kd ∧ kd ≤ 1000000
  fld : ∀ k, k < refs.length → ∀ A cap, Shp.hasField ⟨false, A, cap, refs⟩ (k : Nat) = true
  len : ∀ k : Nat, k < refs.length → Shp.placeF k < got.length
  small : got.length ≤ 1000
  mlen : ∀ a, 0 ≤ a → a < F * 8 → inB a m.l.length = true
  head : m.peek (got.getD 0 0 * 8 + 1) = (floatOfInt .f64 kd, floatOfInt .f64 md)
  link : ∀ i, i + 1 < got.length → m.peek (got.getD i 0 * 8 + 0) = (floatOfInt .f64 (got.getD (i + 1) 0 + 1), 4607182418800017408)
theorem FarAll.ok {cm : Cnf} {got : List Int} {kd md : Int} {refs : List Bool} {F : Int} {m : MemS} (h : FarAll cm got kd md refs F m) {k pf : Nat} {pw : Int} (hk : k < refs.length) (hpf : Shp.placeF k = pf) (hpw : Shp.placeW k = pw) {n : Int} (hn : 0 ≤ n ∧ n ≤ 1099511627776) : FarOk cm got kd md refs k pf pw F (mAt m n) :=
  ⟨h.check, h.frags, h.few, h.gotb, h.shape, h.kdb, hk, h.fld k hk, hpf, hpw, by have := Shp.placeW_bd k (by omega); omega, by have := h.len k hk; omega, h.small, h.mlen, h.head, h.link, hn⟩
/-- The states on the way; 'one': a single step. -/
def OnWay (cm : Cnf) (got : List Int) (k : Int) (rf : Bool) (pf : Nat) (pw : Int) (one : Bool) (S : FindS) (j : Nat) : Prop :=
  if one = true then (j = 0 ∧ S = FindS.fresh cm (got.getD 0 0) k false (got.getD 0 0)) ∨ (j = 1 ∧ S.pc = 6 ∧ S.steps = 1) else j ≤ pf + 1 ∧ S = farSt cm got k rf pf pw j
def farW (pf : Nat) (one : Bool) : Nat := if one = true then 1 else pf + 1
theorem onWay_start (cm : Cnf) (got : List Int) (k : Int) (rf : Bool) (pf : Nat) (pw : Int) (one : Bool) : OnWay cm got k rf pf pw one (FindS.fresh cm (got.getD 0 0) k false (got.getD 0 0)) 0 := by
  unfold OnWay
  split
  · exact Or.inl ⟨rfl, rfl⟩
  · exact ⟨Nat.zero_le _, rfl⟩
theorem onWay_le {cm : Cnf} {got : List Int} {k : Int} {rf : Bool} {pf : Nat} {pw : Int} {one : Bool} {S : FindS} {j : Nat} (h : OnWay cm got k rf pf pw one S j) : j ≤ farW pf one := by
  unfold OnWay at h
  unfold farW
  split at h
  · rw [if_pos (by assumption)]; rcases h with ⟨h, -⟩ | ⟨h, -⟩ <;> omega
  · rw [if_neg (by assumption)]; exact h.1
theorem onWay_pc {cm : Cnf} {got : List Int} {k : Int} {rf : Bool} {pf : Nat} {pw : Int} {one : Bool} {S : FindS} {j : Nat} (h : OnWay cm got k rf pf pw one S j) : (S.pc == 6) = decide (j = farW pf one) := by
  unfold OnWay at h
  unfold farW
  split at h
  · rw [if_pos (by assumption)]
    rcases h with ⟨rfl, rfl⟩ | ⟨rfl, h, -⟩
    · rfl
    · rw [h]; rfl
  · rw [if_neg (by assumption)]
    obtain ⟨hj, rfl⟩ := h
    rw [farSt_pc]
    split
    · rw [decide_eq_false (by omega)]; rfl
    · split
      · rw [decide_eq_false (by omega)]; rfl
      · rw [decide_eq_true (by omega)]; rfl
theorem onWay_steps {cm : Cnf} {got : List Int} {k : Int} {rf : Bool} {pf : Nat} {pw : Int} {one : Bool} {S : FindS} {j : Nat} (h : OnWay cm got k rf pf pw one S j) : S.steps = j := by
  unfold OnWay at h
  split at h
  · rcases h with ⟨rfl, rfl⟩ | ⟨rfl, -, h⟩
    · rfl
    · rw [h]; rfl
  · obtain ⟨hj, rfl⟩ := h
    exact farSt_steps _ _ _ _ _ _ hj
theorem onWay_step {cm : Cnf} {got : List Int} {kd md : Int} {refs : List Bool} {k pf : Nat} {pw F : Int} {m : MemS} (H : FarOk cm got kd md refs k pf pw F m) (hmd : md = 0 ∨ md = 1) {S : FindS} {j : Nat} (hS : OnWay cm got k (refs.getD k false) pf pw (decide (md = 1) || decide (pf = 0)) S j) (hj : j < farW pf (decide (md = 1) || decide (pf = 0))) (g : GW) (b bm : Nat) (h : FindAt g 310 b S) (hm : MemAt g 300 bm m) :
    ∃ x : Bool, Calls Try.prog 24 #[.pointer (some ⟨b, 0, none⟩), .pointer (some ⟨bm, 0, none⟩)] g.w (Does (.bool x) g (fun x => x = 310 ∨ x = 300) (fun g' => ∃ S', OnWay cm got k (refs.getD k false) pf pw (decide (md = 1) || decide (pf = 0)) S' (j + 1) ∧ FindAt g' 310 b S' ∧ MemAt g' 300 bm m.tick)) := by
  cases h1 : (decide (md = 1) || decide (pf = 0))
  · rw [h1] at hS hj
    simp only [Bool.or_eq_false_iff, decide_eq_false_iff_not] at h1
    obtain rfl : md = 0 := by omega
    unfold OnWay at hS
    rw [if_neg (by decide)] at hS
    obtain ⟨hjl, rfl⟩ := hS
    unfold farW at hj
    rw [if_neg (by decide)] at hj
    by_cases h0 : j = 0
    · subst h0
      refine ⟨false, ?_⟩
      refine (far_first H (by omega) g b bm h hm).mono ?_
      rintro e w' ⟨rfl, own, m', r1, r2⟩
      exact ⟨rfl, own, m', _, by unfold OnWay; rw [if_neg (by decide)]; exact ⟨by omega, rfl⟩, r1, r2⟩
    · refine ⟨((pf : Int) - (j - 1 : Nat) == 1), ?_⟩
      refine (far_link H (j := j) (by omega) (by omega) g b bm h hm).mono ?_
      rintro e w' ⟨rfl, own, m', r1, r2⟩
      exact ⟨rfl, own, m', _, by unfold OnWay; rw [if_neg (by decide)]; exact ⟨by omega, rfl⟩, r1, r2⟩
  · rw [h1] at hS hj
    have h2 : md = 1 ∨ md = 0 ∧ pf = 0 := by
      rcases hmd with rfl | rfl
      · right; exact ⟨rfl, by simpa using h1⟩
      · left; rfl
    unfold OnWay at hS
    rw [if_pos rfl] at hS
    unfold farW at hj
    rw [if_pos rfl] at hj
    obtain ⟨rfl, rfl⟩ : j = 0 ∧ S = FindS.fresh cm (got.getD 0 0) k false (got.getD 0 0) := by
      rcases hS with hS | ⟨h, -⟩
      · exact hS
      · omega
    refine ⟨true, ?_⟩
    refine (far_here H h2 g b bm h hm).mono ?_
    rintro e w' ⟨rfl, own, m', ⟨S', p1, p2, r1⟩, r2⟩
    exact ⟨rfl, own, m', S', by unfold OnWay; rw [if_pos rfl]; exact Or.inr ⟨rfl, p1, p2⟩, r1, r2⟩
theorem mAt_tick (m : MemS) (n : Int) : (mAt m n).tick = mAt m (n + 1) := rfl
theorem mAt_at (m : MemS) (a n : Int) : mAt (mAt m a) n = mAt m n := rfl
theorem mAt_self (m : MemS) : mAt m m.count = m := rfl
/-- What the plan laid down, behind all writes. -/
structure FarLaid (c : Cnf) (kind : Int) (got : List Int) (refs : List Bool) (w : World) (A : Option Addr) (m : Nat) (xs : List Value) (V : Nat → Nat × Nat) (words : Int) : Prop where
  one : 1 ≤ got.length
  check : c.check = 0
  gotb : ∀ i, i < got.length → 0 ≤ got.getD i 0 ∧ got.getD i 0 < c.frags
  n : m = 8 * got.length
  cells : CellsAt w A xs
  wr : Wr xs m (onceAt got (-1)) V
  once : Once got (-1) words m (onceAt got (-1))
  inb : ∀ i, i < m → inB (onceAt got (-1) i) (cWords c).toNat = true
  head : V 1 = (floatOfInt .f64 kind, floatOfInt .f64 (if isSide got = true then 1 else 0))
  link : ∀ i, i + 1 < got.length → V (i * 8 + 0) = (floatOfInt .f64 (got.getD (i + 1) 0 + 1), 4607182418800017408)
  fld : ∀ k, k < refs.length → ∀ A cap, Shp.hasField ⟨false, A, cap, refs⟩ (k : Nat) = true
  len : ∀ k : Nat, k < refs.length → Shp.placeF k < got.length
  refs40 : refs.length ≤ 40
theorem far_laid {c : Cnf} {kind : Int} {got : List Int} {s : Shp} {w : World} {A : Option Addr} {m cap base : Nat} {is : Bool} (hz : wrongE c is s 0 false got = 0) (hk : 0 ≤ kind ∧ kind ≤ 1000000)
    (hown : w.ownsRow base 42 2 (.slice A m cap) m (if wrongE c is s 0 false got = 0 then objWrites s kind got (isSide got) got.length else [])) : ∃ xs V words, FarLaid c kind got s.refs w A m xs V words := by
  rw [if_pos hz] at hown
  have hn := hown.1
  rw [objWrites_length] at hn
  obtain rfl : m = 8 * got.length := by omega
  obtain ⟨fc, fa, -, farr, fl, fs, -⟩ := wrongE_fine hz
  have hg1 : 1 ≤ got.length := by omega
  obtain ⟨o1, o2⟩ := once_object (kind := kind) (at_ := -1) (n := 0) hz
  have hgb := got_bd hz
  have hfr := (Cnf.ranged (Cnf.check_zero fc).1).1.2
  obtain ⟨arr, As, caps, refs⟩ := s
  simp only at farr
  subst farr
  have hmay : ∀ A cap, Shp.may ⟨false, A, cap, refs⟩ = true := by
    intro A cap
    cases hm : Shp.may ⟨false, As, caps, refs⟩
    · unfold Shp.size at fs; rw [if_pos (Or.inl hm)] at fs; omega
    · exact hm
  have hsz : Shp.size ⟨false, As, caps, refs⟩ 0 = if (refs.length : Int) ≤ 6 then 1 else 1 + (refs.length : Int) / 7 := by
    unfold Shp.size
    rw [if_neg (by rw [hmay]; simp), if_neg (by simp)]
    rfl
  rw [hsz] at fl
  refine ⟨_, objV ⟨false, As, caps, refs⟩ kind got, _, hg1, fc, hgb, rfl, cellsAt_of_own hown, wr_object hz, o1, once_in_obj hz, obj_head (by omega) hk, fun i hi => obj_link hi (by have := hgb (i + 1) hi; omega), fun k h A cap => ?_, fun k h => ?_, ?_⟩
  · unfold Shp.hasField Shp.len
    rw [hmay]
    simpa using h
  · simp only at h
    unfold Shp.placeF
    split <;> split at fl <;> omega
  · have := hmay none 0
    unfold Shp.may at this
    simp only [decide_eq_true_eq] at this
    exact this.1
theorem ext_of_ne {w w' : World} {own : Nat → Nat} (h : Mod (fun x => x ≠ 0) ⟨fun _ => 0, w⟩ ⟨own, w'⟩) : Ext w w' := (nothing_of h (fun k _ => by simp)).toExt
end Go.Proofs.Ytmgkfpmmlibmcaa
