/-
  Merged: XHaulV, XHaulY.
-/
import Derived.Test.YtmgkfpmmlibmcaaHaulN
import Derived.Test.YtmgkfpmmlibmcaaFirst17
import Derived.Test.YtmgkfpmmlibmcaaCoil
/-
  HaulSteps: what is laid down before the run. No walk here.
-/
namespace Go.Proofs.Ytmgkfpmmlibmcaa
open Go Go.RowKit
set_option linter.unusedVariables false
set_option linter.unusedSimpArgs false
theorem partF_fits {n : Int} (h : Fits n) : partF (floatOfInt .f64 n) = (floatOfInt .f64 n : Nat) := by unfold partF; rw [if_pos (order_self h)]
theorem sameF_wD {a b : Int} (ha : Fits a) (hb : Fits b) : sameF (wD a) (wD b) = decide (a = b) := by
  unfold sameF wD
  simp only [partF_fits ha, partF_fits hb]
  by_cases h : a = b
  · subst h; simp
  · have h1 : ((floatOfInt .f64 a : Nat) : Int) ≠ (floatOfInt .f64 b : Nat) := fun e => h (float_inj ha hb (by omega))
    rw [decide_eq_false h, beq_eq_false_iff_ne.2 h1]
    rfl
theorem wD_zero : wD 0 = (0, 0) := by unfold wD; rw [floatOf_zero]
theorem peek_fresh (n : Nat) (k a : Int) : MemS.peek ⟨List.replicate n (0, 0), k⟩ a = (0, 0) := by
  unfold MemS.peek
  split
  · rw [List.getD_eq_getElem?_getD, List.getElem?_replicate]; split <;> rfl
  · rfl
/-- Behind k spines that were laid down: their heads, sizes; a sentinel that is told; else what it was. -/
structure SLaid (F n : Int) (sz : List Nat) (tl : List Bool) (k : Nat) (m : MemS) : Prop where
  len : ∀ a : Int, 0 ≤ a → a < F * 8 + n + n → inB a m.l.length = true
  hd : ∀ q : Nat, q < k → m.peek ((atO sz q : Nat) + F * 8) = wE q
  dz : ∀ q : Nat, q < k → m.peek ((atO sz q : Nat) + F * 8 + 1) = wD (sz.getD q 0 : Nat)
  ow : ∀ q : Nat, q < sz.length → m.peek ((q : Int) * 8 + 4) = if q < k ∧ tl.getD q false = true then wD ((atO sz q : Nat) + F * 8) else (0, 0)
section
variable {F n : Int} {sz : List Nat} {tl : List Bool} {k : Nat} {m : MemS}
theorem SLaid.zero (F n : Int) (sz : List Nat) (tl : List Bool) (N : Nat) (c : Int) (hN : F * 8 + n + n ≤ N) : SLaid F n sz tl 0 ⟨List.replicate N (0, 0), c⟩ :=
  ⟨fun a h0 h1 => by
    unfold inB
    apply decide_eq_true
    simp only [List.length_replicate]
    omega, fun q hq => by omega, fun q hq => by omega, fun q hq => by rw [peek_fresh, if_neg (by omega)]⟩
/-- What is laid for the spine k: its head, its size, and, where it is told, its sentinel's word. -/
def sLay (F : Int) (sz : List Nat) (tl : List Bool) (k : Nat) (m : MemS) : MemS :=
  let m1 := (m.tick.lay ((atO sz k : Nat) + F * 8) (wE k)).tick.lay ((atO sz k : Nat) + F * 8 + 1) (wD (sz.getD k 0 : Nat))
  if tl.getD k false = true then m1.tick.lay ((k : Int) * 8 + 4) (wD ((atO sz k : Nat) + F * 8)) else m1
theorem SLaid.other (h : SLaid F n sz tl k m) (hk : k < sz.length) (hF : (sz.length : Int) ≤ F) {a : Int} (ha : (atO sz k : Nat) + F * 8 ≤ a) (v : Nat × Nat) : SLaid F n sz tl k (m.tick.lay a v) := by
  refine ⟨fun b h0 h1 => ?_, fun q hq => ?_, fun q hq => ?_, fun q hq => ?_⟩
  · rw [lay_len]; exact h.len b h0 h1
  · have := atO_mono sz (show q + 1 ≤ k from hq)
    rw [atO] at this
    exact (peek_lay_other (by omega)).trans (h.hd q hq)
  · have := atO_mono sz (show q + 1 ≤ k from hq)
    rw [atO] at this
    exact (peek_lay_other (by omega)).trans (h.dz q hq)
  · exact (peek_lay_other (by omega)).trans (h.ow q hq)
theorem SLaid.done (h : SLaid F n sz tl k m) (hk : k < sz.length) (hF : (sz.length : Int) ≤ F) (hn : 0 ≤ n) (e1 : m.peek ((atO sz k : Nat) + F * 8) = wE k) (e2 : m.peek ((atO sz k : Nat) + F * 8 + 1) = wD (sz.getD k 0 : Nat)) : SLaid F n sz tl (k + 1) (if tl.getD k false = true then m.tick.lay ((k : Int) * 8 + 4) (wD ((atO sz k : Nat) + F * 8)) else m) := by
  cases ht : tl.getD k false
  · rw [if_neg (by decide)]
    refine ⟨h.len, fun q hq => ?_, fun q hq => ?_, fun q hq => ?_⟩
    · by_cases hqk : q = k
      · subst hqk; exact e1
      · exact h.hd q (by omega)
    · by_cases hqk : q = k
      · subst hqk; exact e2
      · exact h.dz q (by omega)
    · rw [h.ow q hq]
      by_cases hqk : q = k
      · subst hqk
        rw [if_neg (by omega), if_neg (by rw [ht]; simp)]
      · by_cases h1 : q < k ∧ tl.getD q false = true
        · rw [if_pos h1, if_pos ⟨by omega, h1.2⟩]
        · rw [if_neg h1, if_neg (fun h2 => h1 ⟨by omega, h2.2⟩)]
  · rw [if_pos rfl]
    refine ⟨fun b h0 h1 => by rw [lay_len]; exact h.len b h0 h1, fun q hq => ?_, fun q hq => ?_, fun q hq => ?_⟩
    · refine (peek_lay_other (by omega)).trans ?_
      by_cases hqk : q = k
      · subst hqk; exact e1
      · exact h.hd q (by omega)
    · refine (peek_lay_other (by omega)).trans ?_
      by_cases hqk : q = k
      · subst hqk; exact e2
      · exact h.dz q (by omega)
    · by_cases hqk : q = k
      · subst hqk
        rw [if_pos ⟨by omega, ht⟩]
        exact peek_lay_self (h.len _ (by omega) (by omega))
      · refine (peek_lay_other (by omega)).trans ((show m.tick.peek ((q : Int) * 8 + 4) = m.peek ((q : Int) * 8 + 4) from rfl).trans ?_)
        rw [h.ow q hq]
        by_cases h1 : q < k ∧ tl.getD q false = true
        · rw [if_pos h1, if_pos ⟨by omega, h1.2⟩]
        · rw [if_neg h1, if_neg (fun h2 => h1 ⟨by omega, h2.2⟩)]
theorem SLaid.step (h : SLaid F n sz tl k m) (hk : k < sz.length) (hF : (sz.length : Int) ≤ F) (hn : n = (atO sz sz.length : Nat)) : SLaid F n sz tl (k + 1) (sLay F sz tl k m) := by
  have ha := atO_in hk
  have h1 := h.other hk hF (a := (atO sz k : Nat) + F * 8) (Int.le_refl _) (wE k)
  have h2 := h1.other hk hF (a := (atO sz k : Nat) + F * 8 + 1) (by omega) (wD (sz.getD k 0 : Nat))
  exact h2.done hk hF (by omega) ((peek_lay_other (by omega)).trans (peek_lay_self (h.len _ (by omega) (by omega)))) (peek_lay_self (h1.len _ (by omega) (by omega)))
/-- What is laid down is a run's memory. -/
theorem SLaid.mem (h : SLaid F n sz tl sz.length m) {cm : Cnf} {bl : List Bool} (hcf : cm.frags = F) (hcs : cm.spine = n) (hF : 4 ≤ F ∧ F ≤ 1024) (hn : n = (atO sz sz.length : Nat)) (hn2 : n ≤ 2048) :
    HMem cm 0 sz bl tl (fun q j => m.peek (spA cm 0 ((atO sz q : Nat) + 2 + j))) (fun q => m.peek ((q : Int) * 8 + 4)) 0 m := by
  have hsp : ∀ q : Nat, spA cm 0 (atO sz q : Nat) = (atO sz q : Nat) + F * 8 := fun q => by rw [spA_lo, hcf]; simp
  refine ⟨fun a h0 h1 => h.len a h0 (by rw [hcf, hcs] at h1; exact h1), fun q hq => by rw [hsp]; exact h.hd q hq, fun q hq => ?_, fun q hq j hj => rfl, fun q hq _ => rfl, fun q hq => ?_, fun q hq => by omega⟩
  · rw [spA_lo, hcf]
    have := h.dz q hq
    rw [show ((atO sz q : Nat) : Int) + 1 + F * 8 + (if (0 : Nat) = 0 then 0 else cm.spine) = (atO sz q : Nat) + F * 8 + 1 by simp; omega]
    exact this
  · have ha := atO_in hq
    rw [hsp, h.ow q hq]
    cases ht : tl.getD q false
    · rw [if_neg (by simp), ← wD_zero, sameF_wD ⟨by omega, by omega⟩ ⟨by omega, by omega⟩, decide_eq_false (by omega)]
    · rw [if_pos ⟨hq, rfl⟩, sameF_wD ⟨by omega, by omega⟩ ⟨by omega, by omega⟩, decide_eq_true rfl]
end
end Go.Proofs.Ytmgkfpmmlibmcaa
/-
  spolaw17: what its laws share: where a run is, words written, what a round keeps.
-/
namespace Go.Proofs.Ytmgkfpmmlibmcaa
open Go Go.RowKit
set_option linter.unusedVariables false
set_option linter.unnecessarySimpa false
set_option linter.unusedSimpArgs false
def maxF (x y : Int) : Int := if x < y then y else x
@[go_sem] theorem max_ints17 (ats : Array TypeId) (ty : TypeId) (x y : Int) : Builtin.max_ ats ty #[.int .i64 x, .int .i64 y] = pure (.int .i64 (maxF x y)) := rfl
set_option maxHeartbeats 1000000 in
theorem rwhole_any (n : Int) (w : World) (h0 : -9007199254740992 ≤ n) (h1 : n ≤ 9007199254740992) : Calls Try.prog 42 #[.int .i64 n] w (Gives (.complex .f64 (floatOfInt .f64 n) 0) w) := by
  go_enter Try.func42, Try.ntmps42
  go_wp2_with fail
  go_ret
  exact Gives.of_ext (by (repeat (first | (with_reducible assumption) | (with_reducible exact Ext.refl _) | (with_reducible exact Ext.more _ _ _ _) | apply Ext.alloc | refine Ext.setCell ?_ (by first | exact Nat.le_refl _ | exact Nat.le_add_right _ _ | assumption) _ | apply Ext.patch | apply Ext.drew | apply Ext.drewN)))
set_option maxHeartbeats 1000000 in
theorem rref_any (n : Int) (w : World) (h0 : 0 ≤ n) (h1 : n ≤ 1099511627776) : Calls Try.prog 41 #[.int .i64 n] w (Gives (.complex .f64 (floatOfInt .f64 (n + 1)) 4607182418800017408) w) := by
  go_enter Try.func41, Try.ntmps41
  go_wp2_with fail
  go_ret
  exact Gives.of_ext (by (repeat (first | (with_reducible assumption) | (with_reducible exact Ext.refl _) | (with_reducible exact Ext.more _ _ _ _) | apply Ext.alloc | refine Ext.setCell ?_ (by first | exact Nat.le_refl _ | exact Nat.le_add_right _ _ | assumption) _ | apply Ext.patch | apply Ext.drew | apply Ext.drewN)))
def szOf (zs : List Int) : List Nat := zs.map Int.toNat
theorem szOf_get (zs : List Int) (q : Nat) : (szOf zs).getD q 0 = (zs.getD q 0).toNat := by
  unfold szOf
  rw [List.getD_eq_getElem?_getD, List.getElem?_map, List.getD_eq_getElem?_getD]
  cases zs[q]? <;> rfl
theorem check17 {F n : Int} {A : Nat} (h0 : 4 ≤ F) (h1 : F ≤ 1024) (h2 : 0 ≤ n ∧ n ≤ 2048) : (c17 F n A).check = 0 := by
  have h3 : (c17 F n A).rangedTo 8 = true := by
    have h5 : (0 : Int) ≤ F := by omega
    simp [c17, Cnf.rangedTo, Cnf.ranges, within, h0, h1, h2.1, h2.2, h5]
  have h4 : decide ((c17 F n A).threads * (c17 F n A).cache ≤ (c17 F n A).frags) = true := decide_eq_true (by show (1 : Int) * 0 ≤ F; omega)
  unfold Cnf.check
  rw [h3, h4]
  rfl
theorem totO_mono (sz : List Nat) (bl tl : List Bool) {p q : Nat} (h : p ≤ q) : totO sz bl tl p ≤ totO sz bl tl q := by
  induction q with
  | zero => rw [show p = 0 by omega]; exact Nat.le_refl _
  | succ q ih =>
    by_cases hp : p = q + 1
    · rw [hp]; exact Nat.le_refl _
    · have := ih (by omega)
      rw [totO]; omega
theorem path_mv {sz : List Nat} {bl tl : List Bool} {i : Nat} (h : mvO bl tl i = true) : pathO sz bl tl i = 8 + 2 * sz.getD i 0 := by
  have h1 : bl.getD i false = true ∧ tl.getD i false = true := by unfold mvO at h; simpa using h
  unfold pathO; rw [if_pos h1.1, if_pos h1.2]
theorem path_ge (sz : List Nat) (bl tl : List Bool) (i : Nat) : 4 ≤ pathO sz bl tl i ∧ (bl.getD i false = true → 5 ≤ pathO sz bl tl i) := by
  unfold pathO
  constructor
  · split
    · split <;> omega
    · omega
  · intro h
    rw [if_pos h]
    split <;> omega
/-- Where a run is. -/
theorem hj_at {cm : Cnf} {s : Nat} {sz : List Nat} {bl tl : List Bool} {W : Nat → Nat → Nat × Nat} {O : Nat → Nat × Nat} {t : Nat} {S : HaulS} {m : MemS} {C : CoilS} (h : HJ cm s sz bl tl W O t S m C) : (S.pc ≠ 11 ∧ t < totO sz bl tl sz.length) ∨ (S.pc = 11 ∧ t = totO sz bl tl sz.length ∧ S.steps = (t : Nat) ∧ S.e = 0) := by
  have key : ∀ i, i < sz.length → totO sz bl tl i + pathO sz bl tl i ≤ totO sz bl tl sz.length := fun i hi => totO_mono sz bl tl (show i + 1 ≤ sz.length from hi)
  cases h with
  | p0 i hi x y d j p q m hm => have := key i hi; have := path_ge sz bl tl i; exact Or.inl ⟨by show (0 : Int) ≠ 11; decide, by omega⟩
  | p1 i hi x d j p q m hm => have := key i hi; have := path_ge sz bl tl i; exact Or.inl ⟨by show (1 : Int) ≠ 11; decide, by omega⟩
  | p2 i hi x j p q m hm => have := key i hi; have := path_ge sz bl tl i; exact Or.inl ⟨by show (2 : Int) ≠ 11; decide, by omega⟩
  | p3 i hi hb x j p q m hm => have := key i hi; have := path_ge sz bl tl i; exact Or.inl ⟨by show (3 : Int) ≠ 11; decide, by omega⟩
  | p4 i hi hmv t ht x j p q m hm => have := totO_mono sz bl tl (show i + 1 ≤ sz.length from hi); exact Or.inl ⟨by show (4 : Int) ≠ 11; decide, by omega⟩
  | p5 i hi hmv x j p q m hm => have := key i hi; have := path_mv (sz := sz) hmv; exact Or.inl ⟨by show (5 : Int) ≠ 11; decide, by omega⟩
  | p6 i hi hmv j p q m hm => have := key i hi; have := path_mv (sz := sz) hmv; exact Or.inl ⟨by show (6 : Int) ≠ 11; decide, by omega⟩
  | p7 i hi hmv j p q m hm hp => have := key i hi; have := path_mv (sz := sz) hmv; exact Or.inl ⟨by show (7 : Int) ≠ 11; decide, by omega⟩
  | p8 i hi hmv j hj p q m hm hp => have := key i hi; have := path_mv (sz := sz) hmv; exact Or.inl ⟨by show (8 : Int) ≠ 11; decide, by omega⟩
  | p9 i hi hmv j hj m hm hp => have := key i hi; have := path_mv (sz := sz) hmv; exact Or.inl ⟨by show (9 : Int) ≠ 11; decide, by omega⟩
  | p10 i hi hmv j p q m hm hp => have := key i hi; have := path_mv (sz := sz) hmv; exact Or.inl ⟨by show (10 : Int) ≠ 11; decide, by omega⟩
  | pe x y d j p q m hm => exact Or.inr ⟨rfl, rfl, rfl, rfl⟩
theorem tab17 {T : TabS} {F k : Nat} {bl : List Bool} {bv : Bool} (hT : T.l.length = F ∧ ∀ q : Nat, q < k → (T.head q && T.black q true) = bl.getD q false) (hk : k < F) (hb : bl.getD k false = bv) :
    (T.set k 2 true bv).l.length = F ∧ ∀ q : Nat, q < k + 1 → ((T.set k 2 true bv).head q && (T.set k 2 true bv).black q true) = bl.getD q false := by
  have hk' : k < T.l.length := by omega
  have e := tabSet (t := T) (head := true) (sense := bv) hk' (show 2 ≤ 2 by decide)
  rw [show ((2 : Nat) : Int) = 2 from rfl] at e
  rw [e]
  refine ⟨by simpa using hT.1, fun q hq => ?_⟩
  by_cases hqk : q = k
  · subst hqk
    have h1 : (⟨T.l.set q ⟨2, true && (2 : Nat) == 2, bv⟩⟩ : TabS).at_ q = some ⟨2, true, bv⟩ := TabS.at_in (by simp [hk'])
    unfold TabS.head TabS.black TabS.state TabS.sense
    rw [h1, hb]
    cases bv <;> rfl
  · have h1 : (⟨T.l.set k ⟨2, true && (2 : Nat) == 2, bv⟩⟩ : TabS).at_ q = T.at_ q := by
      have hq' : q < T.l.length := by omega
      rw [TabS.at_in (o := T.l[q]) (by simp [List.getElem?_set, hqk, Ne.symm hqk, hq']), TabS.at_in (o := T.l[q]) (by simp [hq'])]
    have h2 := hT.2 q (by omega)
    unfold TabS.head TabS.black TabS.state TabS.sense at h2 ⊢
    rw [h1]
    exact h2
theorem mem_write_v (g : GW) (t b : Nat) (a : Int) (p q : Nat) (m : MemS) (h : MemAt g t b m) (hc : 0 ≤ m.count ∧ m.count ≤ 1099511627776) :
    ∃ ev : Int, Calls Try.prog 19 #[.pointer (some ⟨b, 0, none⟩), .int .i64 a, .complex .f64 p q] g.w (Does (.int .i64 ev) g (fun x => x = t) (fun g' => MemAt g' t b (m.tick.lay a (p, q)))) := ⟨_, mem_write g t b a p q m h hc⟩
/-- All that the round keeps. -/
def B17 (w0 : World) (bm bs bt bp bk : Nat) (T : TabS) (C : CoilS) (own : Nat → Nat) (w : World) (m : MemS) : Prop :=
  Mod (fun x => x ≠ 0) ⟨fun _ => 0, w0⟩ ⟨own, w⟩ ∧ MemAt ⟨own, w⟩ 300 bm m ∧ ShAt ⟨own, w⟩ 330 bs bt 331 bp T 0 ∧ CoilAt ⟨own, w⟩ 340 bk C
theorem B17.ext {w0 : World} {bm bs bt bp bk : Nat} {T : TabS} {C : CoilS} {own : Nat → Nat} {w w' : World} {m : MemS} (h : B17 w0 bm bs bt bp bk T C own w m) (he : Ext w w') : B17 w0 bm bs bt bp bk T C ((⟨own, w⟩ : GW).to 0 w').own w' m := by
  have d := Mod.ext (T := fun _ => False) (g := ⟨own, w⟩) he 0
  exact ⟨h.1.trans (d.mono (fun _ => False.elim)), h.2.1.keep d id, h.2.2.1.keep d id id, h.2.2.2.keep d id⟩
theorem B17.wr {w0 : World} {bm bs bt bp bk : Nat} {T : TabS} {C : CoilS} {own own' : Nat → Nat} {w w' : World} {m m' : MemS} (h : B17 w0 bm bs bt bp bk T C own w m) (d : Mod (fun x => x = 300) ⟨own, w⟩ ⟨own', w'⟩) (r : MemAt ⟨own', w'⟩ 300 bm m') : B17 w0 bm bs bt bp bk T C own' w' m' :=
  ⟨h.1.trans (d.mono (fun x hx => by omega)), r, h.2.2.1.keep d (by decide) (by decide), h.2.2.2.keep d (by decide)⟩
theorem B17.old {w0 : World} {bm bs bt bp bk : Nat} {T : TabS} {C : CoilS} {own : Nat → Nat} {w : World} {m : MemS} (h : B17 w0 bm bs bt bp bk T C own w m) : Ext w0 w := (nothing17 h.1 (fun k _ => by simp)).toExt
theorem sLay_at {F : Int} {sz : List Nat} {tl : List Bool} {k ak : Nat} {m : MemS} {y : Int} {tv : Bool} (h1 : atO sz k = ak) (h2 : ((sz.getD k 0 : Nat) : Int) = y) (h3 : tl.getD k false = tv) :
    sLay F sz tl k m = if tv = true then ((m.tick.lay (8 * F + ak) (floatOfInt .f64 ((k : Int) + 1), 4607182418800017408)).tick.lay (8 * F + ak + 1) (floatOfInt .f64 y, 0)).tick.lay (8 * (k : Int) + 4) (floatOfInt .f64 (8 * F + ak), 0) else (m.tick.lay (8 * F + ak) (floatOfInt .f64 ((k : Int) + 1), 4607182418800017408)).tick.lay (8 * F + ak + 1) (floatOfInt .f64 y, 0) := by
  subst h1 h2 h3
  unfold sLay wE wD
  rw [show ((atO sz k : Nat) : Int) + F * 8 = 8 * F + (atO sz k : Nat) by omega, show (k : Int) * 8 + 4 = 8 * (k : Int) + 4 by omega]
end Go.Proofs.Ytmgkfpmmlibmcaa
