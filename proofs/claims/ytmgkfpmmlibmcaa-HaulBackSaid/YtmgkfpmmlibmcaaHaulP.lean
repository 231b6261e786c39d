/-
  haul: a run over spines one behind the other, step by step. No walk here.
-/
import Derived.Test.YtmgkfpmmlibmcaaHaulT
import Derived.Test.YtmgkfpmmlibmcaaFill0
namespace Go.Proofs.Ytmgkfpmmlibmcaa
open Go Go.RowKit
set_option linter.unusedVariables false
set_option linter.unusedSimpArgs false
/-- Where the spine q begins. -/
def atO (sz : List Nat) : Nat → Nat
  | 0 => 0
  | q + 1 => atO sz q + (sz.getD q 0 + 2)
theorem atO_mono (sz : List Nat) {p q : Nat} (h : p ≤ q) : atO sz p ≤ atO sz q := by
  induction q with
  | zero => rw [show p = 0 by omega]; exact Nat.le_refl _
  | succ q ih =>
    by_cases hp : p = q + 1
    · rw [hp]; exact Nat.le_refl _
    · have := ih (by omega)
      rw [atO]; omega
/-- Is the spine q copied? -/
def mvO (bl tl : List Bool) (q : Nat) : Bool := bl.getD q false && tl.getD q false
def cpO (sz : List Nat) (bl tl : List Bool) : Nat → Nat
  | 0 => 0
  | q + 1 => cpO sz bl tl q + if mvO bl tl q = true then sz.getD q 0 + 2 else 0
theorem cpO_le (sz : List Nat) (bl tl : List Bool) (q : Nat) : cpO sz bl tl q ≤ atO sz q := by
  induction q with
  | zero => exact Nat.le_refl _
  | succ q ih => rw [cpO, atO]; split <;> omega
theorem cpO_mono (sz : List Nat) (bl tl : List Bool) {p q : Nat} (h : p ≤ q) : cpO sz bl tl p ≤ cpO sz bl tl q := by
  induction q with
  | zero => rw [show p = 0 by omega]; exact Nat.le_refl _
  | succ q ih =>
    by_cases hp : p = q + 1
    · rw [hp]; exact Nat.le_refl _
    · have := ih (by omega)
      rw [cpO]; omega
/-- So many steps. -/
def pathO (sz : List Nat) (bl tl : List Bool) (q : Nat) : Nat := if bl.getD q false = true then (if tl.getD q false = true then 8 + 2 * sz.getD q 0 else 5) else 4
def totO (sz : List Nat) (bl tl : List Bool) : Nat → Nat
  | 0 => 0
  | q + 1 => totO sz bl tl q + pathO sz bl tl q
def cntO (bl tl : List Bool) : Nat → Nat
  | 0 => 0
  | q + 1 => cntO bl tl q + if mvO bl tl q = true then 1 else 0
theorem cntO_le (bl tl : List Bool) (q : Nat) : cntO bl tl q ≤ q := by
  induction q with
  | zero => exact Nat.le_refl _
  | succ q ih => rw [cntO]; split <;> omega
theorem totO_le (sz : List Nat) (bl tl : List Bool) (hz : ∀ q, sz.getD q 0 ≤ 64) (q : Nat) : totO sz bl tl q ≤ 136 * q := by
  induction q with
  | zero => exact Nat.le_refl _
  | succ q ih =>
    have := hz q
    rw [totO]; unfold pathO; split
    · split <;> omega
    · omega
/-- The coil while spines of space s are copied. -/
def cW (s : Nat) (n u kept : Int) : CoilS := if s = 0 then ⟨n, 1, n, u, kept⟩ else ⟨n, 0, u, n, kept⟩
theorem cW_skippable {s : Nat} {n u kept x : Int} (h : 1 ≤ x ∧ x ≤ kept) : (cW s n u kept).skippable x = true := by
  unfold CoilS.skippable cW
  apply decide_eq_true
  split <;> exact h
theorem cW_skip {s : Nat} {n u kept x : Int} (h : 1 ≤ x ∧ x ≤ kept) : (cW s n u kept).skip x = cW s n u (kept - x) := by
  unfold CoilS.skip
  rw [if_pos (cW_skippable h)]
  unfold cW
  split <;> rfl
theorem cW_copiedAt {s : Nat} {n u kept x : Int} (h : 1 ≤ x ∧ x ≤ kept) : (cW s n u kept).copiedAt x = u := by
  unfold CoilS.copiedAt
  rw [if_pos (cW_skippable h)]
  unfold cW
  split <;> rfl
theorem cW_copy {s : Nat} {n u kept x : Int} (h : 1 ≤ x ∧ x ≤ kept) : (cW s n u kept).copy x = cW s n (u + x) (kept - x) := by
  unfold CoilS.copy
  rw [if_pos (cW_skippable h), cW_skip h]
  unfold cW CoilS.lays
  by_cases hs : s = 0
  · rw [if_pos hs, if_pos hs]; rfl
  · rw [if_neg hs, if_neg hs]; rfl
/-- What the run is over. -/
structure HCtx (cm : Cnf) (s : Nat) (sz : List Nat) (bl tl : List Bool) (T : TabS) : Prop where
  s2 : s < 2
  check : cm.check = 0
  spine : cm.spine = (atO sz sz.length : Nat)
  spine2 : atO sz sz.length ≤ 2048
  frags : (sz.length : Int) ≤ cm.frags ∧ cm.frags ≤ 1024
  small : sz.length ≤ 60
  size : ∀ q, sz.getD q 0 ≤ 64
  tab : ∀ q : Nat, q < sz.length → (T.head q && T.black q true) = bl.getD q false
def wD (n : Int) : Nat × Nat := (floatOfInt .f64 n, 0)
def wE (i : Int) : Nat × Nat := (floatOfInt .f64 (i + 1), 4607182418800017408)
/-- The words of the spine q. -/
def vO (sz : List Nat) (W : Nat → Nat → Nat × Nat) (q x : Nat) : Nat × Nat := if x = 0 then wE q else if x = 1 then wD (sz.getD q 0 : Nat) else W q (x - 2)
theorem vO_slot (sz : List Nat) (W : Nat → Nat → Nat × Nat) (q j : Nat) : vO sz W q (j + 2) = W q j := by
  unfold vO; rw [if_neg (by omega), if_neg (by omega), Nat.add_sub_cancel]
/-- Memory behind i spines. -/
structure HMem (cm : Cnf) (s : Nat) (sz : List Nat) (bl tl : List Bool) (W : Nat → Nat → Nat × Nat) (O : Nat → Nat × Nat) (i : Nat) (m : MemS) : Prop where
  len : ∀ a : Int, 0 ≤ a → a < cm.frags * 8 + cm.spine + cm.spine → inB a m.l.length = true
  hd : ∀ q : Nat, q < sz.length → m.peek (spA cm s (atO sz q : Nat)) = wE q
  dz : ∀ q : Nat, q < sz.length → m.peek (spA cm s ((atO sz q : Nat) + 1)) = wD (sz.getD q 0 : Nat)
  sl : ∀ q : Nat, q < sz.length → ∀ j : Nat, j < sz.getD q 0 → m.peek (spA cm s ((atO sz q : Nat) + 2 + j)) = W q j
  ow : ∀ q : Nat, q < sz.length → i ≤ q ∨ mvO bl tl q = false → m.peek ((q : Int) * 8 + 4) = O q
  same : ∀ q : Nat, q < sz.length → sameF (O q) (wD (spA cm s (atO sz q : Nat))) = tl.getD q false
  nw : ∀ q : Nat, q < i → mvO bl tl q = true → m.peek ((q : Int) * 8 + 4) = wD (spA cm (1 - s) (cpO sz bl tl q : Nat)) ∧ ∀ x : Nat, x < sz.getD q 0 + 2 → m.peek (spA cm (1 - s) ((cpO sz bl tl q : Nat) + (x : Int))) = vO sz W q x
/-- So many words of the spine i are copied. -/
def HPart (cm : Cnf) (s : Nat) (sz : List Nat) (bl tl : List Bool) (W : Nat → Nat → Nat × Nat) (i k : Nat) (m : MemS) : Prop := ∀ x : Nat, x < k → m.peek (spA cm (1 - s) ((cpO sz bl tl i : Nat) + (x : Int))) = vO sz W i x
section
variable {cm : Cnf} {s : Nat} {sz : List Nat} {bl tl : List Bool} {T : TabS} {W : Nat → Nat → Nat × Nat} {O : Nat → Nat × Nat} {i : Nat} {m : MemS}
theorem atO_in {q : Nat} (hq : q < sz.length) : atO sz q + (sz.getD q 0 + 2) ≤ atO sz sz.length := by
  have := atO_mono sz (show q + 1 ≤ sz.length from hq)
  rw [atO] at this
  exact this
theorem spA_lo (cm : Cnf) (s : Nat) (k : Int) : spA cm s k = k + cm.frags * 8 + (if s = 0 then 0 else cm.spine) := by unfold spA; omega
/-- A word of the new space is written. -/
theorem HMem.put (H : HCtx cm s sz bl tl T) (h : HMem cm s sz bl tl W O i m) (hi : i ≤ sz.length) {y : Int} (hy : (cpO sz bl tl i : Nat) ≤ y ∧ y < cm.spine) (v : Nat × Nat) : HMem cm s sz bl tl W O i (m.tick.lay (spA cm (1 - s) y) v) := by
  have hs2 := H.s2
  have hsp := H.spine
  have hfr := H.frags
  have keep : ∀ a : Int, a ≠ spA cm (1 - s) y → (m.tick.lay (spA cm (1 - s) y) v).peek a = m.peek a := fun a ha => peek_lay_other (fun e => ha e.symm)
  have hsrc : ∀ k : Int, 0 ≤ k → k < cm.spine → spA cm s k ≠ spA cm (1 - s) y := fun k h0 h1 => by
    rw [spA_lo, spA_lo]
    rcases (show s = 0 ∨ s = 1 by omega) with rfl | rfl
    · simp; omega
    · simp; omega
  have hown : ∀ q : Nat, q < sz.length → (q : Int) * 8 + 4 ≠ spA cm (1 - s) y := fun q hq => by
    rw [spA_lo]
    split <;> omega
  refine ⟨fun a h0 h1 => ?_, fun q hq => ?_, fun q hq => ?_, fun q hq j hj => ?_, fun q hq ho => ?_, h.same, fun q hq hmv => ⟨?_, fun j hj => ?_⟩⟩
  · rw [lay_len]; exact h.len a h0 h1
  · have := atO_in hq
    rw [keep _ (hsrc _ (by omega) (by omega))]; exact h.hd q hq
  · have := atO_in hq
    rw [keep _ (hsrc _ (by omega) (by omega))]; exact h.dz q hq
  · have := atO_in hq
    rw [keep _ (hsrc _ (by omega) (by omega))]; exact h.sl q hq j hj
  · rw [keep _ (hown q hq)]; exact h.ow q hq ho
  · rw [keep _ (hown q (by omega))]; exact (h.nw q hq hmv).1
  · have h1 := cpO_mono sz bl tl (show q + 1 ≤ i from hq)
    rw [cpO, if_pos hmv] at h1
    rw [keep _ (by rw [spA_lo, spA_lo]; omega)]
    exact (h.nw q hq hmv).2 j hj
theorem HMem.tick (h : HMem cm s sz bl tl W O i m) : HMem cm s sz bl tl W O i m.tick := ⟨h.len, h.hd, h.dz, h.sl, h.ow, h.same, h.nw⟩
/-- The spine i is passed. -/
theorem HMem.pass (h : HMem cm s sz bl tl W O i m) (hmv : mvO bl tl i = false) : HMem cm s sz bl tl W O (i + 1) m :=
  ⟨h.len, h.hd, h.dz, h.sl, fun q hq ho => h.ow q hq (by
    rcases ho with ho | ho
    · exact Or.inl (by omega)
    · exact Or.inr ho), h.same, fun q hq hm => h.nw q (by
    rcases (show q < i ∨ q = i by omega) with h1 | h1
    · exact h1
    · subst h1; rw [hmv] at hm; cases hm) hm⟩
/-- The spine i is copied: its sentinel tells so. -/
theorem HMem.moved (H : HCtx cm s sz bl tl T) (h : HMem cm s sz bl tl W O i m) (hi : i < sz.length) (hmv : mvO bl tl i = true) (hp : HPart cm s sz bl tl W i (sz.getD i 0 + 2) m) : HMem cm s sz bl tl W O (i + 1) (m.tick.lay ((i : Int) * 8 + 4) (wD (spA cm (1 - s) (cpO sz bl tl i : Nat)))) := by
  have hfr := H.frags
  have hsp := H.spine
  have keep : ∀ a : Int, a ≠ (i : Int) * 8 + 4 → (m.tick.lay ((i : Int) * 8 + 4) (wD (spA cm (1 - s) (cpO sz bl tl i : Nat)))).peek a = m.peek a := fun a ha => peek_lay_other (fun e => ha e.symm)
  have hsr : ∀ (z : Nat) (k : Int), 0 ≤ k → spA cm z k ≠ (i : Int) * 8 + 4 := fun z k h0 => by
    rw [spA_lo]
    split <;> omega
  refine ⟨fun a h0 h1 => ?_, fun q hq => ?_, fun q hq => ?_, fun q hq j hj => ?_, fun q hq ho => ?_, h.same, fun q hq hm => ⟨?_, fun j hj => ?_⟩⟩
  · rw [lay_len]; exact h.len a h0 h1
  · rw [keep _ (hsr _ _ (by omega))]; exact h.hd q hq
  · rw [keep _ (hsr _ _ (by omega))]; exact h.dz q hq
  · rw [keep _ (hsr _ _ (by omega))]; exact h.sl q hq j hj
  · have hqi : q ≠ i := fun e => by
      subst e
      rcases ho with ho | ho
      · omega
      · rw [hmv] at ho; cases ho
    rw [keep _ (by omega)]
    exact h.ow q hq (by
      rcases ho with ho | ho
      · exact Or.inl (by omega)
      · exact Or.inr ho)
  · by_cases hqi : q = i
    · subst hqi
      exact peek_lay_self (h.len _ (by omega) (by omega))
    · rw [keep _ (by omega)]
      exact (h.nw q (by omega) hm).1
  · rw [keep _ (hsr _ _ (by omega))]
    by_cases hqi : q = i
    · subst hqi
      exact hp j hj
    · exact (h.nw q (by omega) hm).2 j hj
theorem HPart.put {k : Nat} {y : Int} {v : Nat × Nat} (h : HPart cm s sz bl tl W i k m) (hy : y = (cpO sz bl tl i : Nat) + (k : Int)) (hv : v = vO sz W i k) (hin : inB (spA cm (1 - s) y) m.l.length = true) : HPart cm s sz bl tl W i (k + 1) (m.tick.lay (spA cm (1 - s) y) v) := fun x hx => by
  subst hy hv
  by_cases hxk : x = k
  · subst hxk
    exact peek_lay_self hin
  · refine (peek_lay_other (fun e => ?_)).trans (h x (by omega))
    rw [spA_lo, spA_lo] at e
    omega
end
end Go.Proofs.Ytmgkfpmmlibmcaa
