/-
  HaulSame, HaulBack: what is laid down before the run, with slots; what a run's sentinels read. No walk here.
-/
import Derived.Test.YtmgkfpmmlibmcaaHaulY
namespace Go.Proofs.Ytmgkfpmmlibmcaa
open Go Go.RowKit
set_option linter.unusedVariables false
set_option linter.unusedSimpArgs false
def wF (q j : Nat) : Nat × Nat := wE (100 * (q : Int) + (j : Int))
/-- Behind k spines that were laid down, with their slots. -/
structure SLaid2 (F n : Int) (sz : List Nat) (tl : List Bool) (k : Nat) (m : MemS) : Prop where
  len : ∀ a : Int, 0 ≤ a → a < F * 8 + n + n → inB a m.l.length = true
  sp : ∀ q : Nat, q < k → ∀ x : Nat, x < sz.getD q 0 + 2 → m.peek ((atO sz q : Nat) + F * 8 + (x : Int)) = vO sz wF q x
  ow : ∀ q : Nat, q < k → m.peek ((q : Int) * 8 + 4) = if tl.getD q false = true then wD ((atO sz q : Nat) + F * 8) else wD (-1)
/-- So many words of the spine k are laid. -/
def SPart (F : Int) (sz : List Nat) (k x : Nat) (m : MemS) : Prop := ∀ y : Nat, y < x → m.peek ((atO sz k : Nat) + F * 8 + (y : Int)) = vO sz wF k y
section
variable {F n : Int} {sz : List Nat} {tl : List Bool} {k : Nat} {m : MemS}
theorem SLaid2.zero (F n : Int) (sz : List Nat) (tl : List Bool) (N : Nat) (c : Int) (hN : F * 8 + n + n ≤ N) : SLaid2 F n sz tl 0 ⟨List.replicate N (0, 0), c⟩ :=
  ⟨fun a h0 h1 => by
    unfold inB
    apply decide_eq_true
    simp only [List.length_replicate]
    omega, fun q hq => by omega, fun q hq => by omega⟩
theorem SLaid2.high (h : SLaid2 F n sz tl k m) (hk : k < sz.length) (hF : (sz.length : Int) ≤ F) {a : Int} (ha : (atO sz k : Nat) + F * 8 ≤ a) (v : Nat × Nat) : SLaid2 F n sz tl k (m.tick.lay a v) := by
  refine ⟨fun b h0 h1 => by rw [lay_len]; exact h.len b h0 h1, fun q hq x hx => ?_, fun q hq => ?_⟩
  · have := atO_mono sz (show q + 1 ≤ k from hq)
    rw [atO] at this
    exact (peek_lay_other (by omega)).trans (h.sp q hq x hx)
  · exact (peek_lay_other (by omega)).trans (h.ow q hq)
theorem SLaid2.low (h : SLaid2 F n sz tl k m) (hk : k < sz.length) (hF : (sz.length : Int) ≤ F) (v : Nat × Nat) : SLaid2 F n sz tl k (m.tick.lay ((k : Int) * 8 + 4) v) := by
  refine ⟨fun b h0 h1 => by rw [lay_len]; exact h.len b h0 h1, fun q hq x hx => ?_, fun q hq => ?_⟩
  · exact (peek_lay_other (by omega)).trans (h.sp q hq x hx)
  · exact (peek_lay_other (by omega)).trans (h.ow q hq)
theorem SPart.put {x : Nat} {a : Int} {v : Nat × Nat} (h : SPart F sz k x m) (ha : a = (atO sz k : Nat) + F * 8 + (x : Int)) (hv : v = vO sz wF k x) (hin : inB a m.l.length = true) : SPart F sz k (x + 1) (m.tick.lay a v) := fun y hy => by
  subst ha hv
  by_cases hyx : y = x
  · subst hyx; exact peek_lay_self hin
  · exact (peek_lay_other (by omega)).trans (h y (by omega))
theorem SPart.low {x : Nat} (h : SPart F sz k x m) (hF : (k : Int) < F) (v : Nat × Nat) : SPart F sz k x (m.tick.lay ((k : Int) * 8 + 4) v) := fun y hy => (peek_lay_other (by omega)).trans (h y hy)
theorem SLaid2.done (h : SLaid2 F n sz tl k m) (hp : SPart F sz k (sz.getD k 0 + 2) m) (hw : m.peek ((k : Int) * 8 + 4) = if tl.getD k false = true then wD ((atO sz k : Nat) + F * 8) else wD (-1)) : SLaid2 F n sz tl (k + 1) m := by
  refine ⟨h.len, fun q hq x hx => ?_, fun q hq => ?_⟩
  · by_cases hqk : q = k
    · subst hqk; exact hp x hx
    · exact h.sp q (by omega) x hx
  · by_cases hqk : q = k
    · subst hqk; exact hw
    · exact h.ow q (by omega)
/-- A sentinel's word, at first. -/
def oF (cm : Cnf) (s : Nat) (sz : List Nat) (tl : List Bool) (q : Nat) : Nat × Nat := if tl.getD q false = true then wD (spA cm s (atO sz q : Nat)) else wD (-1)
theorem oF_same {cm : Cnf} {s : Nat} {q : Nat} (h0 : 0 ≤ spA cm s (atO sz q : Nat)) (h1 : spA cm s (atO sz q : Nat) ≤ 1099511627776) : sameF (oF cm s sz tl q) (wD (spA cm s (atO sz q : Nat))) = tl.getD q false := by
  unfold oF
  cases ht : tl.getD q false
  · rw [if_neg (by decide), sameF_wD ⟨by omega, by omega⟩ ⟨by omega, by omega⟩, decide_eq_false (by omega)]
  · rw [if_pos rfl, sameF_wD ⟨by omega, by omega⟩ ⟨by omega, by omega⟩, decide_eq_true rfl]
theorem SLaid2.mem (h : SLaid2 F n sz tl sz.length m) {cm : Cnf} {bl : List Bool} (hcf : cm.frags = F) (hcs : cm.spine = n) (hF : 4 ≤ F ∧ F ≤ 1024) (hn : n = (atO sz sz.length : Nat)) (hn2 : n ≤ 2048) :
    HMem cm 0 sz bl tl wF (oF cm 0 sz tl) 0 m := by
  have hsp : ∀ k : Int, spA cm 0 k = k + F * 8 := fun k => by rw [spA_lo, hcf]; simp
  refine ⟨fun a h0 h1 => h.len a h0 (by rw [hcf, hcs] at h1; exact h1), fun q hq => ?_, fun q hq => ?_, fun q hq j hj => ?_, fun q hq _ => ?_, fun q hq => ?_, fun q hq => by omega⟩
  · have := h.sp q hq 0 (by omega)
    rw [hsp, show ((atO sz q : Nat) : Int) + F * 8 = (atO sz q : Nat) + F * 8 + ((0 : Nat) : Int) by omega]
    exact this
  · have := h.sp q hq 1 (by omega)
    rw [hsp, show ((atO sz q : Nat) : Int) + 1 + F * 8 = (atO sz q : Nat) + F * 8 + ((1 : Nat) : Int) by omega]
    exact this
  · have := h.sp q hq (j + 2) (by omega)
    rw [vO_slot] at this
    rw [hsp, show ((atO sz q : Nat) : Int) + 2 + j + F * 8 = (atO sz q : Nat) + F * 8 + ((j + 2 : Nat) : Int) by omega]
    exact this
  · have := h.ow q hq
    unfold oF
    rw [hsp]
    exact this
  · have ha := atO_in hq
    exact oF_same (by rw [hsp]; omega) (by rw [hsp]; omega)
/-- What every sentinel reads. -/
def RdO (sz : List Nat) (tl : List Bool) (base : Int) (m : MemS) : Prop :=
  ∀ q : Nat, q < sz.length → (tl.getD q false = false → m.peek ((q : Int) * 8 + 4) = wD (-1)) ∧ (tl.getD q false = true → ∃ a : Int, m.peek ((q : Int) * 8 + 4) = wD a ∧ base ≤ a ∧ a + 2 + (sz.getD q 0 : Nat) ≤ m.l.length ∧ ∀ j : Nat, j < sz.getD q 0 → m.peek (a + 2 + (j : Int)) = wE (100 * (q : Int) + (j : Int)))
theorem HMem.reads {cm : Cnf} {s : Nat} {bl : List Bool} {T : TabS} {i : Nat} (H : HCtx cm s sz bl tl T) (h : HMem cm s sz bl tl wF (oF cm s sz tl) i m) (hF : 4 ≤ cm.frags) : RdO sz tl (cm.frags * 8) m := fun q hq => by
  have hs2 := H.s2
  have hsp := H.spine
  have hfr := H.frags
  have ha := atO_in hq
  have hlen : cm.frags * 8 + cm.spine + cm.spine ≤ m.l.length := by
    have := h.len (cm.frags * 8 + cm.spine + cm.spine - 1) (by omega) (by omega)
    obtain ⟨k, hk, hk2⟩ := inB_true this
    omega
  refine ⟨fun ht => ?_, fun ht => ?_⟩
  · have hmv : mvO bl tl q = false := by unfold mvO; rw [ht]; simp
    rw [h.ow q hq (Or.inr hmv)]
    unfold oF
    rw [if_neg (by rw [ht]; decide)]
  · by_cases hc : q < i ∧ mvO bl tl q = true
    · obtain ⟨h1, h2⟩ := h.nw q hc.1 hc.2
      have hcp := cpO_le sz bl tl (q + 1)
      rw [cpO, if_pos hc.2, atO] at hcp
      refine ⟨_, h1, ?_, ?_, fun j hj => ?_⟩
      · rw [spA_lo]; split <;> omega
      · rw [spA_lo]; split <;> omega
      · have := h2 (j + 2) (by omega)
        rw [vO_slot] at this
        rw [show spA cm (1 - s) (cpO sz bl tl q : Nat) + 2 + (j : Int) = spA cm (1 - s) ((cpO sz bl tl q : Nat) + ((j + 2 : Nat) : Int)) by rw [spA_lo, spA_lo]; omega]
        exact this
    · refine ⟨_, (h.ow q hq (by
        by_cases h1 : i ≤ q
        · exact Or.inl h1
        · exact Or.inr (by
            cases hm : mvO bl tl q
            · rfl
            · exact absurd ⟨by omega, hm⟩ hc))).trans (by unfold oF; rw [if_pos ht]), ?_, ?_, fun j hj => ?_⟩
      · rw [spA_lo]; split <;> omega
      · rw [spA_lo]; split <;> omega
      · rw [show spA cm s (atO sz q : Nat) + 2 + (j : Int) = spA cm s ((atO sz q : Nat) + 2 + (j : Int)) by rw [spA_lo, spA_lo]; omega]
        exact h.sl q hq j hj
theorem HJ.mem {cm : Cnf} {s : Nat} {bl : List Bool} {W : Nat → Nat → Nat × Nat} {O : Nat → Nat × Nat} {t : Nat} {S : HaulS} {C : CoilS} (h : HJ cm s sz bl tl W O t S m C) : ∃ i, HMem cm s sz bl tl W O i m := by
  cases h with
  | p0 i hi x y d j p q m hm => exact ⟨_, hm⟩
  | p1 i hi x d j p q m hm => exact ⟨_, hm⟩
  | p2 i hi x j p q m hm => exact ⟨_, hm⟩
  | p3 i hi hb x j p q m hm => exact ⟨_, hm⟩
  | p4 i hi hmv t ht x j p q m hm => exact ⟨_, hm⟩
  | p5 i hi hmv x j p q m hm => exact ⟨_, hm⟩
  | p6 i hi hmv j p q m hm => exact ⟨_, hm⟩
  | p7 i hi hmv j p q m hm hp => exact ⟨_, hm⟩
  | p8 i hi hmv j hj p q m hm hp => exact ⟨_, hm⟩
  | p9 i hi hmv j hj m hm hp => exact ⟨_, hm⟩
  | p10 i hi hmv j p q m hm hp => exact ⟨_, hm⟩
  | pe x y d j p q m hm => exact ⟨_, hm⟩
/-- A run's end. -/
theorem HJ.over {cm : Cnf} {s : Nat} {bl : List Bool} {W : Nat → Nat → Nat × Nat} {O : Nat → Nat × Nat} {t : Nat} {S : HaulS} {C : CoilS} (h : HJ cm s sz bl tl W O t S m C) (hpc : S.pc = 11) : HMem cm s sz bl tl W O sz.length m ∧ C = cW s (atO sz sz.length : Nat) (cpO sz bl tl sz.length : Nat) 0 ∧ S.moved = (cntO bl tl sz.length : Nat) ∧ S.e = 0 := by
  cases h with
  | p0 i hi x y d j p q m hm => exact absurd (show (0 : Int) = 11 from hpc) (by decide)
  | p1 i hi x d j p q m hm => exact absurd (show (1 : Int) = 11 from hpc) (by decide)
  | p2 i hi x j p q m hm => exact absurd (show (2 : Int) = 11 from hpc) (by decide)
  | p3 i hi hb x j p q m hm => exact absurd (show (3 : Int) = 11 from hpc) (by decide)
  | p4 i hi hmv t ht x j p q m hm => exact absurd (show (4 : Int) = 11 from hpc) (by decide)
  | p5 i hi hmv x j p q m hm => exact absurd (show (5 : Int) = 11 from hpc) (by decide)
  | p6 i hi hmv j p q m hm => exact absurd (show (6 : Int) = 11 from hpc) (by decide)
  | p7 i hi hmv j p q m hm hp => exact absurd (show (7 : Int) = 11 from hpc) (by decide)
  | p8 i hi hmv j hj p q m hm hp => exact absurd (show (8 : Int) = 11 from hpc) (by decide)
  | p9 i hi hmv j hj m hm hp => exact absurd (show (9 : Int) = 11 from hpc) (by decide)
  | p10 i hi hmv j p q m hm hp => exact absurd (show (10 : Int) = 11 from hpc) (by decide)
  | pe x y d j p q m hm => exact ⟨hm, rfl, rfl, rfl⟩
theorem totO_bound (sz : List Nat) (bl tl : List Bool) (q : Nat) : totO sz bl tl q ≤ 4 * q + 2 * atO sz q := by
  induction q with
  | zero => exact Nat.le_refl _
  | succ q ih =>
    rw [totO, atO]; unfold pathO; split
    · split <;> omega
    · omega
/-- The way back: what the first run leaves is laid for the second. -/
theorem HMem.turned {cm : Cnf} {s : Nat} {bl : List Bool} {T : TabS} (H : HCtx cm s sz bl tl T) (h : HMem cm s sz bl tl wF (oF cm s sz tl) sz.length m) (hall : ∀ q : Nat, q < sz.length → mvO bl tl q = true) : HMem cm (1 - s) sz bl tl wF (oF cm (1 - s) sz tl) 0 m := by
  have hs2 := H.s2
  have hsp := H.spine
  have hfr := H.frags
  have hs3 := H.spine2
  have hcp : ∀ q : Nat, q ≤ sz.length → cpO sz bl tl q = atO sz q := fun q => by
    induction q with
    | zero => intro _; rfl
    | succ q ih => intro hq; rw [cpO, if_pos (hall q hq), atO, ih (by omega)]
  refine ⟨h.len, fun q hq => ?_, fun q hq => ?_, fun q hq j hj => ?_, fun q hq _ => ?_, fun q hq => ?_, fun q hq => by omega⟩
  · have := (h.nw q hq (hall q hq)).2 0 (by omega)
    rw [hcp q (by omega)] at this
    rw [show ((atO sz q : Nat) : Int) = (atO sz q : Nat) + ((0 : Nat) : Int) by omega]
    exact this
  · have := (h.nw q hq (hall q hq)).2 1 (by omega)
    rw [hcp q (by omega)] at this
    exact this
  · have := (h.nw q hq (hall q hq)).2 (j + 2) (by omega)
    rw [hcp q (by omega), vO_slot] at this
    rw [show ((atO sz q : Nat) : Int) + 2 + j = (atO sz q : Nat) + ((j + 2 : Nat) : Int) by omega]
    exact this
  · have := (h.nw q hq (hall q hq)).1
    rw [hcp q (by omega)] at this
    have ht : tl.getD q false = true := by have := hall q hq; unfold mvO at this; simp at this; simpa using this.2
    unfold oF
    rw [if_pos ht]
    exact this
  · have ha := atO_in hq
    exact oF_same (by rw [spA_lo]; split <;> omega) (by rw [spA_lo]; split <;> omega)
end
end Go.Proofs.Ytmgkfpmmlibmcaa
