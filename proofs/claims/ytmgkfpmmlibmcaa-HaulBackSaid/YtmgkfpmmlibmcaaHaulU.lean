/-
  HaulSame, HaulBack: a run, of no spine too; what its end leaves. No walk here.
-/
import Derived.Test.YtmgkfpmmlibmcaaHaulX
import Derived.Test.YtmgkfpmmlibmcaaCoilD
namespace Go.Proofs.Ytmgkfpmmlibmcaa
open Go Go.RowKit
set_option linter.unusedVariables false
set_option linter.unusedSimpArgs false
set_option maxHeartbeats 1000000
theorem mvO_no {bl tl : List Bool} {q : Nat} (h : tl.getD q false = false) : mvO bl tl q = false := by unfold mvO; rw [h]; simp
/-- The states of a run, of no spine too. -/
def RJ (cm : Cnf) (s : Nat) (sz : List Nat) (bl tl : List Bool) (W : Nat → Nat → Nat × Nat) (O : Nat → Nat × Nat) (t : Nat) (S : HaulS) (m : MemS) (C : CoilS) : Prop :=
  HJ cm s sz bl tl W O t S m C ∨ (sz = [] ∧ C = cW s 0 0 0 ∧ ((t = 0 ∧ S = HaulS.fresh cm s 0 true) ∨ (t = 1 ∧ S = ⟨cm, s, 0, true, 11, 0, 0, 0, 0, 0, 0, 0, 0, 0, 1⟩)))
def RNext (cm : Cnf) (s : Nat) (sz : List Nat) (bl tl : List Bool) (W : Nat → Nat → Nat × Nat) (O : Nat → Nat × Nat) (T : TabS) (t : Nat) (S : HaulS) (m : MemS) (C : CoilS) : Prop :=
  ∃ S' m' C', RJ cm s sz bl tl W O (t + 1) S' m' C' ∧ m.count ≤ m'.count ∧ m'.count ≤ m.count + 1 ∧ ∃ d : Int, 0 ≤ d ∧ d ≤ 1 ∧
    ∀ (g : GW) (b bm bs bt bp bk : Nat) (n : Int), HW g b bm bs bt bp bk S m T n C → 0 ≤ n ∧ n ≤ 1099511627776 → 0 ≤ m.count ∧ m.count ≤ 1099511627776 →
      Calls Try.prog 47 #[.pointer (some ⟨b, 0, none⟩), .pointer (some ⟨bm, 0, none⟩), .pointer (some ⟨bs, 0, none⟩), .pointer (some ⟨bk, 0, none⟩)] g.w (Does (.bool (S'.pc == 11)) g hTs (fun g' => HW g' b bm bs bt bp bk S' m' T (n + d) C'))
section
variable {cm : Cnf} {s : Nat} {sz : List Nat} {bl tl : List Bool} {T : TabS} {W : Nat → Nat → Nat × Nat} {O : Nat → Nat × Nat} {t : Nat} {S : HaulS} {m : MemS} {C : CoilS}
theorem rj_next (H : HCtx cm s sz bl tl T) (h : RJ cm s sz bl tl W O t S m C) (hpc : S.pc ≠ 11) : RNext cm s sz bl tl W O T t S m C := by
  rcases h with h | ⟨rfl, rfl, ⟨rfl, rfl⟩ | ⟨rfl, rfl⟩⟩
  · obtain ⟨S', m', C', hJ, h1, h2, d, h3, h4, h5⟩ := hj_next H h hpc
    exact ⟨S', m', C', Or.inl hJ, h1, h2, d, h3, h4, h5⟩
  · refine ⟨_, m, _, Or.inr ⟨rfl, rfl, Or.inr ⟨rfl, rfl⟩⟩, Int.le_refl _, by omega, 0, by decide, by decide, fun g b bm bs bt bp bk n hw hn hc => ?_⟩
    have hs2 := H.s2
    have hsp : (0 : Int) ≤ cm.spine := by rw [H.spine]; omega
    refine hstep_l hw H.check (ctx_frm (H := H)) ⟨Int.le_refl _, hsp⟩ (by show (0 : Int) < 4; decide) ⟨Int.le_refl _, by show (0 : Int) ≤ 1099511627776; decide⟩ (fun g' w1 => ?_)
    exact (looks_none g' 320 b bm bs _ w1.hl rfl rfl).mono (fun e w' h => Does.imp h (fun x hx => by subst hx; simp [hTs]) (fun g'' m1 r => ⟨r, w1.mm.keep m1 (by decide), by rw [Int.add_zero]; exact w1.sh.keep m1 (by decide) (by decide), w1.co.keep m1 (by decide)⟩))
  · exact absurd rfl hpc
theorem hj_lt (h : HJ cm s sz bl tl W O t S m C) (hpc : S.pc ≠ 11) : t < totO sz bl tl sz.length := by
  rcases hj_at h with h1 | h1
  · exact h1.2
  · exact absurd h1.1 hpc
theorem rj_at (h : RJ cm s sz bl tl W O t S m C) : (S.pc ≠ 11 ∧ t ≤ totO sz bl tl sz.length) ∨ S.pc = 11 := by
  rcases h with h | ⟨rfl, rfl, ⟨rfl, rfl⟩ | ⟨rfl, rfl⟩⟩
  · rcases hj_at h with h1 | h1
    · exact Or.inl ⟨h1.1, by omega⟩
    · exact Or.inr h1.1
  · exact Or.inl ⟨by show (0 : Int) ≠ 11; decide, Nat.zero_le _⟩
  · exact Or.inr rfl
theorem rj_steps (h : RJ cm s sz bl tl W O t S m C) : t ≤ totO sz bl tl sz.length + 1 := by
  rcases h with h | ⟨rfl, rfl, ⟨rfl, rfl⟩ | ⟨rfl, rfl⟩⟩
  · rcases hj_at h with h1 | h1 <;> omega
  · omega
  · omega
/-- What the sentinels' words are: whole numbers. -/
def RdV (sz : List Nat) (bl tl : List Bool) (lo n : Int) (m : MemS) : Prop :=
  ∀ q : Nat, q < sz.length → ∃ a : Int, m.peek ((q : Int) * 8 + 4) = wD a ∧ -1 ≤ a ∧ a ≤ 1048576 ∧ (mvO bl tl q = true → lo ≤ a ∧ a < lo + n)
theorem rj_reads (H : HCtx cm s sz bl tl T) (h : RJ cm s sz bl tl wF (oF cm s sz tl) t S m C) (hF : 4 ≤ cm.frags) : RdO sz tl (cm.frags * 8) m := by
  rcases h with h | ⟨rfl, -, -⟩
  · obtain ⟨i, hi⟩ := h.mem
    exact hi.reads H hF
  · exact fun q hq => absurd hq (Nat.not_lt_zero _)
theorem rj_over (H : HCtx cm s sz bl tl T) (h : RJ cm s sz bl tl wF (oF cm s sz tl) t S m C) (hF : 4 ≤ cm.frags) (hpc : S.pc = 11) (hml : m.l.length ≤ 1048576) :
    C = cW s (atO sz sz.length : Nat) (cpO sz bl tl sz.length : Nat) 0 ∧ S.moved = (cntO bl tl sz.length : Nat) ∧ S.e = 0 ∧ RdV sz bl tl (spA cm (1 - s) 0) cm.spine m := by
  rcases h with h | ⟨rfl, rfl, ⟨rfl, rfl⟩ | ⟨rfl, rfl⟩⟩
  · obtain ⟨h1, h2, h3, h4⟩ := h.over hpc
    refine ⟨h2, h3, h4, fun q hq => ?_⟩
    have hr := h1.reads H hF q hq
    have hb := H.frags
    cases ht : tl.getD q false
    · exact ⟨-1, hr.1 ht, by decide, by decide, fun h => by rw [mvO_no ht] at h; cases h⟩
    · cases hmv : mvO bl tl q
      · obtain ⟨a, e1, e2, e3, -⟩ := hr.2 ht
        exact ⟨a, e1, by omega, by omega, fun h => by cases h⟩
      · have hcp := cpO_le sz bl tl (q + 1)
        have ha := atO_in hq
        have hsp := H.spine
        have hs2 := H.spine2
        rw [cpO, if_pos hmv, atO] at hcp
        refine ⟨_, (h1.nw q hq hmv).1, ?_, ?_, fun _ => ⟨?_, ?_⟩⟩
        · rw [spA_lo]; split <;> omega
        · rw [spA_lo]; split <;> omega
        · rw [spA_lo, spA_lo]; omega
        · rw [spA_lo, spA_lo]; omega
  · exact absurd hpc (by show (0 : Int) ≠ 11; decide)
  · exact ⟨rfl, rfl, rfl, fun q hq => absurd hq (Nat.not_lt_zero _)⟩
end
/-- Another configuration of the same sizes. -/
theorem spA_cnf {cm cm' : Cnf} (h1 : cm'.frags = cm.frags) (h2 : cm'.spine = cm.spine) : spA cm' = spA cm := by
  funext s k
  unfold spA
  rw [h1, h2]
theorem HMem.cnf {cm cm' : Cnf} {s : Nat} {sz : List Nat} {bl tl : List Bool} {i : Nat} {m : MemS} (h : HMem cm s sz bl tl wF (oF cm s sz tl) i m) (h1 : cm'.frags = cm.frags) (h2 : cm'.spine = cm.spine) : HMem cm' s sz bl tl wF (oF cm' s sz tl) i m := by
  have e := spA_cnf h1 h2
  have eo : oF cm' s sz tl = oF cm s sz tl := by funext q; unfold oF; rw [e]
  rw [eo]
  refine ⟨by rw [h1, h2]; exact h.len, by rw [e]; exact h.hd, by rw [e]; exact h.dz, by rw [e]; exact h.sl, h.ow, by rw [e]; exact h.same, by rw [e]; exact h.nw⟩
/-- A run begins. -/
theorem rj_start {cm : Cnf} {s : Nat} {sz : List Nat} {bl tl : List Bool} {n : Int} {m : MemS} (hm : HMem cm s sz bl tl wF (oF cm s sz tl) 0 m) (hn : n = (atO sz sz.length : Nat)) : RJ cm s sz bl tl wF (oF cm s sz tl) 0 (HaulS.fresh cm s n true) m (cW s n 0 n) := by
  cases sz with
  | nil =>
    have : n = 0 := hn
    subst this
    exact Or.inr ⟨rfl, rfl, Or.inl ⟨rfl, rfl⟩⟩
  | cons a l =>
    have h1 := HJ.p0 (W := wF) (O := oF cm s (a :: l) tl) 0 (by simp) 0 0 0 0 0 0 m hm
    subst hn
    have e2 : ((atO (a :: l) (a :: l).length : Nat) : Int) - ((atO (a :: l) 0 : Nat) : Int) = (atO (a :: l) (a :: l).length : Nat) := by
      show _ - ((0 : Nat) : Int) = _
      omega
    rw [e2] at h1
    exact Or.inl h1
theorem all_true (n q : Nat) (h : q < n) : (List.replicate n true).getD q false = true := by
  rw [List.getD_eq_getElem?_getD, List.getElem?_replicate, if_pos h]; rfl
theorem all_mv (n q : Nat) (h : q < n) : mvO (List.replicate n true) (List.replicate n true) q = true := by
  unfold mvO; rw [all_true n q h]; rfl
theorem all_cnt (n q : Nat) (h : q ≤ n) : cntO (List.replicate n true) (List.replicate n true) q = q := by
  induction q with
  | zero => rfl
  | succ q ih => rw [cntO, if_pos (all_mv n q (by omega)), ih (by omega)]
theorem all_cp (sz : List Nat) (n q : Nat) (h : q ≤ n) : cpO sz (List.replicate n true) (List.replicate n true) q = atO sz q := by
  induction q with
  | zero => rfl
  | succ q ih => rw [cpO, if_pos (all_mv n q (by omega)), atO, ih (by omega)]
end Go.Proofs.Ytmgkfpmmlibmcaa
