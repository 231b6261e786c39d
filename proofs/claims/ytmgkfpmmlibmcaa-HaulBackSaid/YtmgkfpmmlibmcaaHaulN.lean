/-
  Merged: XHaulJ, XHaulK, XHaulN.
-/
import Derived.Test.YtmgkfpmmlibmcaaHaulP
/-
  haul: the states of a run over spines; one step of it. No walk here.
-/
namespace Go.Proofs.Ytmgkfpmmlibmcaa
open Go Go.RowKit
set_option linter.unusedVariables false
set_option linter.unusedSimpArgs false
theorem Does.imp {v : Value} {g : GW} {T T' : Nat → Prop} {R R' : GW → Prop} {e : Ending} {w' : World} (h : Does v g T R e w') (ht : ∀ x, T x → T' x) (hr : ∀ g', Mod T g g' → R g' → R' g') : Does v g T' R' e w' := by
  obtain ⟨rfl, own, m, r⟩ := h
  exact ⟨rfl, own, m.mono ht, hr _ m r⟩
/-- All that a step touches. -/
structure HW (g : GW) (b bm bs bt bp bk : Nat) (S : HaulS) (m : MemS) (T : TabS) (n : Int) (C : CoilS) : Prop where
  hl : HaulAt g 320 b S
  mm : MemAt g 300 bm m
  sh : ShAt g 330 bs bt 331 bp T n
  co : CoilAt g 340 bk C
def hTs : Nat → Prop := fun x => x = 320 ∨ x = 300 ∨ x = 330 ∨ x = 340
theorem HW.keep {g g' : GW} {b bm bs bt bp bk : Nat} {S : HaulS} {m : MemS} {T : TabS} {n : Int} {C : CoilS} (h : HW g b bm bs bt bp bk S m T n C) {U : Nat → Prop} (d : Mod U g g') (h1 : ¬ U 320) (h2 : ¬ U 321) (h3 : ¬ U 300) (h4 : ¬ U 330) (h5 : ¬ U 331) (h6 : ¬ U 340) : HW g' b bm bs bt bp bk S m T n C :=
  ⟨h.hl.keep d h1 h2, h.mm.keep d h3, h.sh.keep d h4 h5, h.co.keep d h6⟩
section
variable {g : GW} {b bm bs bt bp bk : Nat} {S S' : HaulS} {m m' : MemS} {T : TabS} {n n' : Int} {C C' : CoilS}
theorem hstep_l (hw : HW g b bm bs bt bp bk S m T n C) (hck : S.c.check = 0) (hfr : S.frm = 0 ∨ S.frm = 1) (hfin : 0 ≤ S.fin ∧ S.fin ≤ S.c.spine) (hpc : S.pc < 4) (hs : 0 ≤ S.steps ∧ S.steps ≤ 1099511627776)
    (hL : ∀ g', HW g' b bm bs bt bp bk { S with steps := S.steps + 1 } m T n C → Calls Try.prog 172 #[.pointer (some ⟨b, 0, none⟩), .pointer (some ⟨bm, 0, none⟩), .pointer (some ⟨bs, 0, none⟩)] g'.w (Does (.bool true) g' hTs (fun g'' => HW g'' b bm bs bt bp bk S' m' T n' C'))) :
    Calls Try.prog 47 #[.pointer (some ⟨b, 0, none⟩), .pointer (some ⟨bm, 0, none⟩), .pointer (some ⟨bs, 0, none⟩), .pointer (some ⟨bk, 0, none⟩)] g.w (Does (.bool (S'.pc == 11)) g hTs (fun g' => HW g' b bm bs bt bp bk S' m' T n' C')) := by
  refine (haul_step g 320 b bm bs bk S S' hTs (fun g' => HW g' b bm bs bt bp bk S' m' T n' C') hw.hl (by omega) hs (Or.inl rfl) (fun g1 m1 h1 => ?_)).mono (fun e w' h => Does.imp h (fun _ hx => hx) (fun _ _ r => r.2))
  have w1 : HW g1 b bm bs bt bp bk { S with steps := S.steps + 1 } m T n C := ⟨h1, hw.mm.keep m1 (by decide), hw.sh.keep m1 (by decide) (by decide), hw.co.keep m1 (by decide)⟩
  refine haul_does g1 320 b bm bs bk _ hTs _ h1 hck hfr hfin (fun _ g2 m2 h2 => ?_) (fun h => ?_)
  · have w2 := w1.keep m2 id id id id id id
    exact (hL g2 w2).mono (fun e w' h => Does.imp h (fun _ hx => hx) (fun g3 m3 r3 => ⟨r3.hl, r3⟩))
  · have h : 4 ≤ S.pc := h
    omega
theorem hstep_c (hw : HW g b bm bs bt bp bk S m T n C) (hck : S.c.check = 0) (hfr : S.frm = 0 ∨ S.frm = 1) (hfin : 0 ≤ S.fin ∧ S.fin ≤ S.c.spine) (hpc : 4 ≤ S.pc ∧ S.pc < 11) (hs : 0 ≤ S.steps ∧ S.steps ≤ 1099511627776)
    (hL : ∀ g', HW g' b bm bs bt bp bk { S with steps := S.steps + 1 } m T n C → Calls Try.prog 173 #[.pointer (some ⟨b, 0, none⟩), .pointer (some ⟨bm, 0, none⟩), .pointer (some ⟨bk, 0, none⟩)] g'.w (Does (.bool true) g' hTs (fun g'' => HW g'' b bm bs bt bp bk S' m' T n' C'))) :
    Calls Try.prog 47 #[.pointer (some ⟨b, 0, none⟩), .pointer (some ⟨bm, 0, none⟩), .pointer (some ⟨bs, 0, none⟩), .pointer (some ⟨bk, 0, none⟩)] g.w (Does (.bool (S'.pc == 11)) g hTs (fun g' => HW g' b bm bs bt bp bk S' m' T n' C')) := by
  refine (haul_step g 320 b bm bs bk S S' hTs (fun g' => HW g' b bm bs bt bp bk S' m' T n' C') hw.hl (by omega) hs (Or.inl rfl) (fun g1 m1 h1 => ?_)).mono (fun e w' h => Does.imp h (fun _ hx => hx) (fun _ _ r => r.2))
  have w1 : HW g1 b bm bs bt bp bk { S with steps := S.steps + 1 } m T n C := ⟨h1, hw.mm.keep m1 (by decide), hw.sh.keep m1 (by decide) (by decide), hw.co.keep m1 (by decide)⟩
  refine haul_does g1 320 b bm bs bk _ hTs _ h1 hck hfr hfin (fun h => ?_) (fun _ g2 m2 h2 => ?_)
  · have h : S.pc < 4 := h
    omega
  · have w2 := w1.keep m2 id id id id id id
    exact (hL g2 w2).mono (fun e w' h => Does.imp h (fun _ hx => hx) (fun g3 m3 r3 => ⟨r3.hl, r3⟩))
end
/-- The states of a run: so many steps are done. -/
inductive HJ (cm : Cnf) (s : Nat) (sz : List Nat) (bl tl : List Bool) (W : Nat → Nat → Nat × Nat) (O : Nat → Nat × Nat) : Nat → HaulS → MemS → CoilS → Prop
  | p0 (i : Nat) (hi : i < sz.length) (x y d j : Int) (p q : Nat) (m : MemS) (hm : HMem cm s sz bl tl W O i m) : HJ cm s sz bl tl W O (totO sz bl tl i) ⟨cm, (s : Nat), (atO sz sz.length : Nat), true, 0, (atO sz i : Nat), x, y, d, j, p, q, 0, (cntO bl tl i : Nat), (totO sz bl tl i : Nat)⟩ m (cW s (atO sz sz.length : Nat) (cpO sz bl tl i : Nat) ((atO sz sz.length : Nat) - (atO sz i : Nat)))
  | p1 (i : Nat) (hi : i < sz.length) (x d j : Int) (p q : Nat) (m : MemS) (hm : HMem cm s sz bl tl W O i m) : HJ cm s sz bl tl W O (totO sz bl tl i + 1) ⟨cm, (s : Nat), (atO sz sz.length : Nat), true, 1, (atO sz i : Nat), x, i, d, j, p, q, 0, (cntO bl tl i : Nat), (totO sz bl tl i + 1 : Nat)⟩ m (cW s (atO sz sz.length : Nat) (cpO sz bl tl i : Nat) ((atO sz sz.length : Nat) - (atO sz i : Nat)))
  | p2 (i : Nat) (hi : i < sz.length) (x j : Int) (p q : Nat) (m : MemS) (hm : HMem cm s sz bl tl W O i m) : HJ cm s sz bl tl W O (totO sz bl tl i + 2) ⟨cm, (s : Nat), (atO sz sz.length : Nat), true, 2, (atO sz i : Nat), x, i, (sz.getD i 0 : Nat), j, p, q, 0, (cntO bl tl i : Nat), (totO sz bl tl i + 2 : Nat)⟩ m (cW s (atO sz sz.length : Nat) (cpO sz bl tl i : Nat) ((atO sz sz.length : Nat) - (atO sz i : Nat)))
  | p3 (i : Nat) (hi : i < sz.length) (hb : bl.getD i false = true) (x j : Int) (p q : Nat) (m : MemS) (hm : HMem cm s sz bl tl W O i m) : HJ cm s sz bl tl W O (totO sz bl tl i + 3) ⟨cm, (s : Nat), (atO sz sz.length : Nat), true, 3, (atO sz i : Nat), x, i, (sz.getD i 0 : Nat), j, p, q, 0, (cntO bl tl i : Nat), (totO sz bl tl i + 3 : Nat)⟩ m (cW s (atO sz sz.length : Nat) (cpO sz bl tl i : Nat) ((atO sz sz.length : Nat) - (atO sz i : Nat)))
  | p4 (i : Nat) (hi : i < sz.length) (hmv : mvO bl tl i = false) (t : Nat) (ht : t + 1 = totO sz bl tl (i + 1)) (x j : Int) (p q : Nat) (m : MemS) (hm : HMem cm s sz bl tl W O i m) : HJ cm s sz bl tl W O t ⟨cm, (s : Nat), (atO sz sz.length : Nat), true, 4, (atO sz i : Nat), x, i, (sz.getD i 0 : Nat), j, p, q, 0, (cntO bl tl i : Nat), (t : Nat)⟩ m (cW s (atO sz sz.length : Nat) (cpO sz bl tl i : Nat) ((atO sz sz.length : Nat) - (atO sz i : Nat)))
  | p5 (i : Nat) (hi : i < sz.length) (hmv : mvO bl tl i = true) (x j : Int) (p q : Nat) (m : MemS) (hm : HMem cm s sz bl tl W O i m) : HJ cm s sz bl tl W O (totO sz bl tl i + 4) ⟨cm, (s : Nat), (atO sz sz.length : Nat), true, 5, (atO sz i : Nat), x, i, (sz.getD i 0 : Nat), j, p, q, 0, (cntO bl tl i : Nat), (totO sz bl tl i + 4 : Nat)⟩ m (cW s (atO sz sz.length : Nat) (cpO sz bl tl i : Nat) ((atO sz sz.length : Nat) - (atO sz i : Nat)))
  | p6 (i : Nat) (hi : i < sz.length) (hmv : mvO bl tl i = true) (j : Int) (p q : Nat) (m : MemS) (hm : HMem cm s sz bl tl W O i m) : HJ cm s sz bl tl W O (totO sz bl tl i + 5) ⟨cm, (s : Nat), (atO sz sz.length : Nat), true, 6, (atO sz i : Nat), (cpO sz bl tl i : Nat), i, (sz.getD i 0 : Nat), j, p, q, 0, (cntO bl tl i : Nat), (totO sz bl tl i + 5 : Nat)⟩ m (cW s (atO sz sz.length : Nat) (cpO sz bl tl (i + 1) : Nat) ((atO sz sz.length : Nat) - (atO sz (i + 1) : Nat)))
  | p7 (i : Nat) (hi : i < sz.length) (hmv : mvO bl tl i = true) (j : Int) (p q : Nat) (m : MemS) (hm : HMem cm s sz bl tl W O i m) (hp : HPart cm s sz bl tl W i 1 m) : HJ cm s sz bl tl W O (totO sz bl tl i + 6) ⟨cm, (s : Nat), (atO sz sz.length : Nat), true, 7, (atO sz i : Nat), (cpO sz bl tl i : Nat), i, (sz.getD i 0 : Nat), j, p, q, 0, (cntO bl tl i : Nat), (totO sz bl tl i + 6 : Nat)⟩ m (cW s (atO sz sz.length : Nat) (cpO sz bl tl (i + 1) : Nat) ((atO sz sz.length : Nat) - (atO sz (i + 1) : Nat)))
  | p8 (i : Nat) (hi : i < sz.length) (hmv : mvO bl tl i = true) (j : Nat) (hj : j < sz.getD i 0) (p q : Nat) (m : MemS) (hm : HMem cm s sz bl tl W O i m) (hp : HPart cm s sz bl tl W i (j + 2) m) : HJ cm s sz bl tl W O (totO sz bl tl i + 7 + 2 * j) ⟨cm, (s : Nat), (atO sz sz.length : Nat), true, 8, (atO sz i : Nat), (cpO sz bl tl i : Nat), i, (sz.getD i 0 : Nat), j, p, q, 0, (cntO bl tl i : Nat), (totO sz bl tl i + 7 + 2 * j : Nat)⟩ m (cW s (atO sz sz.length : Nat) (cpO sz bl tl (i + 1) : Nat) ((atO sz sz.length : Nat) - (atO sz (i + 1) : Nat)))
  | p9 (i : Nat) (hi : i < sz.length) (hmv : mvO bl tl i = true) (j : Nat) (hj : j < sz.getD i 0) (m : MemS) (hm : HMem cm s sz bl tl W O i m) (hp : HPart cm s sz bl tl W i (j + 2) m) : HJ cm s sz bl tl W O (totO sz bl tl i + 7 + 2 * j + 1) ⟨cm, (s : Nat), (atO sz sz.length : Nat), true, 9, (atO sz i : Nat), (cpO sz bl tl i : Nat), i, (sz.getD i 0 : Nat), j, (W i j).1, (W i j).2, 0, (cntO bl tl i : Nat), (totO sz bl tl i + 7 + 2 * j + 1 : Nat)⟩ m (cW s (atO sz sz.length : Nat) (cpO sz bl tl (i + 1) : Nat) ((atO sz sz.length : Nat) - (atO sz (i + 1) : Nat)))
  | p10 (i : Nat) (hi : i < sz.length) (hmv : mvO bl tl i = true) (j : Int) (p q : Nat) (m : MemS) (hm : HMem cm s sz bl tl W O i m) (hp : HPart cm s sz bl tl W i (sz.getD i 0 + 2) m) : HJ cm s sz bl tl W O (totO sz bl tl i + 7 + 2 * sz.getD i 0) ⟨cm, (s : Nat), (atO sz sz.length : Nat), true, 10, (atO sz i : Nat), (cpO sz bl tl i : Nat), i, (sz.getD i 0 : Nat), j, p, q, 0, (cntO bl tl i : Nat), (totO sz bl tl i + 7 + 2 * sz.getD i 0 : Nat)⟩ m (cW s (atO sz sz.length : Nat) (cpO sz bl tl (i + 1) : Nat) ((atO sz sz.length : Nat) - (atO sz (i + 1) : Nat)))
  | pe (x y d j : Int) (p q : Nat) (m : MemS) (hm : HMem cm s sz bl tl W O sz.length m) : HJ cm s sz bl tl W O (totO sz bl tl sz.length) ⟨cm, (s : Nat), (atO sz sz.length : Nat), true, 11, (atO sz sz.length : Nat), x, y, d, j, p, q, 0, (cntO bl tl sz.length : Nat), (totO sz bl tl sz.length : Nat)⟩ m (cW s (atO sz sz.length : Nat) (cpO sz bl tl sz.length : Nat) 0)
end Go.Proofs.Ytmgkfpmmlibmcaa
/-
  haul: one step of a run over spines. No walk here.
-/
namespace Go.Proofs.Ytmgkfpmmlibmcaa
open Go Go.RowKit
set_option linter.unusedVariables false
set_option linter.unusedSimpArgs false
set_option maxHeartbeats 1000000
/-- What one step comes to. -/
def HNext (cm : Cnf) (s : Nat) (sz : List Nat) (bl tl : List Bool) (W : Nat → Nat → Nat × Nat) (O : Nat → Nat × Nat) (T : TabS) (t : Nat) (S : HaulS) (m : MemS) (C : CoilS) : Prop :=
  ∃ S' m' C', HJ cm s sz bl tl W O (t + 1) S' m' C' ∧ m.count ≤ m'.count ∧ m'.count ≤ m.count + 1 ∧ ∃ d : Int, 0 ≤ d ∧ d ≤ 1 ∧
    ∀ (g : GW) (b bm bs bt bp bk : Nat) (n : Int), HW g b bm bs bt bp bk S m T n C → 0 ≤ n ∧ n ≤ 1099511627776 → 0 ≤ m.count ∧ m.count ≤ 1099511627776 →
      Calls Try.prog 47 #[.pointer (some ⟨b, 0, none⟩), .pointer (some ⟨bm, 0, none⟩), .pointer (some ⟨bs, 0, none⟩), .pointer (some ⟨bk, 0, none⟩)] g.w (Does (.bool (S'.pc == 11)) g hTs (fun g' => HW g' b bm bs bt bp bk S' m' T (n + d) C'))
section
variable {cm : Cnf} {s : Nat} {sz : List Nat} {bl tl : List Bool} {T : TabS} {W : Nat → Nat → Nat × Nat} {O : Nat → Nat × Nat}
theorem wE_eq (i : Int) : wE i = (floatOfInt .f64 (i + 1), 4607182418800017408) := rfl
theorem ctx_frm {H : HCtx cm s sz bl tl T} : ((s : Nat) : Int) = 0 ∨ ((s : Nat) : Int) = 1 := by have := H.s2; omega
theorem spA_in (H : HCtx cm s sz bl tl T) {z : Nat} {k : Int} (h0 : 0 ≤ k) (h1 : k < cm.spine) : 0 ≤ spA cm z k ∧ spA cm z k < cm.frags * 8 + cm.spine + cm.spine := by
  have := H.frags
  rw [spA_lo]
  split <;> omega
theorem next0 (H : HCtx cm s sz bl tl T) {i : Nat} (hi : i < sz.length) (x y d j : Int) (p q : Nat) (m : MemS) (hm : HMem cm s sz bl tl W O i m) :
    HNext cm s sz bl tl W O T (totO sz bl tl i) ⟨cm, (s : Nat), (atO sz sz.length : Nat), true, 0, (atO sz i : Nat), x, y, d, j, p, q, 0, (cntO bl tl i : Nat), (totO sz bl tl i : Nat)⟩ m (cW s (atO sz sz.length : Nat) (cpO sz bl tl i : Nat) ((atO sz sz.length : Nat) - (atO sz i : Nat))) := by
  have ha := atO_in hi
  have hsp := H.spine
  have hs2 := H.spine2
  have hfr := H.frags
  have hz64 := H.size i
  have htot := totO_le sz bl tl H.size i
  have hsm := H.small
  have hcp := cpO_le sz bl tl i
  have hcn := cntO_le bl tl i
  have hat1 : atO sz (i + 1) = atO sz i + (sz.getD i 0 + 2) := rfl
  have hin := spA_in H (z := s) (k := (atO sz i : Nat)) (by omega) (by omega)
  refine ⟨_, m.tick, _, HJ.p1 i hi x d j p q m.tick hm.tick, by show m.count ≤ m.count + 1; omega, Int.le_refl _, 0, by decide, by decide, fun g b bm bs bt bp bk n hw hn hc => ?_⟩
  refine hstep_l hw H.check (ctx_frm (H := H)) ⟨by show (0 : Int) ≤ (atO sz sz.length : Nat); omega, by show ((atO sz sz.length : Nat) : Int) ≤ cm.spine; omega⟩ (by show (0 : Int) < 4; decide)  ⟨by show (0 : Int) ≤ (totO sz bl tl i : Nat); omega, by show ((totO sz bl tl i : Nat) : Int) ≤ 1099511627776; omega⟩ (fun g' w1 => ?_)
  refine (looks_head g' 320 b 300 bm bs _ m s i w1.hl w1.mm hc H.check rfl H.s2 ⟨by show (0 : Int) ≤ (atO sz i : Nat); omega, by show ((atO sz i : Nat) : Int) < cm.spine; omega⟩ (hm.len _ hin.1 hin.2) (hm.hd i hi) (by decide) (by decide) rfl (by show ((atO sz sz.length : Nat) : Int) ≠ 0; omega) ⟨by omega, by show (i : Int) < cm.frags; omega⟩ (by omega)).mono (fun e w' h => Does.imp h (fun x hx => by rcases hx with rfl | rfl <;> simp [hTs]) (fun g'' m1 r => ⟨r.1, r.2, by rw [Int.add_zero]; exact w1.sh.keep m1 (by decide) (by decide), w1.co.keep m1 (by decide)⟩))
theorem next1 (H : HCtx cm s sz bl tl T) {i : Nat} (hi : i < sz.length) (x d j : Int) (p q : Nat) (m : MemS) (hm : HMem cm s sz bl tl W O i m) :
    HNext cm s sz bl tl W O T (totO sz bl tl i + 1) ⟨cm, (s : Nat), (atO sz sz.length : Nat), true, 1, (atO sz i : Nat), x, i, d, j, p, q, 0, (cntO bl tl i : Nat), (totO sz bl tl i + 1 : Nat)⟩ m (cW s (atO sz sz.length : Nat) (cpO sz bl tl i : Nat) ((atO sz sz.length : Nat) - (atO sz i : Nat))) := by
  have ha := atO_in hi
  have hsp := H.spine
  have hs2 := H.spine2
  have hfr := H.frags
  have hz64 := H.size i
  have htot := totO_le sz bl tl H.size i
  have hsm := H.small
  have hcp := cpO_le sz bl tl i
  have hcn := cntO_le bl tl i
  have hat1 : atO sz (i + 1) = atO sz i + (sz.getD i 0 + 2) := rfl
  have hin := spA_in H (z := s) (k := (atO sz i : Nat) + 1) (by omega) (by omega)
  refine ⟨_, m.tick, _, HJ.p2 i hi x j p q m.tick hm.tick, by show m.count ≤ m.count + 1; omega, Int.le_refl _, 0, by decide, by decide, fun g b bm bs bt bp bk n hw hn hc => ?_⟩
  refine hstep_l hw H.check (ctx_frm (H := H)) ⟨by show (0 : Int) ≤ (atO sz sz.length : Nat); omega, by show ((atO sz sz.length : Nat) : Int) ≤ cm.spine; omega⟩ (by show (1 : Int) < 4; decide)  ⟨by show (0 : Int) ≤ (totO sz bl tl i + 1 : Nat); omega, by show ((totO sz bl tl i + 1 : Nat) : Int) ≤ 1099511627776; omega⟩ (fun g' w1 => ?_)
  refine (looks_size g' 320 b 300 bm bs _ m s (sz.getD i 0 : Nat) w1.hl w1.mm hc H.check rfl H.s2 ⟨by show (0 : Int) ≤ (atO sz i : Nat); omega, by show ((atO sz i : Nat) : Int) + 1 < cm.spine; omega⟩ (by show ((atO sz i : Nat) : Int) ≤ 100000; omega) (hm.len _ hin.1 hin.2) (hm.dz i hi) (by decide) (by decide) rfl ⟨by omega, by show ((sz.getD i 0 : Nat) : Int) ≤ (atO sz sz.length : Nat) - (atO sz i : Nat) - 2; omega⟩ (by show ((atO sz sz.length : Nat) : Int) ≤ 100000; omega)).mono (fun e w' h => Does.imp h (fun x hx => by rcases hx with rfl | rfl <;> simp [hTs]) (fun g'' m1 r => ⟨r.1, r.2, by rw [Int.add_zero]; exact w1.sh.keep m1 (by decide) (by decide), w1.co.keep m1 (by decide)⟩))
theorem next2 (H : HCtx cm s sz bl tl T) {i : Nat} (hi : i < sz.length) (x j : Int) (p q : Nat) (m : MemS) (hm : HMem cm s sz bl tl W O i m) :
    HNext cm s sz bl tl W O T (totO sz bl tl i + 2) ⟨cm, (s : Nat), (atO sz sz.length : Nat), true, 2, (atO sz i : Nat), x, i, (sz.getD i 0 : Nat), j, p, q, 0, (cntO bl tl i : Nat), (totO sz bl tl i + 2 : Nat)⟩ m (cW s (atO sz sz.length : Nat) (cpO sz bl tl i : Nat) ((atO sz sz.length : Nat) - (atO sz i : Nat))) := by
  have ha := atO_in hi
  have hsp := H.spine
  have hs2 := H.spine2
  have hfr := H.frags
  have hz64 := H.size i
  have htot := totO_le sz bl tl H.size i
  have hsm := H.small
  have hcp := cpO_le sz bl tl i
  have hcn := cntO_le bl tl i
  have hat1 : atO sz (i + 1) = atO sz i + (sz.getD i 0 + 2) := rfl
  cases hb : bl.getD i false
  · have hmv : mvO bl tl i = false := by unfold mvO; rw [hb]; rfl
    have ht : totO sz bl tl i + 3 + 1 = totO sz bl tl (i + 1) := by rw [totO]; unfold pathO; rw [hb]; rfl
    refine ⟨_, m, _, HJ.p4 i hi hmv (totO sz bl tl i + 3) ht x j p q m hm, Int.le_refl _, by omega, 1, by decide, by decide, fun g b bm bs bt bp bk n hw hn hc => ?_⟩
    refine hstep_l hw H.check (ctx_frm (H := H)) ⟨by show (0 : Int) ≤ (atO sz sz.length : Nat); omega, by show ((atO sz sz.length : Nat) : Int) ≤ cm.spine; omega⟩ (by show (2 : Int) < 4; decide)  ⟨by show (0 : Int) ≤ (totO sz bl tl i + 2 : Nat); omega, by show ((totO sz bl tl i + 2 : Nat) : Int) ≤ 1099511627776; omega⟩ (fun g' w1 => ?_)
    refine (looks_black g' 320 b bm 330 bs bt 331 bp _ T n false w1.hl w1.sh hn rfl ((H.tab i hi).trans hb) (by decide) (by decide) (by decide) (by decide)).mono (fun e w' h => Does.imp h (fun x hx => by rcases hx with rfl | rfl <;> simp [hTs]) (fun g'' m1 r => ⟨r.1, w1.mm.keep m1 (by decide), r.2, w1.co.keep m1 (by decide)⟩))
  · refine ⟨_, m, _, HJ.p3 i hi hb x j p q m hm, Int.le_refl _, by omega, 1, by decide, by decide, fun g b bm bs bt bp bk n hw hn hc => ?_⟩
    refine hstep_l hw H.check (ctx_frm (H := H)) ⟨by show (0 : Int) ≤ (atO sz sz.length : Nat); omega, by show ((atO sz sz.length : Nat) : Int) ≤ cm.spine; omega⟩ (by show (2 : Int) < 4; decide)  ⟨by show (0 : Int) ≤ (totO sz bl tl i + 2 : Nat); omega, by show ((totO sz bl tl i + 2 : Nat) : Int) ≤ 1099511627776; omega⟩ (fun g' w1 => ?_)
    refine (looks_black g' 320 b bm 330 bs bt 331 bp _ T n true w1.hl w1.sh hn rfl ((H.tab i hi).trans hb) (by decide) (by decide) (by decide) (by decide)).mono (fun e w' h => Does.imp h (fun x hx => by rcases hx with rfl | rfl <;> simp [hTs]) (fun g'' m1 r => ⟨r.1, w1.mm.keep m1 (by decide), r.2, w1.co.keep m1 (by decide)⟩))
theorem next3 (H : HCtx cm s sz bl tl T) {i : Nat} (hi : i < sz.length) (hb : bl.getD i false = true) (x j : Int) (p q : Nat) (m : MemS) (hm : HMem cm s sz bl tl W O i m) :
    HNext cm s sz bl tl W O T (totO sz bl tl i + 3) ⟨cm, (s : Nat), (atO sz sz.length : Nat), true, 3, (atO sz i : Nat), x, i, (sz.getD i 0 : Nat), j, p, q, 0, (cntO bl tl i : Nat), (totO sz bl tl i + 3 : Nat)⟩ m (cW s (atO sz sz.length : Nat) (cpO sz bl tl i : Nat) ((atO sz sz.length : Nat) - (atO sz i : Nat))) := by
  have ha := atO_in hi
  have hsp := H.spine
  have hs2 := H.spine2
  have hfr := H.frags
  have hz64 := H.size i
  have htot := totO_le sz bl tl H.size i
  have hsm := H.small
  have hcp := cpO_le sz bl tl i
  have hcn := cntO_le bl tl i
  have hat1 : atO sz (i + 1) = atO sz i + (sz.getD i 0 + 2) := rfl
  have hin := spA_in H (z := s) (k := (atO sz i : Nat)) (by omega) (by omega)
  cases ht0 : tl.getD i false
  · have hmv : mvO bl tl i = false := by unfold mvO; rw [hb, ht0]; rfl
    have ht : totO sz bl tl i + 4 + 1 = totO sz bl tl (i + 1) := by rw [totO]; unfold pathO; rw [if_pos hb, if_neg (by rw [ht0]; decide)]
    refine ⟨_, m.tick, _, HJ.p4 i hi hmv (totO sz bl tl i + 4) ht x j p q m.tick hm.tick, by show m.count ≤ m.count + 1; omega, Int.le_refl _, 0, by decide, by decide, fun g b bm bs bt bp bk n hw hn hc => ?_⟩
    refine hstep_l hw H.check (ctx_frm (H := H)) ⟨by show (0 : Int) ≤ (atO sz sz.length : Nat); omega, by show ((atO sz sz.length : Nat) : Int) ≤ cm.spine; omega⟩ (by show (3 : Int) < 4; decide)  ⟨by show (0 : Int) ≤ (totO sz bl tl i + 3 : Nat); omega, by show ((totO sz bl tl i + 3 : Nat) : Int) ≤ 1099511627776; omega⟩ (fun g' w1 => ?_)
    refine (looks_owner g' 320 b 300 bm bs _ m s (O i).1 (O i).2 false w1.hl w1.mm hc H.check rfl H.s2 ⟨by show (0 : Int) ≤ (atO sz i : Nat); omega, by show ((atO sz i : Nat) : Int) < cm.spine; omega⟩ ⟨by show (0 : Int) ≤ i; omega, by show (i : Int) < cm.frags; omega⟩ (hm.len _ (by show (0 : Int) ≤ (i : Int) * 8 + 4; omega) (by show (i : Int) * 8 + 4 < cm.frags * 8 + cm.spine + cm.spine; omega)) (hm.ow i hi (Or.inl (Nat.le_refl _))) (by decide) (by decide) rfl ⟨hin.1, by show spA cm s (atO sz i : Nat) ≤ 1000000; omega⟩ ((hm.same i hi).trans ht0)).mono (fun e w' h => Does.imp h (fun x hx => by rcases hx with rfl | rfl <;> simp [hTs]) (fun g'' m1 r => ⟨r.1, r.2, by rw [Int.add_zero]; exact w1.sh.keep m1 (by decide) (by decide), w1.co.keep m1 (by decide)⟩))
  · have hmv : mvO bl tl i = true := by unfold mvO; rw [hb, ht0]; rfl
    refine ⟨_, m.tick, _, HJ.p5 i hi hmv x j p q m.tick hm.tick, by show m.count ≤ m.count + 1; omega, Int.le_refl _, 0, by decide, by decide, fun g b bm bs bt bp bk n hw hn hc => ?_⟩
    refine hstep_l hw H.check (ctx_frm (H := H)) ⟨by show (0 : Int) ≤ (atO sz sz.length : Nat); omega, by show ((atO sz sz.length : Nat) : Int) ≤ cm.spine; omega⟩ (by show (3 : Int) < 4; decide)  ⟨by show (0 : Int) ≤ (totO sz bl tl i + 3 : Nat); omega, by show ((totO sz bl tl i + 3 : Nat) : Int) ≤ 1099511627776; omega⟩ (fun g' w1 => ?_)
    refine (looks_owner g' 320 b 300 bm bs _ m s (O i).1 (O i).2 true w1.hl w1.mm hc H.check rfl H.s2 ⟨by show (0 : Int) ≤ (atO sz i : Nat); omega, by show ((atO sz i : Nat) : Int) < cm.spine; omega⟩ ⟨by show (0 : Int) ≤ i; omega, by show (i : Int) < cm.frags; omega⟩ (hm.len _ (by show (0 : Int) ≤ (i : Int) * 8 + 4; omega) (by show (i : Int) * 8 + 4 < cm.frags * 8 + cm.spine + cm.spine; omega)) (hm.ow i hi (Or.inl (Nat.le_refl _))) (by decide) (by decide) rfl ⟨hin.1, by show spA cm s (atO sz i : Nat) ≤ 1000000; omega⟩ ((hm.same i hi).trans ht0)).mono (fun e w' h => Does.imp h (fun x hx => by rcases hx with rfl | rfl <;> simp [hTs]) (fun g'' m1 r => ⟨r.1, r.2, by rw [Int.add_zero]; exact w1.sh.keep m1 (by decide) (by decide), w1.co.keep m1 (by decide)⟩))
end
end Go.Proofs.Ytmgkfpmmlibmcaa
/-
  haul: the other steps of a run over spines. No walk here.
-/
namespace Go.Proofs.Ytmgkfpmmlibmcaa
open Go Go.RowKit
set_option linter.unusedVariables false
set_option linter.unusedSimpArgs false
set_option maxHeartbeats 1000000
section
variable {cm : Cnf} {s : Nat} {sz : List Nat} {bl tl : List Bool} {T : TabS} {W : Nat → Nat → Nat × Nat} {O : Nat → Nat × Nat}
theorem hnext_mid (H : HCtx cm s sz bl tl T) {i : Nat} (hi : i + 1 < sz.length) (pc x y j : Int) (p q : Nat) (mv mv' st st' : Int) (h1 : mv = mv') (h2 : st = st') :
    HaulS.next ⟨cm, (s : Nat), (atO sz sz.length : Nat), true, pc, (atO sz i : Nat), x, y, (sz.getD i 0 : Nat), j, p, q, 0, mv, st⟩ = ⟨cm, (s : Nat), (atO sz sz.length : Nat), true, 0, (atO sz (i + 1) : Nat), x, y, (sz.getD i 0 : Nat), j, p, q, 0, mv', st'⟩ := by
  have ha := atO_in hi
  have hat1 : atO sz (i + 1) = atO sz i + (sz.getD i 0 + 2) := rfl
  unfold HaulS.next
  simp only
  rw [if_neg (by omega), h1, h2, show ((atO sz i : Nat) : Int) + ((sz.getD i 0 : Nat) + 2) = (atO sz (i + 1) : Nat) by omega]
theorem hnext_end (H : HCtx cm s sz bl tl T) {i : Nat} (hi : i + 1 = sz.length) (pc x y j : Int) (p q : Nat) (mv mv' st st' : Int) (h1 : mv = mv') (h2 : st = st') :
    HaulS.next ⟨cm, (s : Nat), (atO sz sz.length : Nat), true, pc, (atO sz i : Nat), x, y, (sz.getD i 0 : Nat), j, p, q, 0, mv, st⟩ = ⟨cm, (s : Nat), (atO sz sz.length : Nat), true, 11, (atO sz sz.length : Nat), x, y, (sz.getD i 0 : Nat), j, p, q, 0, mv', st'⟩ := by
  have hat1 : atO sz sz.length = atO sz i + (sz.getD i 0 + 2) := by rw [← hi]; rfl
  unfold HaulS.next
  simp only
  rw [if_pos (by omega), h1, h2, show ((atO sz i : Nat) : Int) + ((sz.getD i 0 : Nat) + 2) = (atO sz sz.length : Nat) by omega]
/-- Behind the spine i. -/
theorem hj_behind (H : HCtx cm s sz bl tl T) {i : Nat} (hi : i < sz.length) (pc x y j : Int) (p q : Nat) (mv st : Int) (hmv : mv = (cntO bl tl (i + 1) : Nat)) (hst : st = (totO sz bl tl (i + 1) : Nat)) (m : MemS) (hm : HMem cm s sz bl tl W O (i + 1) m) (u kept : Int) (hu : u = (cpO sz bl tl (i + 1) : Nat)) (hk : kept = (atO sz sz.length : Nat) - (atO sz (i + 1) : Nat)) :
    HJ cm s sz bl tl W O (totO sz bl tl (i + 1)) (HaulS.next ⟨cm, (s : Nat), (atO sz sz.length : Nat), true, pc, (atO sz i : Nat), x, y, (sz.getD i 0 : Nat), j, p, q, 0, mv, st⟩) m (cW s (atO sz sz.length : Nat) u kept) := by
  subst hu hk
  by_cases h1 : i + 1 < sz.length
  · rw [hnext_mid H h1 pc x y j p q mv _ st _ hmv hst]
    exact HJ.p0 (i + 1) h1 x y _ j p q m hm
  · have he : i + 1 = sz.length := by omega
    rw [hnext_end H he pc x y j p q mv _ st _ hmv hst, he, show ((atO sz sz.length : Nat) : Int) - (atO sz sz.length : Nat) = 0 by omega]
    rw [he] at hm
    exact HJ.pe x y _ j p q m hm
theorem next4 (H : HCtx cm s sz bl tl T) {i : Nat} (hi : i < sz.length) (hmv : mvO bl tl i = false) (t : Nat) (ht : t + 1 = totO sz bl tl (i + 1)) (x j : Int) (p q : Nat) (m : MemS) (hm : HMem cm s sz bl tl W O i m) :
    HNext cm s sz bl tl W O T t ⟨cm, (s : Nat), (atO sz sz.length : Nat), true, 4, (atO sz i : Nat), x, i, (sz.getD i 0 : Nat), j, p, q, 0, (cntO bl tl i : Nat), (t : Nat)⟩ m (cW s (atO sz sz.length : Nat) (cpO sz bl tl i : Nat) ((atO sz sz.length : Nat) - (atO sz i : Nat))) := by
  have ha := atO_in hi
  have hsp := H.spine
  have hs2 := H.spine2
  have hss := H.s2
  have hfr := H.frags
  have hz64 := H.size i
  have htot := totO_le sz bl tl H.size i
  have hsm := H.small
  have hcp := cpO_le sz bl tl i
  have hcn := cntO_le bl tl i
  have hat1 : atO sz (i + 1) = atO sz i + (sz.getD i 0 + 2) := rfl
  have hfrm : ((s : Nat) : Int) = 1 - ((1 - s : Nat) : Int) := by omega
  have htot1 := totO_le sz bl tl H.size (i + 1)
  have hsk : (1 : Int) ≤ (sz.getD i 0 : Nat) + 2 ∧ ((sz.getD i 0 : Nat) : Int) + 2 ≤ (atO sz sz.length : Nat) - (atO sz i : Nat) := by omega
  have hJ := hj_behind H hi 4 x i j p q (cntO bl tl i : Nat) ((t : Nat) + 1) (by rw [cntO, hmv]; rfl) (by omega) m (hm.pass hmv) (cpO sz bl tl i : Nat) ((atO sz sz.length : Nat) - (atO sz i : Nat) - ((sz.getD i 0 : Nat) + 2)) (by rw [cpO, hmv]; rfl) (by omega)
  rw [← ht] at hJ
  refine ⟨_, m, _, hJ, Int.le_refl _, by omega, 0, by decide, by decide, fun g b bm bs bt bp bk n hw hn hc => ?_⟩
  refine hstep_c hw H.check (ctx_frm (H := H)) ⟨by show (0 : Int) ≤ (atO sz sz.length : Nat); omega, by show ((atO sz sz.length : Nat) : Int) ≤ cm.spine; omega⟩ (by show (4 : Int) ≤ 4 ∧ (4 : Int) < 11; decide) ⟨by show (0 : Int) ≤ (t : Nat); omega, by show ((t : Nat) : Int) ≤ 1099511627776; omega⟩ (fun g' w1 => ?_)
  refine (copies_skip g' 320 b bm 340 bk _ _ w1.hl w1.co rfl ⟨by show (0 : Int) ≤ (sz.getD i 0 : Nat); omega, by show ((sz.getD i 0 : Nat) : Int) ≤ 10000; omega⟩ ⟨by show (0 : Int) ≤ (atO sz i : Nat); omega, by show ((atO sz i : Nat) : Int) ≤ 100000; omega⟩ (cW_skippable hsk) (by decide) (by decide)).mono (fun e w' h => Does.imp h (fun x hx => by rcases hx with rfl | rfl <;> simp [hTs]) (fun g'' m1 r => ⟨r.1, w1.mm.keep m1 (by decide), by rw [Int.add_zero]; exact w1.sh.keep m1 (by decide) (by decide), by have := r.2; rw [cW_skip hsk] at this; exact this⟩))
theorem next5 (H : HCtx cm s sz bl tl T) {i : Nat} (hi : i < sz.length) (hmv : mvO bl tl i = true) (x j : Int) (p q : Nat) (m : MemS) (hm : HMem cm s sz bl tl W O i m) :
    HNext cm s sz bl tl W O T (totO sz bl tl i + 4) ⟨cm, (s : Nat), (atO sz sz.length : Nat), true, 5, (atO sz i : Nat), x, i, (sz.getD i 0 : Nat), j, p, q, 0, (cntO bl tl i : Nat), (totO sz bl tl i + 4 : Nat)⟩ m (cW s (atO sz sz.length : Nat) (cpO sz bl tl i : Nat) ((atO sz sz.length : Nat) - (atO sz i : Nat))) := by
  have ha := atO_in hi
  have hsp := H.spine
  have hs2 := H.spine2
  have hss := H.s2
  have hfr := H.frags
  have hz64 := H.size i
  have htot := totO_le sz bl tl H.size i
  have hsm := H.small
  have hcp := cpO_le sz bl tl i
  have hcn := cntO_le bl tl i
  have hat1 : atO sz (i + 1) = atO sz i + (sz.getD i 0 + 2) := rfl
  have hfrm : ((s : Nat) : Int) = 1 - ((1 - s : Nat) : Int) := by omega
  have hsk : (1 : Int) ≤ (sz.getD i 0 : Nat) + 2 ∧ ((sz.getD i 0 : Nat) : Int) + 2 ≤ (atO sz sz.length : Nat) - (atO sz i : Nat) := by omega
  have hcp1 : cpO sz bl tl (i + 1) = cpO sz bl tl i + (sz.getD i 0 + 2) := by rw [cpO, if_pos hmv]
  refine ⟨_, m, _, HJ.p6 i hi hmv j p q m hm, Int.le_refl _, by omega, 0, by decide, by decide, fun g b bm bs bt bp bk n hw hn hc => ?_⟩
  refine hstep_c hw H.check (ctx_frm (H := H)) ⟨by show (0 : Int) ≤ (atO sz sz.length : Nat); omega, by show ((atO sz sz.length : Nat) : Int) ≤ cm.spine; omega⟩ (by show (4 : Int) ≤ 5 ∧ (5 : Int) < 11; decide) ⟨by show (0 : Int) ≤ (totO sz bl tl i + 4 : Nat); omega, by show ((totO sz bl tl i + 4 : Nat) : Int) ≤ 1099511627776; omega⟩ (fun g' w1 => ?_)
  refine (copies_copy g' 320 b bm 340 bk _ _ w1.hl w1.co rfl ⟨by show (0 : Int) ≤ (sz.getD i 0 : Nat); omega, by show ((sz.getD i 0 : Nat) : Int) ≤ 10000; omega⟩ (cW_skippable hsk) (by decide) (by decide)).mono (fun e w' h => Does.imp h (fun x hx => by rcases hx with rfl | rfl <;> simp [hTs]) (fun g'' m1 r => ⟨?_, w1.mm.keep m1 (by decide), by rw [Int.add_zero]; exact w1.sh.keep m1 (by decide) (by decide), ?_⟩))
  · have h1 := r.1
    rw [cW_copiedAt hsk] at h1
    exact h1
  · have h1 := r.2
    rw [cW_copy hsk, show ((cpO sz bl tl i : Nat) : Int) + ((sz.getD i 0 : Nat) + 2) = (cpO sz bl tl (i + 1) : Nat) by omega, show ((atO sz sz.length : Nat) : Int) - (atO sz i : Nat) - ((sz.getD i 0 : Nat) + 2) = (atO sz sz.length : Nat) - (atO sz (i + 1) : Nat) by omega] at h1
    exact h1
theorem next6 (H : HCtx cm s sz bl tl T) {i : Nat} (hi : i < sz.length) (hmv : mvO bl tl i = true) (j : Int) (p q : Nat) (m : MemS) (hm : HMem cm s sz bl tl W O i m) :
    HNext cm s sz bl tl W O T (totO sz bl tl i + 5) ⟨cm, (s : Nat), (atO sz sz.length : Nat), true, 6, (atO sz i : Nat), (cpO sz bl tl i : Nat), i, (sz.getD i 0 : Nat), j, p, q, 0, (cntO bl tl i : Nat), (totO sz bl tl i + 5 : Nat)⟩ m (cW s (atO sz sz.length : Nat) (cpO sz bl tl (i + 1) : Nat) ((atO sz sz.length : Nat) - (atO sz (i + 1) : Nat))) := by
  have ha := atO_in hi
  have hsp := H.spine
  have hs2 := H.spine2
  have hss := H.s2
  have hfr := H.frags
  have hz64 := H.size i
  have htot := totO_le sz bl tl H.size i
  have hsm := H.small
  have hcp := cpO_le sz bl tl i
  have hcn := cntO_le bl tl i
  have hat1 : atO sz (i + 1) = atO sz i + (sz.getD i 0 + 2) := rfl
  have hfrm : ((s : Nat) : Int) = 1 - ((1 - s : Nat) : Int) := by omega
  have hin := spA_in H (z := 1 - s) (k := (cpO sz bl tl i : Nat) + 0) (by omega) (by omega)
  have hm' := hm.put H (by omega) (y := (cpO sz bl tl i : Nat) + 0) ⟨by omega, by omega⟩ (wE i)
  have hp' := HPart.put (k := 0) (W := W) (bl := bl) (tl := tl) (v := wE i) (y := (cpO sz bl tl i : Nat) + 0) (m := m) (fun x hx => by omega) rfl rfl (hm.len _ hin.1 hin.2)
  refine ⟨_, _, _, HJ.p7 i hi hmv j p q _ hm' hp', by rw [lay_count]; show m.count ≤ m.count + 1; omega, by rw [lay_count]; exact Int.le_refl _, 0, by decide, by decide, fun g b bm bs bt bp bk n hw hn hc => ?_⟩
  refine hstep_c hw H.check (ctx_frm (H := H)) ⟨by show (0 : Int) ≤ (atO sz sz.length : Nat); omega, by show ((atO sz sz.length : Nat) : Int) ≤ cm.spine; omega⟩ (by show (4 : Int) ≤ 6 ∧ (6 : Int) < 11; decide) ⟨by show (0 : Int) ≤ (totO sz bl tl i + 5 : Nat); omega, by show ((totO sz bl tl i + 5 : Nat) : Int) ≤ 1099511627776; omega⟩ (fun g' w1 => ?_)
  refine (copies_head g' 320 b 300 bm bk _ m (1 - s) w1.hl w1.mm hc H.check hfrm (by omega) ⟨by show (0 : Int) ≤ (cpO sz bl tl i : Nat); omega, by show ((cpO sz bl tl i : Nat) : Int) < cm.spine; omega⟩ (by show ((cpO sz bl tl i : Nat) : Int) ≤ 100000; omega) (hm.len _ hin.1 hin.2) ⟨by show (0 : Int) ≤ i; omega, by show (i : Int) ≤ 1000000; omega⟩ (by decide) (by decide) rfl).mono (fun e w' h => Does.imp h (fun x hx => by rcases hx with rfl | rfl <;> simp [hTs]) (fun g'' m1 r => ⟨r.1, r.2, by rw [Int.add_zero]; exact w1.sh.keep m1 (by decide) (by decide), w1.co.keep m1 (by decide)⟩))
theorem next7 (H : HCtx cm s sz bl tl T) {i : Nat} (hi : i < sz.length) (hmv : mvO bl tl i = true) (j : Int) (p q : Nat) (m : MemS) (hm : HMem cm s sz bl tl W O i m) (hp : HPart cm s sz bl tl W i 1 m) :
    HNext cm s sz bl tl W O T (totO sz bl tl i + 6) ⟨cm, (s : Nat), (atO sz sz.length : Nat), true, 7, (atO sz i : Nat), (cpO sz bl tl i : Nat), i, (sz.getD i 0 : Nat), j, p, q, 0, (cntO bl tl i : Nat), (totO sz bl tl i + 6 : Nat)⟩ m (cW s (atO sz sz.length : Nat) (cpO sz bl tl (i + 1) : Nat) ((atO sz sz.length : Nat) - (atO sz (i + 1) : Nat))) := by
  have ha := atO_in hi
  have hsp := H.spine
  have hs2 := H.spine2
  have hss := H.s2
  have hfr := H.frags
  have hz64 := H.size i
  have htot := totO_le sz bl tl H.size i
  have hsm := H.small
  have hcp := cpO_le sz bl tl i
  have hcn := cntO_le bl tl i
  have hat1 : atO sz (i + 1) = atO sz i + (sz.getD i 0 + 2) := rfl
  have hfrm : ((s : Nat) : Int) = 1 - ((1 - s : Nat) : Int) := by omega
  have hin := spA_in H (z := 1 - s) (k := (cpO sz bl tl i : Nat) + 1) (by omega) (by omega)
  have hm' := hm.put H (by omega) (y := (cpO sz bl tl i : Nat) + 1) ⟨by omega, by omega⟩ (wD (sz.getD i 0 : Nat))
  have hp' := hp.put (v := wD (sz.getD i 0 : Nat)) (y := (cpO sz bl tl i : Nat) + 1) rfl rfl (hm.len _ hin.1 hin.2)
  have hcont : ∀ S', HJ cm s sz bl tl W O (totO sz bl tl i + 6 + 1) S' (m.tick.lay (spA cm (1 - s) ((cpO sz bl tl i : Nat) + 1)) (wD (sz.getD i 0 : Nat))) (cW s (atO sz sz.length : Nat) (cpO sz bl tl (i + 1) : Nat) ((atO sz sz.length : Nat) - (atO sz (i + 1) : Nat))) →
      S' = ⟨cm, (s : Nat), (atO sz sz.length : Nat), true, if ((sz.getD i 0 : Nat) : Int) = 0 then 10 else 8, (atO sz i : Nat), (cpO sz bl tl i : Nat), i, (sz.getD i 0 : Nat), 0, p, q, 0, (cntO bl tl i : Nat), ((totO sz bl tl i + 6 : Nat) : Int) + 1⟩ →
      HNext cm s sz bl tl W O T (totO sz bl tl i + 6) ⟨cm, (s : Nat), (atO sz sz.length : Nat), true, 7, (atO sz i : Nat), (cpO sz bl tl i : Nat), i, (sz.getD i 0 : Nat), j, p, q, 0, (cntO bl tl i : Nat), (totO sz bl tl i + 6 : Nat)⟩ m (cW s (atO sz sz.length : Nat) (cpO sz bl tl (i + 1) : Nat) ((atO sz sz.length : Nat) - (atO sz (i + 1) : Nat))) := fun S' hJ hS => by
    refine ⟨S', _, _, hJ, by rw [lay_count]; show m.count ≤ m.count + 1; omega, by rw [lay_count]; exact Int.le_refl _, 0, by decide, by decide, fun g b bm bs bt bp bk n hw hn hc => ?_⟩
    refine hstep_c hw H.check (ctx_frm (H := H)) ⟨by show (0 : Int) ≤ (atO sz sz.length : Nat); omega, by show ((atO sz sz.length : Nat) : Int) ≤ cm.spine; omega⟩ (by show (4 : Int) ≤ 7 ∧ (7 : Int) < 11; decide) ⟨by show (0 : Int) ≤ (totO sz bl tl i + 6 : Nat); omega, by show ((totO sz bl tl i + 6 : Nat) : Int) ≤ 1099511627776; omega⟩ (fun g' w1 => ?_)
    rw [hS]
    refine (copies_size g' 320 b 300 bm bk _ m (1 - s) w1.hl w1.mm hc H.check hfrm (by omega) ⟨by show (0 : Int) ≤ (cpO sz bl tl i : Nat); omega, by show ((cpO sz bl tl i : Nat) : Int) + 1 < cm.spine; omega⟩ (by show ((cpO sz bl tl i : Nat) : Int) ≤ 100000; omega) (hm.len _ hin.1 hin.2) ⟨by show (0 : Int) ≤ (sz.getD i 0 : Nat); omega, by show ((sz.getD i 0 : Nat) : Int) ≤ 100000; omega⟩ (by decide) (by decide) rfl).mono (fun e w' h => Does.imp h (fun x hx => by rcases hx with rfl | rfl <;> simp [hTs]) (fun g'' m1 r => ⟨r.1, r.2, by rw [Int.add_zero]; exact w1.sh.keep m1 (by decide) (by decide), w1.co.keep m1 (by decide)⟩))
  by_cases hz : sz.getD i 0 = 0
  · have h1 := HJ.p10 (W := W) (O := O) i hi hmv 0 p q _ hm' (fun k hk => hp' k (by omega))
    rw [show totO sz bl tl i + 7 + 2 * sz.getD i 0 = totO sz bl tl i + 6 + 1 by omega] at h1
    refine hcont _ h1 ?_
    rw [if_pos (by omega)]
    rfl
  · have h1 := HJ.p8 (W := W) (O := O) i hi hmv 0 (by omega) p q _ hm' hp'
    refine hcont _ h1 ?_
    rw [if_neg (by omega)]
    rfl
theorem next8 (H : HCtx cm s sz bl tl T) {i : Nat} (hi : i < sz.length) (hmv : mvO bl tl i = true) (j : Nat) (hj : j < sz.getD i 0) (p q : Nat) (m : MemS) (hm : HMem cm s sz bl tl W O i m) (hp : HPart cm s sz bl tl W i (j + 2) m) :
    HNext cm s sz bl tl W O T (totO sz bl tl i + 7 + 2 * j) ⟨cm, (s : Nat), (atO sz sz.length : Nat), true, 8, (atO sz i : Nat), (cpO sz bl tl i : Nat), i, (sz.getD i 0 : Nat), j, p, q, 0, (cntO bl tl i : Nat), (totO sz bl tl i + 7 + 2 * j : Nat)⟩ m (cW s (atO sz sz.length : Nat) (cpO sz bl tl (i + 1) : Nat) ((atO sz sz.length : Nat) - (atO sz (i + 1) : Nat))) := by
  have ha := atO_in hi
  have hsp := H.spine
  have hs2 := H.spine2
  have hss := H.s2
  have hfr := H.frags
  have hz64 := H.size i
  have htot := totO_le sz bl tl H.size i
  have hsm := H.small
  have hcp := cpO_le sz bl tl i
  have hcn := cntO_le bl tl i
  have hat1 : atO sz (i + 1) = atO sz i + (sz.getD i 0 + 2) := rfl
  have hfrm : ((s : Nat) : Int) = 1 - ((1 - s : Nat) : Int) := by omega
  have hin := spA_in H (z := s) (k := (atO sz i : Nat) + 2 + j) (by omega) (by omega)
  refine ⟨_, m.tick, _, HJ.p9 i hi hmv j hj m.tick hm.tick hp, by show m.count ≤ m.count + 1; omega, Int.le_refl _, 0, by decide, by decide, fun g b bm bs bt bp bk n hw hn hc => ?_⟩
  refine hstep_c hw H.check (ctx_frm (H := H)) ⟨by show (0 : Int) ≤ (atO sz sz.length : Nat); omega, by show ((atO sz sz.length : Nat) : Int) ≤ cm.spine; omega⟩ (by show (4 : Int) ≤ 8 ∧ (8 : Int) < 11; decide) ⟨by show (0 : Int) ≤ (totO sz bl tl i + 7 + 2 * j : Nat); omega, by show ((totO sz bl tl i + 7 + 2 * j : Nat) : Int) ≤ 1099511627776; omega⟩ (fun g' w1 => ?_)
  refine (copies_read g' 320 b 300 bm bk _ m s (W i j).1 (W i j).2 w1.hl w1.mm hc H.check rfl H.s2 ⟨by show (0 : Int) ≤ (atO sz i : Nat); omega, by show ((atO sz i : Nat) : Int) ≤ 100000; omega⟩ ⟨by show (0 : Int) ≤ j; omega, by show (j : Int) ≤ 90000; omega⟩ (by show ((atO sz i : Nat) : Int) + 2 + j < cm.spine; omega) (hm.len _ hin.1 hin.2) (hm.sl i hi j hj) (by decide) (by decide) rfl).mono (fun e w' h => Does.imp h (fun x hx => by rcases hx with rfl | rfl <;> simp [hTs]) (fun g'' m1 r => ⟨r.1, r.2, by rw [Int.add_zero]; exact w1.sh.keep m1 (by decide) (by decide), w1.co.keep m1 (by decide)⟩))
theorem next9 (H : HCtx cm s sz bl tl T) {i : Nat} (hi : i < sz.length) (hmv : mvO bl tl i = true) (j : Nat) (hj : j < sz.getD i 0) (m : MemS) (hm : HMem cm s sz bl tl W O i m) (hp : HPart cm s sz bl tl W i (j + 2) m) :
    HNext cm s sz bl tl W O T (totO sz bl tl i + 7 + 2 * j + 1) ⟨cm, (s : Nat), (atO sz sz.length : Nat), true, 9, (atO sz i : Nat), (cpO sz bl tl i : Nat), i, (sz.getD i 0 : Nat), j, (W i j).1, (W i j).2, 0, (cntO bl tl i : Nat), (totO sz bl tl i + 7 + 2 * j + 1 : Nat)⟩ m (cW s (atO sz sz.length : Nat) (cpO sz bl tl (i + 1) : Nat) ((atO sz sz.length : Nat) - (atO sz (i + 1) : Nat))) := by
  have ha := atO_in hi
  have hsp := H.spine
  have hs2 := H.spine2
  have hss := H.s2
  have hfr := H.frags
  have hz64 := H.size i
  have htot := totO_le sz bl tl H.size i
  have hsm := H.small
  have hcp := cpO_le sz bl tl i
  have hcn := cntO_le bl tl i
  have hat1 : atO sz (i + 1) = atO sz i + (sz.getD i 0 + 2) := rfl
  have hfrm : ((s : Nat) : Int) = 1 - ((1 - s : Nat) : Int) := by omega
  have hin := spA_in H (z := 1 - s) (k := (cpO sz bl tl i : Nat) + (2 + j)) (by omega) (by omega)
  have hm' := hm.put H (by omega) (y := (cpO sz bl tl i : Nat) + (2 + (j : Int))) ⟨by omega, by omega⟩ (W i j)
  have hp' := hp.put (v := W i j) (y := (cpO sz bl tl i : Nat) + (2 + (j : Int))) (by omega) (vO_slot sz W i j).symm (hm.len _ hin.1 hin.2)
  have hcont : ∀ S', HJ cm s sz bl tl W O (totO sz bl tl i + 7 + 2 * j + 1 + 1) S' (m.tick.lay (spA cm (1 - s) ((cpO sz bl tl i : Nat) + (2 + (j : Int)))) (W i j)) (cW s (atO sz sz.length : Nat) (cpO sz bl tl (i + 1) : Nat) ((atO sz sz.length : Nat) - (atO sz (i + 1) : Nat))) →
      S' = ⟨cm, (s : Nat), (atO sz sz.length : Nat), true, if (j : Int) + 1 = (sz.getD i 0 : Nat) then 10 else 8, (atO sz i : Nat), (cpO sz bl tl i : Nat), i, (sz.getD i 0 : Nat), (j : Int) + 1, (W i j).1, (W i j).2, 0, (cntO bl tl i : Nat), ((totO sz bl tl i + 7 + 2 * j + 1 : Nat) : Int) + 1⟩ →
      HNext cm s sz bl tl W O T (totO sz bl tl i + 7 + 2 * j + 1) ⟨cm, (s : Nat), (atO sz sz.length : Nat), true, 9, (atO sz i : Nat), (cpO sz bl tl i : Nat), i, (sz.getD i 0 : Nat), j, (W i j).1, (W i j).2, 0, (cntO bl tl i : Nat), (totO sz bl tl i + 7 + 2 * j + 1 : Nat)⟩ m (cW s (atO sz sz.length : Nat) (cpO sz bl tl (i + 1) : Nat) ((atO sz sz.length : Nat) - (atO sz (i + 1) : Nat))) := fun S' hJ hS => by
    refine ⟨S', _, _, hJ, by rw [lay_count]; show m.count ≤ m.count + 1; omega, by rw [lay_count]; exact Int.le_refl _, 0, by decide, by decide, fun g b bm bs bt bp bk n hw hn hc => ?_⟩
    refine hstep_c hw H.check (ctx_frm (H := H)) ⟨by show (0 : Int) ≤ (atO sz sz.length : Nat); omega, by show ((atO sz sz.length : Nat) : Int) ≤ cm.spine; omega⟩ (by show (4 : Int) ≤ 9 ∧ (9 : Int) < 11; decide) ⟨by show (0 : Int) ≤ (totO sz bl tl i + 7 + 2 * j + 1 : Nat); omega, by show ((totO sz bl tl i + 7 + 2 * j + 1 : Nat) : Int) ≤ 1099511627776; omega⟩ (fun g' w1 => ?_)
    rw [hS]
    refine (copies_write g' 320 b 300 bm bk _ m (1 - s) w1.hl w1.mm hc H.check hfrm (by omega) ⟨by show (0 : Int) ≤ (cpO sz bl tl i : Nat); omega, by show ((cpO sz bl tl i : Nat) : Int) + (2 + j) < cm.spine; omega⟩ (by show ((cpO sz bl tl i : Nat) : Int) ≤ 100000; omega) (hm.len _ hin.1 hin.2) ⟨by show (0 : Int) ≤ j; omega, by show (j : Int) ≤ 90000; omega⟩ (by decide) (by decide) rfl).mono (fun e w' h => Does.imp h (fun x hx => by rcases hx with rfl | rfl <;> simp [hTs]) (fun g'' m1 r => ⟨r.1, r.2, by rw [Int.add_zero]; exact w1.sh.keep m1 (by decide) (by decide), w1.co.keep m1 (by decide)⟩))
  by_cases hz : j + 1 = sz.getD i 0
  · have h1 := HJ.p10 (W := W) (O := O) i hi hmv ((j : Int) + 1) (W i j).1 (W i j).2 _ hm' (fun k hk => hp' k (by omega))
    rw [show totO sz bl tl i + 7 + 2 * sz.getD i 0 = totO sz bl tl i + 7 + 2 * j + 1 + 1 by omega] at h1
    refine hcont _ h1 ?_
    rw [if_pos (by omega)]
    rfl
  · have h1 := HJ.p8 (W := W) (O := O) i hi hmv (j + 1) (by omega) (W i j).1 (W i j).2 _ hm' hp'
    rw [show totO sz bl tl i + 7 + 2 * (j + 1) = totO sz bl tl i + 7 + 2 * j + 1 + 1 by omega] at h1
    refine hcont _ h1 ?_
    rw [if_neg (by omega)]
    rfl
theorem next10 (H : HCtx cm s sz bl tl T) {i : Nat} (hi : i < sz.length) (hmv : mvO bl tl i = true) (j : Int) (p q : Nat) (m : MemS) (hm : HMem cm s sz bl tl W O i m) (hp : HPart cm s sz bl tl W i (sz.getD i 0 + 2) m) :
    HNext cm s sz bl tl W O T (totO sz bl tl i + 7 + 2 * sz.getD i 0) ⟨cm, (s : Nat), (atO sz sz.length : Nat), true, 10, (atO sz i : Nat), (cpO sz bl tl i : Nat), i, (sz.getD i 0 : Nat), j, p, q, 0, (cntO bl tl i : Nat), (totO sz bl tl i + 7 + 2 * sz.getD i 0 : Nat)⟩ m (cW s (atO sz sz.length : Nat) (cpO sz bl tl (i + 1) : Nat) ((atO sz sz.length : Nat) - (atO sz (i + 1) : Nat))) := by
  have ha := atO_in hi
  have hsp := H.spine
  have hs2 := H.spine2
  have hss := H.s2
  have hfr := H.frags
  have hz64 := H.size i
  have htot := totO_le sz bl tl H.size i
  have hsm := H.small
  have hcp := cpO_le sz bl tl i
  have hcn := cntO_le bl tl i
  have hat1 : atO sz (i + 1) = atO sz i + (sz.getD i 0 + 2) := rfl
  have hfrm : ((s : Nat) : Int) = 1 - ((1 - s : Nat) : Int) := by omega
  have hin := spA_in H (z := 1 - s) (k := (cpO sz bl tl i : Nat)) (by omega) (by omega)
  have hm' := hm.moved H hi hmv hp
  have ht : totO sz bl tl i + 7 + 2 * sz.getD i 0 + 1 = totO sz bl tl (i + 1) := by
    have h1 : bl.getD i false = true ∧ tl.getD i false = true := by unfold mvO at hmv; simpa using hmv
    rw [totO]; unfold pathO; rw [if_pos h1.1, if_pos h1.2]; omega
  have hJ := hj_behind H hi 10 (cpO sz bl tl i : Nat) i j p q ((cntO bl tl i : Nat) + 1) (((totO sz bl tl i + 7 + 2 * sz.getD i 0 : Nat) : Int) + 1) (by rw [cntO, if_pos hmv]; rfl) (by omega) _ hm' (cpO sz bl tl (i + 1) : Nat) ((atO sz sz.length : Nat) - (atO sz (i + 1) : Nat)) rfl rfl
  rw [← ht] at hJ
  refine ⟨_, _, _, hJ, by rw [lay_count]; show m.count ≤ m.count + 1; omega, by rw [lay_count]; exact Int.le_refl _, 0, by decide, by decide, fun g b bm bs bt bp bk n hw hn hc => ?_⟩
  refine hstep_c hw H.check (ctx_frm (H := H)) ⟨by show (0 : Int) ≤ (atO sz sz.length : Nat); omega, by show ((atO sz sz.length : Nat) : Int) ≤ cm.spine; omega⟩ (by show (4 : Int) ≤ 10 ∧ (10 : Int) < 11; decide) ⟨by show (0 : Int) ≤ (totO sz bl tl i + 7 + 2 * sz.getD i 0 : Nat); omega, by show ((totO sz bl tl i + 7 + 2 * sz.getD i 0 : Nat) : Int) ≤ 1099511627776; omega⟩ (fun g' w1 => ?_)
  refine (copies_forward g' 320 b 300 bm bk _ m (1 - s) w1.hl w1.mm hc H.check hfrm (by omega) ⟨by show (0 : Int) ≤ (cpO sz bl tl i : Nat); omega, by show ((cpO sz bl tl i : Nat) : Int) < cm.spine; omega⟩ ⟨hin.1, by show spA cm (1 - s) (cpO sz bl tl i : Nat) ≤ 1000000; omega⟩ ⟨by show (0 : Int) ≤ i; omega, by show (i : Int) < cm.frags; omega⟩ (hm.len _ (by show (0 : Int) ≤ (i : Int) * 8 + 4; omega) (by show (i : Int) * 8 + 4 < cm.frags * 8 + cm.spine + cm.spine; omega)) ⟨by show (0 : Int) ≤ (atO sz i : Nat); omega, by show ((atO sz i : Nat) : Int) ≤ 100000; omega⟩ ⟨by show (0 : Int) ≤ (sz.getD i 0 : Nat); omega, by show ((sz.getD i 0 : Nat) : Int) ≤ 100000; omega⟩ ⟨by show (0 : Int) ≤ (cntO bl tl i : Nat); omega, by show ((cntO bl tl i : Nat) : Int) ≤ 100000; omega⟩ (by decide) (by decide) rfl).mono (fun e w' h => Does.imp h (fun x hx => by rcases hx with rfl | rfl <;> simp [hTs]) (fun g'' m1 r => ⟨r.1, r.2, by rw [Int.add_zero]; exact w1.sh.keep m1 (by decide) (by decide), w1.co.keep m1 (by decide)⟩))
/-- One step of a run. -/
theorem hj_next (H : HCtx cm s sz bl tl T) {t : Nat} {S : HaulS} {m : MemS} {C : CoilS} (h : HJ cm s sz bl tl W O t S m C) (hpc : S.pc ≠ 11) : HNext cm s sz bl tl W O T t S m C := by
  cases h with
  | p0 i hi x y d j p q m hm => exact next0 H hi x y d j p q _ hm
  | p1 i hi x d j p q m hm => exact next1 H hi x d j p q _ hm
  | p2 i hi x j p q m hm => exact next2 H hi x j p q _ hm
  | p3 i hi hb x j p q m hm => exact next3 H hi hb x j p q _ hm
  | p4 i hi hmv t ht x j p q m hm => exact next4 H hi hmv _ ht x j p q _ hm
  | p5 i hi hmv x j p q m hm => exact next5 H hi hmv x j p q _ hm
  | p6 i hi hmv j p q m hm => exact next6 H hi hmv j p q _ hm
  | p7 i hi hmv j p q m hm hp => exact next7 H hi hmv j p q _ hm hp
  | p8 i hi hmv j hj p q m hm hp => exact next8 H hi hmv j hj p q _ hm hp
  | p9 i hi hmv j hj m hm hp => exact next9 H hi hmv j hj _ hm hp
  | p10 i hi hmv j p q m hm hp => exact next10 H hi hmv j p q _ hm hp
  | pe x y d j p q m hm => exact absurd rfl hpc
end
end Go.Proofs.Ytmgkfpmmlibmcaa
