import Derived.Test.YtnebimabokgofaaGreatCyP
/-
  cycle: the idle collector, in plain Lean: each step. No program here.
-/
namespace Go.Proofs.YtnebimabokgofaaGreat
open Go Go.RowKit
set_option linter.unusedVariables false
set_option linter.unnecessarySimpa false
set_option linter.unusedSimpArgs false
/-- The state behind the count of the step. -/
structure Tk (c : Cnf) (n N : Int) (W V : CyW) : Prop where
  b : JB c n N V
  s : V.y.stage = W.y.stage
  a : V.y.at_ = W.y.at_
  i : V.y.i = W.y.i
  st : V.y.started = W.y.started
  se : V.y.sense = W.y.sense
  h : V.h = W.h
  K : V.K = W.K
theorem JB.tk {c : Cnf} {n N : Int} {W : CyW} (h : JB c n N W) : Tk c n (N + 1) W W.tick1 := ⟨h.tick1, W.tick1_stage, W.tick1_at, W.tick1_i, W.tick1_started, W.tick1_sense, W.tick1_h, W.tick1_K⟩
theorem JN.mk {c : Cnf} {n M L : Int} {s0 : Bool} {W W' : CyW} (hB : JB c n M W') (hM : M ≤ 100000 * (n + 1) - 2 * L) (hp : Ph c.threads c.frags c.globals W'.y.stage W'.y.at_ W'.y.i L) (hs : SS n s0 W) (h1 : W'.y.started = W.y.started) (h2 : W'.y.sense = W.y.sense) (hl : W'.y.stage ≤ 1 ↔ W.y.stage ≤ 1) (h7 : W'.y.stage = 7 → W'.y.at_ = 0 → W'.h = none) (hz : W'.y.stage ≠ 0) (hr : W'.y.stage = W.y.stage ∨ W'.y.stage = W.y.stage + 1) : JN c n s0 L W W' :=
  Or.inl ⟨⟨hB.mono hM, hp, ⟨fun h => ⟨h1.trans (hs.a (hl.1 h)).1, h2.trans (hs.a (hl.1 h)).2⟩, fun h => ⟨h1.trans (hs.b (by omega)).1, h2.trans (hs.b (by omega)).2⟩⟩, h7, fun h => absurd h hz⟩, hr⟩
section
variable {c : Cnf} {n L : Int} {s0 : Bool} {W V : CyW}
theorem jn_idle (T : Tk c n (100000 * (n + 1) - 2 * L + 1) W V) (J : JW c n s0 L W) (hL : L = 5 * c.threads + c.frags + c.globals + 14) (hs : W.y.stage = 0) : JN c n s0 (L - 1) W ((V.spc V.K.sp.tick).ent 1) := by
  refine Or.inl ⟨⟨(((T.b.spc T.b.K.stick).ent 1).mono (by omega)), .p1a rfl rfl (by omega), ⟨fun _ => ⟨T.st.trans (J.s.a (by omega)).1, T.se.trans (J.s.a (by omega)).2⟩, fun h => absurd h (by show ¬ (2 : Int) ≤ 1; omega)⟩, fun h => absurd h (by show ¬ (1 : Int) = 7; omega), fun h => absurd h (by show ¬ (1 : Int) = 0; omega)⟩, Or.inr (by rw [hs]; rfl)⟩
theorem jn_starts (T : Tk c n (100000 * (n + 1) - 2 * L + 1) W V) (J : JW c n s0 L W) (ht : 1 ≤ c.threads) (hs : W.y.stage = 1) : JN c n s0 (L - 1) W V.starts := by
  have hVs : V.y.stage = 1 := T.s.trans hs
  cases J.p with
  | p1a h1 h2 h3 =>
    rw [show V.starts = (V.spc (beginS V.K.sp)).atY 2 from if_pos (T.a.trans h2)]
    exact JN.mk ((T.b.spc T.b.K.begin).atY 2) (by omega) (.p1b hVs rfl (by omega)) J.s T.st T.se (by show V.y.stage ≤ 1 ↔ _; omega) (fun h => absurd (hVs.symm.trans h) (by omega)) (fun h => absurd (hVs.symm.trans h) (by omega)) (Or.inl T.s)
  | p1b h1 h2 h3 =>
    have hz : ¬ V.y.at_ = 0 := by rw [T.a, h2]; omega
    rw [show V.starts = CyW.ent { V.posts 1 true with y := { V.y with started := V.y.started + 1, sense := !V.y.sense, steps := 0 } } 2 from if_neg hz]
    have hp := T.b.posts 1 true
    have hx : JB c n (100000 * (n + 1) - 2 * L + 1 + 1) { V.posts 1 true with y := { V.y with started := V.y.started + 1, sense := !V.y.sense, steps := 0 } } := ⟨hp.K, hp.e, hp.fin, hp.fr, hp.mv, ⟨Int.le_refl _, Int.le_trans hp.st.1 hp.st.2⟩, hp.ib⟩
    refine Or.inl ⟨⟨(hx.ent 2).mono (by omega), .p2a rfl rfl (by show (0 : Int) ≤ 0 ∧ (0 : Int) < _; omega) (by show _ = c.threads - 0 + _ + _ + _ + _; omega), ⟨fun h => absurd h (by show ¬ (2 : Int) ≤ 1; omega), fun _ => ⟨?_, ?_⟩⟩, fun h => absurd h (by show ¬ (2 : Int) = 7; omega), fun h => absurd h (by show ¬ (2 : Int) = 0; omega)⟩, Or.inr (by rw [hs]; rfl)⟩
    · show V.y.started + 1 = n + 1
      rw [T.st, (J.s.a (by omega)).1]
    · show (!V.y.sense) = !s0
      rw [T.se, (J.s.a (by omega)).2]
  | p0 h | p2a h | p2b h | p3a h | p3b h | p4a h | p4b h | p5a h | p5b h | p6a h | p6b h | p6c h | p7a h | p7b h | p8a h | p8b h | p9 h | p10a h | p10b h => exfalso; omega
theorem jn_first (T : Tk c n (100000 * (n + 1) - 2 * L + 1) W V) (J : JW c n s0 L W) (ht : 1 ≤ c.threads ∧ c.threads ≤ 16) (hs : W.y.stage = 2) : JN c n s0 (L - 1) W (V.hands 2 3) := by
  have hVs : V.y.stage = 2 := T.s.trans hs
  cases J.p with
  | p2a h1 h2 h3 h4 =>
    have hi := T.i
    rw [show V.hands 2 3 = if V.pollsB then V.polls.atY 2 else V.polls from if_pos (T.a.trans h2), T.b.pollsB]
    by_cases hq : V.y.i + 1 = c.threads
    · rw [if_pos (beq_iff_eq.2 hq)]
      exact JN.mk ((T.b.polls (by omega)).atY 2) (by omega) (.p2b hVs rfl (by omega)) J.s T.st T.se (by show V.y.stage ≤ 1 ↔ _; omega) (fun h => absurd (hVs.symm.trans h) (by omega)) (fun h => absurd (hVs.symm.trans h) (by omega)) (Or.inl T.s)
    · rw [if_neg (by rw [beq_iff_eq]; exact hq)]
      exact JN.mk (T.b.polls (by omega)) (by omega) (.p2a hVs (T.a.trans h2) (by show 0 ≤ V.nextI ∧ V.nextI < _; rw [T.b.nextI]; omega) (by show _ = _ - V.nextI + _ + _ + _ + _; rw [T.b.nextI]; omega)) J.s T.st T.se (by show V.y.stage ≤ 1 ↔ _; omega) (fun h => absurd (hVs.symm.trans h) (by omega)) (fun h => absurd (hVs.symm.trans h) (by omega)) (Or.inl T.s)
  | p2b h1 h2 h3 =>
    have hz : ¬ V.y.at_ = 0 := by rw [T.a, h2]; omega
    rw [show V.hands 2 3 = (V.posts 2 false).ent 3 from if_neg hz]
    exact JN.mk ((T.b.posts 2 false).ent 3) (by omega) (.p3a rfl rfl (by show (0 : Int) ≤ 0 ∧ (0 : Int) < _; omega) (by show _ = c.threads - 0 + _ + _ + _ + _; omega)) J.s T.st T.se (by show (3 : Int) ≤ 1 ↔ _; omega) (fun h => absurd h (by show ¬ (3 : Int) = 7; omega)) (by show ¬ (3 : Int) = 0; omega) (Or.inr (by rw [hs]; rfl))
  | p0 h | p1a h | p1b h | p3a h | p3b h | p4a h | p4b h | p5a h | p5b h | p6a h | p6b h | p6c h | p7a h | p7b h | p8a h | p8b h | p9 h | p10a h | p10b h => exfalso; omega
theorem jn_both (T : Tk c n (100000 * (n + 1) - 2 * L + 1) W V) (J : JW c n s0 L W) (ht : 1 ≤ c.threads ∧ c.threads ≤ 16) (hg : 0 ≤ c.globals) (hs : W.y.stage = 3) : JN c n s0 (L - 1) W (V.hands 3 4) := by
  have hVs : V.y.stage = 3 := T.s.trans hs
  cases J.p with
  | p3a h1 h2 h3 h4 =>
    have hi := T.i
    rw [show V.hands 3 4 = if V.pollsB then V.polls.atY 2 else V.polls from if_pos (T.a.trans h2), T.b.pollsB]
    by_cases hq : V.y.i + 1 = c.threads
    · rw [if_pos (beq_iff_eq.2 hq)]
      exact JN.mk ((T.b.polls (by omega)).atY 2) (by omega) (.p3b hVs rfl (by omega)) J.s T.st T.se (by show V.y.stage ≤ 1 ↔ _; omega) (fun h => absurd (hVs.symm.trans h) (by omega)) (fun h => absurd (hVs.symm.trans h) (by omega)) (Or.inl T.s)
    · rw [if_neg (by rw [beq_iff_eq]; exact hq)]
      exact JN.mk (T.b.polls (by omega)) (by omega) (.p3a hVs (T.a.trans h2) (by show 0 ≤ V.nextI ∧ V.nextI < _; rw [T.b.nextI]; omega) (by show _ = _ - V.nextI + _ + _ + _ + _; rw [T.b.nextI]; omega)) J.s T.st T.se (by show V.y.stage ≤ 1 ↔ _; omega) (fun h => absurd (hVs.symm.trans h) (by omega)) (fun h => absurd (hVs.symm.trans h) (by omega)) (Or.inl T.s)
  | p3b h1 h2 h3 =>
    have hz : ¬ V.y.at_ = 0 := by rw [T.a, h2]; omega
    rw [show V.hands 3 4 = (V.posts 3 false).ent 4 from if_neg hz]
    exact JN.mk ((T.b.posts 3 false).ent 4) (by omega) (.p4a rfl rfl (by show (0 : Int) ≤ 0 ∧ (0 : Int) ≤ _; omega) (by show _ = c.globals - 0 + _ + _ + _; omega)) J.s T.st T.se (by show (4 : Int) ≤ 1 ↔ _; omega) (fun h => absurd h (by show ¬ (4 : Int) = 7; omega)) (by show ¬ (4 : Int) = 0; omega) (Or.inr (by rw [hs]; rfl))
  | p0 h | p1a h | p1b h | p2a h | p2b h | p4a h | p4b h | p5a h | p5b h | p6a h | p6b h | p6c h | p7a h | p7b h | p8a h | p8b h | p9 h | p10a h | p10b h => exfalso; omega
theorem jn_rootsNone (T : Tk c n (100000 * (n + 1) - 2 * L + 1) W V) (J : JW c n s0 L W) (ht : 1 ≤ c.threads ∧ c.threads ≤ 16) (hg : c.globals ≤ 8) (hs : W.y.stage = 4) (ha : W.y.at_ = 0) (hi : W.y.i < c.globals) : JN c n s0 (L - 1) W V.rootsNone := by
  have hVs : V.y.stage = 4 := T.s.trans hs
  have hVi := T.i
  cases J.p with
  | p4a h1 h2 h3 h4 =>
    have hb := T.b
    exact JN.mk (M := 100000 * (n + 1) - 2 * L + 1 + 1) ⟨hb.K.mtick, hb.e, hb.fin, hb.fr, hb.mv, ⟨hb.st.1, up hb.st.2 (by omega)⟩, by show 0 ≤ V.y.i + 1 ∧ V.y.i + 1 ≤ 5000; omega⟩ (by omega) (.p4a hVs rfl (by show 0 ≤ V.y.i + 1 ∧ V.y.i + 1 ≤ _; omega) (by show _ = c.globals - (V.y.i + 1) + _ + _ + _; omega)) J.s T.st T.se (by show V.y.stage ≤ 1 ↔ _; omega) (fun h => absurd (hVs.symm.trans h) (by omega)) (fun h => absurd (hVs.symm.trans h) (by omega)) (Or.inl T.s)
  | p4b h1 h2 => exfalso; omega
  | p0 h | p1a h | p1b h | p2a h | p2b h | p3a h | p3b h | p5a h | p5b h | p6a h | p6b h | p6c h | p7a h | p7b h | p8a h | p8b h | p9 h | p10a h | p10b h => exfalso; omega
theorem jn_rootsPoll (T : Tk c n (100000 * (n + 1) - 2 * L + 1) W V) (J : JW c n s0 L W) (ht : 1 ≤ c.threads ∧ c.threads ≤ 16) (hg : c.globals ≤ 8) (hs : W.y.stage = 4) (hp : c.globals ≤ W.y.i ∨ W.y.at_ = 1) : JN c n s0 (L - 1) W V.rootsPoll := by
  have hVs : V.y.stage = 4 := T.s.trans hs
  obtain ⟨R, hR, hRb, hRs, hRa, hRi, hRst, hRse⟩ : ∃ R : CyW, V.rootsV = R ∧ JB c n (100000 * (n + 1) - 2 * L + 1) R ∧ R.y.stage = 4 ∧ R.y.at_ = 1 ∧ (0 ≤ R.y.i ∧ R.y.i < c.threads ∧ L = c.threads - R.y.i + 2 * c.threads + c.frags + 9) ∧ R.y.started = W.y.started ∧ R.y.sense = W.y.sense := by
    cases J.p with
    | p4a h1 h2 h3 h4 =>
      have hb := T.b
      exact ⟨_, (show V.rootsV = _ from if_pos (T.a.trans h2)), ⟨hb.K, hb.e, hb.fin, hb.fr, hb.mv, hb.st, by show (0 : Int) ≤ 0 ∧ (0 : Int) ≤ 5000; omega⟩, hVs, rfl, by show (0 : Int) ≤ 0 ∧ (0 : Int) < _ ∧ _ = _ - (0 : Int) + _ + _ + _; omega, T.st, T.se⟩
    | p4b h1 h2 h3 h4 =>
      have hz : ¬ V.y.at_ = 0 := by rw [T.a, h2]; omega
      exact ⟨_, (show V.rootsV = V from if_neg hz), T.b, hVs, T.a.trans h2, by rw [T.i]; omega, T.st, T.se⟩
    | p0 h | p1a h | p1b h | p2a h | p2b h | p3a h | p3b h | p5a h | p5b h | p6a h | p6b h | p6c h | p7a h | p7b h | p8a h | p8b h | p9 h | p10a h | p10b h => exfalso; omega
  unfold CyW.rootsPoll
  rw [hR, hRb.pollsB]
  by_cases hq : R.y.i + 1 = c.threads
  · rw [if_pos (beq_iff_eq.2 hq)]
    exact JN.mk ((hRb.polls (by omega)).ent 5) (by omega) (.p5a rfl rfl (by omega)) J.s hRst hRse (by show (5 : Int) ≤ 1 ↔ _; omega) (fun h => absurd h (by show ¬ (5 : Int) = 7; omega)) (by show ¬ (5 : Int) = 0; omega) (Or.inr (by rw [hs]; rfl))
  · rw [if_neg (by rw [beq_iff_eq]; exact hq)]
    exact JN.mk (hRb.polls (by omega)) (by omega) (.p4b hRs hRa (by show 0 ≤ R.nextI ∧ R.nextI < _; rw [hRb.nextI]; omega) (by show _ = _ - R.nextI + _ + _ + _; rw [hRb.nextI]; omega)) J.s hRst hRse (by show R.y.stage ≤ 1 ↔ _; omega) (fun h => absurd (hRs.symm.trans h) (by omega)) (fun h => absurd (hRs.symm.trans h) (by omega)) (Or.inl (hRs.trans hs.symm))
theorem jn_marksEmpty (T : Tk c n (100000 * (n + 1) - 2 * L + 1) W V) (J : JW c n s0 L W) (hs : W.y.stage = 5) (ha : W.y.at_ = 0) : JN c n s0 (L - 1) W V.marksEmpty := by
  have hVs : V.y.stage = 5 := T.s.trans hs
  have hb := T.b
  cases J.p with
  | p5a h1 h2 h3 =>
    exact JN.mk (M := 100000 * (n + 1) - 2 * L + 1 + 1) ⟨hb.K.pile (by show V.K.pile.l.take _ = []; rw [hb.K.pl]; rfl) hb.K.lost, hb.e, hb.fin, hb.fr, hb.mv, ⟨hb.st.1, up hb.st.2 (by omega)⟩, hb.ib⟩ (by omega) (.p5b hVs rfl (by omega)) J.s T.st T.se (by show V.y.stage ≤ 1 ↔ _; omega) (fun h => absurd (hVs.symm.trans h) (by omega)) (fun h => absurd (hVs.symm.trans h) (by omega)) (Or.inl T.s)
  | p5b h1 h2 => exfalso; omega
  | p0 h | p1a h | p1b h | p2a h | p2b h | p3a h | p3b h | p4a h | p4b h | p6a h | p6b h | p6c h | p7a h | p7b h | p8a h | p8b h | p9 h | p10a h | p10b h => exfalso; omega
theorem jn_marksFound (T : Tk c n (100000 * (n + 1) - 2 * L + 1) W V) (J : JW c n s0 L W) (hs : W.y.stage = 5) (ha : W.y.at_ = 5) : JN c n s0 (L - 1) W V.marksFound := by
  have hb := T.b
  cases J.p with
  | p5b h1 h2 h3 =>
    exact JN.mk (M := 100000 * (n + 1) - 2 * L + 1 + 1) ⟨hb.K.pile hb.K.pl rfl, hb.e, hb.fin, hb.fr, hb.mv, ⟨hb.st.1, up hb.st.2 (by omega)⟩, by show (0 : Int) ≤ 0 ∧ (0 : Int) ≤ 5000; omega⟩ (by omega) (.p6a rfl rfl rfl (by omega)) J.s T.st T.se (by show (6 : Int) ≤ 1 ↔ _; omega) (fun h => absurd h (by show ¬ (6 : Int) = 7; omega)) (by show ¬ (6 : Int) = 0; omega) (Or.inr (by rw [hs]; rfl))
  | p5a h1 h2 => exfalso; omega
  | p0 h | p1a h | p1b h | p2a h | p2b h | p3a h | p3b h | p4a h | p4b h | p6a h | p6b h | p6c h | p7a h | p7b h | p8a h | p8b h | p9 h | p10a h | p10b h => exfalso; omega
theorem jn_turns (T : Tk c n (100000 * (n + 1) - 2 * L + 1) W V) (J : JW c n s0 L W) (ht : 1 ≤ c.threads ∧ c.threads ≤ 16) (hs : W.y.stage = 6) : JN c n s0 (L - 1) W V.turns := by
  have hVs : V.y.stage = 6 := T.s.trans hs
  have hVi := T.i
  cases J.p with
  | p6a h1 h2 h3 h4 =>
    rw [show V.turns = (V.spc (turnS V.K.sp)).atY 2 from if_pos (T.a.trans h2)]
    exact JN.mk ((T.b.spc T.b.K.turn).atY 2) (by omega) (.p6b hVs rfl (hVi.trans h3) (by omega)) J.s T.st T.se (by show V.y.stage ≤ 1 ↔ _; omega) (fun h => absurd (hVs.symm.trans h) (by omega)) (fun h => absurd (hVs.symm.trans h) (by omega)) (Or.inl T.s)
  | p6b h1 h2 h3 h4 =>
    have hz : ¬ V.y.at_ = 0 := by rw [T.a, h2]; omega
    rw [show V.turns = (V.posts 4 false).atY 1 from (if_neg hz).trans (if_pos (T.a.trans h2))]
    exact JN.mk ((T.b.posts 4 false).atY 1) (by omega) (.p6c hVs rfl (by show 0 ≤ V.y.i ∧ V.y.i < _; omega) (by show _ = _ - V.y.i + _ + _ + _; omega)) J.s T.st T.se (by show V.y.stage ≤ 1 ↔ _; omega) (fun h => absurd (hVs.symm.trans h) (by omega)) (fun h => absurd (hVs.symm.trans h) (by omega)) (Or.inl T.s)
  | p6c h1 h2 h3 h4 =>
    have hz : ¬ V.y.at_ = 0 := by rw [T.a, h2]; omega
    have hz2 : ¬ V.y.at_ = 2 := by rw [T.a, h2]; omega
    rw [show V.turns = if V.pollsB then { V.polls.ent 7 with h := none } else V.polls from (if_neg hz).trans (if_neg hz2), T.b.pollsB]
    by_cases hq : V.y.i + 1 = c.threads
    · rw [if_pos (beq_iff_eq.2 hq)]
      exact JN.mk (((T.b.polls (by omega)).ent 7).noH none) (by omega) (.p7a rfl rfl (by omega)) J.s T.st T.se (by show (7 : Int) ≤ 1 ↔ _; omega) (fun _ _ => rfl) (by show ¬ (7 : Int) = 0; omega) (Or.inr (by rw [hs]; rfl))
    · rw [if_neg (by rw [beq_iff_eq]; exact hq)]
      exact JN.mk (T.b.polls (by omega)) (by omega) (.p6c hVs (T.a.trans h2) (by show 0 ≤ V.nextI ∧ V.nextI < _; rw [T.b.nextI]; omega) (by show _ = _ - V.nextI + _ + _ + _; rw [T.b.nextI]; omega)) J.s T.st T.se (by show V.y.stage ≤ 1 ↔ _; omega) (fun h => absurd (hVs.symm.trans h) (by omega)) (fun h => absurd (hVs.symm.trans h) (by omega)) (Or.inl T.s)
  | p0 h | p1a h | p1b h | p2a h | p2b h | p3a h | p3b h | p4a h | p4b h | p5a h | p5b h | p7a h | p7b h | p8a h | p8b h | p9 h | p10a h | p10b h => exfalso; omega
theorem jn_haulsNone (T : Tk c n (100000 * (n + 1) - 2 * L + 1) W V) (J : JW c n s0 L W) (hs : W.y.stage = 7) (ha : W.y.at_ = 0) : JN c n s0 (L - 1) W V.haulsNone := by
  have hVs : V.y.stage = 7 := T.s.trans hs
  have hb := T.b
  cases J.p with
  | p7a h1 h2 h3 =>
    exact JN.mk (M := 100000 * (n + 1) - 2 * L + 1) ⟨hb.K, rfl, hb.fin, hb.fr, hb.mv, hb.st, hb.ib⟩ (by omega) (.p7b hVs rfl (by omega)) J.s T.st T.se (by show V.y.stage ≤ 1 ↔ _; omega) (fun _ h => absurd h (by show ¬ (2 : Int) = 0; omega)) (fun h => absurd (hVs.symm.trans h) (by omega)) (Or.inl T.s)
  | p7b h1 h2 => exfalso; omega
  | p0 h | p1a h | p1b h | p2a h | p2b h | p3a h | p3b h | p4a h | p4b h | p5a h | p5b h | p6a h | p6b h | p6c h | p8a h | p8b h | p9 h | p10a h | p10b h => exfalso; omega
theorem jn_haulsPost (T : Tk c n (100000 * (n + 1) - 2 * L + 1) W V) (J : JW c n s0 L W) (ht : 1 ≤ c.threads ∧ c.threads ≤ 16) (hs : W.y.stage = 7) (ha : W.y.at_ = 2) : JN c n s0 (L - 1) W V.haulsPost := by
  cases J.p with
  | p7b h1 h2 h3 =>
    exact JN.mk ((T.b.posts 0 false).ent 8) (by omega) (.p8a rfl rfl (by show (0 : Int) ≤ 0 ∧ (0 : Int) < _; omega) (by show _ = c.threads - 0 + _ + _; omega)) J.s T.st T.se (by show (8 : Int) ≤ 1 ↔ _; omega) (fun h => absurd h (by show ¬ (8 : Int) = 7; omega)) (by show ¬ (8 : Int) = 0; omega) (Or.inr (by rw [hs]; rfl))
  | p7a h1 h2 => exfalso; omega
  | p0 h | p1a h | p1b h | p2a h | p2b h | p3a h | p3b h | p4a h | p4b h | p5a h | p5b h | p6a h | p6b h | p6c h | p8a h | p8b h | p9 h | p10a h | p10b h => exfalso; omega
theorem jn_settles (T : Tk c n (100000 * (n + 1) - 2 * L + 1) W V) (J : JW c n s0 L W) (ht : 1 ≤ c.threads ∧ c.threads ≤ 16) (hf : 1 ≤ c.frags) (hs : W.y.stage = 8) : JN c n s0 (L - 1) W V.settles := by
  have hVs : V.y.stage = 8 := T.s.trans hs
  have hVi := T.i
  cases J.p with
  | p8a h1 h2 h3 h4 =>
    rw [show V.settles = if V.pollsB then V.polls.atY 7 else V.polls from if_pos (T.a.trans h2), T.b.pollsB]
    by_cases hq : V.y.i + 1 = c.threads
    · rw [if_pos (beq_iff_eq.2 hq)]
      exact JN.mk ((T.b.polls (by omega)).atY 7) (by omega) (.p8b hVs rfl (by omega)) J.s T.st T.se (by show V.y.stage ≤ 1 ↔ _; omega) (fun h => absurd (hVs.symm.trans h) (by omega)) (fun h => absurd (hVs.symm.trans h) (by omega)) (Or.inl T.s)
    · rw [if_neg (by rw [beq_iff_eq]; exact hq)]
      exact JN.mk (T.b.polls (by omega)) (by omega) (.p8a hVs (T.a.trans h2) (by show 0 ≤ V.nextI ∧ V.nextI < _; rw [T.b.nextI]; omega) (by show _ = _ - V.nextI + _ + _; rw [T.b.nextI]; omega)) J.s T.st T.se (by show V.y.stage ≤ 1 ↔ _; omega) (fun h => absurd (hVs.symm.trans h) (by omega)) (fun h => absurd (hVs.symm.trans h) (by omega)) (Or.inl T.s)
  | p8b h1 h2 h3 =>
    have hz : ¬ V.y.at_ = 0 := by rw [T.a, h2]; omega
    rw [show V.settles = (V.spc (doneS V.K.sp)).ent 9 from if_neg hz]
    exact JN.mk ((T.b.spc T.b.K.done).ent 9) (by omega) (.p9 rfl rfl (by show (0 : Int) ≤ 0 ∧ (0 : Int) < _; omega) (by show _ = c.frags - 0 + _; omega)) J.s T.st T.se (by show (9 : Int) ≤ 1 ↔ _; omega) (fun h => absurd h (by show ¬ (9 : Int) = 7; omega)) (by show ¬ (9 : Int) = 0; omega) (Or.inr (by rw [hs]; rfl))
  | p0 h | p1a h | p1b h | p2a h | p2b h | p3a h | p3b h | p4a h | p4b h | p5a h | p5b h | p6a h | p6b h | p6c h | p7a h | p7b h | p9 h | p10a h | p10b h => exfalso; omega
theorem jn_sweeps (T : Tk c n (100000 * (n + 1) - 2 * L + 1) W V) (J : JW c n s0 L W) (hf : 1 ≤ c.frags ∧ c.frags ≤ 1024) (hs : W.y.stage = 9) : JN c n s0 (L - 1) W V.sweepsY := by
  have hVs : V.y.stage = 9 := T.s.trans hs
  have hVi := T.i
  have hb := T.b
  cases J.p with
  | p9 h1 h2 h3 h4 =>
    have h1b : JB c n (100000 * (n + 1) - 2 * L + 1 + 1) V.sweep1 := by
      refine ⟨hb.K.sweep _ _, hb.e, hb.fin, ?_, hb.mv, ⟨hb.st.1, up hb.st.2 (by omega)⟩, by show 0 ≤ V.y.i + 1 ∧ V.y.i + 1 ≤ 5000; omega⟩
      show (if V.swept then V.y.freed + 1 else V.y.freed) = 0
      rw [show V.swept = false from hb.K.sweeps_no _ _]
      exact hb.fr
    unfold CyW.sweepsY
    rw [hb.K.cc]
    by_cases hq : V.y.i + 1 = c.frags
    · rw [if_pos hq]
      exact JN.mk (h1b.ent 10) (by omega) (.p10a rfl rfl (by omega)) J.s T.st T.se (by show (10 : Int) ≤ 1 ↔ _; omega) (fun h => absurd h (by show ¬ (10 : Int) = 7; omega)) (by show ¬ (10 : Int) = 0; omega) (Or.inr (by rw [hs]; rfl))
    · rw [if_neg hq]
      exact JN.mk h1b (by omega) (.p9 hVs (T.a.trans h2) (by show 0 ≤ V.y.i + 1 ∧ V.y.i + 1 < _; omega) (by show _ = _ - (V.y.i + 1) + _; omega)) J.s T.st T.se (by show V.y.stage ≤ 1 ↔ _; omega) (fun h => absurd (hVs.symm.trans h) (by omega)) (fun h => absurd (hVs.symm.trans h) (by omega)) (Or.inl T.s)
  | p0 h | p1a h | p1b h | p2a h | p2b h | p3a h | p3b h | p4a h | p4b h | p5a h | p5b h | p6a h | p6b h | p6c h | p7a h | p7b h | p8a h | p8b h | p10a h | p10b h => exfalso; omega
theorem jn_serves (T : Tk c n (100000 * (n + 1) - 2 * L + 1) W V) (J : JW c n s0 L W) (hs : W.y.stage = 10) : JN c n s0 (L - 1) W V.serves := by
  have hVs : V.y.stage = 10 := T.s.trans hs
  have hb := T.b
  cases J.p with
  | p10a h1 h2 h3 =>
    rw [show V.serves = (V.spc (endS V.K.sp)).atY 7 from if_pos (T.a.trans h2)]
    exact JN.mk ((T.b.spc T.b.K.ends).atY 7) (by omega) (.p10b hVs rfl (by omega)) J.s T.st T.se (by show V.y.stage ≤ 1 ↔ _; omega) (fun h => absurd (hVs.symm.trans h) (by omega)) (fun h => absurd (hVs.symm.trans h) (by omega)) (Or.inl T.s)
  | p10b h1 h2 h3 =>
    have hz : ¬ V.y.at_ = 0 := by rw [T.a, h2]; omega
    have hv : V.serves = CyW.ent { V.spc V.K.sp.tick with y := { V.y with finished := V.y.finished + 1 } } 0 := by
      unfold CyW.serves
      rw [if_neg hz]
      simp only [hb.K.serve_no]
      rfl
    rw [hv]
    have hx : JB c (n + 1) (100000 * (n + 1) - 2 * L + 1 + 1) { V.spc V.K.sp.tick with y := { V.y with finished := V.y.finished + 1 } } := ⟨hb.K.stick, hb.e, by show V.y.finished + 1 = n + 1; rw [hb.fin], hb.fr, hb.mv, ⟨hb.st.1, up hb.st.2 (by omega)⟩, hb.ib⟩
    refine Or.inr ⟨⟨(hx.ent 0).mono (by omega), ⟨T.st.trans (J.s.b (by omega)).1, T.se.trans (J.s.b (by omega)).2⟩, rfl, rfl, rfl⟩, hs, by omega⟩
  | p0 h | p1a h | p1b h | p2a h | p2b h | p3a h | p3b h | p4a h | p4b h | p5a h | p5b h | p6a h | p6b h | p6c h | p7a h | p7b h | p8a h | p8b h | p9 h => exfalso; omega
end
end Go.Proofs.YtnebimabokgofaaGreat

