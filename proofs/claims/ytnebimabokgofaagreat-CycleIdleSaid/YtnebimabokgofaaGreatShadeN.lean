import Derived.Test.YtnebimabokgofaaGreatPileP
/-
  pile: Pop, Lost, Found; shade: Next, Lost.
-/
namespace Go
open Go.RowKit
namespace PileS
def pop (p : PileS) : PileS := { p with l := p.l.take (p.l.length - 1) }
def top (p : PileS) : Int := p.l.getD (p.l.length - 1) 0
def some_ (p : PileS) : Bool := decide (0 < p.l.length)
def found (p : PileS) : PileS := { p with lost := false }
end PileS
end Go
namespace Go.Proofs.YtnebimabokgofaaGreat
open Go Go.RowKit
set_option linter.unusedVariables false
set_option linter.unnecessarySimpa false
set_option linter.unusedSimpArgs false
set_option maxHeartbeats 2000000
set_option maxRecDepth 100000
theorem pile_pop (g : GW) (t b : Nat) (p : PileS) (h : PileAt g t b p) :
    Calls Tryz.prog 154 #[.pointer (some ⟨b, 0, none⟩)] g.w (Does (.tuple #[.int .i64 p.top, .bool p.some_]) g (fun x => x = t) (fun g' => PileAt g' t b p.pop)) := by
  obtain ⟨A, c, hb, hr⟩ := h.ex
  have hlen : p.l.length ≤ 256 := by have := h.len; have := h.most; omega
  have HM := Lib.hid h.most
  have HL := Lib.hid h.len
  have HB := Lib.hid hb
  have HR := Lib.hid hr
  have a0 := hb.cell (i := 0) rfl
  have a1 := hb.cell (i := 1) rfl
  have a2 := hb.cell (i := 2) rfl
  have af0 := hb.live 0
  have al := hb.lt
  (try simp only [GW.to] at a0 a1 a2 af0 al)
  rcases Nat.eq_zero_or_pos p.l.length with h0 | h0
  · have HV := Lib.hid (And.intro (show p.top = 0 by unfold PileS.top; rw [h0]; cases hl : p.l with | nil => rfl | cons x l => rw [hl] at h0; simp at h0) (And.intro (show p.some_ = false by unfold PileS.some_; rw [h0]; rfl) (show p.pop = p by unfold PileS.pop; rw [List.take_of_length_le (by omega)])))
    have HH := Lib.hid h
    clear hb hr h
    rw [h0] at a0
    go_enter Tryz.func154, Tryz.ntmps154
    go_wp2_with fail
    go_ret2
    exact Does.of g rfl (by rw [HV.out.1, HV.out.2.1]; try rfl) (Mod.refl _ _) (by rw [HV.out.2.2]; exact HH.out)
  · obtain ⟨k, hk⟩ : ∃ k, p.l.length = k + 1 := ⟨p.l.length - 1, by omega⟩
    obtain ⟨r, rfl, hrl, ho, hcell, hfr⟩ := hr.block h0
    have k0 := hcell k (.int .i64 (p.l.getD k 0)) (by simp [List.getD_eq_getElem?_getD, hk])
    have HV := Lib.hid (And.intro (show p.top = p.l.getD k 0 by unfold PileS.top; rw [hk]; rfl) (And.intro (show p.some_ = true by unfold PileS.some_; rw [hk]; exact decide_eq_true (by omega)) (show p.pop = { p with l := p.l.take k } by unfold PileS.pop; rw [hk]; rfl)))
    have hcap : k + 1 ≤ c := by
      obtain ⟨A2, c2, he, h1, h2, h3⟩ := hr.form
      injection he with e1 e2 e3
      omega
    have HC := Lib.hid (show Row g t 3 1 (.slice (some ⟨r, 0, none⟩) k c) k ((p.l.take k).map (Value.int .i64)) from by
      have h9 := hr.cut (m := k) (by omega)
      rw [Nat.mul_one, ← List.map_take] at h9
      exact h9)
    have HKL := Lib.hid (show (p.l.take k).length = k by simp; omega)
    have hcm : c ≤ 9223372036854775807 := by
      obtain ⟨A2, c2, he, h1, h2, h3⟩ := hr.form
      injection he with e1 e2 e3
      omega
    clear hcell hfr hb hr h h0
    rw [hk] at a0
    generalize p.l.getD k 0 = x at *
    go_enter Tryz.func154, Tryz.ntmps154
    go_wp2_with fail
    go_ret2
    refine Does.of ⟨g.own, g.w.setCell ⟨b, 0, none⟩ (.slice (some ⟨r, 0, none⟩) k c)⟩ rfl (by rw [HV.out.1, HV.out.2.1]; try rfl) (Mod.st Mod.self HB.out.own) ?_
    rw [HV.out.2.2]
    refine ⟨⟨some ⟨r, 0, none⟩, c, ?_, ?_⟩, HM.out, by show ((p.l.take k).length : Int) ≤ p.most; have := HKL.out; have := HL.out; omega⟩
    · show Blk _ t b _ [.slice (some ⟨r, 0, none⟩) (p.l.take k).length c, .int .i64 p.most, .bool p.lost]
      rw [HKL.out]
      exact HB.out.set 0 _
    · show Row _ t 3 1 (.slice (some ⟨r, 0, none⟩) (p.l.take k).length c) (p.l.take k).length ((p.l.take k).map (Value.int .i64))
      rw [HKL.out]
      exact HC.out.setOther 0 _ (fun x hx => HC.out.ne_type HB.out (by decide) hx)
theorem pile_lost (g : GW) (t b : Nat) (p : PileS) (h : PileAt g t b p) : Calls Tryz.prog 157 #[.pointer (some ⟨b, 0, none⟩)] g.w (fun e w' => e = .returned (.bool p.lost) ∧ g.w = w') := by
  obtain ⟨A, c, hb, hr⟩ := h.ex
  have a0 := hb.cell (i := 0) rfl
  have a1 := hb.cell (i := 1) rfl
  have a2 := hb.cell (i := 2) rfl
  have al := hb.lt
  (try simp only [GW.to] at a0 a1 a2 al)
  clear hb hr h
  go_enter Tryz.func157, Tryz.ntmps157
  go_wp2_with fail
  go_ret
  exact ⟨rfl, rfl⟩
theorem pile_found (g : GW) (t b : Nat) (p : PileS) (h : PileAt g t b p) : Calls Tryz.prog 158 #[.pointer (some ⟨b, 0, none⟩)] g.w (Does (.tuple #[]) g (fun x => x = t) (fun g' => PileAt g' t b p.found)) := by
  obtain ⟨A, c, hb, hr⟩ := h.ex
  have HM := Lib.hid h.most
  have HL := Lib.hid h.len
  have HB := Lib.hid hb
  have HR := Lib.hid hr
  have a0 := hb.cell (i := 0) rfl
  have a1 := hb.cell (i := 1) rfl
  have a2 := hb.cell (i := 2) rfl
  have af2 := hb.live 2
  have al := hb.lt
  (try simp only [GW.to] at a0 a1 a2 af2 al)
  clear hb hr h
  go_enter Tryz.func158, Tryz.ntmps158
  go_wp2_with fail
  exact bodyPost_end (results_none rfl _ _ _) rfl (Does.of ⟨g.own, g.w.setCell ⟨b, 2, none⟩ (.bool false)⟩ rfl rfl (Mod.st Mod.self HB.out.own) ⟨⟨A, c, HB.out.set 2 _, HR.out.setOther 2 _ (fun x hx => HR.out.ne_type HB.out (by decide) hx)⟩, HM.out, HL.out⟩)
theorem shade_next (g : GW) (t b bt tt bp tp : Nat) (T : TabS) (p : PileS) (n : Int) (h : ShdAt g t b bt tt bp tp T p n) (hn : 0 ≤ n ∧ n ≤ 1099511627776) (h1 : t ≠ tt) (h2 : t ≠ tp) (h3 : tt ≠ tp) :
    Calls Tryz.prog 105 #[.pointer (some ⟨b, 0, none⟩)] g.w (Does (.tuple #[.int .i64 p.top, .bool p.some_]) g (fun x => x = t ∨ x = tp) (fun g' => ShdAt g' t b bt tt bp tp T p.pop (n + 1))) := by
  have H1 := Lib.hid (h.tick h1 h2)
  have M1 := Lib.hid (show Mod (fun x => x = t) g ⟨g.own, g.w.setCell ⟨b, 2, none⟩ (.int .i64 (n + 1))⟩ from Mod.st Mod.self h.blk.own)
  have HN := Lib.hid (And.intro h1 (And.intro h2 h3))
  have a0 := h.blk.cell (i := 0) rfl
  have a1 := h.blk.cell (i := 1) rfl
  have a2 := h.blk.cell (i := 2) rfl
  have af2 := h.blk.live 2
  have al := h.blk.lt
  (try simp only [GW.to] at a0 a1 a2 af2 al)
  obtain ⟨hn0, hn1⟩ := hn
  clear h h1 h2 h3
  go_enter Tryz.func105, Tryz.ntmps105
  go_wp2_with fail
  refine (pile_pop ⟨g.own, g.w.setCell ⟨b, 2, none⟩ (.int .i64 (n + 1))⟩ tp bp p H1.out.pile).mono ?_
  rintro e w2 ⟨rfl, own2, m2, r2⟩
  have M2 := Lib.hid m2
  have R2 := Lib.hid (show ShdAt ⟨own2, w2⟩ t b bt tt bp tp T p.pop (n + 1) from ⟨H1.out.blk.keep m2 (fun e => HN.out.2.1 e), H1.out.tab.keep m2 (fun e => HN.out.2.2 e), r2⟩)
  clear m2 r2
  go_wp2_with fail
  go_ret2
  exact ⟨rfl, own2, (M1.out.mono (fun x hx => Or.inl hx)).trans (M2.out.mono (fun x hx => Or.inr hx)), R2.out⟩
theorem shade_lost (g : GW) (t b bt tt bp tp : Nat) (T : TabS) (p : PileS) (n : Int) (h : ShdAt g t b bt tt bp tp T p n) (hn : 0 ≤ n ∧ n ≤ 1099511627776) (h1 : t ≠ tt) (h2 : t ≠ tp) (h3 : tt ≠ tp) :
    Calls Tryz.prog 109 #[.pointer (some ⟨b, 0, none⟩)] g.w (Does (.bool p.lost) g (fun x => x = t ∨ x = tp) (fun g' => ShdAt g' t b bt tt bp tp T p.found (n + 1))) := by
  have H1 := Lib.hid (h.tick h1 h2)
  have M1 := Lib.hid (show Mod (fun x => x = t) g ⟨g.own, g.w.setCell ⟨b, 2, none⟩ (.int .i64 (n + 1))⟩ from Mod.st Mod.self h.blk.own)
  have HN := Lib.hid (And.intro h1 (And.intro h2 h3))
  have a0 := h.blk.cell (i := 0) rfl
  have a1 := h.blk.cell (i := 1) rfl
  have a2 := h.blk.cell (i := 2) rfl
  have af2 := h.blk.live 2
  have al := h.blk.lt
  (try simp only [GW.to] at a0 a1 a2 af2 al)
  obtain ⟨hn0, hn1⟩ := hn
  clear h h1 h2 h3
  go_enter Tryz.func109, Tryz.ntmps109
  go_wp2_with fail
  refine (pile_lost ⟨g.own, g.w.setCell ⟨b, 2, none⟩ (.int .i64 (n + 1))⟩ tp bp p H1.out.pile).mono ?_
  rintro e w2 ⟨rfl, rfl⟩
  go_wp2_with fail
  refine (pile_found ⟨g.own, g.w.setCell ⟨b, 2, none⟩ (.int .i64 (n + 1))⟩ tp bp p H1.out.pile).mono ?_
  rintro e w2 ⟨rfl, own2, m2, r2⟩
  have M2 := Lib.hid m2
  have R2 := Lib.hid (show ShdAt ⟨own2, w2⟩ t b bt tt bp tp T p.found (n + 1) from ⟨H1.out.blk.keep m2 (fun e => HN.out.2.1 e), H1.out.tab.keep m2 (fun e => HN.out.2.2 e), r2⟩)
  clear m2 r2
  go_wp2_with fail
  go_ret
  exact ⟨rfl, own2, (M1.out.mono (fun x hx => Or.inl hx)).trans (M2.out.mono (fun x hx => Or.inr hx)), R2.out⟩
end Go.Proofs.YtnebimabokgofaaGreat

