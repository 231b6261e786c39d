import Derived.Test.YtnebimabokgofaaGreatTint
import Derived.Test.YtnebimabokgofaaGreatTraceS
/-
  Merged: XTintM, XPileP.
-/
/-
  tint.Mark.
-/
namespace Go.Proofs.YtnebimabokgofaaGreat
open Go Go.RowKit
set_option linter.unusedVariables false
set_option linter.unnecessarySimpa false
set_option linter.unusedSimpArgs false
set_option maxHeartbeats 2000000
theorem TabS.mark_yes {T : TabS} {k : Nat} {o : One} {s : Bool} (ho : T.l[k]? = some o) (h2 : T.state k = 2) (hb : T.black k s = false) : T.mark k s = ⟨T.l.set k ⟨o.state, o.head, s⟩⟩ := by
  obtain ⟨hk, hx⟩ := List.getElem?_eq_some_iff.1 ho
  unfold TabS.mark
  rw [h2, hb, if_pos (by decide), Int.toNat_natCast]
  congr 1
  apply List.ext_getElem?
  intro i
  rw [List.getElem?_modify, List.getElem?_set]
  by_cases hi : k = i
  · subst hi
    simp [ho, hk, hx]
  · simp [hi]
theorem TabS.mark_no {T : TabS} {i : Int} {s : Bool} (h : (T.state i == 2 && !T.black i s) = false) : T.mark i s = T := by
  unfold TabS.mark
  rw [h]
  rfl
theorem TabAt.marked {g : GW} {t b r c k : Nat} {T : TabS} {o : One} {s : Bool} (h : TabAt g t b T) (hk : k < T.l.length) (ho : T.l[k]? = some o)
    (hb : Blk g t b 135 [.slice (some ⟨r, 0, none⟩) T.l.length c, .int .i64 (T.cnt 0), .int .i64 (T.cnt 1), .int .i64 (T.cnt 2)])
    (hr : Row g t 139 3 (.slice (some ⟨r, 0, none⟩) T.l.length c) T.l.length (T.l.flatMap One.cells)) (hne : r ≠ b) :
    TabAt ⟨g.own, g.w.setCell ⟨r, k * 3 + 2, none⟩ (.bool s)⟩ t b ⟨T.l.set k ⟨o.state, o.head, s⟩⟩ := by
  refine ⟨⟨some ⟨r, 0, none⟩, c, ?_, ?_⟩, by simpa using h.len, fun u hu => ?_⟩
  · simp only [List.length_set]
    rw [TabS.cnt_set ho, TabS.cnt_set ho, TabS.cnt_set ho]
    have := hb.setOther (k * 3 + 2) (.bool s) hne
    simpa using this
  · simp only [List.length_set]
    have := hr.store (k * 3 + 2) (.bool s)
    rw [flat_set3 _ _ hk]
    obtain ⟨st, hd, se⟩ := o
    have e0 : (T.l.flatMap One.cells)[k * 3]? = some (.int .i64 st) := flat_at One.cells_len T.l k 0 _ ho (by omega)
    have e1 : (T.l.flatMap One.cells)[k * 3 + 1]? = some (.bool hd) := flat_at One.cells_len T.l k 1 _ ho (by omega)
    rw [show ((T.l.flatMap One.cells).set (k * 3) (.int .i64 st)).set (k * 3 + 1) (.bool hd) = T.l.flatMap One.cells from ?_]
    · exact this
    · apply List.ext_getElem?
      intro i
      rw [List.getElem?_set, List.getElem?_set]
      by_cases h1 : k * 3 + 1 = i
      · subst h1
        rw [if_pos rfl, e1]
        simp
        have := (List.getElem?_eq_some_iff.1 e1).1
        simpa using this
      · rw [if_neg h1]
        by_cases h2 : k * 3 = i
        · subst h2
          rw [if_pos rfl, e0]
          have := (List.getElem?_eq_some_iff.1 e0).1
          rw [if_pos this]
        · rw [if_neg h2]
  · rcases List.mem_or_eq_of_mem_set hu with hu | rfl
    · exact h.st u hu
    · exact h.st o (List.mem_of_getElem? ho)
theorem tab_mark (g : GW) (t b : Nat) (i : Int) (s : Bool) (T : TabS) (h : TabAt g t b T) :
    Calls Tryz.prog 149 #[.pointer (some ⟨b, 0, none⟩), .int .i64 i, .bool s] g.w (Does (.bool (T.state i == 2 && !T.black i s)) g (fun x => x = t) (fun g' => TabAt g' t b (T.mark i s))) := by
  have HS := Lib.hid (tab_state g t b i T h)
  have HB := Lib.hid (tab_black g t b i s T h)
  cases hst : T.state i == 2
  · have hz : ((T.state i : Int) != 2) = true := by
      have h1 : T.state i ≠ 2 := by simpa using hst
      exact bne_iff_ne.2 (by omega)
    have HM := Lib.hid (show T.mark i s = T from TabS.mark_no (by rw [hst]; rfl))
    have H := Lib.hid h
    generalize T.state i = x at *
    clear hst h
    go_enter Tryz.func149, Tryz.ntmps149
    go_wp2_with fail
    refine (HS.out).mono ?_
    rintro e w1 ⟨rfl, rfl⟩
    go_wp2_with fail
    go_ret
    exact Does.of g rfl rfl (Mod.refl _ _) (by rw [HM.out]; exact H.out)
  · have hz : ((T.state i : Int) != 2) = false := by
      have h1 : T.state i = 2 := by simpa using hst
      rw [h1]; rfl
    cases hbl : T.black i s
    · cases hin : inB i T.l.length
      · rw [show T.state i = 0 by unfold TabS.state; rw [TabS.at_out hin]; rfl] at hst
        cases hst
      obtain ⟨k, rfl, hk⟩ := inB_true hin
      obtain ⟨r, c, o, ho, h2, hb, hr, hrl, -, -, k2, kf, hne⟩ := h.one hk
      have e2 : T.state k = 2 := by simpa using hst
      have HM := Lib.hid (TabS.mark_yes ho e2 hbl)
      have HOR := Lib.hid (hr.own r rfl)
      have H := Lib.hid (h.marked (s := s) hk ho hb hr (fun e => hne e.symm))
      rw [hbl] at HB
      rw [e2] at HS
      have c0 := hb.cell (i := 0) rfl
      have hlen := h.len
      have f2 := kf (k * 3 + 2)
      generalize T.l.length = n at *
      clear hb hr h ho hst hz e2 hbl kf
      go_enter Tryz.func149, Tryz.ntmps149
      go_wp2_with fail
      refine (HS.out).mono ?_
      rintro e w1 ⟨rfl, rfl⟩
      go_wp2_with fail
      refine (HB.out).mono ?_
      rintro e w1 ⟨rfl, rfl⟩
      go_wp2_with fail
      go_ret
      exact Does.of ⟨g.own, _⟩ rfl rfl (Mod.st Mod.self HOR.out) (by rw [HM.out]; exact H.out)
    · have HM := Lib.hid (show T.mark i s = T from TabS.mark_no (by rw [hst, hbl]; rfl))
      have H := Lib.hid h
      rw [hbl] at HB
      generalize T.state i = x at *
      clear hst h hbl
      go_enter Tryz.func149, Tryz.ntmps149
      go_wp2_with fail
      refine (HS.out).mono ?_
      rintro e w1 ⟨rfl, rfl⟩
      go_wp2_with fail
      refine (HB.out).mono ?_
      rintro e w1 ⟨rfl, rfl⟩
      go_wp2_with fail
      go_ret
      exact Does.of g rfl rfl (Mod.refl _ _) (by rw [HM.out]; exact H.out)
end Go.Proofs.YtnebimabokgofaaGreat
/-
  pile.Push; shade.Grey, Part.
-/
namespace Go.Proofs.YtnebimabokgofaaGreat
open Go Go.RowKit
set_option linter.unusedVariables false
set_option linter.unnecessarySimpa false
set_option linter.unusedSimpArgs false
set_option maxHeartbeats 2000000
set_option maxRecDepth 100000
theorem pile_push (g : GW) (t b : Nat) (i : Int) (p : PileS) (h : PileAt g t b p) :
    Calls Tryz.prog 150 #[.pointer (some ⟨b, 0, none⟩), .int .i64 i] g.w (Does (.bool (!((p.l.length : Int) == p.most))) g (fun x => x = t) (fun g' => PileAt g' t b (p.push i))) := by
  obtain ⟨i0, hi, hz0, hz1, hz2⟩ := info_parts infoInt
  obtain ⟨A, c, hb, hr⟩ := h.ex
  have c0 := hb.cell (i := 0) rfl
  have c1 := hb.cell (i := 1) rfl
  have c2 := hb.cell (i := 2) rfl
  have f0 := hb.live 0
  have f2 := hb.live 2
  have hl := hb.lt
  have HO := Lib.hid hb.own
  have HB := Lib.hid hb
  have HR := Lib.hid hr
  have HM := Lib.hid h.most
  have HL := Lib.hid h.len
  have hll : p.l.length ≤ 256 := by have := h.len; have := h.most; omega
  by_cases hf : (p.l.length : Int) = p.most
  · have hz : ((p.l.length : Int) == p.most) = true := beq_iff_eq.2 hf
    have HP := Lib.hid (show p.push i = { p with lost := true } by unfold PileS.push; rw [if_pos hf])
    clear hf hb hr h
    go_enter Tryz.func150, Tryz.ntmps150
    go_wp2_with fail
    refine wp_region_mixed [true, true, true, true, true, true, true, true, true, true] 0 10 (by kernel_rfl) (by kernel_rfl) (by kernel_rfl) ?_ (by decide) (by decide) (by decide) (by kernel_rfl) ?_
    · intro c a d v w h; cases d <;> exact h
    intro X00
    simp only [pickOps]
    repeat (go_big_quiet_step (fail))
    refine wpQuiet_nil (fun X0 => ?_)
    clear X00
    refine wpAnyM_done (by kernel_rfl) (fun X0' => ?_) _
    go_wp2_with fail
    go_ret
    refine Does.ext ⟨g.own, g.w.setCell ⟨b, 2, none⟩ (.bool true)⟩ (by (repeat (first | (with_reducible assumption) | (with_reducible exact Ext.refl _) | (with_reducible exact Ext.more _ _ _ _) | apply Ext.alloc | refine Ext.setCell ?_ (by first | exact Nat.le_refl _ | exact Nat.le_add_right _ _ | assumption) _ | apply Ext.patch | apply Ext.drew | apply Ext.drewN))) (by rw [hz]; rfl) (Mod.st Mod.self HO.out) (fun g2 m => ?_)
    rw [HP.out]
    exact PileAt.keep ⟨⟨A, c, HB.out.set 2 (.bool true), HR.out.setOther 2 _ (fun x hx => HR.out.ne_type HB.out (by decide) hx)⟩, HM.out, HL.out⟩ m id
  · have hz : ((p.l.length : Int) == p.most) = false := beq_eq_false_iff_ne.2 hf
    have HP := Lib.hid (show p.push i = { p with l := p.l ++ [i] } by unfold PileS.push; rw [if_neg hf])
    have HLT := Lib.hid (show ((p.l ++ [i]).length : Int) ≤ p.most from by have := h.len; simp; omega)
    clear hf hb hr h
    go_enter Tryz.func150, Tryz.ntmps150
    go_wp2_with fail
    refine wp_region_mixed [true, true, true, true, true, true, true, true, true, true] 0 10 (by kernel_rfl) (by kernel_rfl) (by kernel_rfl) ?_ (by decide) (by decide) (by decide) (by kernel_rfl) ?_
    · intro c a d v w h; cases d <;> exact h
    intro X00
    simp only [pickOps]
    repeat (go_big_quiet_step (fail))
    refine wpQuiet_nil (fun X0 => ?_)
    clear X00
    refine wpAnyM_done (by kernel_rfl) (fun X0' => ?_) _
    obtain ⟨X1, hX⟩ := (show Ext g.w ((g.w.patch X0).patch X0') from Ext.trans ⟨X0, rfl⟩ ⟨X0', rfl⟩)
    rw [hX]
    clear hX
    have R1 := Lib.hid (HR.out.ptx X1)
    have B1 := Lib.hid (HB.out.pt X1)
    have hbl : b < (g.w.patch X1).heap.size := B1.out.lt
    have HEX := Lib.hid (fun o => show Ext (g.pt X1).w ((g.w.patch X1).alloc o) from Ext.alloc (Ext.refl _) o)
    go_wp2_with (at_builtin; refine wpList_append_own_at _ rfl (.tmp 22) (.tmp 24) 79 rfl 0 3 i0 (.int .i64 0) 1 8 Tryz.underlying79 hi hz0 hz1 hz2 rfl (by decide) _ _ _ rfl (R1.out.row.alloc _) ⟨(g.w.patch X1).heap.size, 0, none⟩ 1 1 [.int .i64 i] rfl rfl (cell_one_new _ _ _) (by intro u hu; simp at hu; subst hu; rfl) (by unfold maxLen; omega) (by omega) (Nat.zero_le _) ?_; intro v2 w2 hown hgrow hnil hat; obtain ⟨A2, cp2, rfl⟩ := own_form hown; have R2 := Lib.hid ((R1.out.ext (HEX.out (.cells #[.int .i64 i] 3)) 0).grown hown hat); have B2 := Lib.hid ((B1.out.ext (HEX.out (.cells #[.int .i64 i] 3)) 0).grown (t' := t) hgrow (fun x hx => R1.out.ne_type B1.out (by decide) hx)); have M2 := Lib.hid (((Mod.pt (Mod.refl (fun x => x = t) g) X1).trans (Mod.ext (T := fun x => x = t) (HEX.out (.cells #[.int .i64 i] 3)) 0)).trans (Mod.grown hgrow t (fun k hk hl => (R1.out.ext (HEX.out (.cells #[.int .i64 i] 3)) 0).own k hk))); have d0 := B2.out.cell (i := 0) rfl; have e0 := B2.out.live 0; have hbl2 := B2.out.lt; simp only [GW.to] at d0 e0 hbl2; clear hown hgrow hnil hat c0 f0 hbl hl)
    go_ret
    refine ⟨by rw [hz]; rfl, _, M2.out.trans (Mod.st Mod.self B2.out.own), ?_⟩
    rw [HP.out]
    exact ⟨⟨A2, cp2, (by simp only [List.length_append, List.length_cons, List.length_nil]; exact B2.out.set 0 _), (by simp only [List.length_append, List.length_cons, List.length_nil, List.map_append, List.map_cons, List.map_nil]; exact R2.out.setOther 0 _ (fun x hx => R2.out.ne_type B2.out (by decide) hx))⟩, HM.out, HLT.out⟩
theorem white_any (g : GW) (tt bt : Nat) (T : TabS) (i : Int) (s : Bool) (h : TabAt g tt bt T) : Calls Tryz.prog 148 #[.agg #[.pointer (some ⟨bt, 0, none⟩)], .int .i64 i, .bool s] g.w (Gives (.bool (T.white i s)) g.w) := by
  have HH := Lib.hid (fun w' (he : Ext g.w w') => tab_head (g.to 0 w') tt bt i T (h.keep (Mod.ext (T := fun _ => False) he 0) id))
  have HB := Lib.hid (fun w' (he : Ext g.w w') => tab_black (g.to 0 w') tt bt i s T (h.keep (Mod.ext (T := fun _ => False) he 0) id))
  have HV := Lib.hid (show T.white i s = (T.head i && !T.black i s) from rfl)
  rw [HV.out]
  generalize T.head i = a at *
  generalize T.black i s = b at *
  clear h HV
  cases a
  · go_enter Tryz.func148, Tryz.ntmps148
    go_wp2_with fail
    refine (HH.out _ (by (repeat (first | (with_reducible assumption) | (with_reducible exact Ext.refl _) | (with_reducible exact Ext.more _ _ _ _) | apply Ext.alloc | refine Ext.setCell ?_ (by first | exact Nat.le_refl _ | exact Nat.le_add_right _ _ | assumption) _ | apply Ext.patch | apply Ext.drew | apply Ext.drewN)))).mono ?_
    rintro e w1 ⟨rfl, rfl⟩
    go_wp2_with fail
    go_ret
    exact Gives.mk rfl (by (try simp only [GW.to]); (repeat (first | (with_reducible assumption) | (with_reducible exact Ext.refl _) | (with_reducible exact Ext.more _ _ _ _) | apply Ext.alloc | refine Ext.setCell ?_ (by first | exact Nat.le_refl _ | exact Nat.le_add_right _ _ | assumption) _ | apply Ext.patch | apply Ext.drew | apply Ext.drewN)))
  · go_enter Tryz.func148, Tryz.ntmps148
    go_wp2_with fail
    refine (HH.out _ (by (repeat (first | (with_reducible assumption) | (with_reducible exact Ext.refl _) | (with_reducible exact Ext.more _ _ _ _) | apply Ext.alloc | refine Ext.setCell ?_ (by first | exact Nat.le_refl _ | exact Nat.le_add_right _ _ | assumption) _ | apply Ext.patch | apply Ext.drew | apply Ext.drewN)))).mono ?_
    rintro e w1 ⟨rfl, rfl⟩
    simp only [GW.to]
    go_wp2_with fail
    refine (HB.out _ (by (repeat (first | (with_reducible assumption) | (with_reducible exact Ext.refl _) | (with_reducible exact Ext.more _ _ _ _) | apply Ext.alloc | refine Ext.setCell ?_ (by first | exact Nat.le_refl _ | exact Nat.le_add_right _ _ | assumption) _ | apply Ext.patch | apply Ext.drew | apply Ext.drewN)))).mono ?_
    rintro e w1 ⟨rfl, rfl⟩
    simp only [GW.to]
    go_wp2_with fail
    go_ret
    exact Gives.mk (by simp) (by (try simp only [GW.to]); (repeat (first | (with_reducible assumption) | (with_reducible exact Ext.refl _) | (with_reducible exact Ext.more _ _ _ _) | apply Ext.alloc | refine Ext.setCell ?_ (by first | exact Nat.le_refl _ | exact Nat.le_add_right _ _ | assumption) _ | apply Ext.patch | apply Ext.drew | apply Ext.drewN)))
/-- The shade: its table, its pile, how many accesses. -/
structure ShdAt (g : GW) (t b bt tt bp tp : Nat) (T : TabS) (p : PileS) (n : Int) : Prop where
  blk : Blk g t b 75 [.pointer (some ⟨bt, 0, none⟩), .pointer (some ⟨bp, 0, none⟩), .int .i64 n]
  tab : TabAt g tt bt T
  pile : PileAt g tp bp p
theorem ShdAt.keep {S : Nat → Prop} {g g' : GW} {t b bt tt bp tp : Nat} {T : TabS} {p : PileS} {n : Int} (h : ShdAt g t b bt tt bp tp T p n) (m : Mod S g g') (h1 : ¬ S t) (h2 : ¬ S tt) (h3 : ¬ S tp) : ShdAt g' t b bt tt bp tp T p n := ⟨h.blk.keep m h1, h.tab.keep m h2, h.pile.keep m h3⟩
/-- The count of accesses goes up. -/
theorem ShdAt.tick {g : GW} {t b bt tt bp tp : Nat} {T : TabS} {p : PileS} {n : Int} (h : ShdAt g t b bt tt bp tp T p n) (h1 : t ≠ tt) (h2 : t ≠ tp) : ShdAt ⟨g.own, g.w.setCell ⟨b, 2, none⟩ (.int .i64 (n + 1))⟩ t b bt tt bp tp T p (n + 1) := by
  have m : Mod (fun x => x = t) g ⟨g.own, g.w.setCell ⟨b, 2, none⟩ (.int .i64 (n + 1))⟩ := Mod.st Mod.self h.blk.own
  exact ⟨h.blk.set 2 (.int .i64 (n + 1)), h.tab.keep m (fun e => h1 e.symm), h.pile.keep m (fun e => h2 e.symm)⟩
theorem shade_grey (g : GW) (t b bt tt bp tp : Nat) (T : TabS) (p : PileS) (n i : Int) (s : Bool) (h : ShdAt g t b bt tt bp tp T p n) (hn : 0 ≤ n ∧ n ≤ 1099511627776) (h1 : t ≠ tt) (h2 : t ≠ tp) (h3 : tt ≠ tp) :
    Calls Tryz.prog 102 #[.pointer (some ⟨b, 0, none⟩), .int .i64 i, .bool s] g.w (Does (.bool (T.white i s)) g (fun x => x = t ∨ x = tt ∨ x = tp) (fun g' => ShdAt g' t b bt tt bp tp (T.grey i s) (p.grey T i s) (n + 1))) := by
  have c0 := h.blk.cell (i := 0) rfl
  have c2 := h.blk.cell (i := 2) rfl
  have f2 := h.blk.live 2
  have hl := h.blk.lt
  have HO := Lib.hid h.blk.own
  have HN := Lib.hid (And.intro h1 (And.intro h2 h3))
  have H1 := Lib.hid (h.tick h1 h2)
  have M1 := Lib.hid (show Mod (fun x => x = t) g ⟨g.own, g.w.setCell ⟨b, 2, none⟩ (.int .i64 (n + 1))⟩ from Mod.st Mod.self HO.out)
  have HW := Lib.hid (white_any ⟨g.own, g.w.setCell ⟨b, 2, none⟩ (.int .i64 (n + 1))⟩ tt bt T i s H1.out.tab)
  obtain ⟨hn0, hn1⟩ := hn
  clear h h1 h2 h3
  cases hw : T.white i s
  · have HG := Lib.hid (And.intro (show T.grey i s = T by unfold TabS.grey; rw [hw]; rfl) (show p.grey T i s = p by unfold PileS.grey; rw [hw]; rfl))
    rw [hw] at HW
    clear hw
    go_enter Tryz.func102, Tryz.ntmps102
    go_wp2_with fail
    refine HW.out.mono ?_
    rintro e w1 ⟨rfl, hE⟩
    have M2 := Lib.hid (Mod.ext (T := fun _ => False) (g := ⟨g.own, g.w.setCell ⟨b, 2, none⟩ (.int .i64 (n + 1))⟩) (show Ext (g.w.setCell ⟨b, 2, none⟩ (.int .i64 (n + 1))) w1 from hE) 0)
    clear hE
    go_wp2_with fail
    go_ret
    exact ⟨rfl, _, (M1.out.mono (fun x hx => Or.inl hx)).trans (M2.out.mono (fun _ => False.elim)), by rw [HG.out.1, HG.out.2]; exact H1.out.keep M2.out id id id⟩
  · have HG := Lib.hid (And.intro (show T.grey i s = T.mark i s by unfold TabS.grey; rw [hw]; rfl) (show p.grey T i s = p.push i by unfold PileS.grey; rw [hw]; rfl))
    rw [hw] at HW
    clear hw
    go_enter Tryz.func102, Tryz.ntmps102
    go_wp2_with fail
    refine HW.out.mono ?_
    rintro e w1 ⟨rfl, hE⟩
    have M2 := Lib.hid (Mod.ext (T := fun _ => False) (g := ⟨g.own, g.w.setCell ⟨b, 2, none⟩ (.int .i64 (n + 1))⟩) (show Ext (g.w.setCell ⟨b, 2, none⟩ (.int .i64 (n + 1))) w1 from hE) 0)
    have H2 := Lib.hid (H1.out.keep M2.out id id id)
    clear hE c0 c2 f2 hl
    have c0 := H2.out.blk.cell (i := 0) rfl
    have hl := H2.out.blk.lt
    simp only [GW.to] at c0 hl
    go_wp2_with fail
    refine (tab_mark (GW.to ⟨g.own, g.w.setCell ⟨b, 2, none⟩ (.int .i64 (n + 1))⟩ 0 w1) tt bt i s T H2.out.tab).mono ?_
    rintro e w2 ⟨rfl, own2, m2, r2⟩
    have M3 := Lib.hid m2
    have B3 := Lib.hid (H2.out.blk.keep m2 HN.out.1)
    have P3 := Lib.hid (H2.out.pile.keep m2 (fun e => HN.out.2.2 e.symm))
    have T3 := Lib.hid r2
    clear m2 r2 c0 hl
    have c1 := B3.out.cell (i := 1) rfl
    have hl := B3.out.lt
    simp only at c1 hl
    go_wp2_with fail
    refine (pile_push ⟨own2, w2⟩ tp bp i p P3.out).mono ?_
    rintro e w3 ⟨rfl, own3, m3, r3⟩
    have M4 := Lib.hid m3
    have R4 := Lib.hid (show ShdAt ⟨own3, w3⟩ t b bt tt bp tp (T.mark i s) (p.push i) (n + 1) from ⟨B3.out.keep m3 HN.out.2.1, T3.out.keep m3 HN.out.2.2, r3⟩)
    clear m3 r3 c1 hl
    go_wp2_with fail
    go_ret
    exact ⟨rfl, own3, (M1.out.mono (fun x hx => Or.inl hx)).trans ((M2.out.mono (fun _ => False.elim)).trans ((M3.out.mono (fun x hx => Or.inr (Or.inl hx))).trans (M4.out.mono (fun x hx => Or.inr (Or.inr hx))))), by rw [HG.out.1, HG.out.2]; exact R4.out⟩
theorem shade_part (g : GW) (t b bt tt bp tp : Nat) (T : TabS) (p : PileS) (n i : Int) (s : Bool) (h : ShdAt g t b bt tt bp tp T p n) (hn : 0 ≤ n ∧ n ≤ 1099511627776) (h1 : t ≠ tt) (h2 : t ≠ tp) (h3 : tt ≠ tp) :
    Calls Tryz.prog 283 #[.pointer (some ⟨b, 0, none⟩), .int .i64 i, .bool s] g.w (Does (.bool (T.state i == 2 && !T.black i s)) g (fun x => x = t ∨ x = tt) (fun g' => ShdAt g' t b bt tt bp tp (T.mark i s) p (n + 1))) := by
  have c0 := h.blk.cell (i := 0) rfl
  have c2 := h.blk.cell (i := 2) rfl
  have f2 := h.blk.live 2
  have hl := h.blk.lt
  have HO := Lib.hid h.blk.own
  have HN := Lib.hid (And.intro h1 (And.intro h2 h3))
  have H1 := Lib.hid (h.tick h1 h2)
  have M1 := Lib.hid (show Mod (fun x => x = t) g ⟨g.own, g.w.setCell ⟨b, 2, none⟩ (.int .i64 (n + 1))⟩ from Mod.st Mod.self HO.out)
  obtain ⟨hn0, hn1⟩ := hn
  clear h h1 h2 h3
  go_enter Tryz.func283, Tryz.ntmps283
  go_wp2_with fail
  refine (tab_mark ⟨g.own, g.w.setCell ⟨b, 2, none⟩ (.int .i64 (n + 1))⟩ tt bt i s T H1.out.tab).mono ?_
  rintro e w2 ⟨rfl, own2, m2, r2⟩
  have M3 := Lib.hid m2
  have R3 := Lib.hid (show ShdAt ⟨own2, w2⟩ t b bt tt bp tp (T.mark i s) p (n + 1) from ⟨H1.out.blk.keep m2 HN.out.1, r2, H1.out.pile.keep m2 (fun e => HN.out.2.2 e.symm)⟩)
  clear m2 r2
  go_wp2_with fail
  go_ret
  exact ⟨rfl, own2, (M1.out.mono (fun x hx => Or.inl hx)).trans (M3.out.mono (fun x hx => Or.inr hx)), R3.out⟩
end Go.Proofs.YtnebimabokgofaaGreat

