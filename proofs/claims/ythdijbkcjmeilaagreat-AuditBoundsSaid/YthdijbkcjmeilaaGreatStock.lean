/-
  stock: what a thread keeps.
-/
import Derived.Test.YthdijbkcjmeilaaGreatClone2
import Derived.Test.YthdijbkcjmeilaaGreatSt
import Derived.Laws.AppendOwnNone
namespace Go
open Go.RowKit
structure StockS where
  l : List Int
  most : Int
end Go
namespace Go.Proofs.YthdijbkcjmeilaaGreat
open Go Go.RowKit
set_option linter.unusedVariables false
set_option linter.unnecessarySimpa false
set_option linter.unusedSimpArgs false
set_option maxHeartbeats 2000000

structure StockAt (g : GW) (t b : Nat) (s : StockS) : Prop where
  ex : ∃ A c, Blk g t b 176 [.slice A s.l.length c, .int .i64 s.most] ∧ Row g t 3 1 (.slice A s.l.length c) s.l.length (s.l.map (Value.int .i64))
  most : 0 ≤ s.most ∧ s.most ≤ 8
  len : (s.l.length : Int) ≤ s.most
theorem StockAt.keep {S : Nat → Prop} {g g' : GW} {t b : Nat} {s : StockS} (h : StockAt g t b s) (d : Mod S g g') (hs : ¬ S t) : StockAt g' t b s := by
  obtain ⟨A, c, h1, h2⟩ := h.ex
  exact ⟨⟨A, c, h1.keep d hs, h2.keep d hs⟩, h.most, h.len⟩
theorem StockAt.pt {g : GW} {t b : Nat} {s : StockS} (h : StockAt g t b s) (X : Extra) : StockAt (g.pt X) t b s := h.keep (S := fun _ => False) (Mod.pt (Mod.refl _ _) X) id

theorem stock_room (g : GW) (t b : Nat) (s : StockS) (h : StockAt g t b s) :
    Calls Tryz.prog 108 #[.pointer (some ⟨b, 0, none⟩)] g.w (Gives (.int .i64 (s.most - s.l.length)) g.w) := by
  obtain ⟨A, c, hb, hr⟩ := h.ex
  have c0 := hb.cell (i := 0) rfl
  have c1 := hb.cell (i := 1) rfl
  have hbl := hb.lt
  obtain ⟨h1, h2⟩ := h.most
  have h3 := h.len
  clear hb hr h
  generalize s.l.length = n at *
  generalize s.most = m at *
  have hw := IntWalk.i64_in (m - n) (by omega)
  go_enter Tryz.func108, Tryz.ntmps108
  go_wp2_with fail
  refine wp_region_mixed [true, true, true, true, true, true, true, true, true, true, true] 0 11 (by kernel_rfl) (by kernel_rfl) (by kernel_rfl) ?_ (by decide) (by decide) (by decide) (by kernel_rfl) ?_
  · intro c a d v w h; cases d <;> exact h
  intro X00
  simp only [pickOps]
  repeat (go_big_quiet_step (fail))
  refine wpQuiet_nil (fun X0 => ?_)
  clear X00
  refine wpAnyM_done (by kernel_rfl) (fun X0' => ?_) _
  go_wp2_with fail
  go_ret
  exact Gives.int rfl (by (repeat (first | (with_reducible assumption) | (with_reducible exact Ext.refl _) | (with_reducible exact Ext.more _ _ _ _) | apply Ext.alloc | refine Ext.setCell ?_ (by first | exact Nat.le_refl _ | exact Nat.le_add_right _ _ | assumption) _ | apply Ext.patch | apply Ext.drew | apply Ext.drewN)))

theorem stock_drain (g : GW) (t b : Nat) (s : StockS) (h : StockAt g t b s) :
    Calls Tryz.prog 128 #[.pointer (some ⟨b, 0, none⟩)] g.w (Makes g (fun x => x = t) (fun v g' => StockAt g' t b ⟨[], s.most⟩ ∧ Row g' t 3 1 v s.l.length (s.l.map (Value.int .i64)))) := by
  obtain ⟨A, c, hb, hr⟩ := h.ex
  have c0 := hb.cell (i := 0) rfl
  have f0 := hb.live 0
  have hbl := hb.lt
  have HB := Lib.hid hb
  have HR := Lib.hid hr
  have HM := Lib.hid h.most
  clear hb hr h
  go_enter Tryz.func128, Tryz.ntmps128
  go_wp2_with fail
  go_ret
  exact ⟨_, g.own, rfl, Mod.st Mod.self HB.out.own, ⟨⟨none, 0, HB.out.set 0 _, Row.nil _ _ _ _⟩, HM.out, by simpa using HM.out.1⟩, HR.out.setOther _ _ (fun x hx => HR.out.ne_type HB.out (by decide) hx)⟩

theorem stock_new (n : Int) (t : Nat) (g : GW) (hn : 0 ≤ n ∧ n ≤ 8) : Calls Tryz.prog 49 #[.int .i64 n] g.w (fun e w' => ∃ b, e = .returned (.tuple #[.pointer (some ⟨b, 0, none⟩), .int .i64 0]) ∧ Mod (fun _ => False) g (g.to t w') ∧ StockAt (g.to t w') t b ⟨[], n⟩ ∧ Ext g.w w' ∧ g.w.heap.size ≤ b ∧ b < w'.heap.size) := by
  have HV := Lib.hid hn
  obtain ⟨h0, h1⟩ := hn
  go_enter Tryz.func49, Tryz.ntmps49
  go_wp2_with fail
  go_ret2
  have he : Ext g.w (g.w.alloc (.cells #[.slice none 0 0, .int .i64 n] 176)) := by (repeat (first | (with_reducible assumption) | (with_reducible exact Ext.refl _) | (with_reducible exact Ext.more _ _ _ _) | apply Ext.alloc | refine Ext.setCell ?_ (by first | exact Nat.le_refl _ | exact Nat.le_add_right _ _ | assumption) _ | apply Ext.patch | apply Ext.drew | apply Ext.drewN))
  exact ⟨_, rfl, Mod.ext he t, ⟨⟨none, 0, Blk.made (World.row_alloc_new _) (Nat.le_refl _), Row.nil _ _ _ _⟩, HV.out, HV.out.1⟩, he, Nat.le_refl _, by rw [World.size_alloc]; omega⟩

theorem stock_take_no (g : GW) (t b : Nat) (k : Int) (s : StockS) (h : StockAt g t b s) (hk : k < 1 ∨ (s.l.length : Int) < k) :
    Calls Tryz.prog 102 #[.pointer (some ⟨b, 0, none⟩), .int .i64 k] g.w (fun e w' => e = .returned (.tuple #[.slice none 0 0, .bool false]) ∧ g.w = w') := by
  obtain ⟨A, c, hb, hr⟩ := h.ex
  have c0 := hb.cell (i := 0) rfl
  clear hb hr h
  generalize s.l.length = n at *
  by_cases h1 : k < 1
  · clear hk
    go_enter Tryz.func102, Tryz.ntmps102
    go_wp2_with fail
    go_ret2
    exact ⟨rfl, rfl⟩
  · have h2 : (n : Int) < k := by omega
    clear hk
    go_enter Tryz.func102, Tryz.ntmps102
    go_wp2_with fail
    go_ret2
    exact ⟨rfl, rfl⟩

theorem stock_take_yes (g : GW) (t b k : Nat) (s : StockS) (h : StockAt g t b s) (ht : t ≠ 0) (hk : 1 ≤ k) (hk2 : k ≤ s.l.length) :
    Calls Tryz.prog 102 #[.pointer (some ⟨b, 0, none⟩), .int .i64 k] g.w (Makes g (fun x => x = t) (fun v g' => ∃ x, v = .tuple #[x, .bool true] ∧ StockAt g' t b ⟨s.l.drop k, s.most⟩ ∧ Row g' 0 3 1 x k ((s.l.take k).map (Value.int .i64)))) := by
  obtain ⟨A, c, hb, hr⟩ := h.ex
  obtain ⟨r, rfl, hrl, -, -, -⟩ := hr.block (by omega)
  obtain ⟨A', c', hv, hnc, hc63, -⟩ := hr.form
  injection hv with e1 _ e3
  subst e3
  have hm1 := h.most
  have hm2 := h.len
  have HT := Lib.hid ht
  have H := Lib.hid h
  have HB := Lib.hid hb
  have HR := Lib.hid hr
  have c0 := hb.cell (i := 0) rfl
  have f0 := hb.live 0
  have hbl := hb.lt
  have HC1 := Lib.hid (fun w' (he : Ext g.w w') => cloneIntN (some ⟨r, 0, none⟩) c k (s.l.take k) 0 ⟨g.own, w'⟩ (by simp; omega) (by rw [List.map_take]; exact (hr.cells.ext he).take k) (by omega))
  have HL2 := Lib.hid (show (s.l.drop k).length = s.l.length - k by simp)
  generalize hn : s.l.length = n at *
  have HN := Lib.hid hn
  clear hb hr h hn e1 ht
  have hd1 : ¬ ((n : Int) < k) := by omega
  by_cases hkc : k = c
  · subst hkc
    go_enter Tryz.func102, Tryz.ntmps102
    go_wp2_with fail
    refine (HC1.out _ (Ext.refl _)).mono ?_
    rintro e w1 ⟨A1, c1, rfl, m1, r1, he1, fr1⟩
    have M1 := Lib.hid m1
    have R1 := Lib.hid r1
    have HE1 := Lib.hid (show Ext g.w w1 from he1)
    have d0 := (HE1.out.cell hbl).trans c0
    have e0 := (HE1.out.live hbl).trans f0
    have hbl1 := Nat.lt_of_lt_of_le hbl HE1.out.size
    clear m1 r1 he1 fr1 c0 f0
    go_wp2_with fail
    have hnk : k = n := by omega
    subst hnk
    have HD : s.l.drop k = [] := List.drop_eq_nil_of_le (by rw [HN.out]; exact Nat.le_refl _)
    have HC2 := Lib.hid (cloneIntN (some ⟨r, 0, none⟩) 0 0 [] t (GW.to g 0 w1) rfl (CellsAt.nil _ _) (by omega))
    refine HC2.out.mono ?_
    rintro e w2 ⟨A2, c2, rfl, m2, r2, he2, fr2⟩
    have M2 := Lib.hid m2
    have R2 := Lib.hid r2
    have HE2 := Lib.hid (show Ext w1 w2 from he2)
    have B2 := Lib.hid ((HB.out.keep M1.out id).keep m2 id)
    have HA2 := Lib.hid (show ∀ x, (Value.slice A2 0 c2).ownBlock = some x → b ≠ x from fun x hx => r2.ne_type B2.out (by decide) hx)
    have g0 := (HE2.out.cell hbl1).trans d0
    have gf := (HE2.out.live hbl1).trans e0
    have hbl2 := Nat.lt_of_lt_of_le hbl1 HE2.out.size
    have X1 := Lib.hid (R1.out.ext he2 t)
    clear m2 r2 he2 fr2 d0 e0
    go_wp2_with fail
    go_ret2
    refine ⟨_, ((g.to 0 w1).to t w2).own, rfl, (Mod.st (g := g) (((M1.out.trans M2.out).mono (fun x hx => hx.elim))) B2.out.own), _, rfl, ⟨⟨A2, c2, ?_, ?_⟩, hm1, ?_⟩, ?_⟩
    · simp only [HD]; exact B2.out.set 0 _
    · simp only [HD]; exact R2.out.setOther 0 _ HA2.out
    · simp only [HD]; simpa using hm1.1
    · exact (X1.out.setOther 0 _ (fun x hx => X1.out.ne_type B2.out (by decide) hx)).weak rfl rfl
  · go_enter Tryz.func102, Tryz.ntmps102
    go_wp2_with fail
    refine (HC1.out _ (Ext.refl _)).mono ?_
    rintro e w1 ⟨A1, c1, rfl, m1, r1, he1, fr1⟩
    have M1 := Lib.hid m1
    have R1 := Lib.hid r1
    have HE1 := Lib.hid (show Ext g.w w1 from he1)
    have d0 := (HE1.out.cell hbl).trans c0
    have e0 := (HE1.out.live hbl).trans f0
    have hbl1 := Nat.lt_of_lt_of_le hbl HE1.out.size
    clear m1 r1 he1 fr1 c0 f0
    go_wp2_with fail
    have HC2 := Lib.hid (cloneIntN (some ⟨r, k, none⟩) (c - k) (n - k) (s.l.drop k) t (GW.to g 0 w1) HL2.out (by rw [List.map_drop]; have := (HR.out.cells.ext HE1.out).sub k; simp only [Option.map, Addr.add] at this; rw [if_neg (by omega), Nat.zero_add] at this; exact this) (by omega))
    refine HC2.out.mono ?_
    rintro e w2 ⟨A2, c2, rfl, m2, r2, he2, fr2⟩
    have M2 := Lib.hid m2
    have R2 := Lib.hid r2
    have HE2 := Lib.hid (show Ext w1 w2 from he2)
    have B2 := Lib.hid ((HB.out.keep M1.out id).keep m2 id)
    have HA2 := Lib.hid (show ∀ x, (Value.slice A2 (n - k) c2).ownBlock = some x → b ≠ x from fun x hx => r2.ne_type B2.out (by decide) hx)
    have g0 := (HE2.out.cell hbl1).trans d0
    have gf := (HE2.out.live hbl1).trans e0
    have hbl2 := Nat.lt_of_lt_of_le hbl1 HE2.out.size
    have X1 := Lib.hid (R1.out.ext he2 t)
    clear m2 r2 he2 fr2 d0 e0
    go_wp2_with fail
    go_ret2
    refine ⟨_, ((g.to 0 w1).to t w2).own, rfl, (Mod.st (g := g) (((M1.out.trans M2.out).mono (fun x hx => hx.elim))) B2.out.own), _, rfl, ⟨⟨A2, c2, ?_, ?_⟩, hm1, ?_⟩, ?_⟩
    · simp only [HL2.out]; exact B2.out.set 0 _
    · simp only [HL2.out]; exact R2.out.setOther 0 _ HA2.out
    · simp only [HL2.out]; omega
    · exact (X1.out.setOther 0 _ (fun x hx => X1.out.ne_type B2.out (by decide) hx)).weak rfl rfl

set_option maxRecDepth 100000 in
theorem stock_put (g : GW) (t b : Nat) (A : Option Addr) (c : Nat) (l : List Int) (s : StockS) (h : StockAt g t b s) (hl : CellsAt g.w A (l.map (Value.int .i64))) (hA : A = none → l = [] ∧ c = 0) (hm : (s.l.length : Int) + l.length ≤ s.most) :
    Calls Tryz.prog 109 #[.pointer (some ⟨b, 0, none⟩), .slice A l.length c] g.w (Does (.bool true) g (fun x => x = t) (fun g' => StockAt g' t b ⟨s.l ++ l, s.most⟩)) := by
  obtain ⟨i0, hi, hz0, hz1, hz2⟩ := info_parts infoInt
  obtain ⟨A0, c', hb, hr⟩ := h.ex
  have hm1 := h.most
  have HRoom := Lib.hid (stock_room g t b s h)
  have HB := Lib.hid hb
  have HR := Lib.hid hr
  have HM := Lib.hid h.most
  have c0 := hb.cell (i := 0) rfl
  have f0 := hb.live 0
  have hbl := hb.lt
  have hd : decide (s.most - (s.l.length : Int) < (l.length : Int)) = false := decide_eq_false (by omega)
  generalize hn : s.l.length = n at *
  have HN := Lib.hid hn
  clear hb hr h hn
  cases A with
  | none =>
    obtain ⟨rfl, rfl⟩ := hA rfl
    clear hA hl
    simp only [List.length_nil, List.append_nil] at hd hm ⊢
    go_enter Tryz.func109, Tryz.ntmps109
    go_wp2_with fail
    refine HRoom.out.mono ?_
    rintro e w1 ⟨rfl, X1, rfl⟩
    have R1 := Lib.hid (HR.out.ptx X1)
    go_wp2_with (at_builtin; refine wpList_append_own_none rfl (.tmp 14) (.tmp 15) 65 rfl 0 3 i0 1 Tryz.underlying65 hi _ _ _ rfl R1.out.row rfl ?_)
    go_ret
    (try rw [World.patch_patch])
    refine Does.of (GW.pt ⟨g.own, _⟩ _) rfl rfl (Mod.pt (Mod.st Mod.self HB.out.own) _) (StockAt.pt (s := ⟨s.l, s.most⟩) ⟨⟨A0, c', ?_, ?_⟩, HM.out, ?_⟩ _)
    · simp only [HN.out]
      exact HB.out.set 0 _
    · simp only [HN.out]
      exact HR.out.setOther 0 _ (fun x hx => HR.out.ne_type HB.out (by decide) hx)
    · simp only [HN.out]; omega
  | some ad =>
    have HL := Lib.hid hl
    clear hA hl
    generalize hm' : l.length = m at *
    have HM' := Lib.hid hm'
    clear hm'
    go_enter Tryz.func109, Tryz.ntmps109
    go_wp2_with fail
    refine HRoom.out.mono ?_
    rintro e w1 ⟨rfl, X1, rfl⟩
    have R1 := Lib.hid (HR.out.ptx X1)
    have B1 := Lib.hid (HB.out.pt X1)
    have L1 := Lib.hid (HL.out.patch X1)
    go_wp2_with (at_builtin; refine wpList_append_own_at _ rfl (.tmp 14) (.tmp 15) 65 rfl 0 3 i0 (.int .i64 0) 1 8 Tryz.underlying65 hi hz0 hz1 hz2 rfl (by decide) _ _ _ rfl R1.out.row ad m c (l.map (Value.int .i64)) rfl (by simp [HM'.out]) (cells_add L1.out) (by intro u hu; simp at hu; obtain ⟨_, _, rfl⟩ := hu; rfl) (by unfold maxLen; omega) (by omega) (Nat.zero_le _) ?_; intro v2 w2 hown hgrow hnil hat; obtain ⟨A2, c2, rfl⟩ := own_form hown; have R2 := Lib.hid (R1.out.grown (g := g.pt X1) hown hat); have B2 := Lib.hid (B1.out.grown (t' := t) hgrow (fun x hx => R1.out.ne_type B1.out (by decide) hx)); have M2 := Lib.hid ((Mod.pt (Mod.refl (fun x => x = t) g) X1).trans (Mod.grown hgrow t (fun k hk hl => R1.out.own k hk))); have d0 := B2.out.cell (i := 0) rfl; have e0 := B2.out.live 0; have hbl2 := B2.out.lt; simp only [GW.to] at d0 e0 hbl2; clear hown hgrow hnil hat c0 f0 hbl)
    go_ret
    refine ⟨rfl, _, Mod.st (g := g) M2.out B2.out.own, ⟨⟨A2, c2, ?_, ?_⟩, HM.out, ?_⟩⟩
    · simp only [List.length_append, HN.out, HM'.out]
      exact B2.out.set 0 _
    · simp only [List.length_append, HN.out, HM'.out]
      exact (R2.out.setOther 0 _ (fun x hx => R2.out.ne_type B2.out (by decide) hx)).weak rfl (by simp)
    · simp only [List.length_append, HN.out, HM'.out]; omega
end Go.Proofs.YthdijbkcjmeilaaGreat
