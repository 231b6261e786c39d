import Derived.Test.YtcpeoflomdhidaaGreatKW08
import Derived.Deep.RegionLaw
import Derived.Laws.IdiomCopy
import Derived.Deep.MidRow
/-
  Packed: ShadeN, LineM.
-/
open Go.Ext renaming alloc → zA, patch → zP, drew → zD, drewN → zN, more → zM, refl → zR, setCell → zS
open Nat renaming le_refl → zL, le_add_right → zK
/-
  pile: Pop, Lost, Found; shade: Next, Lost.
-/
namespace Go
open Go.RowKit
namespace PileS
def pop (p : PileS) : PileS := { p with l := p.l.take (p.l.length - 1) }
def top (p : PileS) : Int := p.l.getD (p.l.length - 1) 0
def some_ (p : PileS) : Bool := decide (0 < p.l.length)
def found (p : PileS) : PileS := { p with lost := false }
end PileS
end Go
namespace Go.Proofs.YtcpeoflomdhidaaGreat
open Go Go.RowKit
set_option linter.unusedVariables false
set_option linter.unnecessarySimpa false
set_option linter.unusedSimpArgs false
set_option maxHeartbeats 2000000
set_option maxRecDepth 100000
theorem pile_pop (g : GW) (t b : Nat) (p : PileS) (h : PileAt g t b p) :
    Calls Tryz.prog 253 #[.pointer (some ⟨b, 0, none⟩)] g.w (Does (.tuple #[.int .i64 p.top, .bool p.some_]) g (fun x => x = t) (fun g' => PileAt g' t b p.pop)) := by
  obtain ⟨A, c, hb, hr⟩ := h.ex
  have hlen : p.l.length ≤ 256 := by have := h.len; have := h.most; omega
  have HM := Lib.hid h.most
  have HL := Lib.hid h.len
  have HB := Lib.hid hb
  have HR := Lib.hid hr
  obtain ⟨a0, a1, a2, al⟩ := hb.c3
  have af0 := hb.live 0
  (try simp only [GW.to] at a0 a1 a2 af0 al)
  rcases Nat.eq_zero_or_pos p.l.length with h0 | h0
  · have HV := Lib.hid (And.intro (show p.top = 0 by unfold PileS.top; rw [h0]; cases hl : p.l with | nil => rfl | cons x l => rw [hl] at h0; simp at h0) (And.intro (show p.some_ = false by unfold PileS.some_; rw [h0]; rfl) (show p.pop = p by unfold PileS.pop; rw [List.take_of_length_le (by omega)])))
    have HH := Lib.hid h
    clear hb hr h
    rw [h0] at a0
    go_enter Tryz.func253, Tryz.ntmps253
    go_wp2_with fail
    go_ret2
    exact Does.of g rfl (by rw [HV.out.1, HV.out.2.1]; try rfl) (Mod.refl _ _) (by rw [HV.out.2.2]; exact HH.out)
  · obtain ⟨k, hk⟩ : ∃ k, p.l.length = k + 1 := ⟨p.l.length - 1, by omega⟩
    obtain ⟨r, rfl, hrl, ho, hcell, hfr⟩ := hr.block h0
    have k0 := hcell k (.int .i64 (p.l.getD k 0)) (by simp [List.getD_eq_getElem?_getD, hk])
    have HV := Lib.hid (And.intro (show p.top = p.l.getD k 0 by unfold PileS.top; rw [hk]; rfl) (And.intro (show p.some_ = true by unfold PileS.some_; rw [hk]; exact decide_eq_true (by omega)) (show p.pop = { p with l := p.l.take k } by unfold PileS.pop; rw [hk]; rfl)))
    have hcap : k + 1 ≤ c := by
      obtain ⟨A2, c2, he, h1, h2, h3⟩ := hr.form
      injection he with e1 e2 e3
      omega
    have HC := Lib.hid (show Row g t 3 1 (.slice (some ⟨r, 0, none⟩) k c) k ((p.l.take k).map (Value.int .i64)) from by
      have h9 := hr.cut (m := k) (by omega)
      rw [Nat.mul_one, ← List.map_take] at h9
      exact h9)
    have HKL := Lib.hid (show (p.l.take k).length = k by simp; omega)
    have hcm : c ≤ 9223372036854775807 := by
      obtain ⟨A2, c2, he, h1, h2, h3⟩ := hr.form
      injection he with e1 e2 e3
      omega
    clear hcell hfr hb hr h h0
    rw [hk] at a0
    generalize p.l.getD k 0 = x at *
    go_enter Tryz.func253, Tryz.ntmps253
    go_wp2_with fail
    go_ret2
    refine Does.of ⟨g.own, g.w.setCell ⟨b, 0, none⟩ (.slice (some ⟨r, 0, none⟩) k c)⟩ rfl (by rw [HV.out.1, HV.out.2.1]; try rfl) (Mod.st Mod.self HB.out.own) ?_
    rw [HV.out.2.2]
    refine ⟨⟨some ⟨r, 0, none⟩, c, ?_, ?_⟩, HM.out, by show ((p.l.take k).length : Int) ≤ p.most; have := HKL.out; have := HL.out; omega⟩
    · show Blk _ t b _ [.slice (some ⟨r, 0, none⟩) (p.l.take k).length c, .int .i64 p.most, .bool p.lost]
      rw [HKL.out]
      exact HB.out.set 0 _
    · show Row _ t 3 1 (.slice (some ⟨r, 0, none⟩) (p.l.take k).length c) (p.l.take k).length ((p.l.take k).map (Value.int .i64))
      rw [HKL.out]
      exact HC.out.setOther 0 _ (fun x hx => HC.out.ne_type HB.out (by decide) hx)
theorem pile_lost (g : GW) (t b : Nat) (p : PileS) (h : PileAt g t b p) : Calls Tryz.prog 256 #[.pointer (some ⟨b, 0, none⟩)] g.w (fun e w' => e = .returned (.bool p.lost) ∧ g.w = w') := by
  obtain ⟨A, c, hb, hr⟩ := h.ex
  obtain ⟨a0, a1, a2, al⟩ := hb.c3
  (try simp only [GW.to] at a0 a1 a2 al)
  clear hb hr h
  go_enter Tryz.func256, Tryz.ntmps256
  go_wp2_with fail
  go_ret
  exact ⟨rfl, rfl⟩
theorem pile_found (g : GW) (t b : Nat) (p : PileS) (h : PileAt g t b p) : Calls Tryz.prog 257 #[.pointer (some ⟨b, 0, none⟩)] g.w (Does (.tuple #[]) g (fun x => x = t) (fun g' => PileAt g' t b p.found)) := by
  obtain ⟨A, c, hb, hr⟩ := h.ex
  have HM := Lib.hid h.most
  have HL := Lib.hid h.len
  have HB := Lib.hid hb
  have HR := Lib.hid hr
  obtain ⟨a0, a1, a2, al⟩ := hb.c3
  have af2 := hb.live 2
  (try simp only [GW.to] at a0 a1 a2 af2 al)
  clear hb hr h
  go_enter Tryz.func257, Tryz.ntmps257
  go_wp2_with fail
  exact bodyPost_end (results_none rfl _ _ _) rfl (Does.of ⟨g.own, g.w.setCell ⟨b, 2, none⟩ (.bool false)⟩ rfl rfl (Mod.st Mod.self HB.out.own) ⟨⟨A, c, HB.out.set 2 _, HR.out.setOther 2 _ (fun x hx => HR.out.ne_type HB.out (by decide) hx)⟩, HM.out, HL.out⟩)
theorem shade_next (g : GW) (t b bt tt bp tp : Nat) (T : TabS) (p : PileS) (n : Int) (h : ShdAt g t b bt tt bp tp T p n) (hn : 0 ≤ n ∧ n ≤ 1099511627776) (h1 : t ≠ tt) (h2 : t ≠ tp) (h3 : tt ≠ tp) :
    Calls Tryz.prog 185 #[.pointer (some ⟨b, 0, none⟩)] g.w (Does (.tuple #[.int .i64 p.top, .bool p.some_]) g (fun x => x = t ∨ x = tp) (fun g' => ShdAt g' t b bt tt bp tp T p.pop (n + 1))) := by
  have H1 := Lib.hid (h.tick h1 h2)
  have M1 := Lib.hid (show Mod (fun x => x = t) g ⟨g.own, g.w.setCell ⟨b, 2, none⟩ (.int .i64 (n + 1))⟩ from Mod.st Mod.self h.blk.own)
  have HN := Lib.hid (And.intro h1 (And.intro h2 h3))
  obtain ⟨a0, a1, a2, al⟩ := h.blk.c3
  have af2 := h.blk.live 2
  (try simp only [GW.to] at a0 a1 a2 af2 al)
  obtain ⟨hn0, hn1⟩ := hn
  clear h h1 h2 h3
  go_enter Tryz.func185, Tryz.ntmps185
  go_wp2_with fail
  refine (pile_pop ⟨g.own, g.w.setCell ⟨b, 2, none⟩ (.int .i64 (n + 1))⟩ tp bp p H1.out.pile).mono ?_
  rintro e w2 ⟨rfl, own2, m2, r2⟩
  have M2 := Lib.hid m2
  have R2 := Lib.hid (show ShdAt ⟨own2, w2⟩ t b bt tt bp tp T p.pop (n + 1) from ⟨H1.out.blk.keep m2 (fun e => HN.out.2.1 e), H1.out.tab.keep m2 (fun e => HN.out.2.2 e), r2⟩)
  clear m2 r2
  go_wp2_with fail
  go_ret2
  exact ⟨rfl, own2, (M1.out.mono (fun x hx => Or.inl hx)).trans (M2.out.mono (fun x hx => Or.inr hx)), R2.out⟩
theorem shade_lost (g : GW) (t b bt tt bp tp : Nat) (T : TabS) (p : PileS) (n : Int) (h : ShdAt g t b bt tt bp tp T p n) (hn : 0 ≤ n ∧ n ≤ 1099511627776) (h1 : t ≠ tt) (h2 : t ≠ tp) (h3 : tt ≠ tp) :
    Calls Tryz.prog 189 #[.pointer (some ⟨b, 0, none⟩)] g.w (Does (.bool p.lost) g (fun x => x = t ∨ x = tp) (fun g' => ShdAt g' t b bt tt bp tp T p.found (n + 1))) := by
  have H1 := Lib.hid (h.tick h1 h2)
  have M1 := Lib.hid (show Mod (fun x => x = t) g ⟨g.own, g.w.setCell ⟨b, 2, none⟩ (.int .i64 (n + 1))⟩ from Mod.st Mod.self h.blk.own)
  have HN := Lib.hid (And.intro h1 (And.intro h2 h3))
  obtain ⟨a0, a1, a2, al⟩ := h.blk.c3
  have af2 := h.blk.live 2
  (try simp only [GW.to] at a0 a1 a2 af2 al)
  obtain ⟨hn0, hn1⟩ := hn
  clear h h1 h2 h3
  go_enter Tryz.func189, Tryz.ntmps189
  go_wp2_with fail
  refine (pile_lost ⟨g.own, g.w.setCell ⟨b, 2, none⟩ (.int .i64 (n + 1))⟩ tp bp p H1.out.pile).mono ?_
  rintro e w2 ⟨rfl, rfl⟩
  go_wp2_with fail
  refine (pile_found ⟨g.own, g.w.setCell ⟨b, 2, none⟩ (.int .i64 (n + 1))⟩ tp bp p H1.out.pile).mono ?_
  rintro e w2 ⟨rfl, own2, m2, r2⟩
  have M2 := Lib.hid m2
  have R2 := Lib.hid (show ShdAt ⟨own2, w2⟩ t b bt tt bp tp T p.found (n + 1) from ⟨H1.out.blk.keep m2 (fun e => HN.out.2.1 e), H1.out.tab.keep m2 (fun e => HN.out.2.2 e), r2⟩)
  clear m2 r2
  go_wp2_with fail
  go_ret
  exact ⟨rfl, own2, (M1.out.mono (fun x hx => Or.inl hx)).trans (M2.out.mono (fun x hx => Or.inr hx)), R2.out⟩
end Go.Proofs.YtcpeoflomdhidaaGreat

/-
  Merged: XLineT, XLineU, XLineD.
-/
/-
  line: the first that waits (first, First), Fail, Begin, End.
-/
namespace Go
theorem flat_put {α : Type} {f : α → List Value} {n : Nat} (hf : ∀ a, (f a).length = n) (l : List α) (k j : Nat) (x y : α) (v : Value) (hk : l[k]? = some x) (hj : j < n) (hy : f y = (f x).set j v) : (l.set k y).flatMap f = (l.flatMap f).set (k * n + j) v := by
  induction l generalizing k with
  | nil => simp at hk
  | cons z l ih =>
    cases k with
    | zero =>
      simp at hk
      subst hk
      simp only [List.set_cons_zero, List.flatMap_cons, Nat.zero_mul, Nat.zero_add]
      rw [List.set_append_left _ _ (by rw [hf]; exact hj), hy]
    | succ k =>
      simp only [List.set_cons_succ, List.flatMap_cons]
      rw [List.set_append_right _ _ (by rw [hf, Nat.succ_mul]; omega), hf, ih k (by simpa using hk)]
      congr 2
      rw [Nat.succ_mul]
      omega
def upto {α : Type} (f : α → α) (l : List α) (k : Nat) : List α := (l.take k).map f ++ l.drop k
theorem upto_zero {α : Type} (f : α → α) (l : List α) : upto f l 0 = l := by simp [upto]
theorem upto_all {α : Type} (f : α → α) (l : List α) : upto f l l.length = l.map f := by simp [upto]
theorem upto_len {α : Type} (f : α → α) (l : List α) (k : Nat) : (upto f l k).length = l.length := by simp [upto]; omega
theorem upto_at {α : Type} (f : α → α) (l : List α) (k : Nat) : (upto f l k)[k]? = l[k]? := by
  unfold upto
  by_cases h : k < l.length
  · rw [List.getElem?_append_right (by simp; omega)]
    simp [List.length_take, Nat.min_eq_left (Nat.le_of_lt h)]
  · rw [List.getElem?_eq_none (by simp; omega), List.getElem?_eq_none (by omega)]
theorem upto_succ {α : Type} (f : α → α) (l : List α) (k : Nat) (x : α) (h : l[k]? = some x) : upto f l (k + 1) = (upto f l k).set k (f x) := by
  obtain ⟨hk, hx⟩ := List.getElem?_eq_some_iff.1 h
  unfold upto
  rw [List.take_add_one, h, List.map_append, List.set_append_right _ _ (by simp; omega)]
  have e : k - ((l.take k).map f).length = 0 := by simp; omega
  rw [e, ← List.getElem_cons_drop hk]
  simp [hx]
end Go
namespace Go.Proofs.YtcpeoflomdhidaaGreat
open Go Go.RowKit
set_option linter.unusedVariables false
set_option linter.unnecessarySimpa false
set_option linter.unusedSimpArgs false
set_option maxHeartbeats 2000000
theorem first1_any (m : EntM) (w : World) : Calls Tryz.prog 261 #[.agg #[.int .i64 m.e.thread, .int .i64 m.e.frags, .int .i64 m.e.spine, .int .i64 m.e.state, .int .i64 m.e.cycles, .int .i64 m.e.at_, .slice m.A m.e.got.length m.cap, .bool m.e.noted]] w (Gives (.bool (waitB m.e)) w) := by
  go_enter Tryz.func261, Tryz.ntmps261
  go_wp2_with fail
  go_ret
  exact Gives.bool rfl (by (repeat (first | (with_reducible (first | assumption | exact zR _ | exact zM _ _ _ _)) | apply zA | refine zS ?_ (by first | exact zL _ | exact zK _ _ | assumption) _ | apply zP | apply zD | apply zN)))
theorem idx_first (A : Option Addr) (c : Nat) (ms : List EntM) (w : World) (hc : CellsAt w A (ms.flatMap EntM.cells)) (hl : ms.length ≤ 1000000) :
    Calls Tryz.prog 259 #[.slice A ms.length c, .func (.func 261) #[] #[]] w (IdxGot (waitB) ms w) := by
  have HC := Lib.hid hc
  clear hc
  go_enter Tryz.func259, Tryz.ntmps259
  go_wp2_with fail
  go_loopw [8] (fun i wr => ∃ k : Nat, k ≤ ms.length ∧ i = .int .i64 k ∧ Hid (∀ e ∈ (ms.map EntM.e).take k, waitB e = false) ∧ Hid (Ext w wr)) (fun i _ => ms.length - (intOf i).toNat)
  case atStart => exact ⟨0, Nat.zero_le _, rfl, Lib.hid (by simp), Lib.hid (Ext.refl _)⟩
  case round =>
    obtain ⟨k, hk, rfl, hm, HE⟩ := hrel
    by_cases hlt : k < ms.length
    · obtain ⟨b, o, hA, hb, g0, g1, g2, g3, g4, g5, g6, g7⟩ := ent_cells (HC.out.ext HE.out) hlt
      have hx := List.getElem?_eq_getElem hlt
      have HX := Lib.hid (show (ms.map EntM.e)[k]? = some ms[k].e by rw [List.getElem?_map, hx]; rfl)
      generalize ms[k] = m at *
      have HF := Lib.hid (first1_any m wr)
      subst hA
      clear hx
      go_wp2_with fail
      refine HF.out.mono ?_
      rintro e w1 ⟨rfl, hX⟩
      have HE1 := Lib.hid (HE.out.trans (show Ext wr w1 from hX))
      clear hX
      cases hv : waitB m.e
      · have HN := Lib.hid (take_all HX.out hm.out hv)
        clear hv
        go_wp2_with fail
        go_roundw
        case rel => exact ⟨k + 1, by omega, by go_num, HN, HE1⟩
        case measure => simp [intOf]; omega
      · have HN := Lib.hid (placeOf_some HX.out hv hm.out)
        clear hv
        go_wp2_with fail
        go_ret
        exact Gives.int HN.out.symm HE1.out
    · have HN := Lib.hid (placeOf_none (p := waitB) (l := ms.map EntM.e) (fun e he => hm.out e (by rw [List.take_of_length_le (by simp; omega)]; exact he)))
      go_wp2_with fail
      go_ret
      exact Gives.int HN.out.symm HE.out

theorem line_first (g : GW) (t b : Nat) (L : List Ent) (h : LineAt g t b L) :
    Calls Tryz.prog 217 #[.pointer (some ⟨b, 0, none⟩)] g.w (Gives (.int .i64 (placeOf (waitB) L)) g.w) := by
  obtain ⟨A, c, ms, hb, hr, hm, -⟩ := h.ex
  have hml : ms.length = L.length := by rw [← hm, List.length_map]
  have HI := Lib.hid (fun w' (he : Ext g.w w') => idx_first A c ms w' (hr.cells.ext he) (by have := h.len; omega))
  unfold IdxGot at HI
  rw [hm, hml] at HI
  have c0 := hb.cell (i := 0) rfl
  have hbl := hb.lt
  clear hr hm hml hb h
  go_enter Tryz.func217, Tryz.ntmps217
  go_wp2_with fail
  refine (HI.out _ (by (repeat (first | (with_reducible (first | assumption | exact zR _ | exact zM _ _ _ _)) | apply zA | refine zS ?_ (by first | exact zL _ | exact zK _ _ | assumption) _ | apply zP | apply zD | apply zN)))).mono ?_
  rintro e w1 ⟨rfl, hX⟩
  have HE := Lib.hid (show Ext g.w w1 from hX)
  clear hX
  go_wp2_with fail
  go_ret
  exact Gives.int rfl HE.out

theorem line_First (g : GW) (t b : Nat) (L : List Ent) (h : LineAt g t b L) :
    Calls Tryz.prog 152 #[.pointer (some ⟨b, 0, none⟩)] g.w (Makes g (fun _ => False) (ReqOf L (placeOf (waitB) L))) := by
  have HO := Lib.hid (fun g' (m : Mod (fun _ => False) g g') => line_first g' t b L (h.keep m id id))
  have HA := Lib.hid (fun g' (m : Mod (fun _ => False) g g') => line_at g' t b (placeOf (waitB) L) L (h.keep m id id) (placeOf_bd _ _).2)
  generalize placeOf (waitB) L = i at *
  clear h
  go_enter Tryz.func152, Tryz.ntmps152
  go_wp2_with fail
  have hE0 : Ext g.w (g.w.alloc (.cells #[.int .i64 0, .int .i64 0, .int .i64 0, .int .i64 0, .int .i64 0, .int .i64 0, .slice none 0 0] 167)) := by (repeat (first | (with_reducible (first | assumption | exact zR _ | exact zM _ _ _ _)) | apply zA | refine zS ?_ (by first | exact zL _ | exact zK _ _ | assumption) _ | apply zP | apply zD | apply zN))
  have B0 := Lib.hid (Blk.new g 9 167 [.int .i64 0, .int .i64 0, .int .i64 0, .int .i64 0, .int .i64 0, .int .i64 0, .slice none 0 0])
  have M0 := Lib.hid (Mod.ext (T := fun _ => False) hE0 9)
  clear hE0
  refine (HO.out (g.to 9 (g.w.alloc (.cells #[.int .i64 0, .int .i64 0, .int .i64 0, .int .i64 0, .int .i64 0, .int .i64 0, .slice none 0 0] 167))) M0.out).mono ?_
  rintro e w1 ⟨rfl, hE1⟩
  have E1 := Lib.hid (show Ext (g.w.alloc (.cells #[.int .i64 0, .int .i64 0, .int .i64 0, .int .i64 0, .int .i64 0, .int .i64 0, .slice none 0 0] 167)) w1 from hE1)
  have N1 := Lib.hid (Mod.ext (T := fun _ => False) (g := g.to 9 (g.w.alloc (.cells #[.int .i64 0, .int .i64 0, .int .i64 0, .int .i64 0, .int .i64 0, .int .i64 0, .slice none 0 0] 167))) E1.out 0)
  have M1 := Lib.hid (M0.out.trans N1.out)
  have B1 := Lib.hid (B0.out.keep N1.out id)
  clear hE1
  go_wp2_with fail
  refine (HA.out _ M1.out).mono ?_
  rintro e w2 ⟨v, own2, rfl, m2, r, ok, rfl, hn, hp⟩
  have M2 := Lib.hid (M1.out.trans m2)
  have B2 := Lib.hid (B1.out.keep m2 id)
  clear m2 E1
  obtain ⟨d0, d1, d2, d3, d4, d5, d6, dl⟩ := B2.out.c7
  have df0 := B2.out.live 0
  have df1 := B2.out.live 1
  have df2 := B2.out.live 2
  have df3 := B2.out.live 3
  have df4 := B2.out.live 4
  have df5 := B2.out.live 5
  have df6 := B2.out.live 6
  (try simp only [GW.to] at d0 d1 d2 d3 d4 d5 d6 df0 df1 df2 df3 df4 df5 df6 dl)
  by_cases h0 : i < 0
  · obtain ⟨rfl, rfl⟩ := hn h0
    have HN := Lib.hid hp
    have H0 := Lib.hid h0
    clear hn hp h0
    go_wp2_with fail
    refine bodyPost_ret (v := .tuple #[.agg #[.int .i64 0, .int .i64 0, .int .i64 0, .int .i64 0, .int .i64 0, .int .i64 0, .slice none 0 0], .bool false]) (by simp [results, Tryz.results152, go_sem, d0, d1, d2, d3, d4, d5, d6]) rfl ?_
    have M9 : Mod (fun _ => False) g ⟨own2, _⟩ := Mod.stn (Mod.stn (Mod.stn (Mod.stn (Mod.stn (Mod.stn (Mod.stn (b := g.w.heap.size) (i := 0) (v := .int .i64 0) M2.out (Nat.le_refl _)) (b := g.w.heap.size) (i := 1) (v := .int .i64 0) (Nat.le_refl _)) (b := g.w.heap.size) (i := 2) (v := .int .i64 0) (Nat.le_refl _)) (b := g.w.heap.size) (i := 3) (v := .int .i64 0) (Nat.le_refl _)) (b := g.w.heap.size) (i := 4) (v := .int .i64 0) (Nat.le_refl _)) (b := g.w.heap.size) (i := 5) (v := .int .i64 0) (Nat.le_refl _)) (b := g.w.heap.size) (i := 6) (v := .slice none 0 0) (Nat.le_refl _)
    exact ⟨_, _, rfl, M9, [.int .i64 0, .int .i64 0, .int .i64 0, .int .i64 0, .int .i64 0, .int .i64 0, .slice none 0 0], false, rfl, fun _ => ⟨rfl, rfl⟩, fun hh => by have := H0.out; omega⟩
  · obtain ⟨rfl, e, A', c', hL, rfl, hr⟩ := hp (by omega)
    have HL := Lib.hid hL
    have HR := Lib.hid hr
    have H0 := Lib.hid h0
    clear hn hL hr h0
    go_wp2_with fail
    refine bodyPost_ret (v := .tuple #[.agg #[.int .i64 e.thread, .int .i64 e.frags, .int .i64 e.spine, .int .i64 e.state, .int .i64 e.cycles, .int .i64 e.at_, .slice A' e.got.length c'], .bool true]) (by simp [results, Tryz.results152, go_sem, d0, d1, d2, d3, d4, d5, d6]) rfl ?_
    have M9 : Mod (fun _ => False) g ⟨own2, _⟩ := Mod.stn (Mod.stn (Mod.stn (Mod.stn (Mod.stn (Mod.stn (Mod.stn (b := g.w.heap.size) (i := 0) (v := .int .i64 e.thread) M2.out (Nat.le_refl _)) (b := g.w.heap.size) (i := 1) (v := .int .i64 e.frags) (Nat.le_refl _)) (b := g.w.heap.size) (i := 2) (v := .int .i64 e.spine) (Nat.le_refl _)) (b := g.w.heap.size) (i := 3) (v := .int .i64 e.state) (Nat.le_refl _)) (b := g.w.heap.size) (i := 4) (v := .int .i64 e.cycles) (Nat.le_refl _)) (b := g.w.heap.size) (i := 5) (v := .int .i64 e.at_) (Nat.le_refl _)) (b := g.w.heap.size) (i := 6) (v := .slice A' e.got.length c') (Nat.le_refl _)
    have T9 : Mod (fun x => x = 9) ⟨own2, w2⟩ ⟨own2, _⟩ := Mod.st (Mod.st (Mod.st (Mod.st (Mod.st (Mod.st (Mod.st (b := g.w.heap.size) (i := 0) (v := .int .i64 e.thread) (Mod.refl _ _) B2.out.own) (b := g.w.heap.size) (i := 1) (v := .int .i64 e.frags) B2.out.own) (b := g.w.heap.size) (i := 2) (v := .int .i64 e.spine) B2.out.own) (b := g.w.heap.size) (i := 3) (v := .int .i64 e.state) B2.out.own) (b := g.w.heap.size) (i := 4) (v := .int .i64 e.cycles) B2.out.own) (b := g.w.heap.size) (i := 5) (v := .int .i64 e.at_) B2.out.own) (b := g.w.heap.size) (i := 6) (v := .slice A' e.got.length c') B2.out.own
    exact ⟨_, _, rfl, M9, [.int .i64 e.thread, .int .i64 e.frags, .int .i64 e.spine, .int .i64 e.state, .int .i64 e.cycles, .int .i64 e.at_, .slice A' e.got.length c'], true, rfl, fun hh => by have := H0.out; omega, fun _ => ⟨rfl, e, A', c', HL.out, rfl, HR.out.keep T9 (by decide)⟩⟩
end Go.Proofs.YtcpeoflomdhidaaGreat
/-
  line: Fail, Grant, Begin, End.
-/
namespace Go
def failL (L : List Ent) : List Ent := if placeOf waitB L < 0 then L else L.modify (placeOf waitB L).toNat fun e => { e with state := 2 }
def grantL (L : List Ent) (got : List Int) (a : Int) : List Ent := if placeOf waitB L < 0 then L else L.modify (placeOf waitB L).toNat fun e => { e with state := 1, got := got, at_ := a }
def noteE (e : Ent) : Ent := { e with noted := waitB e }
def endE (e : Ent) : Ent := { e with cycles := if e.noted && waitB e then e.cycles + 1 else e.cycles, noted := false }
def EntM.failed (m : EntM) : EntM := ⟨{ m.e with state := 2 }, m.A, m.cap⟩
def EntM.gr1 (m : EntM) : EntM := ⟨{ m.e with state := 1 }, m.A, m.cap⟩
def EntM.gr2 (m : EntM) (got : List Int) (A : Option Addr) (c : Nat) : EntM := ⟨{ m.e with state := 1, got := got }, A, c⟩
def EntM.gr3 (m : EntM) (got : List Int) (a : Int) (A : Option Addr) (c : Nat) : EntM := ⟨{ m.e with state := 1, got := got, at_ := a }, A, c⟩
def EntM.noted' (m : EntM) : EntM := ⟨noteE m.e, m.A, m.cap⟩
def EntM.ended (m : EntM) : EntM := ⟨endE m.e, m.A, m.cap⟩
def EntM.cyc (m : EntM) (v : Int) : EntM := ⟨{ m.e with cycles := v }, m.A, m.cap⟩
def EntM.unn (m : EntM) : EntM := ⟨{ m.e with noted := false }, m.A, m.cap⟩
theorem map_upto (f : Ent → Ent) (fm : EntM → EntM) (hf : ∀ m, (fm m).e = f m.e) (ms : List EntM) : (ms.map fm).map EntM.e = (ms.map EntM.e).map f := by
  simp [List.map_map]
  intro m _
  exact hf m
theorem modify_set {α : Type} (l : List α) (k : Nat) (f : α → α) (x : α) (h : l[k]? = some x) : l.modify k f = l.set k (f x) := by
  apply List.ext_getElem?
  intro i
  rw [List.getElem?_modify, List.getElem?_set]
  by_cases e : k = i
  · subst e
    obtain ⟨hl, hx⟩ := List.getElem?_eq_some_iff.1 h
    simp [hl, hx]
  · simp [e]
end Go
namespace Go.Proofs.YtcpeoflomdhidaaGreat
open Go Go.RowKit
set_option linter.unusedVariables false
set_option linter.unnecessarySimpa false
set_option linter.unusedSimpArgs false
set_option maxHeartbeats 2000000
structure LineIn (g : GW) (t b : Nat) (A : Option Addr) (c : Nat) (ms : List EntM) : Prop where
  blk : Blk g t b 187 [.slice A ms.length c]
  row : Row g t 198 8 (.slice A ms.length c) ms.length (ms.flatMap EntM.cells)
  at_ : ∀ m ∈ ms, m.At g (t + 1)
theorem LineAt.in_ {g : GW} {t b : Nat} {L : List Ent} (h : LineAt g t b L) : ∃ A c ms, LineIn g t b A c ms ∧ ms.map EntM.e = L := by
  obtain ⟨A, c, ms, h1, h2, h3, h4⟩ := h.ex
  have e : L.length = ms.length := by rw [← h3, List.length_map]
  rw [e] at h1 h2
  exact ⟨A, c, ms, ⟨h1, h2, h4⟩, h3⟩
theorem LineIn.out {g : GW} {t b c : Nat} {A : Option Addr} {ms : List EntM} {L : List Ent} (h : LineIn g t b A c ms) (e : ms.map EntM.e = L) (hl : L.length ≤ 1000000) : LineAt g t b L := by
  have e' : L.length = ms.length := by rw [← e, List.length_map]
  refine ⟨⟨A, c, ms, ?_, ?_, e, h.at_⟩, hl⟩
  · rw [e']; exact h.blk
  · rw [e']; exact h.row
theorem LineIn.keep {S : Nat → Prop} {g g' : GW} {t b c : Nat} {A : Option Addr} {ms : List EntM} (h : LineIn g t b A c ms) (d : Mod S g g') (hs : ¬ S t) (hs1 : ¬ S (t + 1)) : LineIn g' t b A c ms :=
  ⟨h.blk.keep d hs, h.row.keep d hs, fun m hm => (h.at_ m hm).keep d hs1⟩
theorem LineIn.elem {g : GW} {t b c : Nat} {A : Option Addr} {ms : List EntM} (h : LineIn g t b A c ms) {k : Nat} {m : EntM} (hk : ms[k]? = some m) : ∃ r, A = some ⟨r, 0, none⟩ ∧ r < g.w.heap.size ∧ g.own r = t ∧ b ≠ r ∧ (∀ j, g.w.frozen? ⟨r, j, none⟩ = false) ∧ ∀ j v, j < 8 → m.cells[j]? = some v → g.w.cell? ⟨r, k * 8 + j, none⟩ = some v := by
  obtain ⟨hl, -⟩ := List.getElem?_eq_some_iff.1 hk
  obtain ⟨r, rfl, h1, h2, h3, h4⟩ := h.row.block (by omega)
  exact ⟨r, rfl, h1, h2, h.row.ne_type h.blk (by decide) rfl, h4, fun j v hj hv => h3 _ _ (by rw [flat_at EntM.cells_len ms k j m hk hj]; exact hv)⟩
theorem LineIn.put {g : GW} {t b r c : Nat} {ms : List EntM} (h : LineIn g t b (some ⟨r, 0, none⟩) c ms) {k j : Nat} {x y : EntM} {v : Value} (hk : ms[k]? = some x) (hj : j < 8) (hy : y.cells = x.cells.set j v) (ho : g.own r = t) (hn : b ≠ r) (hat : y.At g (t + 1)) :
    LineIn ⟨g.own, g.w.setCell ⟨r, k * 8 + j, none⟩ v⟩ t b (some ⟨r, 0, none⟩) c (ms.set k y) := by
  have m1 : Mod (fun x => x = t) g ⟨g.own, g.w.setCell ⟨r, k * 8 + j, none⟩ v⟩ := Mod.set ho
  refine ⟨?_, ?_, fun m hm => ?_⟩
  · simp only [List.length_set]; exact h.blk.setOther _ _ (fun e => hn e.symm)
  · simp only [List.length_set]
    rw [flat_put EntM.cells_len ms k j x y v hk hj hy]
    exact h.row.store _ _
  · rcases List.mem_or_eq_of_mem_set hm with hm | rfl
    · exact (h.at_ m hm).keep m1 (by omega)
    · exact hat.keep m1 (by omega)
theorem line_fail (g : GW) (t b : Nat) (L : List Ent) (h : LineAt g t b L) :
    Calls Tryz.prog 154 #[.pointer (some ⟨b, 0, none⟩)] g.w (Does (.bool (decide (0 ≤ placeOf waitB L))) g (fun x => x = t) (fun g' => LineAt g' t b (failL L))) := by
  have HI := Lib.hid (line_first g t b L h)
  have H := Lib.hid h
  have HL := Lib.hid h.len
  have hbd := placeOf_bd waitB L
  clear h
  go_enter Tryz.func154, Tryz.ntmps154
  go_wp2_with fail
  refine HI.out.mono ?_
  rintro e w1 ⟨rfl, hX⟩
  obtain ⟨own1, m1⟩ := Mod.ofExt (show Ext g.w w1 from hX) g.own
  have M1 := Lib.hid (show Mod (fun _ => False) g ⟨own1, w1⟩ from m1)
  have H1 := Lib.hid (H.out.keep M1.out id id)
  clear m1 hX
  by_cases h0 : placeOf waitB L < 0
  · have HV := Lib.hid (show failL L = L from if_pos h0)
    have HD := Lib.hid (show decide (0 ≤ placeOf waitB L) = false from decide_eq_false (by omega))
    go_wp2_with fail
    go_ret
    exact Does.of ⟨own1, w1⟩ rfl (by rw [HD.out]; try rfl) (M1.out.mono (fun x hx => hx.elim)) (by rw [HV.out]; exact H1.out)
  · have HV := Lib.hid (show failL L = L.modify (placeOf waitB L).toNat (fun e => { e with state := 2 }) from if_neg h0)
    have HD := Lib.hid (show decide (0 ≤ placeOf waitB L) = true from decide_eq_true (by omega))
    obtain ⟨k, hk⟩ := Int.eq_ofNat_of_zero_le (show 0 ≤ placeOf waitB L by omega)
    rw [hk] at HV hbd ⊢
    obtain ⟨A, c, ms, hin, hms⟩ := H1.out.in_
    have hml : ms.length = L.length := by rw [← hms, List.length_map]
    have hkm : k < ms.length := by omega
    have hx := List.getElem?_eq_getElem hkm
    obtain ⟨r, rfl, hr1, hr2, hr3, hr4, hc⟩ := hin.elem hx
    have hxL : L[k]? = some ms[k].e := by rw [← hms, List.getElem?_map, hx]; rfl
    have HR := Lib.hid (show LineAt ⟨own1, w1.setCell ⟨r, k * 8 + 3, none⟩ (.int .i64 2)⟩ t b (failL L) by
      refine (hin.put (y := ms[k].failed) hx (by decide) rfl hr2 hr3 ?_).out ?_ (by rw [HV.out, Int.toNat_natCast, List.length_modify]; exact HL.out)
      · exact ⟨(hin.at_ _ (List.getElem_mem hkm)).seg, (hin.at_ _ (List.getElem_mem hkm)).len⟩
      · rw [HV.out, Int.toNat_natCast, List.map_set, hms, modify_set _ _ _ _ hxL]
        rfl)
    have HM := Lib.hid (show Mod (fun x => x = t) g ⟨own1, w1.setCell ⟨r, k * 8 + 3, none⟩ (.int .i64 2)⟩ from Mod.st (M1.out.mono (fun x hx => hx.elim)) hr2)
    have c0 := hin.blk.cell (i := 0) rfl
    have g3 := hc 3 _ (by decide) rfl
    have f3 := hr4 (k * 8 + 3)
    have hbl := hin.blk.lt
    simp only at c0 g3 f3 hbl hr1
    rw [hml] at c0 hkm
    generalize L.length = n at *
    clear hc hr4 hx hxL hin hms hml hr2
    go_wp2_with fail
    go_ret
    exact Does.of ⟨own1, _⟩ rfl (by rw [HD.out]; try rfl) HM.out HR.out
theorem line_grant (g : GW) (t b : Nat) (A0 : Option Addr) (c0 n0 : Nat) (got : List Int) (a : Int) (L : List Ent) (h : LineAt g t b L) (hn0 : got.length = n0) (hg : CellsAt g.w A0 (got.map (Value.int .i64))) (hgl : n0 ≤ 1024) :
    Calls Tryz.prog 153 #[.pointer (some ⟨b, 0, none⟩), .slice A0 n0 c0, .int .i64 a] g.w (Does (.bool (decide (0 ≤ placeOf waitB L))) g (fun x => x = t) (fun g' => LineAt g' t b (grantL L got a))) := by
  have HI := Lib.hid (line_first g t b L h)
  have H := Lib.hid h
  have HL := Lib.hid h.len
  have hbd := placeOf_bd waitB L
  have HCL := Lib.hid (fun g' (m : Mod (fun _ => False) g g') => cloneIntN A0 c0 n0 got (t + 1) g' hn0 (hg.ext m.toExt) (by omega))
  have HN0 := Lib.hid hn0
  have HGL := Lib.hid hgl
  clear h hg hn0
  go_enter Tryz.func153, Tryz.ntmps153
  go_wp2_with fail
  refine HI.out.mono ?_
  rintro e w1 ⟨rfl, hX⟩
  obtain ⟨own1, m1⟩ := Mod.ofExt (show Ext g.w w1 from hX) g.own
  have M1 := Lib.hid (show Mod (fun _ => False) g ⟨own1, w1⟩ from m1)
  have H1 := Lib.hid (H.out.keep M1.out id id)
  clear m1 hX
  by_cases h0 : placeOf waitB L < 0
  · have HV := Lib.hid (show grantL L got a = L from if_pos h0)
    have HD := Lib.hid (show decide (0 ≤ placeOf waitB L) = false from decide_eq_false (by omega))
    go_wp2_with fail
    go_ret
    exact Does.of ⟨own1, w1⟩ rfl (by rw [HD.out]; try rfl) (M1.out.mono (fun x hx => hx.elim)) (by rw [HV.out]; exact H1.out)
  · have HV := Lib.hid (show grantL L got a = L.modify (placeOf waitB L).toNat (fun e => { e with state := 1, got := got, at_ := a }) from if_neg h0)
    have HD := Lib.hid (show decide (0 ≤ placeOf waitB L) = true from decide_eq_true (by omega))
    obtain ⟨k, hk⟩ := Int.eq_ofNat_of_zero_le (show 0 ≤ placeOf waitB L by omega)
    rw [hk] at HV hbd ⊢
    obtain ⟨A, c, ms, hin, hms⟩ := H1.out.in_
    have hml : ms.length = L.length := by rw [← hms, List.length_map]
    have hkm : k < ms.length := by omega
    have hx := List.getElem?_eq_getElem hkm
    obtain ⟨r, rfl, hr1, hr2, hr3, hr4, hc⟩ := hin.elem hx
    have hxL : L[k]? = some ms[k].e := by rw [← hms, List.getElem?_map, hx]; rfl
    have HIN := Lib.hid hin
    have c0' := hin.blk.cell (i := 0) rfl
    have hbl := hin.blk.lt
    simp only at c0' hbl hr1
    rw [hml] at c0'
    have HX := Lib.hid (And.intro hx (And.intro hxL (And.intro hms hkm)))
    have HO := Lib.hid (And.intro hr2 hr3)
    have hkl : k < L.length := by omega
    generalize hLn : L.length = n at *
    have HLN := Lib.hid hLn
    clear hc hr4 hx hxL hin hms hml hr2 hr3 hLn
    go_wp2_with fail
    refine (HCL.out ⟨own1, w1⟩ M1.out).mono ?_
    rintro e w2 ⟨A', c', rfl, m2, r2, -, -⟩
    obtain ⟨own2, m2, r2⟩ : ∃ own2, Mod (fun _ => False) ⟨own1, w1⟩ ⟨own2, w2⟩ ∧ Row ⟨own2, w2⟩ (t + 1) 3 1 (.slice A' n0 c') n0 (got.map (Value.int .i64)) := ⟨_, m2, r2⟩
    have hin2 := HIN.out.keep m2 id id
    obtain ⟨hx, hxL, hms, hkm⟩ := HX.out
    obtain ⟨r', hre, hr1', hr2, hr3, hr4, hc⟩ := hin2.elem hx
    injection hre with hre
    injection hre with hre
    subst hre
    have p1 := hin2.put (y := ms[k].gr1) hx (j := 3) (v := .int .i64 1) (by decide) rfl hr2 hr3 ⟨(hin2.at_ _ (List.getElem_mem hkm)).seg, (hin2.at_ _ (List.getElem_mem hkm)).len⟩
    have q1 : Mod (fun x => x = t) ⟨own2, w2⟩ ⟨own2, w2.setCell ⟨r, k * 8 + 3, none⟩ (.int .i64 1)⟩ := Mod.set hr2
    have r3 := r2.keep q1 (by omega)
    have p2 := p1.put (y := ms[k].gr2 got A' c') (x := ms[k].gr1) (j := 6) (v := .slice A' n0 c') (List.getElem?_set_self hkm) (by decide) (by rw [← HN0.out]; rfl) hr2 hr3 ⟨r3.seg, by rw [show (ms[k].gr2 got A' c').e.got = got from rfl, HN0.out]; exact HGL.out⟩
    have r4 := r3.keep (Mod.set (T := fun x => x = t) (g := ⟨own2, w2.setCell ⟨r, k * 8 + 3, none⟩ (.int .i64 1)⟩) (b := r) (i := k * 8 + 6) (v := .slice A' n0 c') hr2) (by omega)
    have p3 := p2.put (y := ms[k].gr3 got a A' c') (x := ms[k].gr2 got A' c') (j := 5) (v := .int .i64 a) (List.getElem?_set_self (by simpa using hkm)) (by decide) (by simp [EntM.gr2, EntM.gr3, EntM.cells, EntM.req]) hr2 hr3 ⟨r4.seg, by rw [show (ms[k].gr3 got a A' c').e.got = got from rfl, HN0.out]; exact HGL.out⟩
    have HR := Lib.hid (p3.out (L := grantL L got a) (by rw [HV.out, Int.toNat_natCast, List.set_set, List.set_set, List.map_set, hms, modify_set _ _ _ _ hxL]; rfl) (by rw [HV.out, Int.toNat_natCast, List.length_modify, HLN.out]; exact HL.out))
    have HM := Lib.hid (Mod.st (b := r) (i := k * 8 + 5) (v := .int .i64 a) (Mod.st (b := r) (i := k * 8 + 6) (v := .slice A' n0 c') (Mod.st (b := r) (i := k * 8 + 3) (v := .int .i64 1) ((M1.out.trans m2).mono (S := fun x => x = t) (fun x hx => hx.elim)) hr2) hr2) hr2)
    have g3 := hc 3 _ (by decide) rfl
    have f3 := hr4 (k * 8 + 3)
    have g6 := hc 6 _ (by decide) rfl
    have f6 := hr4 (k * 8 + 6)
    have g5 := hc 5 _ (by decide) rfl
    have f5 := hr4 (k * 8 + 5)
    have hrl2 := Nat.lt_of_lt_of_le hr1 m2.size
    simp only at g3 f3 g6 f6 g5 f5 hrl2
    clear hc hr4 hx hxL hms m2 r2 r3 r4 p1 p2 p3 q1 hin2 hr1' hr2 hr3
    go_wp2_with fail
    go_ret
    exact Does.of ⟨own2, _⟩ rfl (by rw [HD.out]; try rfl) HM.out HR.out
set_option maxRecDepth 100000 in
theorem line_begin (g : GW) (t b : Nat) (L : List Ent) (h : LineAt g t b L) :
    Calls Tryz.prog 144 #[.pointer (some ⟨b, 0, none⟩)] g.w (Does (.tuple #[]) g (fun x => x = t) (fun g' => LineAt g' t b (L.map noteE))) := by
  obtain ⟨A, c, ms, hin, hms⟩ := h.in_
  have hml : ms.length = L.length := by rw [← hms, List.length_map]
  have hlen := h.len
  rw [← hml] at hlen
  have HMS := Lib.hid hms
  have HLEN := Lib.hid h.len
  have HIN := Lib.hid hin
  have c0 := hin.blk.cell (i := 0) rfl
  have cl := hin.blk.lt
  clear hin hms hml h
  generalize hn : ms.length = n at *
  have HN := Lib.hid hn
  clear hn
  go_enter Tryz.func144, Tryz.ntmps144
  go_wp2_with fail
  go_loopw [8] (fun i wr => ∃ (k : Nat) (own : Nat → Nat), k ≤ n ∧ i = .int .i64 k ∧ Hid (Mod (fun x => x = t) g ⟨own, wr⟩) ∧ Hid (LineIn ⟨own, wr⟩ t b A c (upto EntM.noted' ms k))) (fun i _ => n - (intOf i).toNat)
  case atStart => exact ⟨0, g.own, Nat.zero_le _, rfl, Lib.hid Mod.self, by rw [upto_zero]; exact HIN⟩
  case round =>
    obtain ⟨k, own, hk, rfl, M, S⟩ := hrel
    clear c0 cl
    by_cases hlt : k < n
    · have hkm : k < ms.length := by rw [HN.out]; exact hlt
      have hx := List.getElem?_eq_getElem hkm
      have hxu : (upto EntM.noted' ms k)[k]? = some ms[k] := by rw [upto_at]; exact hx
      obtain ⟨r, rfl, hr1, hr2, hr3, hr4, hc⟩ := S.out.elem hxu
      have hmem := S.out.at_ _ (List.mem_of_getElem? hxu)
      have HR := Lib.hid (show LineIn ⟨own, wr.setCell ⟨r, k * 8 + 7, none⟩ (.bool (waitB ms[k].e))⟩ t b (some ⟨r, 0, none⟩) c (upto EntM.noted' ms (k + 1)) by
        rw [upto_succ _ _ _ _ hx]
        exact S.out.put hxu (by decide) rfl hr2 hr3 ⟨hmem.seg, hmem.len⟩)
      have HM := Lib.hid (Mod.st (b := r) (i := k * 8 + 7) (v := .bool (waitB ms[k].e)) M.out hr2)
      have c0 := S.out.blk.cell (i := 0) rfl
      have cl := S.out.blk.lt
      have g3 := hc 3 _ (by decide) rfl
      have g7 := hc 7 _ (by decide) rfl
      have f7 := hr4 (k * 8 + 7)
      simp only [upto_len] at c0
      rw [HN.out] at c0
      simp only at cl g3 g7 f7 hr1
      have hwb : waitB ms[k].e = (ms[k].e.state == 0) := rfl
      rw [hwb] at HR HM
      generalize ms[k].e.state = st at *
      generalize ms[k].e.noted = nt at *
      clear hc hr4 hx hxu hmem hr2 hwb
      go_wp2_with fail
      refine wp_region_mixed [true, true, true, true, true, true, true, true, true, true, true, true, true, true, true, true, true, false] 1 17 (by kernel_rfl) (by kernel_rfl) (by kernel_rfl) ?_ (by decide) (by decide) (by decide) (by kernel_rfl) ?_
      · intro c a d v w h; cases d <;> exact h
      intro X00
      simp only [pickOps]
      repeat (go_big_quiet_step (fail))
      refine wpQuiet_nil (fun X0 => ?_)
      clear X00
      refine wpAnyM_last 17 _ (by kernel_rfl) (by kernel_rfl) rfl rfl (fun X1 K Q' hK => ?_)
      go_simp
      refine hK _ _ (fun X2 => ?_)
      clear hK K Q'
      go_wp2_with fail
      go_roundw
      case rel => exact ⟨k + 1, _, by omega, by go_num, Lib.hid (Mod.pt HM.out _), Lib.hid (HR.out.keep (Mod.pt (Mod.refl (fun _ => False) _) _) id id)⟩
      case measure => simp [intOf]; omega
    · obtain rfl : k = n := by omega
      go_wp2_with fail
      refine bodyPost_end (results_none rfl _ _ _) rfl (Does.of ⟨own, wr⟩ rfl rfl M.out ?_)
      have := S.out
      rw [← HN.out, upto_all] at this
      refine this.out ?_ (by rw [List.length_map]; exact HLEN.out)
      rw [← HMS.out]
      exact map_upto noteE EntM.noted' (fun m => rfl) ms
set_option maxRecDepth 100000 in
theorem line_end (g : GW) (t b : Nat) (L : List Ent) (h : LineAt g t b L) (hcy : ∀ e ∈ L, 0 ≤ e.cycles ∧ e.cycles ≤ 1099511627776) :
    Calls Tryz.prog 150 #[.pointer (some ⟨b, 0, none⟩)] g.w (Does (.tuple #[]) g (fun x => x = t) (fun g' => LineAt g' t b (L.map endE))) := by
  obtain ⟨A, c, ms, hin, hms⟩ := h.in_
  have hml : ms.length = L.length := by rw [← hms, List.length_map]
  have hlen := h.len
  rw [← hml] at hlen
  have HMS := Lib.hid hms
  have HLEN := Lib.hid h.len
  have HIN := Lib.hid hin
  have HCY := Lib.hid (show ∀ m ∈ ms, 0 ≤ m.e.cycles ∧ m.e.cycles ≤ 1099511627776 from fun m hm => hcy _ (by rw [← hms]; exact List.mem_map_of_mem hm))
  have c0 := hin.blk.cell (i := 0) rfl
  have cl := hin.blk.lt
  clear hin hms hml h hcy
  generalize hn : ms.length = n at *
  have HN := Lib.hid hn
  clear hn
  go_enter Tryz.func150, Tryz.ntmps150
  go_wp2_with fail
  go_loopw [9] (fun i wr => ∃ (k : Nat) (own : Nat → Nat), k ≤ n ∧ i = .int .i64 k ∧ Hid (Mod (fun x => x = t) g ⟨own, wr⟩) ∧ Hid (LineIn ⟨own, wr⟩ t b A c (upto EntM.ended ms k))) (fun i _ => n - (intOf i).toNat)
  case atStart => exact ⟨0, g.own, Nat.zero_le _, rfl, Lib.hid Mod.self, by rw [upto_zero]; exact HIN⟩
  case round =>
    obtain ⟨k, own, hk, rfl, M, S⟩ := hrel
    clear c0 cl
    by_cases hlt : k < n
    · have hkm : k < ms.length := by rw [HN.out]; exact hlt
      have hx := List.getElem?_eq_getElem hkm
      have hxu : (upto EntM.ended ms k)[k]? = some ms[k] := by rw [upto_at]; exact hx
      obtain ⟨hy0, hy1⟩ := HCY.out _ (List.getElem_mem hkm)
      obtain ⟨r, rfl, hr1, hr2, hr3, hr4, hc⟩ := S.out.elem hxu
      have hmem := S.out.at_ _ (List.mem_of_getElem? hxu)
      have c0 := S.out.blk.cell (i := 0) rfl
      have cl := S.out.blk.lt
      have g3 := hc 3 _ (by decide) rfl
      have g4 := hc 4 _ (by decide) rfl
      have g7 := hc 7 _ (by decide) rfl
      have f4 := hr4 (k * 8 + 4)
      have f7 := hr4 (k * 8 + 7)
      simp only [upto_len] at c0
      rw [HN.out] at c0
      simp only at cl g3 g4 g7 f7 f4 hr1
      cases hb : (ms[k].e.noted && waitB ms[k].e)
      · have HR := Lib.hid (show LineIn ⟨own, wr.setCell ⟨r, k * 8 + 7, none⟩ (.bool false)⟩ t b (some ⟨r, 0, none⟩) c (upto EntM.ended ms (k + 1)) by
          rw [upto_succ _ _ _ _ hx]
          exact S.out.put hxu (by decide) (by simp [EntM.ended, endE, EntM.cells, EntM.req, hb]) hr2 hr3 ⟨hmem.seg, hmem.len⟩)
        have HM := Lib.hid (Mod.st (b := r) (i := k * 8 + 7) (v := .bool false) M.out hr2)
        have hwb : waitB ms[k].e = (ms[k].e.state == 0) := rfl
        rw [hwb] at hb
        generalize ms[k].e.state = st at *
        generalize ms[k].e.noted = nt at *
        generalize ms[k].e.cycles = cy at *
        clear hc hr4 hx hxu hmem hr2 hwb
        cases nt
        · go_wp2_with fail
          go_roundw
          case rel => exact ⟨k + 1, _, by omega, by go_num, HM, HR⟩
          case measure => simp [intOf]; omega
        · have hst : (st == 0) = false := by simpa using hb
          clear hb
          go_wp2_with fail
          go_roundw
          case rel => exact ⟨k + 1, _, by omega, by go_num, HM, HR⟩
          case measure => simp [intOf]; omega
      · have HR := Lib.hid (show LineIn ⟨own, (wr.setCell ⟨r, k * 8 + 4, none⟩ (.int .i64 (ms[k].e.cycles + 1))).setCell ⟨r, k * 8 + 7, none⟩ (.bool false)⟩ t b (some ⟨r, 0, none⟩) c (upto EntM.ended ms (k + 1)) by
          rw [upto_succ _ _ _ _ hx]
          have p1 := S.out.put (y := ms[k].cyc (ms[k].e.cycles + 1)) hxu (j := 4) (v := .int .i64 (ms[k].e.cycles + 1)) (by decide) rfl hr2 hr3 ⟨hmem.seg, hmem.len⟩
          have hku : k < (upto EntM.ended ms k).length := by rw [upto_len]; exact hkm
          have p2 := p1.put (y := ms[k].ended) (x := ms[k].cyc (ms[k].e.cycles + 1)) (j := 7) (v := .bool false) (List.getElem?_set_self hku) (by decide) (by simp [EntM.ended, endE, EntM.cells, EntM.req, hb, EntM.cyc]) hr2 hr3 ⟨(hmem.keep (Mod.set (T := fun x => x = t) (g := ⟨own, wr⟩) (b := r) (i := k * 8 + 4) (v := .int .i64 (ms[k].e.cycles + 1)) hr2) (by omega)).seg, hmem.len⟩
          rw [List.set_set] at p2
          exact p2)
        have HM := Lib.hid (Mod.st (b := r) (i := k * 8 + 7) (v := .bool false) (Mod.st (b := r) (i := k * 8 + 4) (v := .int .i64 (ms[k].e.cycles + 1)) M.out hr2) hr2)
        have hwb : waitB ms[k].e = (ms[k].e.state == 0) := rfl
        rw [hwb, Bool.and_eq_true] at hb
        obtain ⟨hn1, hst⟩ := hb
        rw [hn1] at g7
        generalize ms[k].e.state = st at *
        generalize ms[k].e.cycles = cy at *
        clear hc hr4 hx hxu hmem hr2 hwb hn1
        go_wp2_with fail
        go_roundw
        case rel => exact ⟨k + 1, _, by omega, by go_num, HM, HR⟩
        case measure => simp [intOf]; omega
    · obtain rfl : k = n := by omega
      go_wp2_with fail
      refine bodyPost_end (results_none rfl _ _ _) rfl (Does.of ⟨own, wr⟩ rfl rfl M.out ?_)
      have := S.out
      rw [← HN.out, upto_all] at this
      refine this.out ?_ (by rw [List.length_map]; exact HLEN.out)
      rw [← HMS.out]
      exact map_upto endE EntM.ended (fun m => rfl) ms
end Go.Proofs.YtcpeoflomdhidaaGreat
/-
  line: slices.Delete at its entries; Drop.
-/
namespace Go
open Go.RowKit
def setL : List Value → Nat → List Value → List Value
  | xs, _, [] => xs
  | xs, i, v :: vs => setL (xs.set i v) (i + 1) vs
variable {P : Program}
end Go
namespace Go.Proofs.YtcpeoflomdhidaaGreat
open Go Go.RowKit
set_option linter.unusedVariables false
set_option linter.unnecessarySimpa false
set_option linter.unusedSimpArgs false
set_option maxHeartbeats 4000000
def zeroEnt : Value := .agg #[.int .i64 0, .int .i64 0, .int .i64 0, .int .i64 0, .int .i64 0, .int .i64 0, .slice none 0 0, .bool false]
def zeroCs : List Value := [.int .i64 0, .int .i64 0, .int .i64 0, .int .i64 0, .int .i64 0, .int .i64 0, .slice none 0 0, .bool false]
def dropL (th : Int) (L : List Ent) : List Ent := if placeOf (ofB th) L < 0 then L else L.eraseIdx (placeOf (ofB th) L).toNat
end Go.Proofs.YtcpeoflomdhidaaGreat

