import Derived.Test.YtnebimabokgofaaGreatHand
import Derived.Deep.DeepCutAuto
/-
  hand: Post, Poll, Answer, Join, Leave; shade.Next, Lost; pile.Pop, Lost, Found.
-/
namespace Go
open Go.RowKit
namespace HandS
def polled (h : HandS) (i : Int) : Bool := h.own i == -1 || h.own i == h.status
def knownB (s : Int) : Bool := decide (0 ≤ s) && decide (s ≤ 4)
def post (h : HandS) (s : Int) (flip : Bool) : HandS := if knownB s then { h.tick with status := s, sense := h.sense != flip } else h.tick
def mayAnswer (h : HandS) (i s : Int) : Bool := !(h.own i == -1) && knownB s
def answer (h : HandS) (i s : Int) : HandS := if h.mayAnswer i s then { h.tick with l := h.l.set i.toNat s } else h.tick
def mayJoin (h : HandS) (i : Int) : Bool := inB i h.l.length && (h.l.getD i.toNat 0 == -1)
def join (h : HandS) (i : Int) : HandS := if h.mayJoin i then { h.tick with l := h.l.set i.toNat h.status } else h.tick
def joined (h : HandS) (i : Int) : Value := if h.mayJoin i then .tuple #[.int .i64 h.status, .bool h.sense, .bool true] else .tuple #[.int .i64 0, .bool false, .bool false]
def mayLeave (h : HandS) (i : Int) : Bool := !(h.own i == -1)
def leave (h : HandS) (i : Int) : HandS := if h.mayLeave i then { h.tick with l := h.l.set i.toNat (-1) } else h.tick
theorem own_in {h : HandS} {i : Int} (hi : (h.own i == -1) = false) : ∃ k : Nat, i = k ∧ k < h.l.length := by
  unfold own at hi
  cases hb : inB i h.l.length
  · rw [hb] at hi; simp at hi
  · exact inB_true hb
end HandS
end Go
namespace Go.Proofs.YtnebimabokgofaaGreat
open Go Go.RowKit
set_option linter.unusedVariables false
set_option linter.unnecessarySimpa false
set_option linter.unusedSimpArgs false
set_option maxHeartbeats 2000000
theorem known_any (s : Int) (w : World) : Calls Tryz.prog 83 #[.int .i64 s] w (Gives (.bool (HandS.knownB s)) w) := by
  by_cases h0 : 0 ≤ s
  · have d0 : decide (0 ≤ s) = true := decide_eq_true h0
    have HV := Lib.hid (show HandS.knownB s = decide (s ≤ 4) by unfold HandS.knownB; rw [d0, Bool.true_and])
    go_enter Tryz.func83, Tryz.ntmps83
    go_wp2_with fail
    go_ret
    exact Gives.bool (by rw [HV.out]) (by (repeat (first | (with_reducible assumption) | (with_reducible exact Ext.refl _) | (with_reducible exact Ext.more _ _ _ _) | apply Ext.alloc | refine Ext.setCell ?_ (by first | exact Nat.le_refl _ | exact Nat.le_add_right _ _ | assumption) _ | apply Ext.patch | apply Ext.drew | apply Ext.drewN)))
  · have d0 : decide (0 ≤ s) = false := decide_eq_false h0
    have HV := Lib.hid (show HandS.knownB s = false by unfold HandS.knownB; rw [d0, Bool.false_and])
    go_enter Tryz.func83, Tryz.ntmps83
    go_wp2_with fail
    go_ret
    exact Gives.bool (by rw [HV.out]) (by (repeat (first | (with_reducible assumption) | (with_reducible exact Ext.refl _) | (with_reducible exact Ext.more _ _ _ _) | apply Ext.alloc | refine Ext.setCell ?_ (by first | exact Nat.le_refl _ | exact Nat.le_add_right _ _ | assumption) _ | apply Ext.patch | apply Ext.drew | apply Ext.drewN)))
theorem HandAt.tick {g : GW} {t b : Nat} {h : HandS} (H : HandAt g t b h) : HandAt ⟨g.own, g.w.setCell ⟨b, 3, none⟩ (.int .i64 (h.count + 1))⟩ t b h.tick := by
  obtain ⟨A, c, hb, hr⟩ := H.ex
  exact ⟨⟨A, c, hb.set 3 _, hr.setOther 3 _ (fun x hx => hr.ne_type hb (by decide) hx)⟩, H.len⟩
/-- A thread's own status is set. -/
theorem HandAt.put {g : GW} {t b r c k : Nat} {h : HandS} (s : Int) (H : HandAt g t b h) (hk : k < h.l.length) (hb : Blk g t b 137 [.int .i64 h.status, .bool h.sense, .slice (some ⟨r, 0, none⟩) h.l.length c, .int .i64 h.count]) :
    HandAt ⟨g.own, g.w.setCell ⟨r, k, none⟩ (.int .i64 s)⟩ t b { h with l := h.l.set k s } ∧ g.own r = t := by
  obtain ⟨A, c', hb', hr⟩ := H.ex
  have he := hb.same hb'
  simp only [List.cons.injEq, Value.slice.injEq, and_true, true_and] at he
  obtain ⟨rfl, rfl⟩ := he
  obtain ⟨r', hA, hrl, ho, hcell, hfr⟩ := hr.block (by omega)
  injection hA with hA
  injection hA with hA
  subst hA
  refine ⟨⟨⟨some ⟨r, 0, none⟩, c, ?_, ?_⟩, by show (h.l.set k s).length ≤ 16; rw [List.length_set]; exact H.len⟩, ho⟩
  · have hne : r ≠ b := fun e => (hr.ne_type hb (by decide) (x := r) rfl) e.symm
    show Blk _ t b _ [.int .i64 h.status, .bool h.sense, .slice (some ⟨r, 0, none⟩) (h.l.set k s).length c, .int .i64 h.count]
    rw [List.length_set]
    exact hb.setOther k _ hne
  · show Row _ t 3 1 (.slice (some ⟨r, 0, none⟩) (h.l.set k s).length c) (h.l.set k s).length ((h.l.set k s).map (Value.int .i64))
    rw [List.length_set, List.map_set]
    exact hr.store k (.int .i64 s)
theorem hand_poll (g : GW) (t b : Nat) (i : Int) (h : HandS) (H : HandAt g t b h) (hc : 0 ≤ h.count ∧ h.count ≤ 1099511627776) :
    Calls Tryz.prog 147 #[.pointer (some ⟨b, 0, none⟩), .int .i64 i] g.w (Does (.bool (h.polled i)) g (fun x => x = t) (fun g' => HandAt g' t b h.tick)) := by
  have HST := Lib.hid (hand_status _ t b i h.tick H.tick)
  have HT := Lib.hid H.tick
  obtain ⟨A, c, hb, hr⟩ := H.ex
  obtain ⟨hc0, hc1⟩ := hc
  have M0 := Lib.hid (show Mod (fun x => x = t) g ⟨g.own, g.w.setCell ⟨b, 3, none⟩ (.int .i64 (h.count + 1))⟩ from Mod.set hb.own)
  have HV := Lib.hid (show h.polled i = (h.own i == -1 || h.own i == h.status) from rfl)
  rw [show h.tick.own i = h.own i from rfl] at HST
  have a0 := hb.cell (i := 0) rfl
  have a1 := hb.cell (i := 1) rfl
  have a2 := hb.cell (i := 2) rfl
  have a3 := hb.cell (i := 3) rfl
  have af3 := hb.live 3
  have al := hb.lt
  (try simp only [GW.to] at a0 a1 a2 a3 af3 al)
  clear hb hr H
  generalize h.own i = x at *
  cases hx : (x == -1)
  · go_enter Tryz.func147, Tryz.ntmps147
    go_wp2_with fail
    refine HST.out.mono ?_
    rintro e w1 ⟨rfl, rfl⟩
    go_wp2_with fail
    go_ret
    exact Does.of ⟨g.own, _⟩ rfl (by rw [HV.out, hx]; simp) M0.out HT.out
  · go_enter Tryz.func147, Tryz.ntmps147
    go_wp2_with fail
    refine HST.out.mono ?_
    rintro e w1 ⟨rfl, rfl⟩
    go_wp2_with fail
    go_ret
    exact Does.of ⟨g.own, _⟩ rfl (by rw [HV.out, hx]; simp) M0.out HT.out
theorem hand_post (g : GW) (t b : Nat) (s : Int) (flip : Bool) (h : HandS) (H : HandAt g t b h) (hc : 0 ≤ h.count ∧ h.count ≤ 1099511627776) :
    Calls Tryz.prog 37 #[.pointer (some ⟨b, 0, none⟩), .int .i64 s, .bool flip] g.w (Does (.bool (HandS.knownB s)) g (fun x => x = t) (fun g' => HandAt g' t b (h.post s flip))) := by
  have HT := Lib.hid H.tick
  obtain ⟨A, c, hb, hr⟩ := H.ex
  obtain ⟨hc0, hc1⟩ := hc
  have HK := Lib.hid (fun w' => known_any s w')
  have M0 := Lib.hid (show Mod (fun x => x = t) g ⟨g.own, g.w.setCell ⟨b, 3, none⟩ (.int .i64 (h.count + 1))⟩ from Mod.set hb.own)
  have a0 := hb.cell (i := 0) rfl
  have a1 := hb.cell (i := 1) rfl
  have a2 := hb.cell (i := 2) rfl
  have a3 := hb.cell (i := 3) rfl
  have af0 := hb.live 0
  have af1 := hb.live 1
  have af3 := hb.live 3
  have al := hb.lt
  (try simp only [GW.to] at a0 a1 a2 a3 af0 af1 af3 al)
  have HB := Lib.hid hb
  have HR := Lib.hid hr
  have HL := Lib.hid H.len
  clear hb hr H
  cases hk : HandS.knownB s
  · rw [hk] at HK
    have HV := Lib.hid (show h.post s flip = h.tick by unfold HandS.post; rw [hk]; rfl)
    clear hk
    go_enter Tryz.func37, Tryz.ntmps37
    go_wp2_with fail
    refine (HK.out _).mono ?_
    rintro e w1 ⟨rfl, hE⟩
    obtain ⟨own1, m1⟩ : ∃ own1, Mod (fun _ => False) ⟨g.own, g.w.setCell ⟨b, 3, none⟩ (.int .i64 (h.count + 1))⟩ ⟨own1, w1⟩ := ⟨_, Mod.ext (g := ⟨g.own, g.w.setCell ⟨b, 3, none⟩ (.int .i64 (h.count + 1))⟩) (show Ext _ w1 from hE) 0⟩
    have M1 := Lib.hid (M0.out.trans (m1.mono (S := fun x => x = t) (fun _ => False.elim)))
    have H1 := Lib.hid (HT.out.keep m1 id)
    clear m1 hE
    go_wp2_with fail
    go_ret
    exact Does.of ⟨own1, w1⟩ rfl rfl M1.out (by rw [HV.out]; exact H1.out)
  · rw [hk] at HK
    have HV := Lib.hid (show h.post s flip = { h.tick with status := s, sense := h.sense != flip } by unfold HandS.post; rw [hk]; rfl)
    clear hk
    go_enter Tryz.func37, Tryz.ntmps37
    go_wp2_with fail
    refine (HK.out _).mono ?_
    rintro e w1 ⟨rfl, hE⟩
    obtain ⟨own1, m1⟩ : ∃ own1, Mod (fun _ => False) ⟨g.own, g.w.setCell ⟨b, 3, none⟩ (.int .i64 (h.count + 1))⟩ ⟨own1, w1⟩ := ⟨_, Mod.ext (g := ⟨g.own, g.w.setCell ⟨b, 3, none⟩ (.int .i64 (h.count + 1))⟩) (show Ext _ w1 from hE) 0⟩
    have M1 := Lib.hid (M0.out.trans (m1.mono (S := fun x => x = t) (fun _ => False.elim)))
    have B1 := Lib.hid ((HB.out.set 3 (.int .i64 (h.count + 1))).keep m1 id)
    have R1 := Lib.hid ((HR.out.setOther 3 (.int .i64 (h.count + 1)) (fun x hx => HR.out.ne_type HB.out (by decide) hx)).keep m1 id)
    clear m1 hE a0 a1 a2 a3 af0 af1 af3 al
    have a0 := B1.out.cell (i := 0) rfl
    have a1 := B1.out.cell (i := 1) rfl
    have a2 := B1.out.cell (i := 2) rfl
    have a3 := B1.out.cell (i := 3) rfl
    have af0 := B1.out.live 0
    have af1 := B1.out.live 1
    have al := B1.out.lt
    (try simp only [GW.to] at a0 a1 a2 a3 af0 af1 al)
    go_wp2_with fail
    go_ret
    refine Does.of ⟨own1, (w1.setCell ⟨b, 0, none⟩ (.int .i64 s)).setCell ⟨b, 1, none⟩ (.bool (h.sense != flip))⟩ rfl rfl (Mod.st (Mod.st M1.out B1.out.own) B1.out.own) ?_
    rw [HV.out]
    exact ⟨⟨A, c, (B1.out.set 0 (.int .i64 s)).set 1 (.bool (h.sense != flip)), (R1.out.setOther 0 _ (fun x hx => HR.out.ne_type HB.out (by decide) hx)).setOther 1 _ (fun x hx => HR.out.ne_type HB.out (by decide) hx)⟩, HL.out⟩
theorem hand_answer (g : GW) (t b : Nat) (i s : Int) (h : HandS) (H : HandAt g t b h) (hc : 0 ≤ h.count ∧ h.count ≤ 1099511627776) :
    Calls Tryz.prog 170 #[.pointer (some ⟨b, 0, none⟩), .int .i64 i, .int .i64 s] g.w (Does (.bool (h.mayAnswer i s)) g (fun x => x = t) (fun g' => HandAt g' t b (h.answer i s))) := by
  have HST := Lib.hid (hand_status _ t b i h.tick H.tick)
  have HT := Lib.hid H.tick
  obtain ⟨A, c, hb, hr⟩ := H.ex
  obtain ⟨hc0, hc1⟩ := hc
  have HK := Lib.hid (fun w' => known_any s w')
  have M0 := Lib.hid (show Mod (fun x => x = t) g ⟨g.own, g.w.setCell ⟨b, 3, none⟩ (.int .i64 (h.count + 1))⟩ from Mod.set hb.own)
  rw [show h.tick.own i = h.own i from rfl] at HST
  have a0 := hb.cell (i := 0) rfl
  have a1 := hb.cell (i := 1) rfl
  have a2 := hb.cell (i := 2) rfl
  have a3 := hb.cell (i := 3) rfl
  have af3 := hb.live 3
  have al := hb.lt
  (try simp only [GW.to] at a0 a1 a2 a3 af3 al)
  have HB := Lib.hid hb
  have HR := Lib.hid hr
  clear hb hr
  cases hx : (h.own i == -1)
  case true =>
    have HV := Lib.hid (show h.mayAnswer i s = false by unfold HandS.mayAnswer; rw [hx]; rfl)
    have HW := Lib.hid (show h.answer i s = h.tick by unfold HandS.answer; rw [HV.out]; rfl)
    go_enter Tryz.func170, Tryz.ntmps170
    go_wp2_with fail
    refine HST.out.mono ?_
    rintro e w1 ⟨rfl, rfl⟩
    go_wp2_with fail
    go_ret
    exact Does.of ⟨g.own, _⟩ rfl (by rw [HV.out]; try rfl) M0.out (by rw [HW.out]; exact HT.out)
  obtain ⟨k, rfl, hk⟩ := HandS.own_in hx
  cases hkn : HandS.knownB s
  · rw [hkn] at HK
    have HV := Lib.hid (show h.mayAnswer k s = false by unfold HandS.mayAnswer; rw [hx, hkn]; rfl)
    have HW := Lib.hid (show h.answer k s = h.tick by unfold HandS.answer; rw [HV.out]; rfl)
    clear hkn
    go_enter Tryz.func170, Tryz.ntmps170
    go_wp2_with fail
    refine HST.out.mono ?_
    rintro e w1 ⟨rfl, rfl⟩
    go_wp2_with fail
    refine (HK.out _).mono ?_
    rintro e w1 ⟨rfl, hE⟩
    obtain ⟨own1, m1⟩ : ∃ own1, Mod (fun _ => False) ⟨g.own, g.w.setCell ⟨b, 3, none⟩ (.int .i64 (h.count + 1))⟩ ⟨own1, w1⟩ := ⟨_, Mod.ext (g := ⟨g.own, g.w.setCell ⟨b, 3, none⟩ (.int .i64 (h.count + 1))⟩) (show Ext _ w1 from hE) 0⟩
    have M1 := Lib.hid (M0.out.trans (m1.mono (S := fun x => x = t) (fun _ => False.elim)))
    have H1 := Lib.hid (HT.out.keep m1 id)
    clear m1 hE
    go_wp2_with fail
    go_ret
    exact Does.of ⟨own1, w1⟩ rfl (by rw [HV.out]; try rfl) M1.out (by rw [HW.out]; exact H1.out)
  · rw [hkn] at HK
    have HV := Lib.hid (show h.mayAnswer k s = true by unfold HandS.mayAnswer; rw [hx, hkn]; rfl)
    have HW := Lib.hid (show h.answer k s = { h.tick with l := h.tick.l.set k s } by unfold HandS.answer; rw [HV.out, if_pos rfl, Int.toNat_natCast]; rfl)
    clear hkn
    go_enter Tryz.func170, Tryz.ntmps170
    go_wp2_with fail
    refine HST.out.mono ?_
    rintro e w1 ⟨rfl, rfl⟩
    go_wp2_with fail
    refine (HK.out _).mono ?_
    rintro e w1 ⟨rfl, hE⟩
    obtain ⟨own1, m1⟩ : ∃ own1, Mod (fun _ => False) ⟨g.own, g.w.setCell ⟨b, 3, none⟩ (.int .i64 (h.count + 1))⟩ ⟨own1, w1⟩ := ⟨_, Mod.ext (g := ⟨g.own, g.w.setCell ⟨b, 3, none⟩ (.int .i64 (h.count + 1))⟩) (show Ext _ w1 from hE) 0⟩
    have M1 := Lib.hid (M0.out.trans (m1.mono (S := fun x => x = t) (fun _ => False.elim)))
    have H1 := Lib.hid (HT.out.keep m1 id)
    have B1 := Lib.hid ((HB.out.set 3 (.int .i64 (h.count + 1))).keep m1 id)
    have R1 := Lib.hid ((HR.out.setOther 3 (.int .i64 (h.count + 1)) (fun x hx => HR.out.ne_type HB.out (by decide) hx)).keep m1 id)
    have hlen := H.len
    clear m1 hE a0 a1 a2 a3 af3 al
    have a0 := B1.out.cell (i := 0) rfl
    have a1 := B1.out.cell (i := 1) rfl
    have a2 := B1.out.cell (i := 2) rfl
    have a3 := B1.out.cell (i := 3) rfl
    have al := B1.out.lt
    (try simp only [GW.to] at a0 a1 a2 a3 al)
    obtain ⟨r, rfl, hrl, ho, hcell, hfr⟩ := R1.out.block (by omega)
    have k0 := hcell k (.int .i64 (h.l.getD k 0)) (by simp [List.getD_eq_getElem?_getD, hk])
    have kf := hfr k
    have HP := Lib.hid (HandAt.put s H1.out (show k < h.tick.l.length from hk) B1.out)
    (try simp only at k0 kf hrl)
    clear hcell hfr H
    generalize h.l.getD k 0 = x at *
    go_wp2_with fail
    go_ret
    exact Does.of ⟨own1, w1.setCell ⟨r, k, none⟩ (.int .i64 s)⟩ rfl (by rw [HV.out]; try rfl) (Mod.st M1.out HP.out.2) (by rw [HW.out]; exact HP.out.1)
theorem hand_leave (g : GW) (t b : Nat) (i : Int) (h : HandS) (H : HandAt g t b h) (hc : 0 ≤ h.count ∧ h.count ≤ 1099511627776) :
    Calls Tryz.prog 173 #[.pointer (some ⟨b, 0, none⟩), .int .i64 i] g.w (Does (.bool (h.mayLeave i)) g (fun x => x = t) (fun g' => HandAt g' t b (h.leave i))) := by
  have HST := Lib.hid (hand_status _ t b i h.tick H.tick)
  have HT := Lib.hid H.tick
  obtain ⟨A, c, hb, hr⟩ := H.ex
  obtain ⟨hc0, hc1⟩ := hc
  have M0 := Lib.hid (show Mod (fun x => x = t) g ⟨g.own, g.w.setCell ⟨b, 3, none⟩ (.int .i64 (h.count + 1))⟩ from Mod.set hb.own)
  rw [show h.tick.own i = h.own i from rfl] at HST
  have a0 := hb.cell (i := 0) rfl
  have a1 := hb.cell (i := 1) rfl
  have a2 := hb.cell (i := 2) rfl
  have a3 := hb.cell (i := 3) rfl
  have af3 := hb.live 3
  have al := hb.lt
  (try simp only [GW.to] at a0 a1 a2 a3 af3 al)
  have HB := Lib.hid hb
  have HR := Lib.hid hr
  clear hb hr
  cases hx : (h.own i == -1)
  case true =>
    have HV := Lib.hid (show h.mayLeave i = false by unfold HandS.mayLeave; rw [hx]; rfl)
    have HW := Lib.hid (show h.leave i = h.tick by unfold HandS.leave; rw [HV.out]; rfl)
    go_enter Tryz.func173, Tryz.ntmps173
    go_wp2_with fail
    refine HST.out.mono ?_
    rintro e w1 ⟨rfl, rfl⟩
    go_wp2_with fail
    go_ret
    exact Does.of ⟨g.own, _⟩ rfl (by rw [HV.out]; try rfl) M0.out (by rw [HW.out]; exact HT.out)
  obtain ⟨k, rfl, hk⟩ := HandS.own_in hx
  have HV := Lib.hid (show h.mayLeave k = true by unfold HandS.mayLeave; rw [hx]; rfl)
  have HW := Lib.hid (show h.leave k = { h.tick with l := h.tick.l.set k (-1) } by unfold HandS.leave; rw [HV.out, if_pos rfl, Int.toNat_natCast]; rfl)
  have B1 := Lib.hid (HB.out.set 3 (.int .i64 (h.count + 1)))
  have R1 := Lib.hid (HR.out.setOther 3 (.int .i64 (h.count + 1)) (fun x hx => HR.out.ne_type HB.out (by decide) hx))
  have hlen := H.len
  obtain ⟨r, rfl, hrl, ho, hcell, hfr⟩ := HR.out.block (by omega)
  have hrb : b ≠ r := HR.out.ne_type HB.out (by decide) rfl
  have hrb2 : r ≠ b := fun e => hrb e.symm
  have k0 := hcell k (.int .i64 (h.l.getD k 0)) (by simp [List.getD_eq_getElem?_getD, hk])
  have kf := hfr k
  have HP := Lib.hid (HandAt.put (-1) HT.out (show k < h.tick.l.length from hk) B1.out)
  (try simp only at k0 kf hrl)
  clear hcell hfr H
  generalize h.l.getD k 0 = x at *
  go_enter Tryz.func173, Tryz.ntmps173
  go_wp2_with fail
  refine HST.out.mono ?_
  rintro e w1 ⟨rfl, rfl⟩
  go_wp2_with fail
  go_ret
  exact Does.of ⟨g.own, (g.w.setCell ⟨b, 3, none⟩ (.int .i64 (h.count + 1))).setCell ⟨r, k, none⟩ (.int .i64 (-1))⟩ rfl (by rw [HV.out]; try rfl) (Mod.st M0.out HP.out.2) (by rw [HW.out]; exact HP.out.1)
theorem hand_join (g : GW) (t b : Nat) (i : Int) (h : HandS) (H : HandAt g t b h) (hc : 0 ≤ h.count ∧ h.count ≤ 1099511627776) :
    Calls Tryz.prog 77 #[.pointer (some ⟨b, 0, none⟩), .int .i64 i] g.w (Does (h.joined i) g (fun x => x = t) (fun g' => HandAt g' t b (h.join i))) := by
  have HT := Lib.hid H.tick
  obtain ⟨A, c, hb, hr⟩ := H.ex
  obtain ⟨hc0, hc1⟩ := hc
  have M0 := Lib.hid (show Mod (fun x => x = t) g ⟨g.own, g.w.setCell ⟨b, 3, none⟩ (.int .i64 (h.count + 1))⟩ from Mod.set hb.own)
  have HB := Lib.hid hb
  have HR := Lib.hid hr
  have hlen := H.len
  have a0 := hb.cell (i := 0) rfl
  have a1 := hb.cell (i := 1) rfl
  have a2 := hb.cell (i := 2) rfl
  have a3 := hb.cell (i := 3) rfl
  have af3 := hb.live 3
  have al := hb.lt
  (try simp only [GW.to] at a0 a1 a2 a3 af3 al)
  clear hb hr
  cases hin : inB i h.l.length
  · have hm : h.mayJoin i = false := by unfold HandS.mayJoin; rw [hin]; rfl
    have HV := Lib.hid (show h.joined i = .tuple #[.int .i64 0, .bool false, .bool false] by unfold HandS.joined; rw [hm]; rfl)
    have HW := Lib.hid (show h.join i = h.tick by unfold HandS.join; rw [hm]; rfl)
    have hq := inB_false hin
    clear hm hin H
    by_cases h0 : i < 0
    · have d0 : decide (i < 0) = true := decide_eq_true h0
      clear hq
      go_enter Tryz.func77, Tryz.ntmps77
      go_wp2_with fail
      go_ret3
      exact Does.of ⟨g.own, _⟩ rfl (by rw [HV.out]; try rfl) M0.out (by rw [HW.out]; exact HT.out)
    · have d0 : decide (i < 0) = false := decide_eq_false h0
      have d1 : decide ((h.l.length : Int) ≤ i) = true := decide_eq_true (by omega)
      clear hq
      go_enter Tryz.func77, Tryz.ntmps77
      go_wp2_with fail
      go_ret3
      exact Does.of ⟨g.own, _⟩ rfl (by rw [HV.out]; try rfl) M0.out (by rw [HW.out]; exact HT.out)
  obtain ⟨k, rfl, hk⟩ := inB_true hin
  have d0 : decide ((k : Int) < 0) = false := decide_eq_false (by omega)
  have d1 : decide ((h.l.length : Int) ≤ k) = false := decide_eq_false (by omega)
  obtain ⟨r, rfl, hrl, ho, hcell, hfr⟩ := HR.out.block (by omega)
  have hrb : b ≠ r := HR.out.ne_type HB.out (by decide) rfl
  have hrb2 : r ≠ b := fun e => hrb e.symm
  have k0 := hcell k (.int .i64 (h.l.getD k 0)) (by simp [List.getD_eq_getElem?_getD, hk])
  have kf := hfr k
  have B1 := Lib.hid (HB.out.set 3 (.int .i64 (h.count + 1)))
  have HP := Lib.hid (HandAt.put h.status HT.out (show k < h.tick.l.length from hk) B1.out)
  have HJ := Lib.hid (show h.mayJoin k = (h.l.getD k 0 == -1) by unfold HandS.mayJoin; rw [hin, Int.toNat_natCast]; rfl)
  (try simp only at k0 kf hrl)
  clear hcell hfr H hin
  generalize h.l.getD k 0 = x at *
  cases hx : (x == -1)
  · have hxx : (x != -1) = true := by unfold bne; rw [hx]; rfl
    have HV := Lib.hid (show h.joined k = .tuple #[.int .i64 0, .bool false, .bool false] by unfold HandS.joined; rw [HJ.out, hx]; rfl)
    have HW := Lib.hid (show h.join k = h.tick by unfold HandS.join; rw [HJ.out, hx]; rfl)
    clear hx
    go_enter Tryz.func77, Tryz.ntmps77
    go_wp2_with fail
    go_ret3
    exact Does.of ⟨g.own, _⟩ rfl (by rw [HV.out]; try rfl) M0.out (by rw [HW.out]; exact HT.out)
  · have hxx : (x != -1) = false := by unfold bne; rw [hx]; rfl
    have HV := Lib.hid (show h.joined k = .tuple #[.int .i64 h.status, .bool h.sense, .bool true] by unfold HandS.joined; rw [HJ.out, hx]; rfl)
    have HW := Lib.hid (show h.join k = { h.tick with l := h.tick.l.set k h.status } by unfold HandS.join; rw [HJ.out, hx, if_pos rfl, Int.toNat_natCast]; rfl)
    clear hx
    have R1 := Lib.hid (HR.out.setOther 3 (.int .i64 (h.count + 1)) (fun x hx => HR.out.ne_type HB.out (by decide) hx))
    go_enter Tryz.func77, Tryz.ntmps77
    go_upto_region 4 with fail
    generalize g.w.setCell ⟨b, 3, none⟩ (.int .i64 (h.count + 1)) = w0 at *
    clear a0 a1 a2 a3 af3 al k0 kf
    have a0 := B1.out.cell (i := 0) rfl
    have a1 := B1.out.cell (i := 1) rfl
    have a2 := B1.out.cell (i := 2) rfl
    have a3 := B1.out.cell (i := 3) rfl
    have al := B1.out.lt
    (try simp only [GW.to] at a0 a1 a2 a3 al)
    obtain ⟨r', hA, hrl', ho', hcell, hfr⟩ := R1.out.block (by omega)
    injection hA with hA
    injection hA with hA
    subst hA
    obtain ⟨vk, hvk⟩ : ∃ v, (h.l.map (Value.int .i64))[k]? = some v := ⟨_, List.getElem?_eq_getElem (by simp; omega)⟩
    have k0 := hcell k vk hvk
    have kf := hfr k
    simp only at k0 kf hrl'
    clear hcell hfr hvk
    refine wp_region_mixed [true, true, true, true, true, true, true, true, true, true, false] 1 10 (by kernel_rfl) (by kernel_rfl) (by kernel_rfl) ?_ (by decide) (by decide) (by decide) (by kernel_rfl) ?_
    · intro c a d v w h; cases d <;> exact h
    intro X00
    simp only [pickOps]
    repeat (go_big_quiet_step (fail))
    refine wpQuiet_nil (fun X0 => ?_)
    clear X00
    refine wpAnyM_last 10 _ (by kernel_rfl) (by kernel_rfl) rfl rfl (fun X1 K Q' hK => ?_)
    go_simp
    refine hK _ _ (fun X2 => ?_)
    clear hK K Q'
    (try go_simp)
    obtain ⟨own2, m2⟩ : ∃ own2, Mod (fun _ => False) ⟨g.own, w0.setCell ⟨r, k, none⟩ (.int .i64 h.status)⟩ ⟨own2, (w0.setCell ⟨r, k, none⟩ (.int .i64 h.status)).patch ⟨X0.blocks ++ (X1.blocks ++ X2.blocks), X2.drawn⟩⟩ := ⟨_, Mod.pt (Mod.refl _ _) _⟩
    generalize (w0.setCell ⟨r, k, none⟩ (.int .i64 h.status)).patch ⟨X0.blocks ++ (X1.blocks ++ X2.blocks), X2.drawn⟩ = w2 at *
    have H2 := Lib.hid (HP.out.1.keep m2 id)
    have M2 := Lib.hid ((Mod.st (i := k) (v := .int .i64 h.status) M0.out HP.out.2).trans (m2.mono (S := fun x => x = t) (fun _ => False.elim)))
    clear a0 a1 a2 a3 al k0 kf m2
    obtain ⟨A2, c2, hb2, hr2⟩ := H2.out.ex
    have a0 := hb2.cell (i := 0) rfl
    have a1 := hb2.cell (i := 1) rfl
    have a2 := hb2.cell (i := 2) rfl
    have a3 := hb2.cell (i := 3) rfl
    have al := hb2.lt
    (try simp only [GW.to] at a0 a1 a2 a3 al)
    clear hb2 hr2
    (try simp only at a0 a1 a2 a3)
    go_wp2_with fail
    refine wp_region_mixed [true, true, true, true, true, true, true, true, true, true, true] 0 11 (by kernel_rfl) (by kernel_rfl) (by kernel_rfl) ?_ (by decide) (by decide) (by decide) (by kernel_rfl) ?_
    · intro c a d v w h; cases d <;> exact h
    intro X00
    simp only [pickOps]
    repeat (go_big_quiet_step (fail))
    refine wpQuiet_nil (fun X0 => ?_)
    clear X00
    refine wpAnyM_done (by kernel_rfl) (fun X0' => ?_) _
    (try go_simp)
    go_wp2_with fail
    go_ret3
    exact Does.ext ⟨own2, w2⟩ (by (repeat (first | (with_reducible assumption) | (with_reducible exact Ext.refl _) | (with_reducible exact Ext.more _ _ _ _) | apply Ext.alloc | refine Ext.setCell ?_ (by first | exact Nat.le_refl _ | exact Nat.le_add_right _ _ | assumption) _ | apply Ext.patch | apply Ext.drew | apply Ext.drewN))) (by rw [HV.out]; try rfl) M2.out (fun g2 m => by rw [HW.out]; exact H2.out.keep m id)
end Go.Proofs.YtnebimabokgofaaGreat

