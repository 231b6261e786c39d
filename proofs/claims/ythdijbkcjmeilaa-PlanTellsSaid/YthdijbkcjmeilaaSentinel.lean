/-
  plan.sentinel.
-/
import Derived.Test.YthdijbkcjmeilaaObj
import Derived.Test.YthdijbkcjmeilaaShape2
import Derived.Test.YthdijbkcjmeilaaRow
import Derived.Test.YthdijbkcjmeilaaGhost
import Derived.Test.YthdijbkcjmeilaaSide
namespace Go.Proofs.Ythdijbkcjmeilaa
open Go Go.RowKit
set_option linter.unusedVariables false
set_option linter.unnecessarySimpa false
set_option linter.unusedSimpArgs false
set_option maxHeartbeats 4000000
def sentIn (got : List Int) (j : Nat) : Value := if j + 1 < got.length then wRef (got.getD (j + 1) 0) else wNone
def sentWords (kind n m : Int) (got : List Int) (at_ : Int) : List Value := [wNone, wHead kind 0, wWhole n, wWhole m] ++
  (if m = 0 then [sentIn got 0, sentIn got 1, sentIn got 2, sentIn got 3] else if m = 1 then [wWhole at_, wZero, wZero, wZero] else [wRef (got.getD 1 0), wZero, wZero, wZero])
theorem mod_of {w w' : World} (h : Ext w w') (own : Nat → Nat) : ∃ own', Mod (fun _ => False) ⟨own, w⟩ ⟨own', w'⟩ := ⟨_, Mod.ext (g := ⟨own, w⟩) h 0⟩
/-- A block that a call leaves as it was. -/
theorem Blk.past {own1 : Nat → Nat} {w1 w2 : World} {t b : Nat} {T : TypeId} {vs : List Value} (h : Blk ⟨own1, w1⟩ t b T vs) (he : Ext w1 w2) : ∃ own2, Mod (fun _ => False) ⟨own1, w1⟩ ⟨own2, w2⟩ ∧ Blk ⟨own2, w2⟩ t b T vs := by
  obtain ⟨own2, m⟩ := mod_of he own1
  exact ⟨own2, m, h.keep m id⟩
theorem wWhole_cx (n : Int) : ∃ p q, wWhole n = .complex .f64 p q := by unfold wWhole; split <;> exact ⟨_, _, rfl⟩
theorem wHead_cx (k m : Int) : ∃ p q, wHead k m = .complex .f64 p q := by unfold wHead; split <;> exact ⟨_, _, rfl⟩
theorem wRef_cx (i : Int) : ∃ p q, wRef i = .complex .f64 p q := by unfold wRef; split <;> exact ⟨_, _, rfl⟩
set_option maxRecDepth 100000 in
theorem sentinel_spined (kind n at_ : Int) (A : Option Addr) (cap gn : Nat) (w : World) :
    Calls Try.prog 52 #[.int .i64 kind, .int .i64 n, .int .i64 1, .slice A gn cap, .int .i64 at_] w (Gives (.agg #[wNone, wHead kind 0, wWhole n, wWhole 1, wWhole at_, wZero, wZero, wZero]) w) := by
  obtain ⟨p1, q1, e1⟩ := wHead_cx kind 0
  obtain ⟨p2, q2, e2⟩ := wWhole_cx n
  obtain ⟨p3, q3, e3⟩ := wWhole_cx 1
  obtain ⟨p4, q4, e4⟩ := wWhole_cx at_
  have HNO := Lib.hid (fun w => (show Calls Try.prog 33 #[] w (Gives (.complex .f64 0 4607182418800017408) w) from none_any w))
  have HHD := Lib.hid (fun w => e1 ▸ head_any kind 0 w)
  have HN := Lib.hid (fun w => e2 ▸ whole_any n w)
  have HM := Lib.hid (fun w => e3 ▸ whole_any 1 w)
  have HA := Lib.hid (fun w => e4 ▸ whole_any at_ w)
  rw [e1, e2, e3, e4]
  clear e1 e2 e3 e4
  unfold wNone wZero
  go_enter Try.func52, Try.ntmps52
  go_wp2_with fail
  refine (HNO.out _).mono ?_
  rintro e w1 ⟨rfl, hX1⟩
  have E1 := Lib.hid (show Ext _ w1 from hX1)
  have B0 := Lib.hid (Blk.new ⟨fun _ => 0, w⟩ 9 74 [wZero, wZero, wZero, wZero, wZero, wZero, wZero, wZero])
  clear hX1
  go_wp2_with fail
  refine (HHD.out _).mono ?_
  rintro e w2 ⟨rfl, hX2⟩
  have E2 := Lib.hid (E1.out.trans (show Ext _ w2 from hX2))
  clear hX2
  go_wp2_with fail
  refine (HN.out _).mono ?_
  rintro e w3 ⟨rfl, hX3⟩
  have E3 := Lib.hid (E2.out.trans (show Ext _ w3 from hX3))
  clear hX3
  go_wp2_with fail
  refine (HM.out _).mono ?_
  rintro e w4 ⟨rfl, hX4⟩
  have E4 := Lib.hid (E3.out.trans (show Ext _ w4 from hX4))
  clear hX4
  obtain ⟨own4, m4, b4⟩ := Blk.past (own1 := ((⟨fun _ => 0, w⟩ : GW).to 9 (w.alloc (.cells #[wZero, wZero, wZero, wZero, wZero, wZero, wZero, wZero] 74))).own) B0.out E4.out
  obtain ⟨own5, m5, q5⟩ : ∃ own5, Mod (fun _ => False) ⟨own4, w4⟩ ⟨own5, w4.alloc (.cells #[.complex .f64 0 4607182418800017408, .complex .f64 p1 q1, .complex .f64 p2 q2, .complex .f64 p3 q3, .complex .f64 0 0, .complex .f64 0 0, .complex .f64 0 0, .complex .f64 0 0] 74)⟩ ∧ Blk ⟨own5, w4.alloc (.cells #[.complex .f64 0 4607182418800017408, .complex .f64 p1 q1, .complex .f64 p2 q2, .complex .f64 p3 q3, .complex .f64 0 0, .complex .f64 0 0, .complex .f64 0 0, .complex .f64 0 0] 74)⟩ 8 w4.heap.size 74 [.complex .f64 0 4607182418800017408, .complex .f64 p1 q1, .complex .f64 p2 q2, .complex .f64 p3 q3, .complex .f64 0 0, .complex .f64 0 0, .complex .f64 0 0, .complex .f64 0 0] := ⟨_, Mod.ext (g := ⟨own4, w4⟩) (by (repeat (first | (with_reducible assumption) | (with_reducible exact Ext.refl _) | (with_reducible exact Ext.more _ _ _ _) | apply Ext.alloc | refine Ext.setCell ?_ (by first | exact Nat.le_refl _ | exact Nat.le_add_right _ _ | assumption) _ | apply Ext.patch | apply Ext.drew | apply Ext.drewN))) 8, Blk.new ⟨own4, w4⟩ 8 74 [.complex .f64 0 4607182418800017408, .complex .f64 p1 q1, .complex .f64 p2 q2, .complex .f64 p3 q3, .complex .f64 0 0, .complex .f64 0 0, .complex .f64 0 0, .complex .f64 0 0]⟩
  have B5 := Lib.hid (b4.keep m5 id)
  have Q5 := Lib.hid q5
  have EE := Lib.hid (show Ext w w4 from (show Ext w _ by (repeat (first | (with_reducible assumption) | (with_reducible exact Ext.refl _) | (with_reducible exact Ext.more _ _ _ _) | apply Ext.alloc | refine Ext.setCell ?_ (by first | exact Nat.le_refl _ | exact Nat.le_add_right _ _ | assumption) _ | apply Ext.patch | apply Ext.drew | apply Ext.drewN))).trans E4.out)
  clear m4 b4 m5 q5
  go_wp2_with fail
  generalize hpw : w4.heap.size = pw at *
  have HP4 := Lib.hid (show w.heap.size ≤ pw by rw [← hpw]; exact EE.out.size)
  have EW := Lib.hid (EE.out.trans (show Ext w4 (w4.alloc (.cells #[.complex .f64 0 4607182418800017408, .complex .f64 p1 q1, .complex .f64 p2 q2, .complex .f64 p3 q3, .complex .f64 0 0, .complex .f64 0 0, .complex .f64 0 0, .complex .f64 0 0] 74)) by (repeat (first | (with_reducible assumption) | (with_reducible exact Ext.refl _) | (with_reducible exact Ext.more _ _ _ _) | apply Ext.alloc | refine Ext.setCell ?_ (by first | exact Nat.le_refl _ | exact Nat.le_add_right _ _ | assumption) _ | apply Ext.patch | apply Ext.drew | apply Ext.drewN))))
  clear hpw
  generalize w4.alloc (.cells #[.complex .f64 0 4607182418800017408, .complex .f64 p1 q1, .complex .f64 p2 q2, .complex .f64 p3 q3, .complex .f64 0 0, .complex .f64 0 0, .complex .f64 0 0, .complex .f64 0 0] 74) = w5 at *
  refine (HA.out _).mono ?_
  rintro e w6 ⟨rfl, hX⟩
  obtain ⟨own6, m6⟩ := mod_of (show Ext w5 w6 from hX) own5
  have B6 := Lib.hid (B5.out.keep m6 id)
  have Q6 := Lib.hid (Q5.out.keep m6 id)
  have E6 := Lib.hid (EW.out.trans (show Ext w5 w6 from hX))
  have hne : pw ≠ w.heap.size := Q6.out.ne B6.out (by decide)
  have hne2 : ¬ w.heap.size = pw := fun e => hne e.symm
  clear hX m6 B5 Q5 EW EE
  have x0 := B6.out.cell (i := 0) rfl
  have x1 := B6.out.cell (i := 1) rfl
  have x2 := B6.out.cell (i := 2) rfl
  have x3 := B6.out.cell (i := 3) rfl
  have x4 := B6.out.cell (i := 4) rfl
  have x5 := B6.out.cell (i := 5) rfl
  have x6 := B6.out.cell (i := 6) rfl
  have x7 := B6.out.cell (i := 7) rfl
  have xf0 := B6.out.live 0
  have xf1 := B6.out.live 1
  have xf2 := B6.out.live 2
  have xf3 := B6.out.live 3
  have xf4 := B6.out.live 4
  have xf5 := B6.out.live 5
  have xf6 := B6.out.live 6
  have xf7 := B6.out.live 7
  have xl := B6.out.lt
  (try simp only [GW.to] at x0 x1 x2 x3 x4 x5 x6 x7 xf0 xf1 xf2 xf3 xf4 xf5 xf6 xf7 xl)
  have y0 := Q6.out.cell (i := 0) rfl
  have y1 := Q6.out.cell (i := 1) rfl
  have y2 := Q6.out.cell (i := 2) rfl
  have y3 := Q6.out.cell (i := 3) rfl
  have y4 := Q6.out.cell (i := 4) rfl
  have y5 := Q6.out.cell (i := 5) rfl
  have y6 := Q6.out.cell (i := 6) rfl
  have y7 := Q6.out.cell (i := 7) rfl
  have yf4 := Q6.out.live 4
  have yl := Q6.out.lt
  (try simp only [GW.to] at y0 y1 y2 y3 y4 y5 y6 y7 yf4 yl)
  go_wp2_with fail
  refine bodyPost_ret (v := .agg #[.complex .f64 0 4607182418800017408, .complex .f64 p1 q1, .complex .f64 p2 q2, .complex .f64 p3 q3, .complex .f64 p4 q4, .complex .f64 0 0, .complex .f64 0 0, .complex .f64 0 0]) (by simp [results, Try.results52, go_sem, x0, x1, x2, x3, x4, x5, x6, x7]) rfl ?_
  have hp := HP4.out
  have he6 := E6.out
  exact Gives.of_ext (by (repeat (first | (with_reducible assumption) | (with_reducible exact Ext.refl _) | (with_reducible exact Ext.more _ _ _ _) | (with_reducible apply Ext.alloc) | (with_reducible apply Ext.patch) | (with_reducible apply Ext.drew) | (with_reducible apply Ext.drewN) | (with_reducible refine Ext.setCell ?_ (by first | assumption | exact Nat.le_refl _ | exact Nat.le_add_right _ _) _))))
set_option maxRecDepth 100000 in
theorem sentinel_beside (kind n at_ : Int) (A : Option Addr) (cap gn : Nat) (got : List Int) (w : World) (hg : CellsAt w A (got.map (Value.int .i64))) (hgl : got.length = gn) (h2 : 1 < gn) :
    Calls Try.prog 52 #[.int .i64 kind, .int .i64 n, .int .i64 2, .slice A gn cap, .int .i64 at_] w (Gives (.agg #[wNone, wHead kind 0, wWhole n, wWhole 2, wRef (got.getD 1 0), wZero, wZero, wZero]) w) := by
  obtain ⟨p1, q1, e1⟩ := wHead_cx kind 0
  obtain ⟨p2, q2, e2⟩ := wWhole_cx n
  obtain ⟨p3, q3, e3⟩ := wWhole_cx 2
  obtain ⟨gq, go, rfl, hgq, hgc⟩ := ints_at hg (k := 1) (by rw [hgl]; exact h2)
  have HGC := Lib.hid (And.intro hgq (hgc 1 (by rw [hgl]; exact h2)))
  generalize got.getD 1 0 = y at *
  obtain ⟨p4, q4, e4⟩ := wRef_cx y
  have HNO := Lib.hid (fun w => (show Calls Try.prog 33 #[] w (Gives (.complex .f64 0 4607182418800017408) w) from none_any w))
  have HHD := Lib.hid (fun w => e1 ▸ head_any kind 0 w)
  have HN := Lib.hid (fun w => e2 ▸ whole_any n w)
  have HM := Lib.hid (fun w => e3 ▸ whole_any 2 w)
  have HA := Lib.hid (fun w => e4 ▸ ref_any y w)
  rw [e1, e2, e3, e4]
  have hi2 : (1 : Int) < gn := by omega
  clear e1 e2 e3 e4 hg hgc hgl hgq
  unfold wNone wZero
  go_enter Try.func52, Try.ntmps52
  go_wp2_with fail
  refine (HNO.out _).mono ?_
  rintro e w1 ⟨rfl, hX1⟩
  have E1 := Lib.hid (show Ext _ w1 from hX1)
  have B0 := Lib.hid (Blk.new ⟨fun _ => 0, w⟩ 9 74 [wZero, wZero, wZero, wZero, wZero, wZero, wZero, wZero])
  clear hX1
  go_wp2_with fail
  refine (HHD.out _).mono ?_
  rintro e w2 ⟨rfl, hX2⟩
  have E2 := Lib.hid (E1.out.trans (show Ext _ w2 from hX2))
  clear hX2
  go_wp2_with fail
  refine (HN.out _).mono ?_
  rintro e w3 ⟨rfl, hX3⟩
  have E3 := Lib.hid (E2.out.trans (show Ext _ w3 from hX3))
  clear hX3
  go_wp2_with fail
  refine (HM.out _).mono ?_
  rintro e w4 ⟨rfl, hX4⟩
  have E4 := Lib.hid (E3.out.trans (show Ext _ w4 from hX4))
  clear hX4
  have gcl := Nat.lt_of_lt_of_le HGC.out.1 (show Ext w w4 from (show Ext w _ by (repeat (first | (with_reducible assumption) | (with_reducible exact Ext.refl _) | (with_reducible exact Ext.more _ _ _ _) | apply Ext.alloc | refine Ext.setCell ?_ (by first | exact Nat.le_refl _ | exact Nat.le_add_right _ _ | assumption) _ | apply Ext.patch | apply Ext.drew | apply Ext.drewN))).trans E4.out).size
  have gc1 := ((show Ext w w4 from (show Ext w _ by (repeat (first | (with_reducible assumption) | (with_reducible exact Ext.refl _) | (with_reducible exact Ext.more _ _ _ _) | apply Ext.alloc | refine Ext.setCell ?_ (by first | exact Nat.le_refl _ | exact Nat.le_add_right _ _ | assumption) _ | apply Ext.patch | apply Ext.drew | apply Ext.drewN))).trans E4.out).cell HGC.out.1).trans HGC.out.2
  obtain ⟨own4, m4, b4⟩ := Blk.past (own1 := ((⟨fun _ => 0, w⟩ : GW).to 9 (w.alloc (.cells #[wZero, wZero, wZero, wZero, wZero, wZero, wZero, wZero] 74))).own) B0.out E4.out
  obtain ⟨own5, m5, q5⟩ : ∃ own5, Mod (fun _ => False) ⟨own4, w4⟩ ⟨own5, w4.alloc (.cells #[.complex .f64 0 4607182418800017408, .complex .f64 p1 q1, .complex .f64 p2 q2, .complex .f64 p3 q3, .complex .f64 0 0, .complex .f64 0 0, .complex .f64 0 0, .complex .f64 0 0] 74)⟩ ∧ Blk ⟨own5, w4.alloc (.cells #[.complex .f64 0 4607182418800017408, .complex .f64 p1 q1, .complex .f64 p2 q2, .complex .f64 p3 q3, .complex .f64 0 0, .complex .f64 0 0, .complex .f64 0 0, .complex .f64 0 0] 74)⟩ 8 w4.heap.size 74 [.complex .f64 0 4607182418800017408, .complex .f64 p1 q1, .complex .f64 p2 q2, .complex .f64 p3 q3, .complex .f64 0 0, .complex .f64 0 0, .complex .f64 0 0, .complex .f64 0 0] := ⟨_, Mod.ext (g := ⟨own4, w4⟩) (by (repeat (first | (with_reducible assumption) | (with_reducible exact Ext.refl _) | (with_reducible exact Ext.more _ _ _ _) | apply Ext.alloc | refine Ext.setCell ?_ (by first | exact Nat.le_refl _ | exact Nat.le_add_right _ _ | assumption) _ | apply Ext.patch | apply Ext.drew | apply Ext.drewN))) 8, Blk.new ⟨own4, w4⟩ 8 74 [.complex .f64 0 4607182418800017408, .complex .f64 p1 q1, .complex .f64 p2 q2, .complex .f64 p3 q3, .complex .f64 0 0, .complex .f64 0 0, .complex .f64 0 0, .complex .f64 0 0]⟩
  have B5 := Lib.hid (b4.keep m5 id)
  have Q5 := Lib.hid q5
  have EE := Lib.hid (show Ext w w4 from (show Ext w _ by (repeat (first | (with_reducible assumption) | (with_reducible exact Ext.refl _) | (with_reducible exact Ext.more _ _ _ _) | apply Ext.alloc | refine Ext.setCell ?_ (by first | exact Nat.le_refl _ | exact Nat.le_add_right _ _ | assumption) _ | apply Ext.patch | apply Ext.drew | apply Ext.drewN))).trans E4.out)
  clear m4 b4 m5 q5
  go_wp2_with fail
  generalize hpw : w4.heap.size = pw at *
  have HP4 := Lib.hid (show w.heap.size ≤ pw by rw [← hpw]; exact EE.out.size)
  have EW := Lib.hid (EE.out.trans (show Ext w4 (w4.alloc (.cells #[.complex .f64 0 4607182418800017408, .complex .f64 p1 q1, .complex .f64 p2 q2, .complex .f64 p3 q3, .complex .f64 0 0, .complex .f64 0 0, .complex .f64 0 0, .complex .f64 0 0] 74)) by (repeat (first | (with_reducible assumption) | (with_reducible exact Ext.refl _) | (with_reducible exact Ext.more _ _ _ _) | apply Ext.alloc | refine Ext.setCell ?_ (by first | exact Nat.le_refl _ | exact Nat.le_add_right _ _ | assumption) _ | apply Ext.patch | apply Ext.drew | apply Ext.drewN))))
  clear hpw
  generalize w4.alloc (.cells #[.complex .f64 0 4607182418800017408, .complex .f64 p1 q1, .complex .f64 p2 q2, .complex .f64 p3 q3, .complex .f64 0 0, .complex .f64 0 0, .complex .f64 0 0, .complex .f64 0 0] 74) = w5 at *
  refine (HA.out _).mono ?_
  rintro e w6 ⟨rfl, hX⟩
  obtain ⟨own6, m6⟩ := mod_of (show Ext w5 w6 from hX) own5
  have B6 := Lib.hid (B5.out.keep m6 id)
  have Q6 := Lib.hid (Q5.out.keep m6 id)
  have E6 := Lib.hid (EW.out.trans (show Ext w5 w6 from hX))
  have hne : pw ≠ w.heap.size := Q6.out.ne B6.out (by decide)
  have hne2 : ¬ w.heap.size = pw := fun e => hne e.symm
  clear hX m6 B5 Q5 EW EE
  have x0 := B6.out.cell (i := 0) rfl
  have x1 := B6.out.cell (i := 1) rfl
  have x2 := B6.out.cell (i := 2) rfl
  have x3 := B6.out.cell (i := 3) rfl
  have x4 := B6.out.cell (i := 4) rfl
  have x5 := B6.out.cell (i := 5) rfl
  have x6 := B6.out.cell (i := 6) rfl
  have x7 := B6.out.cell (i := 7) rfl
  have xf0 := B6.out.live 0
  have xf1 := B6.out.live 1
  have xf2 := B6.out.live 2
  have xf3 := B6.out.live 3
  have xf4 := B6.out.live 4
  have xf5 := B6.out.live 5
  have xf6 := B6.out.live 6
  have xf7 := B6.out.live 7
  have xl := B6.out.lt
  (try simp only [GW.to] at x0 x1 x2 x3 x4 x5 x6 x7 xf0 xf1 xf2 xf3 xf4 xf5 xf6 xf7 xl)
  have y0 := Q6.out.cell (i := 0) rfl
  have y1 := Q6.out.cell (i := 1) rfl
  have y2 := Q6.out.cell (i := 2) rfl
  have y3 := Q6.out.cell (i := 3) rfl
  have y4 := Q6.out.cell (i := 4) rfl
  have y5 := Q6.out.cell (i := 5) rfl
  have y6 := Q6.out.cell (i := 6) rfl
  have y7 := Q6.out.cell (i := 7) rfl
  have yf4 := Q6.out.live 4
  have yl := Q6.out.lt
  (try simp only [GW.to] at y0 y1 y2 y3 y4 y5 y6 y7 yf4 yl)
  go_wp2_with fail
  refine bodyPost_ret (v := .agg #[.complex .f64 0 4607182418800017408, .complex .f64 p1 q1, .complex .f64 p2 q2, .complex .f64 p3 q3, .complex .f64 p4 q4, .complex .f64 0 0, .complex .f64 0 0, .complex .f64 0 0]) (by simp [results, Try.results52, go_sem, x0, x1, x2, x3, x4, x5, x6, x7]) rfl ?_
  have hp := HP4.out
  have he6 := E6.out
  exact Gives.of_ext (by (repeat (first | (with_reducible assumption) | (with_reducible exact Ext.refl _) | (with_reducible exact Ext.more _ _ _ _) | (with_reducible apply Ext.alloc) | (with_reducible apply Ext.patch) | (with_reducible apply Ext.drew) | (with_reducible apply Ext.drewN) | (with_reducible refine Ext.setCell ?_ (by first | assumption | exact Nat.le_refl _ | exact Nat.le_add_right _ _) _))))
/-- The words behind j rounds. -/
def sentTo (p1 q1 p2 q2 p3 q3 : Nat) (got : List Int) : Nat → List Value
  | 0 => [.complex .f64 0 4607182418800017408, .complex .f64 p1 q1, .complex .f64 p2 q2, .complex .f64 p3 q3, .complex .f64 0 0, .complex .f64 0 0, .complex .f64 0 0, .complex .f64 0 0]
  | 1 => [.complex .f64 0 4607182418800017408, .complex .f64 p1 q1, .complex .f64 p2 q2, .complex .f64 p3 q3, sentIn got 0, .complex .f64 0 0, .complex .f64 0 0, .complex .f64 0 0]
  | 2 => [.complex .f64 0 4607182418800017408, .complex .f64 p1 q1, .complex .f64 p2 q2, .complex .f64 p3 q3, sentIn got 0, sentIn got 1, .complex .f64 0 0, .complex .f64 0 0]
  | 3 => [.complex .f64 0 4607182418800017408, .complex .f64 p1 q1, .complex .f64 p2 q2, .complex .f64 p3 q3, sentIn got 0, sentIn got 1, sentIn got 2, .complex .f64 0 0]
  | _ => [.complex .f64 0 4607182418800017408, .complex .f64 p1 q1, .complex .f64 p2 q2, .complex .f64 p3 q3, sentIn got 0, sentIn got 1, sentIn got 2, sentIn got 3]
theorem sentIn_cx (got : List Int) (j : Nat) : ∃ p q, sentIn got j = .complex .f64 p q := by
  unfold sentIn
  split
  · exact wRef_cx _
  · exact ⟨_, _, rfl⟩
set_option maxRecDepth 100000 in
theorem sentinel_inline (kind n at_ : Int) (A : Option Addr) (cap gn : Nat) (got : List Int) (w : World) (hg : CellsAt w A (got.map (Value.int .i64))) (hgl : got.length = gn) (hgm : gn ≤ 9223372036854775807) :
    Calls Try.prog 52 #[.int .i64 kind, .int .i64 n, .int .i64 0, .slice A gn cap, .int .i64 at_] w (Gives (.agg #[wNone, wHead kind 0, wWhole n, wWhole 0, sentIn got 0, sentIn got 1, sentIn got 2, sentIn got 3]) w) := by
  obtain ⟨p1, q1, e1⟩ := wHead_cx kind 0
  obtain ⟨p2, q2, e2⟩ := wWhole_cx n
  obtain ⟨p3, q3, e3⟩ := wWhole_cx 0
  have HNO := Lib.hid (fun w => (show Calls Try.prog 33 #[] w (Gives (.complex .f64 0 4607182418800017408) w) from none_any w))
  have HHD := Lib.hid (fun w => e1 ▸ head_any kind 0 w)
  have HN := Lib.hid (fun w => e2 ▸ whole_any n w)
  have HM := Lib.hid (fun w => e3 ▸ whole_any 0 w)
  have HG := Lib.hid hg
  have HGL := Lib.hid hgl
  rw [e1, e2, e3]
  clear e1 e2 e3 hg hgl
  unfold wNone
  go_enter Try.func52, Try.ntmps52
  go_wp2_with fail
  refine (HNO.out _).mono ?_
  rintro e w1 ⟨rfl, hX1⟩
  have E1 := Lib.hid (show Ext _ w1 from hX1)
  have B0 := Lib.hid (Blk.new ⟨fun _ => 0, w⟩ 9 74 [wZero, wZero, wZero, wZero, wZero, wZero, wZero, wZero])
  clear hX1
  go_wp2_with fail
  refine (HHD.out _).mono ?_
  rintro e w2 ⟨rfl, hX2⟩
  have E2 := Lib.hid (E1.out.trans (show Ext _ w2 from hX2))
  clear hX2
  go_wp2_with fail
  refine (HN.out _).mono ?_
  rintro e w3 ⟨rfl, hX3⟩
  have E3 := Lib.hid (E2.out.trans (show Ext _ w3 from hX3))
  clear hX3
  go_wp2_with fail
  refine (HM.out _).mono ?_
  rintro e w4 ⟨rfl, hX4⟩
  have E4 := Lib.hid (E3.out.trans (show Ext _ w4 from hX4))
  clear hX4
  obtain ⟨own4, m4, b4⟩ := Blk.past (own1 := ((⟨fun _ => 0, w⟩ : GW).to 9 (w.alloc (.cells #[wZero, wZero, wZero, wZero, wZero, wZero, wZero, wZero] 74))).own) B0.out E4.out
  obtain ⟨own5, m5, q5⟩ : ∃ own5, Mod (fun _ => False) ⟨own4, w4⟩ ⟨own5, w4.alloc (.cells #[.complex .f64 0 4607182418800017408, .complex .f64 p1 q1, .complex .f64 p2 q2, .complex .f64 p3 q3, .complex .f64 0 0, .complex .f64 0 0, .complex .f64 0 0, .complex .f64 0 0] 74)⟩ ∧ Blk ⟨own5, w4.alloc (.cells #[.complex .f64 0 4607182418800017408, .complex .f64 p1 q1, .complex .f64 p2 q2, .complex .f64 p3 q3, .complex .f64 0 0, .complex .f64 0 0, .complex .f64 0 0, .complex .f64 0 0] 74)⟩ 8 w4.heap.size 74 [.complex .f64 0 4607182418800017408, .complex .f64 p1 q1, .complex .f64 p2 q2, .complex .f64 p3 q3, .complex .f64 0 0, .complex .f64 0 0, .complex .f64 0 0, .complex .f64 0 0] := ⟨_, Mod.ext (g := ⟨own4, w4⟩) (by (repeat (first | (with_reducible assumption) | (with_reducible exact Ext.refl _) | (with_reducible exact Ext.more _ _ _ _) | apply Ext.alloc | refine Ext.setCell ?_ (by first | exact Nat.le_refl _ | exact Nat.le_add_right _ _ | assumption) _ | apply Ext.patch | apply Ext.drew | apply Ext.drewN))) 8, Blk.new ⟨own4, w4⟩ 8 74 [.complex .f64 0 4607182418800017408, .complex .f64 p1 q1, .complex .f64 p2 q2, .complex .f64 p3 q3, .complex .f64 0 0, .complex .f64 0 0, .complex .f64 0 0, .complex .f64 0 0]⟩
  have B5 := Lib.hid (b4.keep m5 id)
  have Q5 := Lib.hid q5
  have EE := Lib.hid (show Ext w w4 from (show Ext w _ by (repeat (first | (with_reducible assumption) | (with_reducible exact Ext.refl _) | (with_reducible exact Ext.more _ _ _ _) | apply Ext.alloc | refine Ext.setCell ?_ (by first | exact Nat.le_refl _ | exact Nat.le_add_right _ _ | assumption) _ | apply Ext.patch | apply Ext.drew | apply Ext.drewN))).trans E4.out)
  clear m4 b4 m5 q5
  go_wp2_with fail
  generalize hpw : w4.heap.size = pw at *
  have HP4 := Lib.hid (show w.heap.size ≤ pw by rw [← hpw]; exact EE.out.size)
  have EW := Lib.hid (EE.out.trans (show Ext w4 (w4.alloc (.cells #[.complex .f64 0 4607182418800017408, .complex .f64 p1 q1, .complex .f64 p2 q2, .complex .f64 p3 q3, .complex .f64 0 0, .complex .f64 0 0, .complex .f64 0 0, .complex .f64 0 0] 74)) by (repeat (first | (with_reducible assumption) | (with_reducible exact Ext.refl _) | (with_reducible exact Ext.more _ _ _ _) | apply Ext.alloc | refine Ext.setCell ?_ (by first | exact Nat.le_refl _ | exact Nat.le_add_right _ _ | assumption) _ | apply Ext.patch | apply Ext.drew | apply Ext.drewN))))
  clear hpw
  generalize w4.alloc (.cells #[.complex .f64 0 4607182418800017408, .complex .f64 p1 q1, .complex .f64 p2 q2, .complex .f64 p3 q3, .complex .f64 0 0, .complex .f64 0 0, .complex .f64 0 0, .complex .f64 0 0] 74) = w5 at *
  have B6 := Lib.hid B5.out
  have hne : pw ≠ w.heap.size := Q5.out.ne B6.out (by decide)
  have hne2 : ¬ w.heap.size = pw := fun e => hne e.symm
  go_loopw [24] (fun i wr => ∃ (j : Nat) (own : Nat → Nat), j ≤ 4 ∧ i = .int .i64 j ∧ Hid (Blk ⟨own, wr⟩ 9 w.heap.size 74 [wZero, wZero, wZero, wZero, wZero, wZero, wZero, wZero]) ∧ Hid (Blk ⟨own, wr⟩ 8 pw 74 (sentTo p1 q1 p2 q2 p3 q3 got j)) ∧ Hid (Ext w wr)) (fun i _ => 4 - (intOf i).toNat)
  case atStart => exact ⟨0, own5, Nat.zero_le _, rfl, B5, Q5, EW⟩
  case round =>
    obtain ⟨j, own7, hj, rfl, B7, Q7, E7⟩ := hrel
    obtain ⟨w7, rfl⟩ : ∃ w7 : World, w7 = wr := ⟨_, rfl⟩
    clear B5 Q5 EW B6 EE
    by_cases hlj : j < 4
    · rcases (show j = 0 ∨ j = 1 ∨ j = 2 ∨ j = 3 by omega) with rfl | rfl | rfl | rfl
      · rw [show ((0 : Nat) : Int) = 0 from rfl]
        have y0 := Q7.out.cell (i := 0) rfl
        have y1 := Q7.out.cell (i := 1) rfl
        have y2 := Q7.out.cell (i := 2) rfl
        have y3 := Q7.out.cell (i := 3) rfl
        have y4 := Q7.out.cell (i := 4) rfl
        have y5 := Q7.out.cell (i := 5) rfl
        have y6 := Q7.out.cell (i := 6) rfl
        have y7 := Q7.out.cell (i := 7) rfl
        have yf4 := Q7.out.live 4
        have yl := Q7.out.lt
        (try simp only [GW.to] at y0 y1 y2 y3 y4 y5 y6 y7 yf4 yl)
        have HNX := Lib.hid (fun w => (show Calls Try.prog 33 #[] w (Gives (.complex .f64 0 4607182418800017408) w) from none_any w))
        go_wp2_with fail
        refine (HNX.out _).mono ?_
        rintro e w8 ⟨rfl, hX⟩
        obtain ⟨own8, m8⟩ := mod_of (show Ext w7 w8 from hX) own7
        have B8 := Lib.hid (B7.out.keep m8 id)
        have Q8 := Lib.hid (Q7.out.keep m8 id)
        have E8 := Lib.hid (E7.out.trans (show Ext w7 w8 from hX))
        clear hX m8 y0 y1 y2 y3 y4 y5 y6 y7 yf4 yl B7 Q7 E7
        have y0 := Q8.out.cell (i := 0) rfl
        have y1 := Q8.out.cell (i := 1) rfl
        have y2 := Q8.out.cell (i := 2) rfl
        have y3 := Q8.out.cell (i := 3) rfl
        have y4 := Q8.out.cell (i := 4) rfl
        have y5 := Q8.out.cell (i := 5) rfl
        have y6 := Q8.out.cell (i := 6) rfl
        have y7 := Q8.out.cell (i := 7) rfl
        have yf4 := Q8.out.live 4
        have yl := Q8.out.lt
        (try simp only [GW.to] at y0 y1 y2 y3 y4 y5 y6 y7 yf4 yl)
        by_cases hg1 : 1 < gn
        · obtain ⟨r1, r2, re⟩ := wRef_cx (got.getD 1 0)
          have HRF := Lib.hid (fun w => re ▸ ref_any (got.getD 1 0) w)
          have HV := Lib.hid (show sentIn got 0 = .complex .f64 r1 r2 by unfold sentIn; rw [if_pos (by rw [HGL.out]; exact hg1), re])
          obtain ⟨gq, go, hA, hgq, hgc⟩ := ints_at HG.out (k := 1) (by rw [HGL.out]; exact hg1)
          have hgx := (E8.out.cell hgq).trans (hgc 1 (by rw [HGL.out]; exact hg1))
          have hgl2 := Nat.lt_of_lt_of_le hgq E8.out.size
          have hi1 : (1 : Int) < gn := by omega
          have hgp : gq ≠ pw := by have := HP4.out; omega
          have hgp2 : ¬ pw = gq := fun e => hgp e.symm
          subst hA
          generalize got.getD 1 0 = yv at *
          clear hgq hgc re
          go_wp2_with fail
          refine (HRF.out _).mono ?_
          rintro e w9 ⟨rfl, hX⟩
          obtain ⟨own9, m9⟩ := mod_of (show Ext (w8.setCell ⟨pw, 4, none⟩ (.complex .f64 0 4607182418800017408)) w9 from hX) own8
          have B9 := Lib.hid ((B8.out.setOther 4 (.complex .f64 0 4607182418800017408) hne).keep m9 id)
          have Q9 := Lib.hid ((Q8.out.set 4 (.complex .f64 0 4607182418800017408)).keep m9 id)
          have E9 := Lib.hid ((Ext.setCell E8.out HP4.out _).trans (show Ext (w8.setCell ⟨pw, 4, none⟩ (.complex .f64 0 4607182418800017408)) w9 from hX))
          clear hX m9 y0 y1 y2 y3 y4 y5 y6 y7 yf4 yl
          have y0 := Q9.out.cell (i := 0) rfl
          have y1 := Q9.out.cell (i := 1) rfl
          have y2 := Q9.out.cell (i := 2) rfl
          have y3 := Q9.out.cell (i := 3) rfl
          have y4 := Q9.out.cell (i := 4) rfl
          have y5 := Q9.out.cell (i := 5) rfl
          have y6 := Q9.out.cell (i := 6) rfl
          have y7 := Q9.out.cell (i := 7) rfl
          have yf4 := Q9.out.live 4
          have yl := Q9.out.lt
          (try simp only [GW.to] at y0 y1 y2 y3 y4 y5 y6 y7 yf4 yl)
          go_wp2_with fail
          go_roundw
          case rel => exact ⟨1, own9, by omega, rfl, Lib.hid (B9.out.setOther 4 (.complex .f64 r1 r2) hne), Lib.hid (by have := Q9.out.set 4 (.complex .f64 r1 r2); rw [← HV.out] at this ⊢; exact this), Lib.hid (Ext.setCell E9.out HP4.out _)⟩
          case measure => simp [intOf]
        · have HV := Lib.hid (show sentIn got 0 = .complex .f64 0 4607182418800017408 by unfold sentIn; rw [if_neg (by rw [HGL.out]; exact hg1)]; rfl)
          have hi1 : ¬ (1 : Int) < gn := by omega
          clear hg1
          go_wp2_with fail
          go_roundw
          case rel => exact ⟨1, own8, by omega, rfl, Lib.hid (B8.out.setOther 4 (.complex .f64 0 4607182418800017408) hne), Lib.hid (by have := Q8.out.set 4 (.complex .f64 0 4607182418800017408); rw [← HV.out] at this ⊢; exact this), Lib.hid (Ext.setCell E8.out HP4.out _)⟩
          case measure => simp [intOf]
      · rw [show ((1 : Nat) : Int) = 1 from rfl]
        have y0 := Q7.out.cell (i := 0) rfl
        have y1 := Q7.out.cell (i := 1) rfl
        have y2 := Q7.out.cell (i := 2) rfl
        have y3 := Q7.out.cell (i := 3) rfl
        have y4 := Q7.out.cell (i := 4) rfl
        have y5 := Q7.out.cell (i := 5) rfl
        have y6 := Q7.out.cell (i := 6) rfl
        have y7 := Q7.out.cell (i := 7) rfl
        have yf5 := Q7.out.live 5
        have yl := Q7.out.lt
        (try simp only [GW.to] at y0 y1 y2 y3 y4 y5 y6 y7 yf5 yl)
        have HNX := Lib.hid (fun w => (show Calls Try.prog 33 #[] w (Gives (.complex .f64 0 4607182418800017408) w) from none_any w))
        go_wp2_with fail
        refine (HNX.out _).mono ?_
        rintro e w8 ⟨rfl, hX⟩
        obtain ⟨own8, m8⟩ := mod_of (show Ext w7 w8 from hX) own7
        have B8 := Lib.hid (B7.out.keep m8 id)
        have Q8 := Lib.hid (Q7.out.keep m8 id)
        have E8 := Lib.hid (E7.out.trans (show Ext w7 w8 from hX))
        clear hX m8 y0 y1 y2 y3 y4 y5 y6 y7 yf5 yl B7 Q7 E7
        have y0 := Q8.out.cell (i := 0) rfl
        have y1 := Q8.out.cell (i := 1) rfl
        have y2 := Q8.out.cell (i := 2) rfl
        have y3 := Q8.out.cell (i := 3) rfl
        have y4 := Q8.out.cell (i := 4) rfl
        have y5 := Q8.out.cell (i := 5) rfl
        have y6 := Q8.out.cell (i := 6) rfl
        have y7 := Q8.out.cell (i := 7) rfl
        have yf5 := Q8.out.live 5
        have yl := Q8.out.lt
        (try simp only [GW.to] at y0 y1 y2 y3 y4 y5 y6 y7 yf5 yl)
        by_cases hg1 : 2 < gn
        · obtain ⟨r1, r2, re⟩ := wRef_cx (got.getD 2 0)
          have HRF := Lib.hid (fun w => re ▸ ref_any (got.getD 2 0) w)
          have HV := Lib.hid (show sentIn got 1 = .complex .f64 r1 r2 by unfold sentIn; rw [if_pos (by rw [HGL.out]; exact hg1), re])
          obtain ⟨gq, go, hA, hgq, hgc⟩ := ints_at HG.out (k := 2) (by rw [HGL.out]; exact hg1)
          have hgx := (E8.out.cell hgq).trans (hgc 2 (by rw [HGL.out]; exact hg1))
          have hgl2 := Nat.lt_of_lt_of_le hgq E8.out.size
          have hi1 : (2 : Int) < gn := by omega
          have hgp : gq ≠ pw := by have := HP4.out; omega
          have hgp2 : ¬ pw = gq := fun e => hgp e.symm
          subst hA
          generalize got.getD 2 0 = yv at *
          clear hgq hgc re
          go_wp2_with fail
          refine (HRF.out _).mono ?_
          rintro e w9 ⟨rfl, hX⟩
          obtain ⟨own9, m9⟩ := mod_of (show Ext (w8.setCell ⟨pw, 5, none⟩ (.complex .f64 0 4607182418800017408)) w9 from hX) own8
          have B9 := Lib.hid ((B8.out.setOther 5 (.complex .f64 0 4607182418800017408) hne).keep m9 id)
          have Q9 := Lib.hid ((Q8.out.set 5 (.complex .f64 0 4607182418800017408)).keep m9 id)
          have E9 := Lib.hid ((Ext.setCell E8.out HP4.out _).trans (show Ext (w8.setCell ⟨pw, 5, none⟩ (.complex .f64 0 4607182418800017408)) w9 from hX))
          clear hX m9 y0 y1 y2 y3 y4 y5 y6 y7 yf5 yl
          have y0 := Q9.out.cell (i := 0) rfl
          have y1 := Q9.out.cell (i := 1) rfl
          have y2 := Q9.out.cell (i := 2) rfl
          have y3 := Q9.out.cell (i := 3) rfl
          have y4 := Q9.out.cell (i := 4) rfl
          have y5 := Q9.out.cell (i := 5) rfl
          have y6 := Q9.out.cell (i := 6) rfl
          have y7 := Q9.out.cell (i := 7) rfl
          have yf5 := Q9.out.live 5
          have yl := Q9.out.lt
          (try simp only [GW.to] at y0 y1 y2 y3 y4 y5 y6 y7 yf5 yl)
          go_wp2_with fail
          go_roundw
          case rel => exact ⟨2, own9, by omega, rfl, Lib.hid (B9.out.setOther 5 (.complex .f64 r1 r2) hne), Lib.hid (by have := Q9.out.set 5 (.complex .f64 r1 r2); rw [← HV.out] at this ⊢; exact this), Lib.hid (Ext.setCell E9.out HP4.out _)⟩
          case measure => simp [intOf]
        · have HV := Lib.hid (show sentIn got 1 = .complex .f64 0 4607182418800017408 by unfold sentIn; rw [if_neg (by rw [HGL.out]; exact hg1)]; rfl)
          have hi1 : ¬ (2 : Int) < gn := by omega
          clear hg1
          go_wp2_with fail
          go_roundw
          case rel => exact ⟨2, own8, by omega, rfl, Lib.hid (B8.out.setOther 5 (.complex .f64 0 4607182418800017408) hne), Lib.hid (by have := Q8.out.set 5 (.complex .f64 0 4607182418800017408); rw [← HV.out] at this ⊢; exact this), Lib.hid (Ext.setCell E8.out HP4.out _)⟩
          case measure => simp [intOf]
      · rw [show ((2 : Nat) : Int) = 2 from rfl]
        have y0 := Q7.out.cell (i := 0) rfl
        have y1 := Q7.out.cell (i := 1) rfl
        have y2 := Q7.out.cell (i := 2) rfl
        have y3 := Q7.out.cell (i := 3) rfl
        have y4 := Q7.out.cell (i := 4) rfl
        have y5 := Q7.out.cell (i := 5) rfl
        have y6 := Q7.out.cell (i := 6) rfl
        have y7 := Q7.out.cell (i := 7) rfl
        have yf6 := Q7.out.live 6
        have yl := Q7.out.lt
        (try simp only [GW.to] at y0 y1 y2 y3 y4 y5 y6 y7 yf6 yl)
        have HNX := Lib.hid (fun w => (show Calls Try.prog 33 #[] w (Gives (.complex .f64 0 4607182418800017408) w) from none_any w))
        go_wp2_with fail
        refine (HNX.out _).mono ?_
        rintro e w8 ⟨rfl, hX⟩
        obtain ⟨own8, m8⟩ := mod_of (show Ext w7 w8 from hX) own7
        have B8 := Lib.hid (B7.out.keep m8 id)
        have Q8 := Lib.hid (Q7.out.keep m8 id)
        have E8 := Lib.hid (E7.out.trans (show Ext w7 w8 from hX))
        clear hX m8 y0 y1 y2 y3 y4 y5 y6 y7 yf6 yl B7 Q7 E7
        have y0 := Q8.out.cell (i := 0) rfl
        have y1 := Q8.out.cell (i := 1) rfl
        have y2 := Q8.out.cell (i := 2) rfl
        have y3 := Q8.out.cell (i := 3) rfl
        have y4 := Q8.out.cell (i := 4) rfl
        have y5 := Q8.out.cell (i := 5) rfl
        have y6 := Q8.out.cell (i := 6) rfl
        have y7 := Q8.out.cell (i := 7) rfl
        have yf6 := Q8.out.live 6
        have yl := Q8.out.lt
        (try simp only [GW.to] at y0 y1 y2 y3 y4 y5 y6 y7 yf6 yl)
        by_cases hg1 : 3 < gn
        · obtain ⟨r1, r2, re⟩ := wRef_cx (got.getD 3 0)
          have HRF := Lib.hid (fun w => re ▸ ref_any (got.getD 3 0) w)
          have HV := Lib.hid (show sentIn got 2 = .complex .f64 r1 r2 by unfold sentIn; rw [if_pos (by rw [HGL.out]; exact hg1), re])
          obtain ⟨gq, go, hA, hgq, hgc⟩ := ints_at HG.out (k := 3) (by rw [HGL.out]; exact hg1)
          have hgx := (E8.out.cell hgq).trans (hgc 3 (by rw [HGL.out]; exact hg1))
          have hgl2 := Nat.lt_of_lt_of_le hgq E8.out.size
          have hi1 : (3 : Int) < gn := by omega
          have hgp : gq ≠ pw := by have := HP4.out; omega
          have hgp2 : ¬ pw = gq := fun e => hgp e.symm
          subst hA
          generalize got.getD 3 0 = yv at *
          clear hgq hgc re
          go_wp2_with fail
          refine (HRF.out _).mono ?_
          rintro e w9 ⟨rfl, hX⟩
          obtain ⟨own9, m9⟩ := mod_of (show Ext (w8.setCell ⟨pw, 6, none⟩ (.complex .f64 0 4607182418800017408)) w9 from hX) own8
          have B9 := Lib.hid ((B8.out.setOther 6 (.complex .f64 0 4607182418800017408) hne).keep m9 id)
          have Q9 := Lib.hid ((Q8.out.set 6 (.complex .f64 0 4607182418800017408)).keep m9 id)
          have E9 := Lib.hid ((Ext.setCell E8.out HP4.out _).trans (show Ext (w8.setCell ⟨pw, 6, none⟩ (.complex .f64 0 4607182418800017408)) w9 from hX))
          clear hX m9 y0 y1 y2 y3 y4 y5 y6 y7 yf6 yl
          have y0 := Q9.out.cell (i := 0) rfl
          have y1 := Q9.out.cell (i := 1) rfl
          have y2 := Q9.out.cell (i := 2) rfl
          have y3 := Q9.out.cell (i := 3) rfl
          have y4 := Q9.out.cell (i := 4) rfl
          have y5 := Q9.out.cell (i := 5) rfl
          have y6 := Q9.out.cell (i := 6) rfl
          have y7 := Q9.out.cell (i := 7) rfl
          have yf6 := Q9.out.live 6
          have yl := Q9.out.lt
          (try simp only [GW.to] at y0 y1 y2 y3 y4 y5 y6 y7 yf6 yl)
          go_wp2_with fail
          go_roundw
          case rel => exact ⟨3, own9, by omega, rfl, Lib.hid (B9.out.setOther 6 (.complex .f64 r1 r2) hne), Lib.hid (by have := Q9.out.set 6 (.complex .f64 r1 r2); rw [← HV.out] at this ⊢; exact this), Lib.hid (Ext.setCell E9.out HP4.out _)⟩
          case measure => simp [intOf]
        · have HV := Lib.hid (show sentIn got 2 = .complex .f64 0 4607182418800017408 by unfold sentIn; rw [if_neg (by rw [HGL.out]; exact hg1)]; rfl)
          have hi1 : ¬ (3 : Int) < gn := by omega
          clear hg1
          go_wp2_with fail
          go_roundw
          case rel => exact ⟨3, own8, by omega, rfl, Lib.hid (B8.out.setOther 6 (.complex .f64 0 4607182418800017408) hne), Lib.hid (by have := Q8.out.set 6 (.complex .f64 0 4607182418800017408); rw [← HV.out] at this ⊢; exact this), Lib.hid (Ext.setCell E8.out HP4.out _)⟩
          case measure => simp [intOf]
      · rw [show ((3 : Nat) : Int) = 3 from rfl]
        have y0 := Q7.out.cell (i := 0) rfl
        have y1 := Q7.out.cell (i := 1) rfl
        have y2 := Q7.out.cell (i := 2) rfl
        have y3 := Q7.out.cell (i := 3) rfl
        have y4 := Q7.out.cell (i := 4) rfl
        have y5 := Q7.out.cell (i := 5) rfl
        have y6 := Q7.out.cell (i := 6) rfl
        have y7 := Q7.out.cell (i := 7) rfl
        have yf7 := Q7.out.live 7
        have yl := Q7.out.lt
        (try simp only [GW.to] at y0 y1 y2 y3 y4 y5 y6 y7 yf7 yl)
        have HNX := Lib.hid (fun w => (show Calls Try.prog 33 #[] w (Gives (.complex .f64 0 4607182418800017408) w) from none_any w))
        go_wp2_with fail
        refine (HNX.out _).mono ?_
        rintro e w8 ⟨rfl, hX⟩
        obtain ⟨own8, m8⟩ := mod_of (show Ext w7 w8 from hX) own7
        have B8 := Lib.hid (B7.out.keep m8 id)
        have Q8 := Lib.hid (Q7.out.keep m8 id)
        have E8 := Lib.hid (E7.out.trans (show Ext w7 w8 from hX))
        clear hX m8 y0 y1 y2 y3 y4 y5 y6 y7 yf7 yl B7 Q7 E7
        have y0 := Q8.out.cell (i := 0) rfl
        have y1 := Q8.out.cell (i := 1) rfl
        have y2 := Q8.out.cell (i := 2) rfl
        have y3 := Q8.out.cell (i := 3) rfl
        have y4 := Q8.out.cell (i := 4) rfl
        have y5 := Q8.out.cell (i := 5) rfl
        have y6 := Q8.out.cell (i := 6) rfl
        have y7 := Q8.out.cell (i := 7) rfl
        have yf7 := Q8.out.live 7
        have yl := Q8.out.lt
        (try simp only [GW.to] at y0 y1 y2 y3 y4 y5 y6 y7 yf7 yl)
        by_cases hg1 : 4 < gn
        · obtain ⟨r1, r2, re⟩ := wRef_cx (got.getD 4 0)
          have HRF := Lib.hid (fun w => re ▸ ref_any (got.getD 4 0) w)
          have HV := Lib.hid (show sentIn got 3 = .complex .f64 r1 r2 by unfold sentIn; rw [if_pos (by rw [HGL.out]; exact hg1), re])
          obtain ⟨gq, go, hA, hgq, hgc⟩ := ints_at HG.out (k := 4) (by rw [HGL.out]; exact hg1)
          have hgx := (E8.out.cell hgq).trans (hgc 4 (by rw [HGL.out]; exact hg1))
          have hgl2 := Nat.lt_of_lt_of_le hgq E8.out.size
          have hi1 : (4 : Int) < gn := by omega
          have hgp : gq ≠ pw := by have := HP4.out; omega
          have hgp2 : ¬ pw = gq := fun e => hgp e.symm
          subst hA
          generalize got.getD 4 0 = yv at *
          clear hgq hgc re
          go_wp2_with fail
          refine (HRF.out _).mono ?_
          rintro e w9 ⟨rfl, hX⟩
          obtain ⟨own9, m9⟩ := mod_of (show Ext (w8.setCell ⟨pw, 7, none⟩ (.complex .f64 0 4607182418800017408)) w9 from hX) own8
          have B9 := Lib.hid ((B8.out.setOther 7 (.complex .f64 0 4607182418800017408) hne).keep m9 id)
          have Q9 := Lib.hid ((Q8.out.set 7 (.complex .f64 0 4607182418800017408)).keep m9 id)
          have E9 := Lib.hid ((Ext.setCell E8.out HP4.out _).trans (show Ext (w8.setCell ⟨pw, 7, none⟩ (.complex .f64 0 4607182418800017408)) w9 from hX))
          clear hX m9 y0 y1 y2 y3 y4 y5 y6 y7 yf7 yl
          have y0 := Q9.out.cell (i := 0) rfl
          have y1 := Q9.out.cell (i := 1) rfl
          have y2 := Q9.out.cell (i := 2) rfl
          have y3 := Q9.out.cell (i := 3) rfl
          have y4 := Q9.out.cell (i := 4) rfl
          have y5 := Q9.out.cell (i := 5) rfl
          have y6 := Q9.out.cell (i := 6) rfl
          have y7 := Q9.out.cell (i := 7) rfl
          have yf7 := Q9.out.live 7
          have yl := Q9.out.lt
          (try simp only [GW.to] at y0 y1 y2 y3 y4 y5 y6 y7 yf7 yl)
          go_wp2_with fail
          go_roundw
          case rel => exact ⟨4, own9, by omega, rfl, Lib.hid (B9.out.setOther 7 (.complex .f64 r1 r2) hne), Lib.hid (by have := Q9.out.set 7 (.complex .f64 r1 r2); rw [← HV.out] at this ⊢; exact this), Lib.hid (Ext.setCell E9.out HP4.out _)⟩
          case measure => simp [intOf]
        · have HV := Lib.hid (show sentIn got 3 = .complex .f64 0 4607182418800017408 by unfold sentIn; rw [if_neg (by rw [HGL.out]; exact hg1)]; rfl)
          have hi1 : ¬ (4 : Int) < gn := by omega
          clear hg1
          go_wp2_with fail
          go_roundw
          case rel => exact ⟨4, own8, by omega, rfl, Lib.hid (B8.out.setOther 7 (.complex .f64 0 4607182418800017408) hne), Lib.hid (by have := Q8.out.set 7 (.complex .f64 0 4607182418800017408); rw [← HV.out] at this ⊢; exact this), Lib.hid (Ext.setCell E8.out HP4.out _)⟩
          case measure => simp [intOf]
    · obtain rfl : j = 4 := by omega
      rw [show ((4 : Nat) : Int) = 4 from rfl]
      obtain ⟨u0, v0, i0⟩ := sentIn_cx got 0
      obtain ⟨u1, v1, i1⟩ := sentIn_cx got 1
      obtain ⟨u2, v2, i2⟩ := sentIn_cx got 2
      obtain ⟨u3, v3, i3⟩ := sentIn_cx got 3
      have Q8 := Lib.hid (show Blk ⟨own7, w7⟩ 8 pw 74 [.complex .f64 0 4607182418800017408, .complex .f64 p1 q1, .complex .f64 p2 q2, .complex .f64 p3 q3, .complex .f64 u0 v0, .complex .f64 u1 v1, .complex .f64 u2 v2, .complex .f64 u3 v3] from by rw [← i0, ← i1, ← i2, ← i3]; exact Q7.out)
      have I0 := Lib.hid (And.intro i0 (And.intro i1 (And.intro i2 i3)))
      have E6 := E7
      clear i0 i1 i2 i3 Q7 hlj hj
      have x0 := B7.out.cell (i := 0) rfl
      have x1 := B7.out.cell (i := 1) rfl
      have x2 := B7.out.cell (i := 2) rfl
      have x3 := B7.out.cell (i := 3) rfl
      have x4 := B7.out.cell (i := 4) rfl
      have x5 := B7.out.cell (i := 5) rfl
      have x6 := B7.out.cell (i := 6) rfl
      have x7 := B7.out.cell (i := 7) rfl
      have xf0 := B7.out.live 0
      have xf1 := B7.out.live 1
      have xf2 := B7.out.live 2
      have xf3 := B7.out.live 3
      have xf4 := B7.out.live 4
      have xf5 := B7.out.live 5
      have xf6 := B7.out.live 6
      have xf7 := B7.out.live 7
      have xl := B7.out.lt
      (try simp only [GW.to] at x0 x1 x2 x3 x4 x5 x6 x7 xf0 xf1 xf2 xf3 xf4 xf5 xf6 xf7 xl)
      have y0 := Q8.out.cell (i := 0) rfl
      have y1 := Q8.out.cell (i := 1) rfl
      have y2 := Q8.out.cell (i := 2) rfl
      have y3 := Q8.out.cell (i := 3) rfl
      have y4 := Q8.out.cell (i := 4) rfl
      have y5 := Q8.out.cell (i := 5) rfl
      have y6 := Q8.out.cell (i := 6) rfl
      have y7 := Q8.out.cell (i := 7) rfl
      have yl := Q8.out.lt
      (try simp only [GW.to] at y0 y1 y2 y3 y4 y5 y6 y7 yl)
      go_wp2_with fail
      refine bodyPost_ret (v := .agg #[.complex .f64 0 4607182418800017408, .complex .f64 p1 q1, .complex .f64 p2 q2, .complex .f64 p3 q3, .complex .f64 u0 v0, .complex .f64 u1 v1, .complex .f64 u2 v2, .complex .f64 u3 v3]) (by simp [results, Try.results52, go_sem, x0, x1, x2, x3, x4, x5, x6, x7]) rfl ?_
      have hp := HP4.out
      have he6 := E6.out
      exact Gives.mk (by rw [I0.out.1, I0.out.2.1, I0.out.2.2.1, I0.out.2.2.2]) (by (repeat (first | (with_reducible assumption) | (with_reducible exact Ext.refl _) | (with_reducible exact Ext.more _ _ _ _) | (with_reducible apply Ext.alloc) | (with_reducible apply Ext.patch) | (with_reducible apply Ext.drew) | (with_reducible apply Ext.drewN) | (with_reducible refine Ext.setCell ?_ (by first | assumption | exact Nat.le_refl _ | exact Nat.le_add_right _ _) _))))
/-- plan.sentinel, whatever the mode. -/
theorem sentinel_any (kind n m at_ : Int) (A : Option Addr) (cap gn : Nat) (got : List Int) (w : World) (hg : CellsAt w A (got.map (Value.int .i64))) (hgl : got.length = gn) (hgm : gn ≤ 9223372036854775807) (hm : m = 0 ∨ m = 1 ∨ (m = 2 ∧ 1 < gn)) :
    Calls Try.prog 52 #[.int .i64 kind, .int .i64 n, .int .i64 m, .slice A gn cap, .int .i64 at_] w (Gives (.agg (sentWords kind n m got at_).toArray) w) := by
  rcases hm with rfl | rfl | ⟨rfl, h2⟩
  · exact sentinel_inline kind n at_ A cap gn got w hg hgl hgm
  · exact sentinel_spined kind n at_ A cap gn w
  · exact sentinel_beside kind n at_ A cap gn got w hg hgl h2
end Go.Proofs.Ythdijbkcjmeilaa
