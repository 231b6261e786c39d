/-
  Merged: XFindB, XFindE, XFindT.
-/
import Derived.Test.YtmgkfpmmlibmcaaFindF
import Derived.Test.YtmgkfpmmlibmcaaScope2
import Derived.Test.YtmgkfpmmlibmcaaShape
/-
  find: the steps.
-/
namespace Go.Proofs.Ytmgkfpmmlibmcaa
open Go Go.RowKit
set_option linter.unusedVariables false
set_option linter.unnecessarySimpa false
set_option linter.unusedSimpArgs false
set_option maxHeartbeats 4000000
set_option maxRecDepth 100000
/-- A word of a fragment that is there. -/
theorem find_read_ok (g : GW) (t b tm bm : Nat) (S : FindS) (m : MemS) (frag k : Int) (h : FindAt g t b S) (hm : MemAt g tm bm m) (hc : 0 ≤ m.count ∧ m.count ≤ 1099511627776) (hok : S.okAt frag k = true) (hin : inB (frag * 8 + k) m.l.length = true) (p q : Nat) (hw : m.peek (frag * 8 + k) = (p, q)) (ht : t ≠ tm) (ht1 : t + 1 ≠ tm) :
    Calls Try.prog 160 #[.pointer (some ⟨b, 0, none⟩), .pointer (some ⟨bm, 0, none⟩), .int .i64 frag, .int .i64 k] g.w (Does (.tuple #[.complex .f64 p q, .bool true]) g (fun x => x = tm) (fun g' => MemAt g' tm bm m.tick ∧ FindAt g' t b S)) := by
  refine (find_read g t b tm bm S m frag k h hm hc).mono ?_
  rintro e w' ⟨rfl, own, md, r⟩
  refine ⟨?_, own, md, ?_, h.keep md (fun e => ht e) (fun e => ht1 e)⟩
  · unfold rdV; rw [if_pos hok, hw, hin]
  · unfold rdM at r; rw [if_pos hok] at r; exact r
theorem find_begins_head (g : GW) (t b tm bm : Nat) (S S' : FindS) (m : MemS) (r : Bool) (p q : Nat) (h : FindAt g t b S) (hm : MemAt g tm bm m) (hc : 0 ≤ m.count ∧ m.count ≤ 1099511627776) (hpc : S.pc = 0) (hok : S.okAt S.head 1 = true) (hin : inB (S.head * 8 + 1) m.l.length = true) (hw : m.peek (S.head * 8 + 1) = (p, q)) (ht : t ≠ tm) (ht1 : t + 1 ≠ tm)
    (hF : ∀ g', FindAt g' t b S → Calls Try.prog 161 #[.pointer (some ⟨b, 0, none⟩), .complex .f64 p q] g'.w (Does (.bool r) g' (fun x => x = t) (fun g'' => FindAt g'' t b S'))) :
    Calls Try.prog 97 #[.pointer (some ⟨b, 0, none⟩), .pointer (some ⟨bm, 0, none⟩)] g.w (Does (.bool (!r)) g (fun x => x = t ∨ x = tm) (fun g' => FindAt g' t b S' ∧ MemAt g' tm bm m.tick)) := by
  have c0 := h.blk.cell (i := 12) rfl
  have c1 := h.blk.cell (i := 9) rfl
  have hl := h.blk.lt
  rw [hpc] at c0
  have HR := Lib.hid (find_read_ok g t b tm bm S m S.head 1 h hm hc hok hin p q hw ht ht1)
  have HF := Lib.hid hF
  have HT := Lib.hid ht
  clear h hm hpc hok hin hw hF ht ht1
  go_enter Try.func97, Try.ntmps97
  go_wp2_with fail
  go_step3
  go_wp2_with fail
  refine HR.out.mono ?_
  rintro e w1 ⟨rfl, own1, m1, r1, r2⟩
  have M1 := Lib.hid m1
  have R1 := Lib.hid r1
  have R2 := Lib.hid r2
  clear m1 r1 r2 c0 c1 hl
  go_wp2_with fail
  refine (HF.out ⟨own1, w1⟩ R2.out).mono ?_
  rintro e w2 ⟨rfl, own2, m2, r3⟩
  have M2 := Lib.hid m2
  have R3 := Lib.hid r3
  clear m2 r3
  go_wp2_with fail
  rw [Exit.noGoto_ret]
  go_ret
  exact ⟨rfl, own2, (M1.out.mono (fun x hx => Or.inr hx)).trans (M2.out.mono (fun x hx => Or.inl hx)), R3.out, R1.out.keep M2.out (fun e => HT.out e.symm)⟩
theorem find_elem_length (g : GW) (t b tm bm : Nat) (S : FindS) (m : MemS) (i : Int) (h : FindAt g t b S) (hm : MemAt g tm bm m) (hc : 0 ≤ m.count ∧ m.count ≤ 1099511627776) (hpc : S.pc = 2) (hok : S.okAt S.head 2 = true) (hin : inB (S.head * 8 + 2) m.l.length = true) (hw : m.peek (S.head * 8 + 2) = (floatOfInt .f64 i, 0)) (ht : t ≠ tm) (ht1 : t + 1 ≠ tm)
    (hi0 : 0 ≤ i) (hi1 : i ≤ 512) (hk0 : 0 ≤ S.k) (hk1 : S.k < i) :
    Calls Try.prog 98 #[.pointer (some ⟨b, 0, none⟩), .pointer (some ⟨bm, 0, none⟩)] g.w (Does (.bool false) g (fun x => x = t ∨ x = tm) (fun g' => FindAt g' t b { S with n := sData i, pc := 3 } ∧ MemAt g' tm bm m.tick)) := by
  have c0 := h.blk.cell (i := 12) rfl
  have c1 := h.blk.cell (i := 9) rfl
  have hl := h.blk.lt
  rw [hpc] at c0
  have HR := Lib.hid (find_read_ok g t b tm bm S m S.head 2 h hm hc hok hin _ _ hw ht ht1)
  have HI := Lib.hid (fun w => nint_fits i ⟨by omega, by omega⟩ w)
  generalize floatOfInt .f64 i = p at *
  have HT := Lib.hid (And.intro ht ht1)
  have H := Lib.hid h
  clear h hm hpc hok hin hw ht ht1
  go_enter Try.func98, Try.ntmps98
  go_wp2_with fail
  go_step3
  go_wp2_with fail
  refine HR.out.mono ?_
  rintro e w1 ⟨rfl, own1, m1, r1, r2⟩
  have M1 := Lib.hid m1
  have R1 := Lib.hid r1
  have R2 := Lib.hid r2
  clear m1 r1 r2 c0 c1 hl
  go_wp2_with fail
  refine (HI.out _).mono ?_
  rintro e w2 ⟨rfl, hE⟩
  have M2 := Lib.hid (Mod.ext (T := fun _ => False) (g := ⟨own1, w1⟩) (show Ext w1 w2 from hE) 0)
  have R3 := Lib.hid (R2.out.keep M2.out id id)
  clear hE
  have c0 := R3.out.blk.cell (i := 10) rfl
  have hl := R3.out.blk.lt
  simp only [GW.to] at c0 hl
  have d1 : decide (i < 0) = false := decide_eq_false (by omega)
  have d2 : decide (512 < i) = false := decide_eq_false (by omega)
  have d3 : decide (S.k < 0) = false := decide_eq_false (by omega)
  have d4 : decide (i ≤ S.k) = false := decide_eq_false (by omega)
  go_wp2_with fail
  refine (data_any i _).mono ?_
  rintro e w3 ⟨rfl, hE⟩
  have M3 := Lib.hid (Mod.ext (T := fun _ => False) (g := (GW.to ⟨own1, w1⟩ 0 w2)) (show Ext w2 w3 from hE) 0)
  have R4 := Lib.hid (R3.out.keep M3.out id id)
  clear hE c0 hl
  have c1 := R4.out.blk.cell (i := 16) rfl
  have c2 := R4.out.blk.cell (i := 12) rfl
  have f1 := R4.out.blk.live 16
  have f2 := R4.out.blk.live 12
  have hl := R4.out.blk.lt
  simp only [GW.to] at c1 c2 f1 f2 hl
  go_wp2_with fail
  rw [Exit.noGoto_ret]
  go_ret
  have HO := R4.out.blk.own
  have m5 : Mod (fun x => x = t) ((GW.to ⟨own1, w1⟩ 0 w2).to 0 w3) ⟨((GW.to ⟨own1, w1⟩ 0 w2).to 0 w3).own, (w3.setCell ⟨b, 16, none⟩ (.int .i64 (sData i))).setCell ⟨b, 12, none⟩ (.int .i64 3)⟩ := Mod.st (Mod.st Mod.self HO) HO
  refine ⟨rfl, _, (M1.out.mono (fun x hx => Or.inr hx)).trans (((M2.out.trans M3.out).mono (fun _ => False.elim)).trans (m5.mono (fun x hx => Or.inl hx))), ?_, ?_⟩
  · exact (R4.out.st 16 (.int .i64 (sData i)) { S with n := sData i } rfl rfl).st 12 (.int .i64 3) { S with n := sData i, pc := 3 } rfl rfl
  · exact ((R1.out.keep M2.out id).keep M3.out id).keep m5 (fun e => HT.out.1 e.symm)
theorem find_elem_index (g : GW) (t b tm bm : Nat) (S : FindS) (m : MemS) (i : Int) (h : FindAt g t b S) (hm : MemAt g tm bm m) (hc : 0 ≤ m.count ∧ m.count ≤ 1099511627776) (hpc : S.pc = 2) (hok : S.okAt S.head 2 = true) (hin : inB (S.head * 8 + 2) m.l.length = true) (hw : m.peek (S.head * 8 + 2) = (floatOfInt .f64 i, 0)) (ht : t ≠ tm) (ht1 : t + 1 ≠ tm)
    (hi0 : 0 ≤ i) (hi1 : i ≤ 512) (hk : S.k < 0 ∨ i ≤ S.k) :
    Calls Try.prog 98 #[.pointer (some ⟨b, 0, none⟩), .pointer (some ⟨bm, 0, none⟩)] g.w (Does (.bool true) g (fun x => x = t ∨ x = tm) (fun g' => FindAt g' t b (S.ends 5) ∧ MemAt g' tm bm m.tick)) := by
  have c0 := h.blk.cell (i := 12) rfl
  have c1 := h.blk.cell (i := 9) rfl
  have hl := h.blk.lt
  rw [hpc] at c0
  have HR := Lib.hid (find_read_ok g t b tm bm S m S.head 2 h hm hc hok hin _ _ hw ht ht1)
  have HI := Lib.hid (fun w => nint_fits i ⟨by omega, by omega⟩ w)
  generalize floatOfInt .f64 i = p at *
  have HT := Lib.hid (And.intro ht ht1)
  have H := Lib.hid h
  have HK := Lib.hid hk
  clear h hm hpc hok hin hw ht ht1 hk
  go_enter Try.func98, Try.ntmps98
  go_wp2_with fail
  go_step3
  go_wp2_with fail
  refine HR.out.mono ?_
  rintro e w1 ⟨rfl, own1, m1, r1, r2⟩
  have M1 := Lib.hid m1
  have R1 := Lib.hid r1
  have R2 := Lib.hid r2
  clear m1 r1 r2 c0 c1 hl
  go_wp2_with fail
  refine (HI.out _).mono ?_
  rintro e w2 ⟨rfl, hE⟩
  have M2 := Lib.hid (Mod.ext (T := fun _ => False) (g := ⟨own1, w1⟩) (show Ext w1 w2 from hE) 0)
  have R3 := Lib.hid (R2.out.keep M2.out id id)
  clear hE
  have c0 := R3.out.blk.cell (i := 10) rfl
  have hl := R3.out.blk.lt
  simp only [GW.to] at c0 hl
  have d1 : decide (i < 0) = false := decide_eq_false (by omega)
  have d2 : decide (512 < i) = false := decide_eq_false (by omega)
  by_cases hk0 : S.k < 0
  · have d3 : decide (S.k < 0) = true := decide_eq_true (by omega)
    go_wp2_with fail
    refine (find_ends (GW.to ⟨own1, w1⟩ 0 w2) t b S 5 R3.out).mono ?_
    rintro e w3 ⟨rfl, own3, m3, r3⟩
    have M3 := Lib.hid m3
    have R4 := Lib.hid r3
    clear m3 r3
    go_wp2_with fail
    rw [Exit.noGoto_ret]
    go_ret
    exact ⟨rfl, own3, (M1.out.mono (fun x hx => Or.inr hx)).trans ((M2.out.mono (fun _ => False.elim)).trans (M3.out.mono (fun x hx => Or.inl hx))), R4.out, (R1.out.keep M2.out id).keep M3.out (fun e => HT.out.1 e.symm)⟩
  · have d3 : decide (S.k < 0) = false := decide_eq_false (by omega)
    have d4 : decide (i ≤ S.k) = true := decide_eq_true (by have := HK.out; omega)
    go_wp2_with fail
    refine (find_ends (GW.to ⟨own1, w1⟩ 0 w2) t b S 5 R3.out).mono ?_
    rintro e w3 ⟨rfl, own3, m3, r3⟩
    have M3 := Lib.hid m3
    have R4 := Lib.hid r3
    clear m3 r3
    go_wp2_with fail
    rw [Exit.noGoto_ret]
    go_ret
    exact ⟨rfl, own3, (M1.out.mono (fun x hx => Or.inr hx)).trans ((M2.out.mono (fun _ => False.elim)).trans (M3.out.mono (fun x hx => Or.inl hx))), R4.out, (R1.out.keep M2.out id).keep M3.out (fun e => HT.out.1 e.symm)⟩
end Go.Proofs.Ytmgkfpmmlibmcaa
/-
  find: an array's mode, its data fragments.
-/
namespace Go.Proofs.Ytmgkfpmmlibmcaa
open Go Go.RowKit
set_option linter.unusedVariables false
set_option linter.unnecessarySimpa false
set_option linter.unusedSimpArgs false
set_option maxHeartbeats 4000000
set_option maxRecDepth 100000
theorem find_elem_mode (g : GW) (t b tm bm : Nat) (S : FindS) (m : MemS) (md : Int) (h : FindAt g t b S) (hm : MemAt g tm bm m) (hc : 0 ≤ m.count ∧ m.count ≤ 1099511627776) (hpc : S.pc = 3) (hok : S.okAt S.head 3 = true) (hin : inB (S.head * 8 + 3) m.l.length = true) (hw : m.peek (S.head * 8 + 3) = (floatOfInt .f64 md, 0)) (ht : t ≠ tm) (ht1 : t + 1 ≠ tm)
    (hmd : md = 0 ∧ S.n ≤ 4 ∨ (md = 1 ∨ md = 2) ∧ 4 < S.n) :
    Calls Try.prog 98 #[.pointer (some ⟨b, 0, none⟩), .pointer (some ⟨bm, 0, none⟩)] g.w (Does (.bool false) g (fun x => x = t ∨ x = tm) (fun g' => FindAt g' t b { S with mode := md, pc := 4 } ∧ MemAt g' tm bm m.tick)) := by
  have c0 := h.blk.cell (i := 12) rfl
  have c1 := h.blk.cell (i := 9) rfl
  have hl := h.blk.lt
  rw [hpc] at c0
  have HT := Lib.hid (And.intro ht ht1)
  have H := Lib.hid h
  have HR := Lib.hid (find_read_ok g t b tm bm S m S.head 3 h hm hc hok hin _ _ hw ht ht1)
  have HI := Lib.hid (fun w => nint_fits md ⟨by omega, by omega⟩ w)
  generalize floatOfInt .f64 md = p at *
  have HMD := Lib.hid hmd
  clear h hm hpc hok hin hw ht ht1 hmd
  go_enter Try.func98, Try.ntmps98
  go_wp2_with fail
  refine wp_scope_fwd 0 rfl ?_
  go_wp2_with fail
  go_step3
  refine ⟨rfl, ?_⟩
  go_wp2_with fail
  refine HR.out.mono ?_
  rintro e w1 ⟨rfl, own1, m1, r1, r2⟩
  have M1 := Lib.hid m1
  have R1 := Lib.hid r1
  have R2 := Lib.hid r2
  clear m1 r1 r2 c0 c1 hl
  go_wp2_with fail
  refine (HI.out _).mono ?_
  rintro e w2 ⟨rfl, hE⟩
  have M2 := Lib.hid (Mod.ext (T := fun _ => False) (g := ⟨own1, w1⟩) (show Ext w1 w2 from hE) 0)
  have R3 := Lib.hid (R2.out.keep M2.out id id)
  have R1' := Lib.hid (R1.out.keep M2.out id)
  clear hE
  have c0 := R3.out.blk.cell (i := 17) rfl
  have f0 := R3.out.blk.live 17
  have hl := R3.out.blk.lt
  simp only [GW.to] at c0 f0 hl
  go_upto_region 19 with fail
  have HO := R3.out.blk.own
  have M3 := Lib.hid (show Mod (fun x => x = t) (GW.to ⟨own1, w1⟩ 0 w2) ⟨(GW.to ⟨own1, w1⟩ 0 w2).own, w2.setCell ⟨b, 17, none⟩ (.int .i64 md)⟩ from Mod.st Mod.self HO)
  have R4 := Lib.hid (show FindAt ⟨(GW.to ⟨own1, w1⟩ 0 w2).own, w2.setCell ⟨b, 17, none⟩ (.int .i64 md)⟩ t b { S with mode := md } from R3.out.st 17 (.int .i64 md) { S with mode := md } rfl rfl)
  have R5 := Lib.hid (R1'.out.keep M3.out (fun e => HT.out.1 e.symm))
  generalize hwx : w2.setCell ⟨b, 17, none⟩ (.int .i64 md) = wx at *
  generalize (GW.to ⟨own1, w1⟩ 0 w2) = g2 at *
  clear hwx c0 f0 hl HO R1' R3
  have c1 := R4.out.blk.cell (i := 17) rfl
  have c2 := R4.out.blk.cell (i := 16) rfl
  have c3 := R4.out.blk.cell (i := 12) rfl
  have f3 := R4.out.blk.live 12
  have hl := R4.out.blk.lt
  have HO := Lib.hid R4.out.blk.own
  simp only at c1 c2 c3 f3 hl
  have HEND := Lib.hid (fun X : Extra => show Does (.bool false) g (fun x => x = t ∨ x = tm) (fun g' => FindAt g' t b { S with mode := md, pc := 4 } ∧ MemAt g' tm bm m.tick) (.returned (.bool false)) ((wx.setCell ⟨b, 12, none⟩ (.int .i64 4)).patch X) from by
    have m6 : Mod (fun x => x = t) ⟨g2.own, wx⟩ ⟨g2.own, wx.setCell ⟨b, 12, none⟩ (.int .i64 4)⟩ := Mod.st Mod.self R4.out.blk.own
    refine Does.ext ⟨g2.own, wx.setCell ⟨b, 12, none⟩ (.int .i64 4)⟩ ⟨X, rfl⟩ rfl ?_ (fun g3 mm => ⟨?_, ?_⟩)
    · exact (M1.out.mono (fun x hx => Or.inr hx)).trans ((M2.out.mono (fun _ => False.elim)).trans ((M3.out.mono (fun x hx => Or.inl hx)).trans (m6.mono (fun x hx => Or.inl hx))))
    · exact (R4.out.st 12 (.int .i64 4) { S with mode := md, pc := 4 } rfl rfl).keep mm id id
    · exact (R5.out.keep m6 (fun e => HT.out.1 e.symm)).keep mm id)
  rcases HMD.out with ⟨rfl, hn⟩ | ⟨hm, hn⟩
  · have d1 : decide (S.n ≤ 4) = true := decide_eq_true hn
    go_wp2_with fail
    refine wp_region_mixed [true, true, true, true, true, true, true, true, true, true, true, true, true, true, true, true, true, true, true, true, true, true, true, true, true, true, true, true, true] 0 29 (by kernel_rfl) (by kernel_rfl) (by kernel_rfl) ?_ (by decide) (by decide) (by decide) (by kernel_rfl) ?_
    · intro c a d v w h; cases d <;> exact h
    intro X00
    simp only [pickOps]
    repeat (go_big_quiet_step (fail))
    refine wpQuiet_nil (fun X0 => ?_)
    clear X00
    refine wpAnyM_done (by kernel_rfl) (fun X0' => ?_) _
    go_wp2_with fail
    rw [Exit.noGoto_ret]
    go_ret
    exact HEND.out _
  · have d1 : decide (S.n ≤ 4) = false := decide_eq_false (by omega)
    rcases hm with rfl | rfl
    · go_wp2_with fail
      refine wp_region_mixed [true, true, true, true, true, true, true, true, true, true, true, true, true, true, true, true, true, true, true, true, true, true, true, true, true, true, true, true, true] 0 29 (by kernel_rfl) (by kernel_rfl) (by kernel_rfl) ?_ (by decide) (by decide) (by decide) (by kernel_rfl) ?_
      · intro c a d v w h; cases d <;> exact h
      intro X00
      simp only [pickOps]
      repeat (go_big_quiet_step (fail))
      refine wpQuiet_nil (fun X0 => ?_)
      clear X00
      refine wpAnyM_done (by kernel_rfl) (fun X0' => ?_) _
      go_wp2_with fail
      rw [Exit.noGoto_ret]
      go_ret
      exact HEND.out _
    · go_wp2_with fail
      refine wp_region_mixed [true, true, true, true, true, true, true, true, true, true, true, true, true, true, true, true, true, true, true, true, true, true, true, true, true, true, true, true, true] 0 29 (by kernel_rfl) (by kernel_rfl) (by kernel_rfl) ?_ (by decide) (by decide) (by decide) (by kernel_rfl) ?_
      · intro c a d v w h; cases d <;> exact h
      intro X00
      simp only [pickOps]
      repeat (go_big_quiet_step (fail))
      refine wpQuiet_nil (fun X0 => ?_)
      clear X00
      refine wpAnyM_done (by kernel_rfl) (fun X0' => ?_) _
      go_wp2_with fail
      rw [Exit.noGoto_ret]
      go_ret
      exact HEND.out _
theorem find_elem_inline (g : GW) (t b tm bm : Nat) (S : FindS) (m : MemS) (fr : Int) (h : FindAt g t b S) (hm : MemAt g tm bm m) (hc : 0 ≤ m.count ∧ m.count ≤ 1099511627776) (hpc : S.pc = 4) (hmo : S.mode = 0) (hk : 0 ≤ S.k) (hk8 : S.k / 8 < 4) (hok : S.okAt S.head (4 + S.k / 8) = true) (hin : inB (S.head * 8 + (4 + S.k / 8)) m.l.length = true) (hw : m.peek (S.head * 8 + (4 + S.k / 8)) = (floatOfInt .f64 (fr + 1), 4607182418800017408)) (ht : t ≠ tm) (ht1 : t + 1 ≠ tm)
    (hf0 : 0 ≤ fr) (hf1 : fr ≤ 1099511627776) :
    Calls Try.prog 98 #[.pointer (some ⟨b, 0, none⟩), .pointer (some ⟨bm, 0, none⟩)] g.w (Does (.bool true) g (fun x => x = t ∨ x = tm) (fun g' => FindAt g' t b (S.stands fr (S.k % 8)) ∧ MemAt g' tm bm m.tick)) := by
  have c0 := h.blk.cell (i := 12) rfl
  have c1 := h.blk.cell (i := 9) rfl
  have hl := h.blk.lt
  rw [hpc] at c0
  have HT := Lib.hid (And.intro ht ht1)
  have H := Lib.hid h
  have HR := Lib.hid (find_read_ok g t b tm bm S m S.head (4 + S.k / 8) h hm hc hok hin _ _ hw ht ht1)
  have HI := Lib.hid (fun w => index_ref fr hf0 hf1 w)
  generalize floatOfInt .f64 (fr + 1) = p at *
  have c2 := h.blk.cell (i := 17) rfl
  have c3 := h.blk.cell (i := 10) rfl
  rw [hmo] at c2
  have HMO := Lib.hid hmo
  have HKK := Lib.hid hk
  have e1 : IntKind.i64.wrap (4 + S.k / 8) = 4 + S.k / 8 := IntWalk.i64_in _ (by omega)
  clear h hm hpc hok hin hw ht ht1 hmo
  go_enter Try.func98, Try.ntmps98
  go_wp2_with fail
  refine wp_scope_fwd 1 rfl ?_
  go_wp2_with fail
  go_step3
  refine ⟨rfl, ?_⟩
  go_wp2_with fail
  refine HR.out.mono ?_
  rintro e w1 ⟨rfl, own1, m1, r1, r2⟩
  have M1 := Lib.hid m1
  have R1 := Lib.hid r1
  have R2 := Lib.hid r2
  clear m1 r1 r2 c0 c1 c2 c3 hl
  have c2 := R2.out.blk.cell (i := 17) rfl
  rw [HMO.out] at c2
  have hl := R2.out.blk.lt
  simp only at c2 hl
  go_wp2_with fail
  refine (HI.out _).mono ?_
  rintro e w2 ⟨rfl, hE⟩
  have M2 := Lib.hid (Mod.ext (T := fun _ => False) (g := ⟨own1, w1⟩) (show Ext w1 w2 from hE) 0)
  have R3 := Lib.hid (R2.out.keep M2.out id id)
  have R1' := Lib.hid (R1.out.keep M2.out id)
  clear hE c2 hl
  have c2 := R3.out.blk.cell (i := 17) rfl
  rw [HMO.out] at c2
  have hl := R3.out.blk.lt
  simp only [GW.to] at c2 hl
  go_wp2_with fail
  refine (find_data (GW.to ⟨own1, w1⟩ 0 w2) t b S fr R3.out hk).mono ?_
  rintro e w3 ⟨rfl, own3, m3, r3⟩
  have M3 := Lib.hid m3
  have R4 := Lib.hid r3
  clear m3 r3
  go_wp2_with fail
  rw [Exit.noGoto_ret]
  go_ret
  exact ⟨rfl, own3, (M1.out.mono (fun x hx => Or.inr hx)).trans ((M2.out.mono (fun _ => False.elim)).trans (M3.out.mono (fun x hx => Or.inl hx))), R4.out, R1'.out.keep M3.out (fun e => HT.out.1 e.symm)⟩
end Go.Proofs.Ytmgkfpmmlibmcaa
/-
  find.Step.
-/
namespace Go.Proofs.Ytmgkfpmmlibmcaa
open Go Go.RowKit
set_option linter.unusedVariables false
set_option linter.unnecessarySimpa false
set_option linter.unusedSimpArgs false
set_option maxHeartbeats 2000000
theorem find_step_end (g : GW) (t b : Nat) (v : Value) (S : FindS) (h : FindAt g t b S) (hpc : S.pc = 6) : Calls Try.prog 24 #[.pointer (some ⟨b, 0, none⟩), v] g.w (fun e w' => e = .returned (.bool true) ∧ g.w = w') := by
  have c0 := h.blk.cell (i := 12) rfl
  have hl := h.blk.lt
  rw [hpc] at c0
  clear h hpc
  go_enter Try.func24, Try.ntmps24
  go_wp2_with fail
  go_ret
  exact ⟨rfl, rfl⟩
theorem find_step_b (g : GW) (t b bm : Nat) (S : FindS) (r : Bool) (T : Nat → Prop) (R : GW → Prop) (h : FindAt g t b S) (hpc : S.pc = 0 ∨ S.pc = 1) (hs : 0 ≤ S.steps ∧ S.steps ≤ 1099511627776) (hT : T t)
    (hB : ∀ g', Mod (fun x => x = t) g g' → FindAt g' t b { S with steps := S.steps + 1 } → Calls Try.prog 97 #[.pointer (some ⟨b, 0, none⟩), .pointer (some ⟨bm, 0, none⟩)] g'.w (Does (.bool r) g' T R)) :
    Calls Try.prog 24 #[.pointer (some ⟨b, 0, none⟩), .pointer (some ⟨bm, 0, none⟩)] g.w (Does (.bool r) g T R) := by
  have c0 := h.blk.cell (i := 12) rfl
  rcases hpc with hpc | hpc
  · rw [hpc] at c0
    clear hpc
    have c1 := h.blk.cell (i := 22) rfl
    have f1 := h.blk.live 22
    have hl := h.blk.lt
    have HO := Lib.hid h.blk.own
    have M1 := Lib.hid (show Mod (fun x => x = t) g ⟨g.own, g.w.setCell ⟨b, 22, none⟩ (.int .i64 (S.steps + 1))⟩ from Mod.st Mod.self HO.out)
    have HB := Lib.hid (hB ⟨g.own, g.w.setCell ⟨b, 22, none⟩ (.int .i64 (S.steps + 1))⟩ M1.out (h.st 22 (.int .i64 (S.steps + 1)) { S with steps := S.steps + 1 } rfl rfl))
    have HT := Lib.hid hT
    clear h hB hT
    go_enter Try.func24, Try.ntmps24
    go_wp2_with fail
    refine HB.out.mono ?_
    rintro e w1 ⟨rfl, own1, m1, r1⟩
    have M2 := Lib.hid m1
    have R1 := Lib.hid r1
    clear m1 r1
    go_wp2_with fail
    go_ret
    exact ⟨rfl, own1, (M1.out.mono (fun x hx => hx ▸ HT.out)).trans M2.out, R1.out⟩
  · rw [hpc] at c0
    clear hpc
    have c1 := h.blk.cell (i := 22) rfl
    have f1 := h.blk.live 22
    have hl := h.blk.lt
    have HO := Lib.hid h.blk.own
    have M1 := Lib.hid (show Mod (fun x => x = t) g ⟨g.own, g.w.setCell ⟨b, 22, none⟩ (.int .i64 (S.steps + 1))⟩ from Mod.st Mod.self HO.out)
    have HB := Lib.hid (hB ⟨g.own, g.w.setCell ⟨b, 22, none⟩ (.int .i64 (S.steps + 1))⟩ M1.out (h.st 22 (.int .i64 (S.steps + 1)) { S with steps := S.steps + 1 } rfl rfl))
    have HT := Lib.hid hT
    clear h hB hT
    go_enter Try.func24, Try.ntmps24
    go_wp2_with fail
    refine HB.out.mono ?_
    rintro e w1 ⟨rfl, own1, m1, r1⟩
    have M2 := Lib.hid m1
    have R1 := Lib.hid r1
    clear m1 r1
    go_wp2_with fail
    go_ret
    exact ⟨rfl, own1, (M1.out.mono (fun x hx => hx ▸ HT.out)).trans M2.out, R1.out⟩
theorem find_step_e (g : GW) (t b bm : Nat) (S : FindS) (r : Bool) (T : Nat → Prop) (R : GW → Prop) (h : FindAt g t b S) (hpc : S.pc = 2 ∨ S.pc = 3 ∨ S.pc = 4 ∨ S.pc = 5) (hs : 0 ≤ S.steps ∧ S.steps ≤ 1099511627776) (hT : T t)
    (hB : ∀ g', Mod (fun x => x = t) g g' → FindAt g' t b { S with steps := S.steps + 1 } → Calls Try.prog 98 #[.pointer (some ⟨b, 0, none⟩), .pointer (some ⟨bm, 0, none⟩)] g'.w (Does (.bool r) g' T R)) :
    Calls Try.prog 24 #[.pointer (some ⟨b, 0, none⟩), .pointer (some ⟨bm, 0, none⟩)] g.w (Does (.bool r) g T R) := by
  have c0 := h.blk.cell (i := 12) rfl
  rcases hpc with hpc | hpc | hpc | hpc
  · rw [hpc] at c0
    clear hpc
    have c1 := h.blk.cell (i := 22) rfl
    have f1 := h.blk.live 22
    have hl := h.blk.lt
    have HO := Lib.hid h.blk.own
    have M1 := Lib.hid (show Mod (fun x => x = t) g ⟨g.own, g.w.setCell ⟨b, 22, none⟩ (.int .i64 (S.steps + 1))⟩ from Mod.st Mod.self HO.out)
    have HB := Lib.hid (hB ⟨g.own, g.w.setCell ⟨b, 22, none⟩ (.int .i64 (S.steps + 1))⟩ M1.out (h.st 22 (.int .i64 (S.steps + 1)) { S with steps := S.steps + 1 } rfl rfl))
    have HT := Lib.hid hT
    clear h hB hT
    go_enter Try.func24, Try.ntmps24
    go_wp2_with fail
    refine HB.out.mono ?_
    rintro e w1 ⟨rfl, own1, m1, r1⟩
    have M2 := Lib.hid m1
    have R1 := Lib.hid r1
    clear m1 r1
    go_wp2_with fail
    go_ret
    exact ⟨rfl, own1, (M1.out.mono (fun x hx => hx ▸ HT.out)).trans M2.out, R1.out⟩
  · rw [hpc] at c0
    clear hpc
    have c1 := h.blk.cell (i := 22) rfl
    have f1 := h.blk.live 22
    have hl := h.blk.lt
    have HO := Lib.hid h.blk.own
    have M1 := Lib.hid (show Mod (fun x => x = t) g ⟨g.own, g.w.setCell ⟨b, 22, none⟩ (.int .i64 (S.steps + 1))⟩ from Mod.st Mod.self HO.out)
    have HB := Lib.hid (hB ⟨g.own, g.w.setCell ⟨b, 22, none⟩ (.int .i64 (S.steps + 1))⟩ M1.out (h.st 22 (.int .i64 (S.steps + 1)) { S with steps := S.steps + 1 } rfl rfl))
    have HT := Lib.hid hT
    clear h hB hT
    go_enter Try.func24, Try.ntmps24
    go_wp2_with fail
    refine HB.out.mono ?_
    rintro e w1 ⟨rfl, own1, m1, r1⟩
    have M2 := Lib.hid m1
    have R1 := Lib.hid r1
    clear m1 r1
    go_wp2_with fail
    go_ret
    exact ⟨rfl, own1, (M1.out.mono (fun x hx => hx ▸ HT.out)).trans M2.out, R1.out⟩
  · rw [hpc] at c0
    clear hpc
    have c1 := h.blk.cell (i := 22) rfl
    have f1 := h.blk.live 22
    have hl := h.blk.lt
    have HO := Lib.hid h.blk.own
    have M1 := Lib.hid (show Mod (fun x => x = t) g ⟨g.own, g.w.setCell ⟨b, 22, none⟩ (.int .i64 (S.steps + 1))⟩ from Mod.st Mod.self HO.out)
    have HB := Lib.hid (hB ⟨g.own, g.w.setCell ⟨b, 22, none⟩ (.int .i64 (S.steps + 1))⟩ M1.out (h.st 22 (.int .i64 (S.steps + 1)) { S with steps := S.steps + 1 } rfl rfl))
    have HT := Lib.hid hT
    clear h hB hT
    go_enter Try.func24, Try.ntmps24
    go_wp2_with fail
    refine HB.out.mono ?_
    rintro e w1 ⟨rfl, own1, m1, r1⟩
    have M2 := Lib.hid m1
    have R1 := Lib.hid r1
    clear m1 r1
    go_wp2_with fail
    go_ret
    exact ⟨rfl, own1, (M1.out.mono (fun x hx => hx ▸ HT.out)).trans M2.out, R1.out⟩
  · rw [hpc] at c0
    clear hpc
    have c1 := h.blk.cell (i := 22) rfl
    have f1 := h.blk.live 22
    have hl := h.blk.lt
    have HO := Lib.hid h.blk.own
    have M1 := Lib.hid (show Mod (fun x => x = t) g ⟨g.own, g.w.setCell ⟨b, 22, none⟩ (.int .i64 (S.steps + 1))⟩ from Mod.st Mod.self HO.out)
    have HB := Lib.hid (hB ⟨g.own, g.w.setCell ⟨b, 22, none⟩ (.int .i64 (S.steps + 1))⟩ M1.out (h.st 22 (.int .i64 (S.steps + 1)) { S with steps := S.steps + 1 } rfl rfl))
    have HT := Lib.hid hT
    clear h hB hT
    go_enter Try.func24, Try.ntmps24
    go_wp2_with fail
    refine HB.out.mono ?_
    rintro e w1 ⟨rfl, own1, m1, r1⟩
    have M2 := Lib.hid m1
    have R1 := Lib.hid r1
    clear m1 r1
    go_wp2_with fail
    go_ret
    exact ⟨rfl, own1, (M1.out.mono (fun x hx => hx ▸ HT.out)).trans M2.out, R1.out⟩
end Go.Proofs.Ytmgkfpmmlibmcaa
