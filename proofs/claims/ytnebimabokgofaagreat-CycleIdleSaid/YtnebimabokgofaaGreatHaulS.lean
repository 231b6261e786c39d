import Derived.Test.YtnebimabokgofaaGreatMemO
import Derived.Test.YtnebimabokgofaaGreatCopy
import Derived.Test.YtnebimabokgofaaGreatMgSpaceS
import Derived.Test.YtnebimabokgofaaGreatNum
import Derived.Test.YtnebimabokgofaaGreatMoves
import Derived.Deep.DeepCutAuto
/-
  haul: the program's state, in memory; New, the readers; read, write, owner, next.
-/
namespace Go.Proofs.YtnebimabokgofaaGreat
open Go Go.RowKit
set_option linter.unusedVariables false
set_option linter.unnecessarySimpa false
set_option linter.unusedSimpArgs false
set_option maxHeartbeats 2000000
set_option maxRecDepth 100000
structure HaulS where
  c : Cnf
  frm : Int
  fin : Int
  sense : Bool
  pc : Int
  k : Int
  dst : Int
  head : Int
  d : Int
  j : Int
  wp : Nat
  wq : Nat
  e : Int
  moved : Int
  steps : Int
namespace HaulS
def cells (S : HaulS) : List Value := [.int .i64 S.c.frags, .int .i64 S.c.spine, .int .i64 S.c.globals, .int .i64 S.c.threads, .int .i64 S.c.locals, .int .i64 S.c.cache, .int .i64 S.c.stack, .int .i64 S.c.low, .slice S.c.A S.c.shapes.length S.c.cap,
  .int .i64 S.frm, .int .i64 S.fin, .bool S.sense, .int .i64 S.pc, .int .i64 S.k, .int .i64 S.dst, .int .i64 S.head, .int .i64 S.d, .int .i64 S.j, .complex .f64 S.wp S.wq, .int .i64 S.e, .int .i64 S.moved, .int .i64 S.steps]
def fresh (c : Cnf) (frm fin : Int) (sense : Bool) : HaulS := ⟨c, frm, fin, sense, 0, 0, 0, 0, 0, 0, 0, 0, 0, 0, 0⟩
/-- Behind a spine. -/
def next (S : HaulS) : HaulS := { S with k := S.k + (S.d + 2), pc := if S.fin ≤ S.k + (S.d + 2) then 11 else 0 }
end HaulS
structure HaulAt (g : GW) (t b : Nat) (S : HaulS) : Prop where
  blk : Blk g t b 196 S.cells
  cnf : CnfAt g (t + 1) S.c
theorem HaulAt.keep {T : Nat → Prop} {g g' : GW} {t b : Nat} {S : HaulS} (h : HaulAt g t b S) (m : Mod T g g') (h1 : ¬ T t) (h2 : ¬ T (t + 1)) : HaulAt g' t b S := ⟨h.blk.keep m h1, h.cnf.keep m h2⟩
theorem HaulAt.st {g : GW} {t b : Nat} {S : HaulS} (h : HaulAt g t b S) (i : Nat) (v : Value) (S' : HaulS) (hc : S'.cells = S.cells.set i v) (hcc : S'.c = S.c) : HaulAt ⟨g.own, g.w.setCell ⟨b, i, none⟩ v⟩ t b S' := by
  refine ⟨by rw [hc]; exact h.blk.set i v, ?_⟩
  rw [hcc]
  exact h.cnf.keep (Mod.set (T := fun x => x = t) h.blk.own) (by omega)
theorem haul_errno (g : GW) (t b : Nat) (S : HaulS) (h : HaulAt g t b S) : Calls Tryz.prog 117 #[.pointer (some ⟨b, 0, none⟩)] g.w (fun e w' => e = .returned (.int .i64 S.e) ∧ g.w = w') := by
  have c0 := h.blk.cell (i := 19) rfl
  have hl := h.blk.lt
  clear h
  go_enter Tryz.func117, Tryz.ntmps117
  go_wp2_with fail
  go_ret
  exact ⟨rfl, rfl⟩
theorem haul_moved (g : GW) (t b : Nat) (S : HaulS) (h : HaulAt g t b S) : Calls Tryz.prog 118 #[.pointer (some ⟨b, 0, none⟩)] g.w (fun e w' => e = .returned (.int .i64 S.moved) ∧ g.w = w') := by
  have c0 := h.blk.cell (i := 20) rfl
  have hl := h.blk.lt
  clear h
  go_enter Tryz.func118, Tryz.ntmps118
  go_wp2_with fail
  go_ret
  exact ⟨rfl, rfl⟩
def HaulMade (c : Cnf) (frm fin : Int) (sense : Bool) (t : Nat) (g : GW) (e : Ending) (w' : World) : Prop := ∃ own' b cm, e = .returned (.pointer (some ⟨b, 0, none⟩)) ∧ Mod (fun _ => False) g ⟨own', w'⟩ ∧ HaulAt ⟨own', w'⟩ t b (HaulS.fresh cm frm fin sense) ∧ cm.Same c
theorem haul_new (c : Cnf) (frm fin : Int) (sense : Bool) (t : Nat) (g : GW) (hc : c.Ok g.w) (hmax : c.shapes.length ≤ 1000000) : Calls Tryz.prog 114 #[c.val, .int .i64 frm, .int .i64 fin, .bool sense] g.w (HaulMade c frm fin sense t g) := by
  have HC := Lib.hid (copy_any c (t + 1) (g.to 9 (g.w.alloc (.cells #[.int .i64 c.frags, .int .i64 c.spine, .int .i64 c.globals, .int .i64 c.threads, .int .i64 c.locals, .int .i64 c.cache, .int .i64 c.stack, .int .i64 c.low, .slice c.A c.shapes.length c.cap] 24))) (hc.ext (by (repeat (first | (with_reducible assumption) | (with_reducible exact Ext.refl _) | (with_reducible exact Ext.more _ _ _ _) | apply Ext.alloc | refine Ext.setCell ?_ (by first | exact Nat.le_refl _ | exact Nat.le_add_right _ _ | assumption) _ | apply Ext.patch | apply Ext.drew | apply Ext.drewN)))) hmax)
  have HE0 := Lib.hid (Mod.ext (T := fun _ => False) (g := g) (show Ext g.w (g.w.alloc (.cells #[.int .i64 c.frags, .int .i64 c.spine, .int .i64 c.globals, .int .i64 c.threads, .int .i64 c.locals, .int .i64 c.cache, .int .i64 c.stack, .int .i64 c.low, .slice c.A c.shapes.length c.cap] 24)) by (repeat (first | (with_reducible assumption) | (with_reducible exact Ext.refl _) | (with_reducible exact Ext.more _ _ _ _) | apply Ext.alloc | refine Ext.setCell ?_ (by first | exact Nat.le_refl _ | exact Nat.le_add_right _ _ | assumption) _ | apply Ext.patch | apply Ext.drew | apply Ext.drewN))) 9)
  unfold Cnf.val at HC ⊢
  clear hc
  go_enter Tryz.func114, Tryz.ntmps114
  go_wp2_with fail
  refine HC.out.mono ?_
  rintro e w1 ⟨cm, rfl, hs, hm, hE⟩
  have HS := Lib.hid hs
  have HM := Lib.hid hm
  have HE1 := Lib.hid (Mod.ext (T := fun _ => False) (g := g.to 9 (g.w.alloc (.cells #[.int .i64 c.frags, .int .i64 c.spine, .int .i64 c.globals, .int .i64 c.threads, .int .i64 c.locals, .int .i64 c.cache, .int .i64 c.stack, .int .i64 c.low, .slice c.A c.shapes.length c.cap] 24))) hE (t + 1))
  clear hs hm hE
  unfold Cnf.val
  go_wp2_with fail
  go_ret
  have m2 : Mod (fun _ => False) ((g.to 9 (g.w.alloc (.cells #[.int .i64 c.frags, .int .i64 c.spine, .int .i64 c.globals, .int .i64 c.threads, .int .i64 c.locals, .int .i64 c.cache, .int .i64 c.stack, .int .i64 c.low, .slice c.A c.shapes.length c.cap] 24))).to (t + 1) w1) _ := Mod.ext (T := fun _ => False) (show Ext w1 (w1.alloc (.cells (HaulS.fresh cm frm fin sense).cells.toArray 196)) by (repeat (first | (with_reducible assumption) | (with_reducible exact Ext.refl _) | (with_reducible exact Ext.more _ _ _ _) | apply Ext.alloc | refine Ext.setCell ?_ (by first | exact Nat.le_refl _ | exact Nat.le_add_right _ _ | assumption) _ | apply Ext.patch | apply Ext.drew | apply Ext.drewN))) t
  exact ⟨_, w1.heap.size, cm, rfl, (HE0.out.trans HE1.out).trans m2, ⟨Blk.new ((g.to 9 (g.w.alloc (.cells #[.int .i64 c.frags, .int .i64 c.spine, .int .i64 c.globals, .int .i64 c.threads, .int .i64 c.locals, .int .i64 c.cache, .int .i64 c.stack, .int .i64 c.low, .slice c.A c.shapes.length c.cap] 24))).to (t + 1) w1) t 196 (HaulS.fresh cm frm fin sense).cells, HM.out.keep m2 id⟩, HS.out⟩
/-- The address of a word of a space. -/
def spA (c : Cnf) (s : Nat) (k : Int) : Int := k + (c.frags * 8 + (if s = 0 then 0 else c.spine))
theorem cAt_spine {c : Cnf} (hc : c.check = 0) {s : Nat} (hs : s < 2) {k : Int} (hk : 0 ≤ k ∧ k < c.spine) : cAt c (s + 1) k = .tuple #[.int .i64 (spA c s k), .int .i64 0] := by
  unfold cAt cSize cAhead spA
  rw [if_pos hc, if_pos hc]
  rcases (show s = 0 ∨ s = 1 by omega) with rfl | rfl
  · rw [if_pos (show 0 ≤ k ∧ k < ([c.frags * 8, c.spine, c.spine, c.globals][0 + 1]?).getD 0 from hk)]
    simp
  · rw [if_pos (show 0 ≤ k ∧ k < ([c.frags * 8, c.spine, c.spine, c.globals][1 + 1]?).getD 0 from hk)]
    simp
/-- A word of the space is read. -/
theorem haul_read (g : GW) (t b tm bm : Nat) (S : HaulS) (m : MemS) (s : Nat) (k : Int) (h : HaulAt g t b S) (hm : MemAt g tm bm m) (hc : 0 ≤ m.count ∧ m.count ≤ 1099511627776) (hck : S.c.check = 0) (hs : S.frm = s) (hs2 : s < 2) (hk : 0 ≤ k ∧ k < S.c.spine) (hin : inB (spA S.c s k) m.l.length = true) (p q : Nat) (hw : m.peek (spA S.c s k) = (p, q)) (ht : t ≠ tm) (ht1 : t + 1 ≠ tm) :
    Calls Tryz.prog 251 #[.pointer (some ⟨b, 0, none⟩), .pointer (some ⟨bm, 0, none⟩), .int .i64 k] g.w (Does (.tuple #[.complex .f64 p q, .bool true]) g (fun x => x = tm) (fun g' => MemAt g' tm bm m.tick ∧ HaulAt g' t b S)) := by
  have k0 := h.blk.cell (i := 0) rfl
  have k1 := h.blk.cell (i := 1) rfl
  have k2 := h.blk.cell (i := 2) rfl
  have k3 := h.blk.cell (i := 3) rfl
  have k4 := h.blk.cell (i := 4) rfl
  have k5 := h.blk.cell (i := 5) rfl
  have k6 := h.blk.cell (i := 6) rfl
  have k7 := h.blk.cell (i := 7) rfl
  have k8 := h.blk.cell (i := 8) rfl
  have c9 := h.blk.cell (i := 9) rfl
  rw [hs] at c9
  have hl := h.blk.lt
  have HSP := Lib.hid (fun X => show Calls Tryz.prog 211 #[S.c.val, .int .i64 s, .int .i64 k] (g.w.patch X) (Gives (.tuple #[.int .i64 (spA S.c s k), .int .i64 0]) (g.w.patch X)) from by
    rw [← cAt_spine hck hs2 hk]
    exact spine_any S.c s k (g.w.patch X) (h.cnf.ok.ext ⟨X, rfl⟩) hs2)
  unfold Cnf.val at HSP
  have HRD := Lib.hid (fun X => show Calls Tryz.prog 103 #[.pointer (some ⟨bm, 0, none⟩), .int .i64 (spA S.c s k)] (g.w.patch X) (Does (.tuple #[.complex .f64 p q, .int .i64 0]) (g.pt X) (fun x => x = tm) (fun g' => MemAt g' tm bm m.tick)) from by
    have h1 := mem_read (g.pt X) tm bm (spA S.c s k) m (hm.pt X) hc
    rw [hw, hin] at h1
    exact h1)
  have HT := Lib.hid (And.intro ht ht1)
  have H := Lib.hid h
  generalize spA S.c s k = a at *
  clear h hm hc hck hs hin hw ht ht1 hk
  go_enter Tryz.func251, Tryz.ntmps251
  go_wp2_with fail
  refine wp_region_mixed [true, true, true, true, true, true, true, true, true, true, true, true, true, true, true] 0 15 (by kernel_rfl) (by kernel_rfl) (by kernel_rfl) ?_ (by decide) (by decide) (by decide) (by kernel_rfl) ?_
  · intro c a d v w h; cases d <;> exact h
  intro X00
  simp only [pickOps]
  repeat (go_big_quiet_step (exact Calls.added (HSP.out _)))
  refine wpQuiet_nil (fun X0 => ?_)
  clear X00
  refine wpAnyM_done (by kernel_rfl) (fun X0' => ?_) _
  obtain ⟨Y, hY⟩ := (show Ext g.w ((g.w.patch X0).patch X0') from Ext.trans ⟨X0, rfl⟩ ⟨X0', rfl⟩)
  rw [hY]
  clear hY k0 k1 k2 k3 k4 k5 k6 k7 k8 c9 hl
  go_wp2_with fail
  refine (HRD.out Y).mono ?_
  rintro e w1 ⟨rfl, own1, m1, r1⟩
  have M1 := Lib.hid ((Mod.pt (Mod.refl (fun x => x = tm) g) Y).trans m1)
  have R1 := Lib.hid r1
  clear m1 r1
  go_wp2_with fail
  go_ret2
  exact ⟨rfl, own1, M1.out, R1.out, H.out.keep M1.out HT.out.1 HT.out.2⟩
/-- A word of the new spine is written. -/
theorem haul_write (g : GW) (t b tm bm : Nat) (S : HaulS) (m : MemS) (s : Nat) (k : Int) (p q : Nat) (h : HaulAt g t b S) (hm : MemAt g tm bm m) (hc : 0 ≤ m.count ∧ m.count ≤ 1099511627776) (hck : S.c.check = 0) (hs : S.frm = 1 - (s : Int)) (hs2 : s < 2) (hto : 0 ≤ S.dst ∧ S.dst ≤ 100000) (hk0 : 0 ≤ k ∧ k ≤ 100000) (hk : S.dst + k < S.c.spine) (hin : inB (spA S.c s (S.dst + k)) m.l.length = true) (ht : t ≠ tm) (ht1 : t + 1 ≠ tm) :
    Calls Tryz.prog 256 #[.pointer (some ⟨b, 0, none⟩), .pointer (some ⟨bm, 0, none⟩), .int .i64 k, .complex .f64 p q] g.w (Does (.bool true) g (fun x => x = tm) (fun g' => MemAt g' tm bm (m.tick.lay (spA S.c s (S.dst + k)) (p, q)) ∧ HaulAt g' t b S)) := by
  have k0 := h.blk.cell (i := 0) rfl
  have k1 := h.blk.cell (i := 1) rfl
  have k2 := h.blk.cell (i := 2) rfl
  have k3 := h.blk.cell (i := 3) rfl
  have k4 := h.blk.cell (i := 4) rfl
  have k5 := h.blk.cell (i := 5) rfl
  have k6 := h.blk.cell (i := 6) rfl
  have k7 := h.blk.cell (i := 7) rfl
  have k8 := h.blk.cell (i := 8) rfl
  have c9 := h.blk.cell (i := 9) rfl
  have c14 := h.blk.cell (i := 14) rfl
  rw [hs] at c9
  have hl := h.blk.lt
  have HSP := Lib.hid (fun X => show Calls Tryz.prog 211 #[S.c.val, .int .i64 s, .int .i64 (S.dst + k)] (g.w.patch X) (Gives (.tuple #[.int .i64 (spA S.c s (S.dst + k)), .int .i64 0]) (g.w.patch X)) from by
    rw [← cAt_spine hck hs2 (by omega)]
    exact spine_any S.c s (S.dst + k) (g.w.patch X) (h.cnf.ok.ext ⟨X, rfl⟩) hs2)
  unfold Cnf.val at HSP
  have HWR := Lib.hid (fun X => show Calls Tryz.prog 188 #[.pointer (some ⟨bm, 0, none⟩), .int .i64 (spA S.c s (S.dst + k)), .complex .f64 p q] (g.w.patch X) (Does (.int .i64 0) (g.pt X) (fun x => x = tm) (fun g' => MemAt g' tm bm (m.tick.lay (spA S.c s (S.dst + k)) (p, q)))) from by
    have h1 := mem_write (g.pt X) tm bm (spA S.c s (S.dst + k)) p q m (hm.pt X) hc
    rw [hin] at h1
    exact h1)
  have HT := Lib.hid (And.intro ht ht1)
  have H := Lib.hid h
  generalize spA S.c s (S.dst + k) = a at *
  obtain ⟨ht0, ht2⟩ := hto
  obtain ⟨hk1, hk2⟩ := hk0
  have e1 := IntWalk.i64_in (S.dst + k) (by omega)
  have e2 : IntKind.i64.wrap (1 - (1 - (s : Int))) = s := by rw [IntWalk.i64_in _ (by omega)]; omega
  clear h hm hc hck hs hin ht ht1 hk
  rcases (show s = 0 ∨ s = 1 by omega) with rfl | rfl
  all_goals
    go_enter Tryz.func256, Tryz.ntmps256
    go_wp2_with fail
    refine wp_region_mixed [true, true, true, true, true, true, true, true, true, true, true, true, true, true, true, true, true, true, true, true, true] 0 21 (by kernel_rfl) (by kernel_rfl) (by kernel_rfl) ?_ (by decide) (by decide) (by decide) (by kernel_rfl) ?_
    · intro c a d v w h; cases d <;> exact h
    intro X00
    simp only [pickOps]
    repeat (go_big_quiet_step (exact Calls.added (HSP.out _)))
    refine wpQuiet_nil (fun X0 => ?_)
    clear X00
    refine wpAnyM_done (by kernel_rfl) (fun X0' => ?_) _
    obtain ⟨Y, hY⟩ := (show Ext g.w ((g.w.patch X0).patch X0') from Ext.trans ⟨X0, rfl⟩ ⟨X0', rfl⟩)
    rw [hY]
    clear hY k0 k1 k2 k3 k4 k5 k6 k7 k8 c9 c14 hl
    go_wp2_with fail
    refine (HWR.out Y).mono ?_
    rintro e w1 ⟨rfl, own1, m1, r1⟩
    have M1 := Lib.hid ((Mod.pt (Mod.refl (fun x => x = tm) g) Y).trans m1)
    have R1 := Lib.hid r1
    clear m1 r1
    go_wp2_with fail
    go_ret
    exact ⟨rfl, own1, M1.out, R1.out, H.out.keep M1.out HT.out.1 HT.out.2⟩
/-- The address of the sentinel's word. -/
theorem haul_owner (g : GW) (t b : Nat) (S : HaulS) (h : HaulAt g t b S) (hck : S.c.check = 0) (hh : 0 ≤ S.head ∧ S.head < S.c.frags) : Calls Tryz.prog 252 #[.pointer (some ⟨b, 0, none⟩)] g.w (Gives (.int .i64 (S.head * 8 + 4)) g.w) := by
  have k0 := h.blk.cell (i := 0) rfl
  have k1 := h.blk.cell (i := 1) rfl
  have k2 := h.blk.cell (i := 2) rfl
  have k3 := h.blk.cell (i := 3) rfl
  have k4 := h.blk.cell (i := 4) rfl
  have k5 := h.blk.cell (i := 5) rfl
  have k6 := h.blk.cell (i := 6) rfl
  have k7 := h.blk.cell (i := 7) rfl
  have k8 := h.blk.cell (i := 8) rfl
  have c15 := h.blk.cell (i := 15) rfl
  have hl := h.blk.lt
  have HF := Lib.hid (fun X => show Calls Tryz.prog 234 #[S.c.val, .int .i64 S.head, .int .i64 4] (g.w.patch X) (Gives (.tuple #[.int .i64 (S.head * 8 + 4), .int .i64 0]) (g.w.patch X)) from by
    have h1 := frag_any S.c S.head 4 (g.w.patch X) (h.cnf.ok.ext ⟨X, rfl⟩)
    unfold cFrag at h1
    rw [if_pos (by refine ⟨hck, ?_⟩; omega)] at h1
    exact h1)
  unfold Cnf.val at HF
  clear h hck hh
  go_enter Tryz.func252, Tryz.ntmps252
  go_wp2_with fail
  refine wp_region_mixed [true, true, true, true, true, true, true, true, true, true, true, true, true, true] 0 14 (by kernel_rfl) (by kernel_rfl) (by kernel_rfl) ?_ (by decide) (by decide) (by decide) (by kernel_rfl) ?_
  · intro c a d v w h; cases d <;> exact h
  intro X00
  simp only [pickOps]
  repeat (go_big_quiet_step (exact Calls.added (HF.out _)))
  refine wpQuiet_nil (fun X0 => ?_)
  clear X00
  refine wpAnyM_done (by kernel_rfl) (fun X0' => ?_) _
  go_wp2_with fail
  go_ret
  exact Gives.of_ext (by (repeat (first | (with_reducible assumption) | (with_reducible exact Ext.refl _) | (with_reducible exact Ext.more _ _ _ _) | apply Ext.alloc | refine Ext.setCell ?_ (by first | exact Nat.le_refl _ | exact Nat.le_add_right _ _ | assumption) _ | apply Ext.patch | apply Ext.drew | apply Ext.drewN)))
/-- On to the next spine. -/
theorem haul_next (g : GW) (t b : Nat) (S : HaulS) (h : HaulAt g t b S) (hk : 0 ≤ S.k ∧ S.k ≤ 100000) (hd : 0 ≤ S.d ∧ S.d ≤ 100000) : Calls Tryz.prog 254 #[.pointer (some ⟨b, 0, none⟩)] g.w (Does (.tuple #[]) g (fun x => x = t) (fun g' => HaulAt g' t b S.next)) := by
  have c10 := h.blk.cell (i := 10) rfl
  have c12 := h.blk.cell (i := 12) rfl
  have c13 := h.blk.cell (i := 13) rfl
  have c16 := h.blk.cell (i := 16) rfl
  have f12 := h.blk.live 12
  have f13 := h.blk.live 13
  have hl := h.blk.lt
  have HO := Lib.hid h.blk.own
  have H := Lib.hid h
  obtain ⟨hk0, hk1⟩ := hk
  obtain ⟨hd0, hd1⟩ := hd
  have e1 := IntWalk.i64_in (S.d + 2) (by omega)
  have e2 := IntWalk.i64_in (S.k + (S.d + 2)) (by omega)
  clear h
  by_cases hf : S.fin ≤ S.k + (S.d + 2)
  · have d1 : decide (S.fin ≤ S.k + (S.d + 2)) = true := decide_eq_true hf
    have HN := Lib.hid (show S.next = { S with k := S.k + (S.d + 2), pc := 11 } by unfold HaulS.next; rw [if_pos hf])
    clear hf
    go_enter Tryz.func254, Tryz.ntmps254
    go_wp2_with fail
    refine wp_region_mixed [true, true, true, true, true, true, true, true, true, true, true, true, false] 1 12 (by kernel_rfl) (by kernel_rfl) (by kernel_rfl) ?_ (by decide) (by decide) (by decide) (by kernel_rfl) ?_
    · intro c a d v w h; cases d <;> exact h
    intro X00
    simp only [pickOps]
    repeat (go_big_quiet_step (fail))
    refine wpQuiet_nil (fun X0 => ?_)
    clear X00
    refine wpAnyM_tailL rfl (by kernel_rfl) (fun X2 => ?_)
    simp only [List.drop_succ_cons, List.drop_zero]
    go_wp2_with fail
    refine wp_region_mixed [true, true, true, true, true, true, true, true, true] 0 9 (by kernel_rfl) (by kernel_rfl) (by kernel_rfl) ?_ (by decide) (by decide) (by decide) (by kernel_rfl) ?_
    · intro c a d v w h; cases d <;> exact h
    intro X00
    simp only [pickOps]
    repeat (go_big_quiet_step (fail))
    refine wpQuiet_nil (fun X0 => ?_)
    clear X00
    refine wpAnyM_done (by kernel_rfl) (fun X0' => ?_) _
    go_wp2_with fail
    refine bodyPost_end (results_none rfl _ _ _) rfl (Does.ext ⟨g.own, ((g.w.setCell ⟨b, 13, none⟩ (.int .i64 (S.k + (S.d + 2)))).setCell ⟨b, 12, none⟩ (.int .i64 0)).setCell ⟨b, 12, none⟩ (.int .i64 11)⟩ (by (repeat (first | (with_reducible assumption) | (with_reducible exact Ext.refl _) | (with_reducible exact Ext.more _ _ _ _) | apply Ext.alloc | refine Ext.setCell ?_ (by first | exact Nat.le_refl _ | exact Nat.le_add_right _ _ | assumption) _ | apply Ext.patch | apply Ext.drew | apply Ext.drewN))) rfl (Mod.st (Mod.st (Mod.st Mod.self HO.out) HO.out) HO.out) (fun g2 m => ?_))
    rw [HN.out]
    exact (((H.out.st 13 (.int .i64 (S.k + (S.d + 2))) { S with k := S.k + (S.d + 2) } rfl rfl).st 12 (.int .i64 0) { S with k := S.k + (S.d + 2), pc := 0 } rfl rfl).st 12 (.int .i64 11) { S with k := S.k + (S.d + 2), pc := 11 } rfl rfl).keep m id id
  · have d1 : decide (S.fin ≤ S.k + (S.d + 2)) = false := decide_eq_false hf
    have HN := Lib.hid (show S.next = { S with k := S.k + (S.d + 2), pc := 0 } by unfold HaulS.next; rw [if_neg hf])
    clear hf
    go_enter Tryz.func254, Tryz.ntmps254
    go_wp2_with fail
    refine wp_region_mixed [true, true, true, true, true, true, true, true, true, true, true, true, false] 1 12 (by kernel_rfl) (by kernel_rfl) (by kernel_rfl) ?_ (by decide) (by decide) (by decide) (by kernel_rfl) ?_
    · intro c a d v w h; cases d <;> exact h
    intro X00
    simp only [pickOps]
    repeat (go_big_quiet_step (fail))
    refine wpQuiet_nil (fun X0 => ?_)
    clear X00
    refine wpAnyM_tailL rfl (by kernel_rfl) (fun X2 => ?_)
    simp only [List.drop_succ_cons, List.drop_zero]
    go_wp2_with fail
    refine wp_region_mixed [true, true, true, true, true, true, true, true, true] 0 9 (by kernel_rfl) (by kernel_rfl) (by kernel_rfl) ?_ (by decide) (by decide) (by decide) (by kernel_rfl) ?_
    · intro c a d v w h; cases d <;> exact h
    intro X00
    simp only [pickOps]
    repeat (go_big_quiet_step (fail))
    refine wpQuiet_nil (fun X0 => ?_)
    clear X00
    refine wpAnyM_done (by kernel_rfl) (fun X0' => ?_) _
    go_wp2_with fail
    refine bodyPost_end (results_none rfl _ _ _) rfl (Does.ext ⟨g.own, (g.w.setCell ⟨b, 13, none⟩ (.int .i64 (S.k + (S.d + 2)))).setCell ⟨b, 12, none⟩ (.int .i64 0)⟩ (by (repeat (first | (with_reducible assumption) | (with_reducible exact Ext.refl _) | (with_reducible exact Ext.more _ _ _ _) | apply Ext.alloc | refine Ext.setCell ?_ (by first | exact Nat.le_refl _ | exact Nat.le_add_right _ _ | assumption) _ | apply Ext.patch | apply Ext.drew | apply Ext.drewN))) rfl (Mod.st (Mod.st Mod.self HO.out) HO.out) (fun g2 m => ?_))
    rw [HN.out]
    exact ((H.out.st 13 (.int .i64 (S.k + (S.d + 2))) { S with k := S.k + (S.d + 2) } rfl rfl).st 12 (.int .i64 0) { S with k := S.k + (S.d + 2), pc := 0 } rfl rfl).keep m id id
end Go.Proofs.YtnebimabokgofaaGreat

