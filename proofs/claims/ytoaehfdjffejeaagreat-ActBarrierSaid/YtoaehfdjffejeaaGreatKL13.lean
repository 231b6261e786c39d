import Derived.Test.YtoaehfdjffejeaaGreatKL12
import Derived.Deep.DeepCutAuto
/-
  Packed: FindE.
-/
open Go.Ext renaming alloc → zA, patch → zP, drew → zD, drewN → zN, more → zM, refl → zR, setCell → zS
open Nat renaming le_refl → zL, le_add_right → zK
/-
  Merged: XFindS, XFindF, XFindE.
-/
/-
  find: the program's state, in memory; New, the readers; ends, stands, data, read.
-/
namespace Go.Proofs.YtoaehfdjffejeaaGreat
open Go Go.RowKit
set_option linter.unusedVariables false
set_option linter.unnecessarySimpa false
set_option linter.unusedSimpArgs false
set_option maxHeartbeats 2000000
structure FindS where
  c : Cnf
  head : Int
  k : Int
  array : Bool
  pc : Int
  frag : Int
  ahead : Int
  word : Int
  n : Int
  mode : Int
  slot : Int
  at_ : Int
  ref : Bool
  e : Int
  steps : Int
namespace FindS
def cells (S : FindS) : List Value := [.int .i64 S.c.frags, .int .i64 S.c.spine, .int .i64 S.c.globals, .int .i64 S.c.threads, .int .i64 S.c.locals, .int .i64 S.c.cache, .int .i64 S.c.stack, .int .i64 S.c.low, .slice S.c.A S.c.shapes.length S.c.cap,
  .int .i64 S.head, .int .i64 S.k, .bool S.array, .int .i64 S.pc, .int .i64 S.frag, .int .i64 S.ahead, .int .i64 S.word, .int .i64 S.n, .int .i64 S.mode, .int .i64 S.slot, .int .i64 S.at_, .bool S.ref, .int .i64 S.e, .int .i64 S.steps]
def fresh (c : Cnf) (head k : Int) (array : Bool) (frag : Int) : FindS := ⟨c, head, k, array, 0, frag, 0, 0, 0, 0, 0, -1, false, 0, 0⟩
def ends (S : FindS) (e : Int) : FindS := { S with pc := 6, e := e, at_ := -1, ref := false }
def okAt (S : FindS) (frag k : Int) : Bool := decide (S.c.check = 0 ∧ 0 ≤ frag ∧ frag < S.c.frags ∧ 0 ≤ k ∧ k < 8)
def stands (S : FindS) (frag k : Int) : FindS := if S.okAt frag k then { S with pc := 6, at_ := frag * 8 + k } else S.ends 10
end FindS
structure FindAt (g : GW) (t b : Nat) (S : FindS) : Prop where
  blk : Blk g t b 215 S.cells
  cnf : CnfAt g (t + 1) S.c
theorem FindAt.keep {T : Nat → Prop} {g g' : GW} {t b : Nat} {S : FindS} (h : FindAt g t b S) (m : Mod T g g') (h1 : ¬ T t) (h2 : ¬ T (t + 1)) : FindAt g' t b S := ⟨h.blk.keep m h1, h.cnf.keep m h2⟩
theorem FindAt.st {g : GW} {t b : Nat} {S : FindS} (h : FindAt g t b S) (i : Nat) (v : Value) (S' : FindS) (hc : S'.cells = S.cells.set i v) (hcc : S'.c = S.c) : FindAt ⟨g.own, g.w.setCell ⟨b, i, none⟩ v⟩ t b S' := by
  refine ⟨by rw [hc]; exact h.blk.set i v, ?_⟩
  rw [hcc]
  exact h.cnf.keep (Mod.set (T := fun x => x = t) h.blk.own) (by omega)
theorem find_at (g : GW) (t b : Nat) (S : FindS) (h : FindAt g t b S) : Calls Tryz.prog 101 #[.pointer (some ⟨b, 0, none⟩)] g.w (fun e w' => e = .returned (.int .i64 S.at_) ∧ g.w = w') := by
  have c0 := h.blk.cell (i := 19) rfl
  have hl := h.blk.lt
  clear h
  go_enter Tryz.func101, Tryz.ntmps101
  go_wp2_with fail
  go_ret
  exact ⟨rfl, rfl⟩
theorem find_errno (g : GW) (t b : Nat) (S : FindS) (h : FindAt g t b S) : Calls Tryz.prog 100 #[.pointer (some ⟨b, 0, none⟩)] g.w (fun e w' => e = .returned (.int .i64 S.e) ∧ g.w = w') := by
  have c0 := h.blk.cell (i := 21) rfl
  have hl := h.blk.lt
  clear h
  go_enter Tryz.func100, Tryz.ntmps100
  go_wp2_with fail
  go_ret
  exact ⟨rfl, rfl⟩
theorem find_ref (g : GW) (t b : Nat) (S : FindS) (h : FindAt g t b S) : Calls Tryz.prog 102 #[.pointer (some ⟨b, 0, none⟩)] g.w (fun e w' => e = .returned (.bool (decide (0 ≤ S.at_) && S.ref)) ∧ g.w = w') := by
  have c0 := h.blk.cell (i := 19) rfl
  have c1 := h.blk.cell (i := 20) rfl
  have hl := h.blk.lt
  clear h
  by_cases hp : 0 ≤ S.at_
  · have hd : decide (0 ≤ S.at_) = true := decide_eq_true hp
    go_enter Tryz.func102, Tryz.ntmps102
    go_wp2_with fail
    go_ret
    exact ⟨by first | rfl | (rw [hd]; rfl), rfl⟩
  · have hd : decide (0 ≤ S.at_) = false := decide_eq_false hp
    go_enter Tryz.func102, Tryz.ntmps102
    go_wp2_with fail
    go_ret
    exact ⟨by first | rfl | (rw [hd]; rfl), rfl⟩
theorem find_ends (g : GW) (t b : Nat) (S : FindS) (x : Int) (h : FindAt g t b S) : Calls Tryz.prog 177 #[.pointer (some ⟨b, 0, none⟩), .int .i64 x] g.w (Does (.bool true) g (fun x => x = t) (fun g' => FindAt g' t b (S.ends x))) := by
  have c0 := h.blk.cell (i := 12) rfl
  have c1 := h.blk.cell (i := 21) rfl
  have c2 := h.blk.cell (i := 19) rfl
  have c3 := h.blk.cell (i := 20) rfl
  have f0 := h.blk.live 12
  have f1 := h.blk.live 21
  have f2 := h.blk.live 19
  have f3 := h.blk.live 20
  have hl := h.blk.lt
  have HO := Lib.hid h.blk.own
  have H := Lib.hid ((((h.st 12 (.int .i64 6) { S with pc := 6 } rfl rfl).st 21 (.int .i64 x) { S with pc := 6, e := x } rfl rfl).st 19 (.int .i64 (-1)) { S with pc := 6, e := x, at_ := -1 } rfl rfl).st 20 (.bool false) (S.ends x) rfl rfl)
  clear h
  go_enter Tryz.func177, Tryz.ntmps177
  go_wp2_with fail
  go_ret
  exact Does.of ⟨g.own, _⟩ rfl rfl (Mod.st (Mod.st (Mod.st (Mod.st Mod.self HO.out) HO.out) HO.out) HO.out) H.out
theorem cFrag_yes {S : FindS} {frag k : Int} (h : S.okAt frag k = true) : cFrag S.c frag k = .tuple #[.int .i64 (frag * 8 + k), .int .i64 0] := by
  have h' : S.c.check = 0 ∧ 0 ≤ frag ∧ frag < S.c.frags ∧ 0 ≤ k ∧ k < 8 := by simpa [FindS.okAt] using h
  unfold cFrag; rw [if_pos h']
theorem cFrag_no {S : FindS} {frag k : Int} (h : S.okAt frag k = false) : cFrag S.c frag k = .tuple #[.int .i64 0, .int .i64 1] := by
  have h' : ¬ (S.c.check = 0 ∧ 0 ≤ frag ∧ frag < S.c.frags ∧ 0 ≤ k ∧ k < 8) := by intro hh; rw [show S.okAt frag k = true from by simpa [FindS.okAt] using hh] at h; cases h
  unfold cFrag; rw [if_neg h']
theorem find_stands (g : GW) (t b : Nat) (S : FindS) (frag k : Int) (h : FindAt g t b S) : Calls Tryz.prog 176 #[.pointer (some ⟨b, 0, none⟩), .int .i64 frag, .int .i64 k] g.w (Does (.bool true) g (fun x => x = t) (fun g' => FindAt g' t b (S.stands frag k))) := by
  have k0 := h.blk.cell (i := 0) rfl
  have k1 := h.blk.cell (i := 1) rfl
  have k2 := h.blk.cell (i := 2) rfl
  have k3 := h.blk.cell (i := 3) rfl
  have k4 := h.blk.cell (i := 4) rfl
  have k5 := h.blk.cell (i := 5) rfl
  have k6 := h.blk.cell (i := 6) rfl
  have k7 := h.blk.cell (i := 7) rfl
  have k8 := h.blk.cell (i := 8) rfl
  have hl := h.blk.lt
  have HF := Lib.hid (frag_any S.c frag k g.w h.cnf.ok)
  have H := Lib.hid h
  have HO := Lib.hid h.blk.own
  unfold Cnf.val at HF
  clear h
  cases hok : S.okAt frag k
  · have HV := Lib.hid (show S.stands frag k = S.ends 10 by unfold FindS.stands; rw [if_neg (by rw [hok]; simp)])
    rw [cFrag_no hok] at HF
    clear hok
    go_enter Tryz.func176, Tryz.ntmps176
    go_wp2_with fail
    refine HF.out.mono ?_
    rintro e w1 ⟨rfl, hE⟩
    have HE := Lib.hid (Mod.ext (T := fun _ => False) (g := g) (show Ext g.w w1 from hE) 0)
    have HX := Lib.hid (show (g.to 0 w1).w = w1 from rfl)
    have H1 := Lib.hid (H.out.keep HE.out id id)
    clear hE
    go_wp2_with fail
    refine (find_ends (g.to 0 w1) t b S 10 H1.out).mono ?_
    rintro e w2 ⟨rfl, own2, m2, r2⟩
    have M2 := Lib.hid m2
    have R2 := Lib.hid r2
    clear m2 r2
    go_wp2_with fail
    go_ret
    exact ⟨rfl, own2, (HE.out.mono (fun _ => False.elim)).trans M2.out, by rw [HV.out]; exact R2.out⟩
  · have HV := Lib.hid (show S.stands frag k = { S with pc := 6, at_ := frag * 8 + k } by unfold FindS.stands; rw [if_pos hok])
    rw [cFrag_yes hok] at HF
    clear hok
    go_enter Tryz.func176, Tryz.ntmps176
    go_wp2_with fail
    refine HF.out.mono ?_
    rintro e w1 ⟨rfl, hE⟩
    have HE := Lib.hid (Mod.ext (T := fun _ => False) (g := g) (show Ext g.w w1 from hE) 0)
    have H1 := Lib.hid (H.out.keep HE.out id id)
    have f0 := H1.out.blk.live 12
    have f1 := H1.out.blk.live 19
    have c0 := H1.out.blk.cell (i := 12) rfl
    have c1 := H1.out.blk.cell (i := 19) rfl
    have hl1 := H1.out.blk.lt
    simp only [GW.to] at f0 f1 c0 c1 hl1
    clear hE k0 k1 k2 k3 k4 k5 k6 k7 k8 hl
    go_wp2_with fail
    go_ret
    refine ⟨rfl, (g.to 0 w1).own, ?_, ?_⟩
    · exact (HE.out.mono (fun _ => False.elim)).trans (Mod.st (Mod.st Mod.self H1.out.blk.own) H1.out.blk.own)
    · rw [HV.out]
      exact (H1.out.st 12 (.int .i64 6) { S with pc := 6 } rfl rfl).st 19 (.int .i64 (frag * 8 + k)) { S with pc := 6, at_ := frag * 8 + k } rfl rfl
theorem find_data (g : GW) (t b : Nat) (S : FindS) (frag : Int) (h : FindAt g t b S) (hk : 0 ≤ S.k) : Calls Tryz.prog 178 #[.pointer (some ⟨b, 0, none⟩), .int .i64 frag] g.w (Does (.bool true) g (fun x => x = t) (fun g' => FindAt g' t b (S.stands frag (S.k % 8)))) := by
  have c0 := h.blk.cell (i := 10) rfl
  have hl := h.blk.lt
  have HS := Lib.hid (find_stands g t b S frag (S.k % 8) h)
  clear h
  go_enter Tryz.func178, Tryz.ntmps178
  go_wp2_with fail
  refine HS.out.mono ?_
  rintro e w1 ⟨rfl, own1, m1, r1⟩
  have M1 := Lib.hid m1
  have R1 := Lib.hid r1
  clear m1 r1
  go_wp2_with fail
  go_ret
  exact ⟨rfl, own1, M1.out, R1.out⟩
def rdV (S : FindS) (m : MemS) (frag k : Int) : Value := if S.okAt frag k then .tuple #[.complex .f64 (m.peek (frag * 8 + k)).1 (m.peek (frag * 8 + k)).2, .bool (inB (frag * 8 + k) m.l.length)] else .tuple #[.complex .f64 0 0, .bool false]
def rdM (S : FindS) (m : MemS) (frag k : Int) : MemS := if S.okAt frag k then m.tick else m
theorem find_read (g : GW) (t b tm bm : Nat) (S : FindS) (m : MemS) (frag k : Int) (h : FindAt g t b S) (hm : MemAt g tm bm m) (hc : 0 ≤ m.count ∧ m.count ≤ 1099511627776) :
    Calls Tryz.prog 174 #[.pointer (some ⟨b, 0, none⟩), .pointer (some ⟨bm, 0, none⟩), .int .i64 frag, .int .i64 k] g.w (Does (rdV S m frag k) g (fun x => x = tm) (fun g' => MemAt g' tm bm (rdM S m frag k))) := by
  have k0 := h.blk.cell (i := 0) rfl
  have k1 := h.blk.cell (i := 1) rfl
  have k2 := h.blk.cell (i := 2) rfl
  have k3 := h.blk.cell (i := 3) rfl
  have k4 := h.blk.cell (i := 4) rfl
  have k5 := h.blk.cell (i := 5) rfl
  have k6 := h.blk.cell (i := 6) rfl
  have k7 := h.blk.cell (i := 7) rfl
  have k8 := h.blk.cell (i := 8) rfl
  have hl := h.blk.lt
  have HF := Lib.hid (frag_any S.c frag k g.w h.cnf.ok)
  have HM := Lib.hid hm
  unfold Cnf.val at HF
  clear h hm
  cases hok : S.okAt frag k
  · have HV := Lib.hid (show rdV S m frag k = .tuple #[.complex .f64 0 0, .bool false] by unfold rdV; rw [if_neg (by rw [hok]; simp)])
    have HV2 := Lib.hid (show rdM S m frag k = m by unfold rdM; rw [if_neg (by rw [hok]; simp)])
    rw [cFrag_no hok] at HF
    clear hok
    go_enter Tryz.func174, Tryz.ntmps174
    go_wp2_with fail
    refine HF.out.mono ?_
    rintro e w1 ⟨rfl, hE⟩
    have HE := Lib.hid (Mod.ext (T := fun _ => False) (g := g) (show Ext g.w w1 from hE) 0)
    clear hE
    go_wp2_with fail
    go_ret2
    exact ⟨by rw [HV.out]; rfl, (g.to 0 w1).own, HE.out.mono (fun _ => False.elim), by rw [HV2.out]; exact HM.out.keep HE.out id⟩
  · have HV := Lib.hid (show rdV S m frag k = .tuple #[.complex .f64 (m.peek (frag * 8 + k)).1 (m.peek (frag * 8 + k)).2, .bool (inB (frag * 8 + k) m.l.length)] by unfold rdV; rw [if_pos hok])
    have HV2 := Lib.hid (show rdM S m frag k = m.tick by unfold rdM; rw [if_pos hok])
    rw [cFrag_yes hok] at HF
    clear hok
    go_enter Tryz.func174, Tryz.ntmps174
    go_wp2_with fail
    refine HF.out.mono ?_
    rintro e w1 ⟨rfl, hE⟩
    have HE := Lib.hid (Mod.ext (T := fun _ => False) (g := g) (show Ext g.w w1 from hE) 0)
    have HM1 := Lib.hid (HM.out.keep HE.out id)
    clear hE
    go_wp2_with fail
    refine (mem_read (g.to 0 w1) tm bm (frag * 8 + k) m HM1.out hc).mono ?_
    rintro e w2 ⟨rfl, own2, m2, r2⟩
    have M2 := Lib.hid m2
    have R2 := Lib.hid r2
    clear m2 r2
    cases hb : inB (frag * 8 + k) m.l.length
    · rw [hb] at HV
      clear hb
      go_wp2_with fail
      go_ret2
      exact ⟨by rw [HV.out]; rfl, own2, (HE.out.mono (fun _ => False.elim)).trans M2.out, by rw [HV2.out]; exact R2.out⟩
    · rw [hb] at HV
      clear hb
      go_wp2_with fail
      go_ret2
      exact ⟨by rw [HV.out]; rfl, own2, (HE.out.mono (fun _ => False.elim)).trans M2.out, by rw [HV2.out]; exact R2.out⟩
end Go.Proofs.YtoaehfdjffejeaaGreat
/-
  find: New; the head.
-/
namespace Go.Proofs.YtoaehfdjffejeaaGreat
open Go Go.RowKit
set_option linter.unusedVariables false
set_option linter.unnecessarySimpa false
set_option linter.unusedSimpArgs false
set_option maxHeartbeats 2000000
def FindMade (c : Cnf) (head k : Int) (array : Bool) (frag : Int) (t : Nat) (g : GW) (e : Ending) (w' : World) : Prop := ∃ own' b cm, e = .returned (.pointer (some ⟨b, 0, none⟩)) ∧ Mod (fun _ => False) g ⟨own', w'⟩ ∧ FindAt ⟨own', w'⟩ t b (FindS.fresh cm head k array frag) ∧ cm.Same c
theorem find_field (c : Cnf) (head k : Int) (t : Nat) (g : GW) (hc : c.Ok g.w) (hmax : c.shapes.length ≤ 1000000) : Calls Tryz.prog 139 #[c.val, .int .i64 head, .int .i64 k] g.w (FindMade c head k false head t g) := by
  have HC := Lib.hid (copy_any c (t + 1) (g.to 9 (g.w.alloc (.cells #[.int .i64 c.frags, .int .i64 c.spine, .int .i64 c.globals, .int .i64 c.threads, .int .i64 c.locals, .int .i64 c.cache, .int .i64 c.stack, .int .i64 c.low, .slice c.A c.shapes.length c.cap] 46))) (hc.ext (by (repeat (first | (with_reducible (first | assumption | exact zR _ | exact zM _ _ _ _)) | apply zA | refine zS ?_ (by first | exact zL _ | exact zK _ _ | assumption) _ | apply zP | apply zD | apply zN)))) hmax)
  have HE0 := Lib.hid (Mod.ext (T := fun _ => False) (g := g) (show Ext g.w (g.w.alloc (.cells #[.int .i64 c.frags, .int .i64 c.spine, .int .i64 c.globals, .int .i64 c.threads, .int .i64 c.locals, .int .i64 c.cache, .int .i64 c.stack, .int .i64 c.low, .slice c.A c.shapes.length c.cap] 46)) by (repeat (first | (with_reducible (first | assumption | exact zR _ | exact zM _ _ _ _)) | apply zA | refine zS ?_ (by first | exact zL _ | exact zK _ _ | assumption) _ | apply zP | apply zD | apply zN))) 9)
  unfold Cnf.val at HC ⊢
  clear hc
  go_enter Tryz.func139, Tryz.ntmps139
  go_wp2_with fail
  refine HC.out.mono ?_
  rintro e w1 ⟨cm, rfl, hs, hm, hE⟩
  have HS := Lib.hid hs
  have HM := Lib.hid hm
  have HE1 := Lib.hid (Mod.ext (T := fun _ => False) (g := g.to 9 (g.w.alloc (.cells #[.int .i64 c.frags, .int .i64 c.spine, .int .i64 c.globals, .int .i64 c.threads, .int .i64 c.locals, .int .i64 c.cache, .int .i64 c.stack, .int .i64 c.low, .slice c.A c.shapes.length c.cap] 46))) hE (t + 1))
  clear hs hm hE
  unfold Cnf.val
  go_wp2_with fail
  go_ret
  have m2 : Mod (fun _ => False) ((g.to 9 (g.w.alloc (.cells #[.int .i64 c.frags, .int .i64 c.spine, .int .i64 c.globals, .int .i64 c.threads, .int .i64 c.locals, .int .i64 c.cache, .int .i64 c.stack, .int .i64 c.low, .slice c.A c.shapes.length c.cap] 46))).to (t + 1) w1) _ := Mod.ext (T := fun _ => False) (show Ext w1 (w1.alloc (.cells (FindS.fresh cm head k false head).cells.toArray 215)) by (repeat (first | (with_reducible (first | assumption | exact zR _ | exact zM _ _ _ _)) | apply zA | refine zS ?_ (by first | exact zL _ | exact zK _ _ | assumption) _ | apply zP | apply zD | apply zN))) t
  exact ⟨_, w1.heap.size, cm, rfl, (HE0.out.trans HE1.out).trans m2, ⟨Blk.new ((g.to 9 (g.w.alloc (.cells #[.int .i64 c.frags, .int .i64 c.spine, .int .i64 c.globals, .int .i64 c.threads, .int .i64 c.locals, .int .i64 c.cache, .int .i64 c.stack, .int .i64 c.low, .slice c.A c.shapes.length c.cap] 46))).to (t + 1) w1) t 215 (FindS.fresh cm head k false head).cells, HM.out.keep m2 id⟩, HS.out⟩
theorem find_first_kind (g : GW) (t b : Nat) (S : FindS) (p q : Nat) (kd md : Int) (arr : Bool) (refs : List Bool) (h : FindAt g t b S) (ht : ∀ w, Calls Tryz.prog 173 #[.complex .f64 p q] w (Gives (.tuple #[.int .i64 kd, .int .i64 md, .bool true]) w)) (hat : S.c.shapeAt kd = some (arr, refs)) (hne : arr ≠ S.array) :
    Calls Tryz.prog 175 #[.pointer (some ⟨b, 0, none⟩), .complex .f64 p q] g.w (Does (.bool false) g (fun x => x = t) (fun g' => FindAt g' t b (S.ends 4))) := by
  have HSH := Lib.hid (fun w' (he : Ext g.w w') => shape_any S.c kd w' (h.cnf.ok.ext he))
  unfold Cnf.val at HSH
  have H := Lib.hid h
  have HT := Lib.hid (ht g.w)
  clear h ht
  go_enter Tryz.func175, Tryz.ntmps175
  go_wp2_with fail
  refine HT.out.mono ?_
  rintro e w1 ⟨rfl, hE⟩
  have HE1 := Lib.hid (Mod.ext (T := fun _ => False) (g := g) (show Ext g.w w1 from hE) 0)
  have H1 := Lib.hid (H.out.keep HE1.out id id)
  have HX1 := Lib.hid (show Ext g.w w1 from hE)
  clear hE HT
  have k0 := H1.out.blk.cell (i := 0) rfl
  have k1 := H1.out.blk.cell (i := 1) rfl
  have k2 := H1.out.blk.cell (i := 2) rfl
  have k3 := H1.out.blk.cell (i := 3) rfl
  have k4 := H1.out.blk.cell (i := 4) rfl
  have k5 := H1.out.blk.cell (i := 5) rfl
  have k6 := H1.out.blk.cell (i := 6) rfl
  have k7 := H1.out.blk.cell (i := 7) rfl
  have k8 := H1.out.blk.cell (i := 8) rfl
  have hl := H1.out.blk.lt
  simp only [GW.to] at k0 k1 k2 k3 k4 k5 k6 k7 k8 hl
  go_wp2_with fail
  refine (HSH.out _ HX1.out).mono ?_
  rintro e w2 ⟨s', rfl, hs, hfr, hok, hE⟩
  have HS := Lib.hid (hs.trans (by rw [hat]; rfl : _ = (arr, refs)))
  have HI := Lib.hid (show (S.c.shapeAt kd).isSome = true by rw [hat]; rfl)
  have HOK := Lib.hid hok
  clear hs hfr hok HSH k0 k1 k2 k3 k4 k5 k6 k7 k8 hl hat
  rw [HI.out]
  obtain ⟨arr', A', cap', refs'⟩ := s'
  have ha : arr' = arr := congrArg Prod.fst HS.out
  have hr : refs' = refs := congrArg Prod.snd HS.out
  subst ha hr
  clear HS HI
  unfold Shp.val
  have HE2 := Lib.hid (Mod.ext (T := fun _ => False) (g := g.to 0 w1) (show Ext w1 (w2.alloc (.cells #[.bool arr', .slice A' refs'.length cap'] 73)) from (show Ext w1 w2 from hE).trans (by (repeat (first | (with_reducible (first | assumption | exact zR _ | exact zM _ _ _ _)) | apply zA | refine zS ?_ (by first | exact zL _ | exact zK _ _ | assumption) _ | apply zP | apply zD | apply zN)))) 0)
  have HE := Lib.hid (HE1.out.trans HE2.out)
  have H2 := Lib.hid (H1.out.keep HE2.out id id)
  have HB := Lib.hid (show (w2.alloc (.cells #[.bool arr', .slice A' refs'.length cap'] 73)).heap[w2.heap.size]? = some (.cells #[.bool arr', .slice A' refs'.length cap'] 73) from World.row_alloc_new _)
  have HOK2 := Lib.hid (HOK.out.ext (show Ext w2 (w2.alloc (.cells #[.bool arr', .slice A' refs'.length cap'] 73)) by (repeat (first | (with_reducible (first | assumption | exact zR _ | exact zM _ _ _ _)) | apply zA | refine zS ?_ (by first | exact zL _ | exact zK _ _ | assumption) _ | apply zP | apply zD | apply zN))))
  clear hE H1 HX1 HE1 HE2 H HOK
  go_upto_region 3 with fail
  generalize w2.heap.size = bs at *
  generalize w2.alloc (.cells #[.bool arr', .slice A' refs'.length cap'] 73) = wb at *
  have c0 := H2.out.blk.cell (i := 11) rfl
  have hl := H2.out.blk.lt
  have s0 : wb.cell? ⟨bs, 0, none⟩ = some (.bool arr') := by simp only [World.cell?, HB.out]; rfl
  have hbs : bs < wb.heap.size := (Array.getElem?_eq_some_iff.1 HB.out).1
  simp only [GW.to] at c0 hl
  have HEX := Lib.hid (fun X => find_ends (((g.to 0 w1).to 0 wb).pt X) t b S 4 (H2.out.keep (Mod.pt (Mod.refl (fun _ => False) _) X) id id))
  generalize S.array = sa at *
  cases arr' <;> cases sa <;> first | exact absurd rfl hne | skip
  all_goals
    clear hne
    go_wp2_with fail
    refine wp_region_mixed [true, true, true, true, true, true, true, true] 0 8 (by kernel_rfl) (by kernel_rfl) (by kernel_rfl) ?_ (by decide) (by decide) (by decide) (by kernel_rfl) ?_
    · intro c a d v w h; cases d <;> exact h
    intro X00
    simp only [pickOps]
    repeat (go_big_quiet_step (fail))
    refine wpQuiet_nil (fun X0 => ?_)
    clear X00
    refine wpAnyM_done (by kernel_rfl) (fun X0' => ?_) _
    go_wp2_with fail
    refine (HEX.out _).mono ?_
    rintro e w3 ⟨rfl, own3, m3, r3⟩
    have M3 := Lib.hid m3
    have R3 := Lib.hid r3
    clear m3 r3
    go_wp2_with fail
    go_ret
    exact ⟨rfl, own3, (HE.out.mono (fun _ => False.elim)).trans ((Mod.pt (Mod.refl _ _) _).trans M3.out), R3.out⟩
set_option maxRecDepth 100000 in
theorem find_first_array (g : GW) (t b : Nat) (S : FindS) (p q : Nat) (kd : Int) (refs : List Bool) (h : FindAt g t b S) (ht : ∀ w, Calls Tryz.prog 173 #[.complex .f64 p q] w (Gives (.tuple #[.int .i64 kd, .int .i64 0, .bool true]) w)) (hat : S.c.shapeAt kd = some (true, refs)) (hk : S.array = true) (hl1 : 0 < refs.length) :
    Calls Tryz.prog 175 #[.pointer (some ⟨b, 0, none⟩), .complex .f64 p q] g.w (Does (.bool true) g (fun x => x = t) (fun g' => FindAt g' t b { S with ref := refs.getD 0 false, pc := 2 })) := by
  have HK := Lib.hid hk
  clear hk
  have HSH := Lib.hid (fun w' (he : Ext g.w w') => shape_any S.c kd w' (h.cnf.ok.ext he))
  unfold Cnf.val at HSH
  have H := Lib.hid h
  have HT := Lib.hid (ht g.w)
  clear h ht
  go_enter Tryz.func175, Tryz.ntmps175
  go_wp2_with fail
  refine HT.out.mono ?_
  rintro e w1 ⟨rfl, hE⟩
  have HE1 := Lib.hid (Mod.ext (T := fun _ => False) (g := g) (show Ext g.w w1 from hE) 0)
  have H1 := Lib.hid (H.out.keep HE1.out id id)
  have HX1 := Lib.hid (show Ext g.w w1 from hE)
  clear hE HT
  have k0 := H1.out.blk.cell (i := 0) rfl
  have k1 := H1.out.blk.cell (i := 1) rfl
  have k2 := H1.out.blk.cell (i := 2) rfl
  have k3 := H1.out.blk.cell (i := 3) rfl
  have k4 := H1.out.blk.cell (i := 4) rfl
  have k5 := H1.out.blk.cell (i := 5) rfl
  have k6 := H1.out.blk.cell (i := 6) rfl
  have k7 := H1.out.blk.cell (i := 7) rfl
  have k8 := H1.out.blk.cell (i := 8) rfl
  have hl := H1.out.blk.lt
  simp only [GW.to] at k0 k1 k2 k3 k4 k5 k6 k7 k8 hl
  go_wp2_with fail
  refine (HSH.out _ HX1.out).mono ?_
  rintro e w2 ⟨s', rfl, hs, hfr, hok, hE⟩
  have HS := Lib.hid (hs.trans (by rw [hat]; rfl : _ = (true, refs)))
  have HI := Lib.hid (show (S.c.shapeAt kd).isSome = true by rw [hat]; rfl)
  have HOK := Lib.hid hok
  clear hs hfr hok HSH k0 k1 k2 k3 k4 k5 k6 k7 k8 hl hat
  rw [HI.out]
  obtain ⟨arr', A', cap', refs'⟩ := s'
  have ha : arr' = true := congrArg Prod.fst HS.out
  have hr : refs' = refs := congrArg Prod.snd HS.out
  subst ha hr
  clear HS HI
  unfold Shp.val
  have HE2 := Lib.hid (Mod.ext (T := fun _ => False) (g := g.to 0 w1) (show Ext w1 (w2.alloc (.cells #[.bool true, .slice A' refs'.length cap'] 73)) from (show Ext w1 w2 from hE).trans (by (repeat (first | (with_reducible (first | assumption | exact zR _ | exact zM _ _ _ _)) | apply zA | refine zS ?_ (by first | exact zL _ | exact zK _ _ | assumption) _ | apply zP | apply zD | apply zN)))) 0)
  have HE := Lib.hid (HE1.out.trans HE2.out)
  have H2 := Lib.hid (H1.out.keep HE2.out id id)
  have HB := Lib.hid (show (w2.alloc (.cells #[.bool true, .slice A' refs'.length cap'] 73)).heap[w2.heap.size]? = some (.cells #[.bool true, .slice A' refs'.length cap'] 73) from World.row_alloc_new _)
  have HOK2 := Lib.hid (HOK.out.ext (show Ext w2 (w2.alloc (.cells #[.bool true, .slice A' refs'.length cap'] 73)) by (repeat (first | (with_reducible (first | assumption | exact zR _ | exact zM _ _ _ _)) | apply zA | refine zS ?_ (by first | exact zL _ | exact zK _ _ | assumption) _ | apply zP | apply zD | apply zN))))
  clear hE H1 HX1 HE1 HE2 H HOK
  go_upto_region 3 with fail
  generalize w2.heap.size = bs at *
  generalize w2.alloc (.cells #[.bool true, .slice A' refs'.length cap'] 73) = wb at *
  have c1 := H2.out.blk.cell (i := 11) rfl
  have c2 := H2.out.blk.cell (i := 12) rfl
  have c3 := H2.out.blk.cell (i := 20) rfl
  have c4 := H2.out.blk.cell (i := 10) rfl
  have c5 := H2.out.blk.cell (i := 9) rfl
  have f2 := H2.out.blk.live 12
  have f3 := H2.out.blk.live 20
  have f4 := H2.out.blk.live 14
  have f5 := H2.out.blk.live 15
  have hl := H2.out.blk.lt
  have s0 : wb.cell? ⟨bs, 0, none⟩ = some (.bool true) := by simp only [World.cell?, HB.out]; rfl
  have s1 : wb.cell? ⟨bs, 1, none⟩ = some (.slice A' refs'.length cap') := by simp only [World.cell?, HB.out]; rfl
  have hbs : bs < wb.heap.size := (Array.getElem?_eq_some_iff.1 HB.out).1
  simp only [GW.to] at c1 c2 c3 c4 c5 f2 f3 f4 f5 hl
  have HO := Lib.hid H2.out.blk.own
  obtain ⟨bq, oq, hA, hbq, hcq⟩ := HOK2.out.refs.cases (by simpa using hl1)
  have z0 := hcq 0 (.bool (refs'.getD 0 false)) (by rw [List.getElem?_map, List.getElem?_eq_getElem hl1, List.getD_eq_getElem?_getD, List.getElem?_eq_getElem hl1]; rfl)
  rw [Nat.add_zero] at z0
  simp only at hA
  subst hA
  rw [HK.out] at c1
  generalize hrf : refs'.getD 0 false = rf at *
  have HRF := Lib.hid hrf
  clear hrf
  have HEX := Lib.hid ((H2.out.st 20 (.bool rf) { S with ref := rf } rfl rfl).st 12 (.int .i64 2) { S with ref := rf, pc := 2 } rfl rfl)
  clear hcq
  go_wp2_with fail
  refine wp_region_mixed [true, true, true, true, true, true, true, true] 0 8 (by kernel_rfl) (by kernel_rfl) (by kernel_rfl) ?_ (by decide) (by decide) (by decide) (by kernel_rfl) ?_
  · intro c a d v w h; cases d <;> exact h
  intro X00
  simp only [pickOps]
  repeat (go_big_quiet_step (fail))
  refine wpQuiet_nil (fun X0 => ?_)
  clear X00
  refine wpAnyM_done (by kernel_rfl) (fun X0' => ?_) _
  go_wp2_with fail
  go_ret
  exact Does.ext ⟨((g.to 0 w1).to 0 wb).own, (wb.setCell ⟨b, 20, none⟩ (.bool rf)).setCell ⟨b, 12, none⟩ (.int .i64 2)⟩ (by (repeat (first | (with_reducible (first | assumption | exact zR _ | exact zM _ _ _ _)) | apply zA | refine zS ?_ (by first | exact zL _ | exact zK _ _ | assumption) _ | apply zP | apply zD | apply zN))) rfl ((HE.out.mono (fun _ => False.elim)).trans (Mod.st (Mod.st Mod.self HO.out) HO.out)) (fun g2 m => by rw [HRF.out]; exact HEX.out.keep m id id)
end Go.Proofs.YtoaehfdjffejeaaGreat
/-
  Merged: XFindB, XFindE, XFindT.
-/
/-
  find: the steps.
-/
namespace Go.Proofs.YtoaehfdjffejeaaGreat
open Go Go.RowKit
set_option linter.unusedVariables false
set_option linter.unnecessarySimpa false
set_option linter.unusedSimpArgs false
set_option maxHeartbeats 4000000
set_option maxRecDepth 100000
theorem find_read_ok (g : GW) (t b tm bm : Nat) (S : FindS) (m : MemS) (frag k : Int) (h : FindAt g t b S) (hm : MemAt g tm bm m) (hc : 0 ≤ m.count ∧ m.count ≤ 1099511627776) (hok : S.okAt frag k = true) (hin : inB (frag * 8 + k) m.l.length = true) (p q : Nat) (hw : m.peek (frag * 8 + k) = (p, q)) (ht : t ≠ tm) (ht1 : t + 1 ≠ tm) :
    Calls Tryz.prog 174 #[.pointer (some ⟨b, 0, none⟩), .pointer (some ⟨bm, 0, none⟩), .int .i64 frag, .int .i64 k] g.w (Does (.tuple #[.complex .f64 p q, .bool true]) g (fun x => x = tm) (fun g' => MemAt g' tm bm m.tick ∧ FindAt g' t b S)) := by
  refine (find_read g t b tm bm S m frag k h hm hc).mono ?_
  rintro e w' ⟨rfl, own, md, r⟩
  refine ⟨?_, own, md, ?_, h.keep md (fun e => ht e) (fun e => ht1 e)⟩
  · unfold rdV; rw [if_pos hok, hw, hin]
  · unfold rdM at r; rw [if_pos hok] at r; exact r
theorem find_begins_head (g : GW) (t b tm bm : Nat) (S S' : FindS) (m : MemS) (r : Bool) (p q : Nat) (h : FindAt g t b S) (hm : MemAt g tm bm m) (hc : 0 ≤ m.count ∧ m.count ≤ 1099511627776) (hpc : S.pc = 0) (hok : S.okAt S.head 1 = true) (hin : inB (S.head * 8 + 1) m.l.length = true) (hw : m.peek (S.head * 8 + 1) = (p, q)) (ht : t ≠ tm) (ht1 : t + 1 ≠ tm)
    (hF : ∀ g', FindAt g' t b S → Calls Tryz.prog 175 #[.pointer (some ⟨b, 0, none⟩), .complex .f64 p q] g'.w (Does (.bool r) g' (fun x => x = t) (fun g'' => FindAt g'' t b S'))) :
    Calls Tryz.prog 143 #[.pointer (some ⟨b, 0, none⟩), .pointer (some ⟨bm, 0, none⟩)] g.w (Does (.bool (!r)) g (fun x => x = t ∨ x = tm) (fun g' => FindAt g' t b S' ∧ MemAt g' tm bm m.tick)) := by
  have c0 := h.blk.cell (i := 12) rfl
  have c1 := h.blk.cell (i := 9) rfl
  have hl := h.blk.lt
  rw [hpc] at c0
  have HR := Lib.hid (find_read_ok g t b tm bm S m S.head 1 h hm hc hok hin p q hw ht ht1)
  have HF := Lib.hid hF
  have HT := Lib.hid ht
  clear h hm hpc hok hin hw hF ht ht1
  go_enter Tryz.func143, Tryz.ntmps143
  go_wp2_with fail
  go_step3
  go_wp2_with fail
  refine HR.out.mono ?_
  rintro e w1 ⟨rfl, own1, m1, r1, r2⟩
  have M1 := Lib.hid m1
  have R1 := Lib.hid r1
  have R2 := Lib.hid r2
  clear m1 r1 r2 c0 c1 hl
  go_wp2_with fail
  refine (HF.out ⟨own1, w1⟩ R2.out).mono ?_
  rintro e w2 ⟨rfl, own2, m2, r3⟩
  have M2 := Lib.hid m2
  have R3 := Lib.hid r3
  clear m2 r3
  go_wp2_with fail
  rw [Exit.noGoto_ret]
  go_ret
  exact ⟨rfl, own2, (M1.out.mono (fun x hx => Or.inr hx)).trans (M2.out.mono (fun x hx => Or.inl hx)), R3.out, R1.out.keep M2.out (fun e => HT.out e.symm)⟩
theorem find_elem_length (g : GW) (t b tm bm : Nat) (S : FindS) (m : MemS) (i : Int) (h : FindAt g t b S) (hm : MemAt g tm bm m) (hc : 0 ≤ m.count ∧ m.count ≤ 1099511627776) (hpc : S.pc = 2) (hok : S.okAt S.head 2 = true) (hin : inB (S.head * 8 + 2) m.l.length = true) (hw : m.peek (S.head * 8 + 2) = (floatOfInt .f64 i, 0)) (ht : t ≠ tm) (ht1 : t + 1 ≠ tm)
    (hi0 : 0 ≤ i) (hi1 : i ≤ 512) (hk0 : 0 ≤ S.k) (hk1 : S.k < i) :
    Calls Tryz.prog 144 #[.pointer (some ⟨b, 0, none⟩), .pointer (some ⟨bm, 0, none⟩)] g.w (Does (.bool false) g (fun x => x = t ∨ x = tm) (fun g' => FindAt g' t b { S with n := sData i, pc := 3 } ∧ MemAt g' tm bm m.tick)) := by
  have c0 := h.blk.cell (i := 12) rfl
  have c1 := h.blk.cell (i := 9) rfl
  have hl := h.blk.lt
  rw [hpc] at c0
  have HR := Lib.hid (find_read_ok g t b tm bm S m S.head 2 h hm hc hok hin _ _ hw ht ht1)
  have HI := Lib.hid (fun w => nint_fits i ⟨by omega, by omega⟩ w)
  generalize floatOfInt .f64 i = p at *
  have HT := Lib.hid (And.intro ht ht1)
  have H := Lib.hid h
  clear h hm hpc hok hin hw ht ht1
  go_enter Tryz.func144, Tryz.ntmps144
  go_wp2_with fail
  go_step3
  go_wp2_with fail
  refine HR.out.mono ?_
  rintro e w1 ⟨rfl, own1, m1, r1, r2⟩
  have M1 := Lib.hid m1
  have R1 := Lib.hid r1
  have R2 := Lib.hid r2
  clear m1 r1 r2 c0 c1 hl
  go_wp2_with fail
  refine (HI.out _).mono ?_
  rintro e w2 ⟨rfl, hE⟩
  have M2 := Lib.hid (Mod.ext (T := fun _ => False) (g := ⟨own1, w1⟩) (show Ext w1 w2 from hE) 0)
  have R3 := Lib.hid (R2.out.keep M2.out id id)
  clear hE
  have c0 := R3.out.blk.cell (i := 10) rfl
  have hl := R3.out.blk.lt
  simp only [GW.to] at c0 hl
  have d1 : decide (i < 0) = false := decide_eq_false (by omega)
  have d2 : decide (512 < i) = false := decide_eq_false (by omega)
  have d3 : decide (S.k < 0) = false := decide_eq_false (by omega)
  have d4 : decide (i ≤ S.k) = false := decide_eq_false (by omega)
  go_wp2_with fail
  refine (data_any i _).mono ?_
  rintro e w3 ⟨rfl, hE⟩
  have M3 := Lib.hid (Mod.ext (T := fun _ => False) (g := (GW.to ⟨own1, w1⟩ 0 w2)) (show Ext w2 w3 from hE) 0)
  have R4 := Lib.hid (R3.out.keep M3.out id id)
  clear hE c0 hl
  have c1 := R4.out.blk.cell (i := 16) rfl
  have c2 := R4.out.blk.cell (i := 12) rfl
  have f1 := R4.out.blk.live 16
  have f2 := R4.out.blk.live 12
  have hl := R4.out.blk.lt
  simp only [GW.to] at c1 c2 f1 f2 hl
  go_wp2_with fail
  rw [Exit.noGoto_ret]
  go_ret
  have HO := R4.out.blk.own
  have m5 : Mod (fun x => x = t) ((GW.to ⟨own1, w1⟩ 0 w2).to 0 w3) ⟨((GW.to ⟨own1, w1⟩ 0 w2).to 0 w3).own, (w3.setCell ⟨b, 16, none⟩ (.int .i64 (sData i))).setCell ⟨b, 12, none⟩ (.int .i64 3)⟩ := Mod.st (Mod.st Mod.self HO) HO
  refine ⟨rfl, _, (M1.out.mono (fun x hx => Or.inr hx)).trans (((M2.out.trans M3.out).mono (fun _ => False.elim)).trans (m5.mono (fun x hx => Or.inl hx))), ?_, ?_⟩
  · exact (R4.out.st 16 (.int .i64 (sData i)) { S with n := sData i } rfl rfl).st 12 (.int .i64 3) { S with n := sData i, pc := 3 } rfl rfl
  · exact ((R1.out.keep M2.out id).keep M3.out id).keep m5 (fun e => HT.out.1 e.symm)
theorem find_elem_index (g : GW) (t b tm bm : Nat) (S : FindS) (m : MemS) (i : Int) (h : FindAt g t b S) (hm : MemAt g tm bm m) (hc : 0 ≤ m.count ∧ m.count ≤ 1099511627776) (hpc : S.pc = 2) (hok : S.okAt S.head 2 = true) (hin : inB (S.head * 8 + 2) m.l.length = true) (hw : m.peek (S.head * 8 + 2) = (floatOfInt .f64 i, 0)) (ht : t ≠ tm) (ht1 : t + 1 ≠ tm)
    (hi0 : 0 ≤ i) (hi1 : i ≤ 512) (hk : S.k < 0 ∨ i ≤ S.k) :
    Calls Tryz.prog 144 #[.pointer (some ⟨b, 0, none⟩), .pointer (some ⟨bm, 0, none⟩)] g.w (Does (.bool true) g (fun x => x = t ∨ x = tm) (fun g' => FindAt g' t b (S.ends 5) ∧ MemAt g' tm bm m.tick)) := by
  have c0 := h.blk.cell (i := 12) rfl
  have c1 := h.blk.cell (i := 9) rfl
  have hl := h.blk.lt
  rw [hpc] at c0
  have HR := Lib.hid (find_read_ok g t b tm bm S m S.head 2 h hm hc hok hin _ _ hw ht ht1)
  have HI := Lib.hid (fun w => nint_fits i ⟨by omega, by omega⟩ w)
  generalize floatOfInt .f64 i = p at *
  have HT := Lib.hid (And.intro ht ht1)
  have H := Lib.hid h
  have HK := Lib.hid hk
  clear h hm hpc hok hin hw ht ht1 hk
  go_enter Tryz.func144, Tryz.ntmps144
  go_wp2_with fail
  go_step3
  go_wp2_with fail
  refine HR.out.mono ?_
  rintro e w1 ⟨rfl, own1, m1, r1, r2⟩
  have M1 := Lib.hid m1
  have R1 := Lib.hid r1
  have R2 := Lib.hid r2
  clear m1 r1 r2 c0 c1 hl
  go_wp2_with fail
  refine (HI.out _).mono ?_
  rintro e w2 ⟨rfl, hE⟩
  have M2 := Lib.hid (Mod.ext (T := fun _ => False) (g := ⟨own1, w1⟩) (show Ext w1 w2 from hE) 0)
  have R3 := Lib.hid (R2.out.keep M2.out id id)
  clear hE
  have c0 := R3.out.blk.cell (i := 10) rfl
  have hl := R3.out.blk.lt
  simp only [GW.to] at c0 hl
  have d1 : decide (i < 0) = false := decide_eq_false (by omega)
  have d2 : decide (512 < i) = false := decide_eq_false (by omega)
  by_cases hk0 : S.k < 0
  · have d3 : decide (S.k < 0) = true := decide_eq_true (by omega)
    go_wp2_with fail
    refine (find_ends (GW.to ⟨own1, w1⟩ 0 w2) t b S 5 R3.out).mono ?_
    rintro e w3 ⟨rfl, own3, m3, r3⟩
    have M3 := Lib.hid m3
    have R4 := Lib.hid r3
    clear m3 r3
    go_wp2_with fail
    rw [Exit.noGoto_ret]
    go_ret
    exact ⟨rfl, own3, (M1.out.mono (fun x hx => Or.inr hx)).trans ((M2.out.mono (fun _ => False.elim)).trans (M3.out.mono (fun x hx => Or.inl hx))), R4.out, (R1.out.keep M2.out id).keep M3.out (fun e => HT.out.1 e.symm)⟩
  · have d3 : decide (S.k < 0) = false := decide_eq_false (by omega)
    have d4 : decide (i ≤ S.k) = true := decide_eq_true (by have := HK.out; omega)
    go_wp2_with fail
    refine (find_ends (GW.to ⟨own1, w1⟩ 0 w2) t b S 5 R3.out).mono ?_
    rintro e w3 ⟨rfl, own3, m3, r3⟩
    have M3 := Lib.hid m3
    have R4 := Lib.hid r3
    clear m3 r3
    go_wp2_with fail
    rw [Exit.noGoto_ret]
    go_ret
    exact ⟨rfl, own3, (M1.out.mono (fun x hx => Or.inr hx)).trans ((M2.out.mono (fun _ => False.elim)).trans (M3.out.mono (fun x hx => Or.inl hx))), R4.out, (R1.out.keep M2.out id).keep M3.out (fun e => HT.out.1 e.symm)⟩
end Go.Proofs.YtoaehfdjffejeaaGreat
/-
  find: an array's mode, its data fragments.
-/
namespace Go.Proofs.YtoaehfdjffejeaaGreat
open Go Go.RowKit
set_option linter.unusedVariables false
set_option linter.unnecessarySimpa false
set_option linter.unusedSimpArgs false
set_option maxHeartbeats 4000000
set_option maxRecDepth 100000
theorem find_elem_mode (g : GW) (t b tm bm : Nat) (S : FindS) (m : MemS) (md : Int) (h : FindAt g t b S) (hm : MemAt g tm bm m) (hc : 0 ≤ m.count ∧ m.count ≤ 1099511627776) (hpc : S.pc = 3) (hok : S.okAt S.head 3 = true) (hin : inB (S.head * 8 + 3) m.l.length = true) (hw : m.peek (S.head * 8 + 3) = (floatOfInt .f64 md, 0)) (ht : t ≠ tm) (ht1 : t + 1 ≠ tm)
    (hmd : md = 0 ∧ S.n ≤ 4 ∨ (md = 1 ∨ md = 2) ∧ 4 < S.n) :
    Calls Tryz.prog 144 #[.pointer (some ⟨b, 0, none⟩), .pointer (some ⟨bm, 0, none⟩)] g.w (Does (.bool false) g (fun x => x = t ∨ x = tm) (fun g' => FindAt g' t b { S with mode := md, pc := 4 } ∧ MemAt g' tm bm m.tick)) := by
  have c0 := h.blk.cell (i := 12) rfl
  have c1 := h.blk.cell (i := 9) rfl
  have hl := h.blk.lt
  rw [hpc] at c0
  have HT := Lib.hid (And.intro ht ht1)
  have H := Lib.hid h
  have HR := Lib.hid (find_read_ok g t b tm bm S m S.head 3 h hm hc hok hin _ _ hw ht ht1)
  have HI := Lib.hid (fun w => nint_fits md ⟨by omega, by omega⟩ w)
  generalize floatOfInt .f64 md = p at *
  have HMD := Lib.hid hmd
  clear h hm hpc hok hin hw ht ht1 hmd
  go_enter Tryz.func144, Tryz.ntmps144
  go_wp2_with fail
  refine wp_scope_fwd 0 rfl ?_
  go_wp2_with fail
  go_step3
  refine ⟨rfl, ?_⟩
  go_wp2_with fail
  refine HR.out.mono ?_
  rintro e w1 ⟨rfl, own1, m1, r1, r2⟩
  have M1 := Lib.hid m1
  have R1 := Lib.hid r1
  have R2 := Lib.hid r2
  clear m1 r1 r2 c0 c1 hl
  go_wp2_with fail
  refine (HI.out _).mono ?_
  rintro e w2 ⟨rfl, hE⟩
  have M2 := Lib.hid (Mod.ext (T := fun _ => False) (g := ⟨own1, w1⟩) (show Ext w1 w2 from hE) 0)
  have R3 := Lib.hid (R2.out.keep M2.out id id)
  have R1' := Lib.hid (R1.out.keep M2.out id)
  clear hE
  have c0 := R3.out.blk.cell (i := 17) rfl
  have f0 := R3.out.blk.live 17
  have hl := R3.out.blk.lt
  simp only [GW.to] at c0 f0 hl
  go_upto_region 19 with fail
  have HO := R3.out.blk.own
  have M3 := Lib.hid (show Mod (fun x => x = t) (GW.to ⟨own1, w1⟩ 0 w2) ⟨(GW.to ⟨own1, w1⟩ 0 w2).own, w2.setCell ⟨b, 17, none⟩ (.int .i64 md)⟩ from Mod.st Mod.self HO)
  have R4 := Lib.hid (show FindAt ⟨(GW.to ⟨own1, w1⟩ 0 w2).own, w2.setCell ⟨b, 17, none⟩ (.int .i64 md)⟩ t b { S with mode := md } from R3.out.st 17 (.int .i64 md) { S with mode := md } rfl rfl)
  have R5 := Lib.hid (R1'.out.keep M3.out (fun e => HT.out.1 e.symm))
  generalize hwx : w2.setCell ⟨b, 17, none⟩ (.int .i64 md) = wx at *
  generalize (GW.to ⟨own1, w1⟩ 0 w2) = g2 at *
  clear hwx c0 f0 hl HO R1' R3
  have c1 := R4.out.blk.cell (i := 17) rfl
  have c2 := R4.out.blk.cell (i := 16) rfl
  have c3 := R4.out.blk.cell (i := 12) rfl
  have f3 := R4.out.blk.live 12
  have hl := R4.out.blk.lt
  have HO := Lib.hid R4.out.blk.own
  simp only at c1 c2 c3 f3 hl
  have HEND := Lib.hid (fun X : Extra => show Does (.bool false) g (fun x => x = t ∨ x = tm) (fun g' => FindAt g' t b { S with mode := md, pc := 4 } ∧ MemAt g' tm bm m.tick) (.returned (.bool false)) ((wx.setCell ⟨b, 12, none⟩ (.int .i64 4)).patch X) from by
    have m6 : Mod (fun x => x = t) ⟨g2.own, wx⟩ ⟨g2.own, wx.setCell ⟨b, 12, none⟩ (.int .i64 4)⟩ := Mod.st Mod.self R4.out.blk.own
    refine Does.ext ⟨g2.own, wx.setCell ⟨b, 12, none⟩ (.int .i64 4)⟩ ⟨X, rfl⟩ rfl ?_ (fun g3 mm => ⟨?_, ?_⟩)
    · exact (M1.out.mono (fun x hx => Or.inr hx)).trans ((M2.out.mono (fun _ => False.elim)).trans ((M3.out.mono (fun x hx => Or.inl hx)).trans (m6.mono (fun x hx => Or.inl hx))))
    · exact (R4.out.st 12 (.int .i64 4) { S with mode := md, pc := 4 } rfl rfl).keep mm id id
    · exact (R5.out.keep m6 (fun e => HT.out.1 e.symm)).keep mm id)
  rcases HMD.out with ⟨rfl, hn⟩ | ⟨hm, hn⟩
  · have d1 : decide (S.n ≤ 4) = true := decide_eq_true hn
    go_wp2_with fail
    refine wp_region_mixed [true, true, true, true, true, true, true, true, true, true, true, true, true, true, true, true, true, true, true, true, true, true, true, true, true, true, true, true, true] 0 29 (by kernel_rfl) (by kernel_rfl) (by kernel_rfl) ?_ (by decide) (by decide) (by decide) (by kernel_rfl) ?_
    · intro c a d v w h; cases d <;> exact h
    intro X00
    simp only [pickOps]
    repeat (go_big_quiet_step (fail))
    refine wpQuiet_nil (fun X0 => ?_)
    clear X00
    refine wpAnyM_done (by kernel_rfl) (fun X0' => ?_) _
    go_wp2_with fail
    rw [Exit.noGoto_ret]
    go_ret
    exact HEND.out _
  · have d1 : decide (S.n ≤ 4) = false := decide_eq_false (by omega)
    rcases hm with rfl | rfl
    · go_wp2_with fail
      refine wp_region_mixed [true, true, true, true, true, true, true, true, true, true, true, true, true, true, true, true, true, true, true, true, true, true, true, true, true, true, true, true, true] 0 29 (by kernel_rfl) (by kernel_rfl) (by kernel_rfl) ?_ (by decide) (by decide) (by decide) (by kernel_rfl) ?_
      · intro c a d v w h; cases d <;> exact h
      intro X00
      simp only [pickOps]
      repeat (go_big_quiet_step (fail))
      refine wpQuiet_nil (fun X0 => ?_)
      clear X00
      refine wpAnyM_done (by kernel_rfl) (fun X0' => ?_) _
      go_wp2_with fail
      rw [Exit.noGoto_ret]
      go_ret
      exact HEND.out _
    · go_wp2_with fail
      refine wp_region_mixed [true, true, true, true, true, true, true, true, true, true, true, true, true, true, true, true, true, true, true, true, true, true, true, true, true, true, true, true, true] 0 29 (by kernel_rfl) (by kernel_rfl) (by kernel_rfl) ?_ (by decide) (by decide) (by decide) (by kernel_rfl) ?_
      · intro c a d v w h; cases d <;> exact h
      intro X00
      simp only [pickOps]
      repeat (go_big_quiet_step (fail))
      refine wpQuiet_nil (fun X0 => ?_)
      clear X00
      refine wpAnyM_done (by kernel_rfl) (fun X0' => ?_) _
      go_wp2_with fail
      rw [Exit.noGoto_ret]
      go_ret
      exact HEND.out _
theorem find_elem_inline (g : GW) (t b tm bm : Nat) (S : FindS) (m : MemS) (fr : Int) (h : FindAt g t b S) (hm : MemAt g tm bm m) (hc : 0 ≤ m.count ∧ m.count ≤ 1099511627776) (hpc : S.pc = 4) (hmo : S.mode = 0) (hk : 0 ≤ S.k) (hk8 : S.k / 8 < 4) (hok : S.okAt S.head (4 + S.k / 8) = true) (hin : inB (S.head * 8 + (4 + S.k / 8)) m.l.length = true) (hw : m.peek (S.head * 8 + (4 + S.k / 8)) = (floatOfInt .f64 (fr + 1), 4607182418800017408)) (ht : t ≠ tm) (ht1 : t + 1 ≠ tm)
    (hf0 : 0 ≤ fr) (hf1 : fr ≤ 1099511627776) :
    Calls Tryz.prog 144 #[.pointer (some ⟨b, 0, none⟩), .pointer (some ⟨bm, 0, none⟩)] g.w (Does (.bool true) g (fun x => x = t ∨ x = tm) (fun g' => FindAt g' t b (S.stands fr (S.k % 8)) ∧ MemAt g' tm bm m.tick)) := by
  have c0 := h.blk.cell (i := 12) rfl
  have c1 := h.blk.cell (i := 9) rfl
  have hl := h.blk.lt
  rw [hpc] at c0
  have HT := Lib.hid (And.intro ht ht1)
  have H := Lib.hid h
  have HR := Lib.hid (find_read_ok g t b tm bm S m S.head (4 + S.k / 8) h hm hc hok hin _ _ hw ht ht1)
  have HI := Lib.hid (fun w => index_ref fr hf0 hf1 w)
  generalize floatOfInt .f64 (fr + 1) = p at *
  have c2 := h.blk.cell (i := 17) rfl
  have c3 := h.blk.cell (i := 10) rfl
  rw [hmo] at c2
  have HMO := Lib.hid hmo
  have HKK := Lib.hid hk
  have e1 : IntKind.i64.wrap (4 + S.k / 8) = 4 + S.k / 8 := IntWalk.i64_in _ (by omega)
  clear h hm hpc hok hin hw ht ht1 hmo
  go_enter Tryz.func144, Tryz.ntmps144
  go_wp2_with fail
  refine wp_scope_fwd 1 rfl ?_
  go_wp2_with fail
  go_step3
  refine ⟨rfl, ?_⟩
  go_wp2_with fail
  refine HR.out.mono ?_
  rintro e w1 ⟨rfl, own1, m1, r1, r2⟩
  have M1 := Lib.hid m1
  have R1 := Lib.hid r1
  have R2 := Lib.hid r2
  clear m1 r1 r2 c0 c1 c2 c3 hl
  have c2 := R2.out.blk.cell (i := 17) rfl
  rw [HMO.out] at c2
  have hl := R2.out.blk.lt
  simp only at c2 hl
  go_wp2_with fail
  refine (HI.out _).mono ?_
  rintro e w2 ⟨rfl, hE⟩
  have M2 := Lib.hid (Mod.ext (T := fun _ => False) (g := ⟨own1, w1⟩) (show Ext w1 w2 from hE) 0)
  have R3 := Lib.hid (R2.out.keep M2.out id id)
  have R1' := Lib.hid (R1.out.keep M2.out id)
  clear hE c2 hl
  have c2 := R3.out.blk.cell (i := 17) rfl
  rw [HMO.out] at c2
  have hl := R3.out.blk.lt
  simp only [GW.to] at c2 hl
  go_wp2_with fail
  refine (find_data (GW.to ⟨own1, w1⟩ 0 w2) t b S fr R3.out hk).mono ?_
  rintro e w3 ⟨rfl, own3, m3, r3⟩
  have M3 := Lib.hid m3
  have R4 := Lib.hid r3
  clear m3 r3
  go_wp2_with fail
  rw [Exit.noGoto_ret]
  go_ret
  exact ⟨rfl, own3, (M1.out.mono (fun x hx => Or.inr hx)).trans ((M2.out.mono (fun _ => False.elim)).trans (M3.out.mono (fun x hx => Or.inl hx))), R4.out, R1'.out.keep M3.out (fun e => HT.out.1 e.symm)⟩
end Go.Proofs.YtoaehfdjffejeaaGreat
/-
  find.Step.
-/
namespace Go.Proofs.YtoaehfdjffejeaaGreat
open Go Go.RowKit
set_option linter.unusedVariables false
set_option linter.unnecessarySimpa false
set_option linter.unusedSimpArgs false
set_option maxHeartbeats 2000000
theorem find_step_end (g : GW) (t b : Nat) (v : Value) (S : FindS) (h : FindAt g t b S) (hpc : S.pc = 6) : Calls Tryz.prog 99 #[.pointer (some ⟨b, 0, none⟩), v] g.w (fun e w' => e = .returned (.bool true) ∧ g.w = w') := by
  have c0 := h.blk.cell (i := 12) rfl
  have hl := h.blk.lt
  rw [hpc] at c0
  clear h hpc
  go_enter Tryz.func99, Tryz.ntmps99
  go_wp2_with fail
  go_ret
  exact ⟨rfl, rfl⟩
theorem find_step_b (g : GW) (t b bm : Nat) (S : FindS) (r : Bool) (T : Nat → Prop) (R : GW → Prop) (h : FindAt g t b S) (hpc : S.pc = 0 ∨ S.pc = 1) (hs : 0 ≤ S.steps ∧ S.steps ≤ 1099511627776) (hT : T t)
    (hB : ∀ g', Mod (fun x => x = t) g g' → FindAt g' t b { S with steps := S.steps + 1 } → Calls Tryz.prog 143 #[.pointer (some ⟨b, 0, none⟩), .pointer (some ⟨bm, 0, none⟩)] g'.w (Does (.bool r) g' T R)) :
    Calls Tryz.prog 99 #[.pointer (some ⟨b, 0, none⟩), .pointer (some ⟨bm, 0, none⟩)] g.w (Does (.bool r) g T R) := by
  have c0 := h.blk.cell (i := 12) rfl
  rcases hpc with hpc | hpc
  · rw [hpc] at c0
    clear hpc
    have c1 := h.blk.cell (i := 22) rfl
    have f1 := h.blk.live 22
    have hl := h.blk.lt
    have HO := Lib.hid h.blk.own
    have M1 := Lib.hid (show Mod (fun x => x = t) g ⟨g.own, g.w.setCell ⟨b, 22, none⟩ (.int .i64 (S.steps + 1))⟩ from Mod.st Mod.self HO.out)
    have HB := Lib.hid (hB ⟨g.own, g.w.setCell ⟨b, 22, none⟩ (.int .i64 (S.steps + 1))⟩ M1.out (h.st 22 (.int .i64 (S.steps + 1)) { S with steps := S.steps + 1 } rfl rfl))
    have HT := Lib.hid hT
    clear h hB hT
    go_enter Tryz.func99, Tryz.ntmps99
    go_wp2_with fail
    refine HB.out.mono ?_
    rintro e w1 ⟨rfl, own1, m1, r1⟩
    have M2 := Lib.hid m1
    have R1 := Lib.hid r1
    clear m1 r1
    go_wp2_with fail
    go_ret
    exact ⟨rfl, own1, (M1.out.mono (fun x hx => hx ▸ HT.out)).trans M2.out, R1.out⟩
  · rw [hpc] at c0
    clear hpc
    have c1 := h.blk.cell (i := 22) rfl
    have f1 := h.blk.live 22
    have hl := h.blk.lt
    have HO := Lib.hid h.blk.own
    have M1 := Lib.hid (show Mod (fun x => x = t) g ⟨g.own, g.w.setCell ⟨b, 22, none⟩ (.int .i64 (S.steps + 1))⟩ from Mod.st Mod.self HO.out)
    have HB := Lib.hid (hB ⟨g.own, g.w.setCell ⟨b, 22, none⟩ (.int .i64 (S.steps + 1))⟩ M1.out (h.st 22 (.int .i64 (S.steps + 1)) { S with steps := S.steps + 1 } rfl rfl))
    have HT := Lib.hid hT
    clear h hB hT
    go_enter Tryz.func99, Tryz.ntmps99
    go_wp2_with fail
    refine HB.out.mono ?_
    rintro e w1 ⟨rfl, own1, m1, r1⟩
    have M2 := Lib.hid m1
    have R1 := Lib.hid r1
    clear m1 r1
    go_wp2_with fail
    go_ret
    exact ⟨rfl, own1, (M1.out.mono (fun x hx => hx ▸ HT.out)).trans M2.out, R1.out⟩
theorem find_step_e (g : GW) (t b bm : Nat) (S : FindS) (r : Bool) (T : Nat → Prop) (R : GW → Prop) (h : FindAt g t b S) (hpc : S.pc = 2 ∨ S.pc = 3 ∨ S.pc = 4 ∨ S.pc = 5) (hs : 0 ≤ S.steps ∧ S.steps ≤ 1099511627776) (hT : T t)
    (hB : ∀ g', Mod (fun x => x = t) g g' → FindAt g' t b { S with steps := S.steps + 1 } → Calls Tryz.prog 144 #[.pointer (some ⟨b, 0, none⟩), .pointer (some ⟨bm, 0, none⟩)] g'.w (Does (.bool r) g' T R)) :
    Calls Tryz.prog 99 #[.pointer (some ⟨b, 0, none⟩), .pointer (some ⟨bm, 0, none⟩)] g.w (Does (.bool r) g T R) := by
  have c0 := h.blk.cell (i := 12) rfl
  rcases hpc with hpc | hpc | hpc | hpc
  · rw [hpc] at c0
    clear hpc
    have c1 := h.blk.cell (i := 22) rfl
    have f1 := h.blk.live 22
    have hl := h.blk.lt
    have HO := Lib.hid h.blk.own
    have M1 := Lib.hid (show Mod (fun x => x = t) g ⟨g.own, g.w.setCell ⟨b, 22, none⟩ (.int .i64 (S.steps + 1))⟩ from Mod.st Mod.self HO.out)
    have HB := Lib.hid (hB ⟨g.own, g.w.setCell ⟨b, 22, none⟩ (.int .i64 (S.steps + 1))⟩ M1.out (h.st 22 (.int .i64 (S.steps + 1)) { S with steps := S.steps + 1 } rfl rfl))
    have HT := Lib.hid hT
    clear h hB hT
    go_enter Tryz.func99, Tryz.ntmps99
    go_wp2_with fail
    refine HB.out.mono ?_
    rintro e w1 ⟨rfl, own1, m1, r1⟩
    have M2 := Lib.hid m1
    have R1 := Lib.hid r1
    clear m1 r1
    go_wp2_with fail
    go_ret
    exact ⟨rfl, own1, (M1.out.mono (fun x hx => hx ▸ HT.out)).trans M2.out, R1.out⟩
  · rw [hpc] at c0
    clear hpc
    have c1 := h.blk.cell (i := 22) rfl
    have f1 := h.blk.live 22
    have hl := h.blk.lt
    have HO := Lib.hid h.blk.own
    have M1 := Lib.hid (show Mod (fun x => x = t) g ⟨g.own, g.w.setCell ⟨b, 22, none⟩ (.int .i64 (S.steps + 1))⟩ from Mod.st Mod.self HO.out)
    have HB := Lib.hid (hB ⟨g.own, g.w.setCell ⟨b, 22, none⟩ (.int .i64 (S.steps + 1))⟩ M1.out (h.st 22 (.int .i64 (S.steps + 1)) { S with steps := S.steps + 1 } rfl rfl))
    have HT := Lib.hid hT
    clear h hB hT
    go_enter Tryz.func99, Tryz.ntmps99
    go_wp2_with fail
    refine HB.out.mono ?_
    rintro e w1 ⟨rfl, own1, m1, r1⟩
    have M2 := Lib.hid m1
    have R1 := Lib.hid r1
    clear m1 r1
    go_wp2_with fail
    go_ret
    exact ⟨rfl, own1, (M1.out.mono (fun x hx => hx ▸ HT.out)).trans M2.out, R1.out⟩
  · rw [hpc] at c0
    clear hpc
    have c1 := h.blk.cell (i := 22) rfl
    have f1 := h.blk.live 22
    have hl := h.blk.lt
    have HO := Lib.hid h.blk.own
    have M1 := Lib.hid (show Mod (fun x => x = t) g ⟨g.own, g.w.setCell ⟨b, 22, none⟩ (.int .i64 (S.steps + 1))⟩ from Mod.st Mod.self HO.out)
    have HB := Lib.hid (hB ⟨g.own, g.w.setCell ⟨b, 22, none⟩ (.int .i64 (S.steps + 1))⟩ M1.out (h.st 22 (.int .i64 (S.steps + 1)) { S with steps := S.steps + 1 } rfl rfl))
    have HT := Lib.hid hT
    clear h hB hT
    go_enter Tryz.func99, Tryz.ntmps99
    go_wp2_with fail
    refine HB.out.mono ?_
    rintro e w1 ⟨rfl, own1, m1, r1⟩
    have M2 := Lib.hid m1
    have R1 := Lib.hid r1
    clear m1 r1
    go_wp2_with fail
    go_ret
    exact ⟨rfl, own1, (M1.out.mono (fun x hx => hx ▸ HT.out)).trans M2.out, R1.out⟩
  · rw [hpc] at c0
    clear hpc
    have c1 := h.blk.cell (i := 22) rfl
    have f1 := h.blk.live 22
    have hl := h.blk.lt
    have HO := Lib.hid h.blk.own
    have M1 := Lib.hid (show Mod (fun x => x = t) g ⟨g.own, g.w.setCell ⟨b, 22, none⟩ (.int .i64 (S.steps + 1))⟩ from Mod.st Mod.self HO.out)
    have HB := Lib.hid (hB ⟨g.own, g.w.setCell ⟨b, 22, none⟩ (.int .i64 (S.steps + 1))⟩ M1.out (h.st 22 (.int .i64 (S.steps + 1)) { S with steps := S.steps + 1 } rfl rfl))
    have HT := Lib.hid hT
    clear h hB hT
    go_enter Tryz.func99, Tryz.ntmps99
    go_wp2_with fail
    refine HB.out.mono ?_
    rintro e w1 ⟨rfl, own1, m1, r1⟩
    have M2 := Lib.hid m1
    have R1 := Lib.hid r1
    clear m1 r1
    go_wp2_with fail
    go_ret
    exact ⟨rfl, own1, (M1.out.mono (fun x hx => hx ▸ HT.out)).trans M2.out, R1.out⟩
end Go.Proofs.YtoaehfdjffejeaaGreat

