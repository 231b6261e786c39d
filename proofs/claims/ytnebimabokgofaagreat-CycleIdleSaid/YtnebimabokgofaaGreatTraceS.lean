import Derived.Test.YtnebimabokgofaaGreatNum
import Derived.Test.YtnebimabokgofaaGreatMemO
import Derived.Test.YtnebimabokgofaaGreatCopy
import Derived.Test.YtnebimabokgofaaGreatMgSpaceS
import Derived.Test.YtnebimabokgofaaGreatMgShape2
import Derived.Deep.DeepCutAuto
import Derived.Test.YtnebimabokgofaaGreatHand
import Derived.Test.YtnebimabokgofaaGreatTint
/-
  Merged: XTraceS, XTraceP, XTraceF, XTraceR, XTraceG.
-/
/-
  trace: the program's state, in memory; New, the readers; read.
-/
namespace Go.Proofs.YtnebimabokgofaaGreat
open Go Go.RowKit
set_option linter.unusedVariables false
set_option linter.unnecessarySimpa false
set_option linter.unusedSimpArgs false
set_option maxHeartbeats 2000000
set_option maxRecDepth 100000
structure TraceS where
  c : Cnf
  head : Int
  sense : Bool
  pc : Int
  arr : Bool
  refs : List Bool
  frag : Int
  j : Int
  words : List Int
  next : Int
  n : Int
  mode : Int
  base : Int
  e : Int
  steps : Int
namespace TraceS
/-- Its cells; where its shape's fields and its words stand. -/
def cells (S : TraceS) (sA : Option Addr) (sc : Nat) (wA : Option Addr) (wc : Nat) : List Value := [.int .i64 S.c.frags, .int .i64 S.c.spine, .int .i64 S.c.globals, .int .i64 S.c.threads, .int .i64 S.c.locals, .int .i64 S.c.cache, .int .i64 S.c.stack, .int .i64 S.c.low, .slice S.c.A S.c.shapes.length S.c.cap,
  .int .i64 S.head, .bool S.sense, .int .i64 S.pc, .bool S.arr, .slice sA S.refs.length sc, .int .i64 S.frag, .int .i64 S.j, .slice wA S.words.length wc, .int .i64 S.next, .int .i64 S.n, .int .i64 S.mode, .int .i64 S.base, .int .i64 S.e, .int .i64 S.steps]
def fresh (c : Cnf) (head : Int) (sense : Bool) : TraceS := ⟨c, head, sense, 0, false, [], head, 0, [], 0, 0, 0, 0, 0, 0⟩
/-- Is there such a word of a fragment? -/
def okAt (S : TraceS) (frag k : Int) : Bool := decide (S.c.check = 0 ∧ 0 ≤ frag ∧ frag < S.c.frags ∧ 0 ≤ k ∧ k < 8)
/-- A word of a fragment. -/
def rd (S : TraceS) (m : MemS) (frag k : Int) : Option (Nat × Nat) := if S.okAt frag k && inB (frag * 8 + k) m.l.length then some (m.peek (frag * 8 + k)) else none
def rdM (S : TraceS) (m : MemS) (frag k : Int) : MemS := if S.okAt frag k then m.tick else m
def shp (S : TraceS) : Shp := ⟨S.arr, none, 0, S.refs⟩
end TraceS
/-- Where its shape's fields and its words stand. -/
structure TrPl where
  sA : Option Addr
  sc : Nat
  wA : Option Addr
  wc : Nat
structure TraceIs (g : GW) (t b : Nat) (S : TraceS) (P : TrPl) : Prop where
  blk : Blk g t b 193 (S.cells P.sA P.sc P.wA P.wc)
  cnf : CnfAt g (t + 1) S.c
  shp : ShpAt g (t + 1) ⟨S.arr, P.sA, P.sc, S.refs⟩
  words : Seg g (t + 1) P.wA (S.words.map (Value.int .i64))
  wlen : S.words.length ≤ P.wc ∧ P.wc ≤ 9223372036854775807
def TraceAt (g : GW) (t b : Nat) (S : TraceS) : Prop := ∃ P, TraceIs g t b S P
theorem TraceIs.keep {T : Nat → Prop} {g g' : GW} {t b : Nat} {S : TraceS} {P : TrPl} (h : TraceIs g t b S P) (m : Mod T g g') (h1 : ¬ T t) (h2 : ¬ T (t + 1)) : TraceIs g' t b S P := ⟨h.blk.keep m h1, h.cnf.keep m h2, h.shp.keep m h2, h.words.keep m h2, h.wlen⟩
theorem TraceAt.keep {T : Nat → Prop} {g g' : GW} {t b : Nat} {S : TraceS} (h : TraceAt g t b S) (m : Mod T g g') (h1 : ¬ T t) (h2 : ¬ T (t + 1)) : TraceAt g' t b S := by
  obtain ⟨P, h⟩ := h
  exact ⟨P, h.keep m h1 h2⟩
/-- A field that is a number is stored. -/
theorem TraceIs.st {g : GW} {t b : Nat} {S : TraceS} {P : TrPl} (h : TraceIs g t b S P) (i : Nat) (v : Value) (S' : TraceS) (hc : S'.cells P.sA P.sc P.wA P.wc = (S.cells P.sA P.sc P.wA P.wc).set i v) (hcc : S'.c = S.c) (ha : S'.arr = S.arr) (hr : S'.refs = S.refs) (hw : S'.words = S.words) : TraceIs ⟨g.own, g.w.setCell ⟨b, i, none⟩ v⟩ t b S' P := by
  have m : Mod (fun x => x = t) g ⟨g.own, g.w.setCell ⟨b, i, none⟩ v⟩ := Mod.set (T := fun x => x = t) h.blk.own
  refine ⟨by rw [hc]; exact h.blk.set i v, ?_, ?_, ?_, ?_⟩
  · rw [hcc]; exact h.cnf.keep m (by omega)
  · rw [ha, hr]; exact h.shp.keep m (by omega)
  · rw [hw]; exact h.words.keep m (by omega)
  · rw [hw]; exact h.wlen
theorem trace_errno (g : GW) (t b : Nat) (S : TraceS) (h : TraceAt g t b S) : Calls Tryz.prog 156 #[.pointer (some ⟨b, 0, none⟩)] g.w (fun e w' => e = .returned (.int .i64 S.e) ∧ g.w = w') := by
  obtain ⟨P, h⟩ := h
  have c0 := h.blk.cell (i := 21) rfl
  have hl := h.blk.lt
  clear h
  go_enter Tryz.func156, Tryz.ntmps156
  go_wp2_with fail
  go_ret
  exact ⟨rfl, rfl⟩
def TraceMade (c : Cnf) (head : Int) (sense : Bool) (t : Nat) (g : GW) (e : Ending) (w' : World) : Prop := ∃ own' b cm, e = .returned (.pointer (some ⟨b, 0, none⟩)) ∧ Mod (fun _ => False) g ⟨own', w'⟩ ∧ TraceAt ⟨own', w'⟩ t b (TraceS.fresh cm head sense) ∧ cm.Same c
theorem trace_new (c : Cnf) (head : Int) (sense : Bool) (t : Nat) (g : GW) (hc : c.Ok g.w) (hmax : c.shapes.length ≤ 1000000) : Calls Tryz.prog 106 #[c.val, .int .i64 head, .bool sense] g.w (TraceMade c head sense t g) := by
  have HC := Lib.hid (copy_any c (t + 1) (g.to 9 (g.w.alloc (.cells #[.int .i64 c.frags, .int .i64 c.spine, .int .i64 c.globals, .int .i64 c.threads, .int .i64 c.locals, .int .i64 c.cache, .int .i64 c.stack, .int .i64 c.low, .slice c.A c.shapes.length c.cap] 24))) (hc.ext (by (repeat (first | (with_reducible assumption) | (with_reducible exact Ext.refl _) | (with_reducible exact Ext.more _ _ _ _) | apply Ext.alloc | refine Ext.setCell ?_ (by first | exact Nat.le_refl _ | exact Nat.le_add_right _ _ | assumption) _ | apply Ext.patch | apply Ext.drew | apply Ext.drewN)))) hmax)
  have HE0 := Lib.hid (Mod.ext (T := fun _ => False) (g := g) (show Ext g.w (g.w.alloc (.cells #[.int .i64 c.frags, .int .i64 c.spine, .int .i64 c.globals, .int .i64 c.threads, .int .i64 c.locals, .int .i64 c.cache, .int .i64 c.stack, .int .i64 c.low, .slice c.A c.shapes.length c.cap] 24)) by (repeat (first | (with_reducible assumption) | (with_reducible exact Ext.refl _) | (with_reducible exact Ext.more _ _ _ _) | apply Ext.alloc | refine Ext.setCell ?_ (by first | exact Nat.le_refl _ | exact Nat.le_add_right _ _ | assumption) _ | apply Ext.patch | apply Ext.drew | apply Ext.drewN))) 9)
  unfold Cnf.val at HC ⊢
  clear hc
  go_enter Tryz.func106, Tryz.ntmps106
  go_wp2_with fail
  refine HC.out.mono ?_
  rintro e w1 ⟨cm, rfl, hs, hm, hE⟩
  have HS := Lib.hid hs
  have HM := Lib.hid hm
  have HE1 := Lib.hid (Mod.ext (T := fun _ => False) (g := g.to 9 (g.w.alloc (.cells #[.int .i64 c.frags, .int .i64 c.spine, .int .i64 c.globals, .int .i64 c.threads, .int .i64 c.locals, .int .i64 c.cache, .int .i64 c.stack, .int .i64 c.low, .slice c.A c.shapes.length c.cap] 24))) hE (t + 1))
  clear hs hm hE
  unfold Cnf.val
  go_wp2_with fail
  go_ret
  have m2 : Mod (fun _ => False) ((g.to 9 (g.w.alloc (.cells #[.int .i64 c.frags, .int .i64 c.spine, .int .i64 c.globals, .int .i64 c.threads, .int .i64 c.locals, .int .i64 c.cache, .int .i64 c.stack, .int .i64 c.low, .slice c.A c.shapes.length c.cap] 24))).to (t + 1) w1) _ := Mod.ext (T := fun _ => False) (show Ext w1 (w1.alloc (.cells ((TraceS.fresh cm head sense).cells none 0 none 0).toArray 193)) by (repeat (first | (with_reducible assumption) | (with_reducible exact Ext.refl _) | (with_reducible exact Ext.more _ _ _ _) | apply Ext.alloc | refine Ext.setCell ?_ (by first | exact Nat.le_refl _ | exact Nat.le_add_right _ _ | assumption) _ | apply Ext.patch | apply Ext.drew | apply Ext.drewN))) t
  exact ⟨_, w1.heap.size, cm, rfl, (HE0.out.trans HE1.out).trans m2, ⟨⟨none, 0, none, 0⟩, Blk.new ((g.to 9 (g.w.alloc (.cells #[.int .i64 c.frags, .int .i64 c.spine, .int .i64 c.globals, .int .i64 c.threads, .int .i64 c.locals, .int .i64 c.cache, .int .i64 c.stack, .int .i64 c.low, .slice c.A c.shapes.length c.cap] 24))).to (t + 1) w1) t 193 ((TraceS.fresh cm head sense).cells none 0 none 0), HM.out.keep m2 id, ⟨Seg.nil _ _ _, Nat.le_refl _, by simp [TraceS.fresh]⟩, Seg.nil _ _ _, Nat.le_refl _, by decide⟩, HS.out⟩
theorem tFrag_yes {S : TraceS} {frag k : Int} (h : S.okAt frag k = true) : cFrag S.c frag k = .tuple #[.int .i64 (frag * 8 + k), .int .i64 0] := by
  have h' : S.c.check = 0 ∧ 0 ≤ frag ∧ frag < S.c.frags ∧ 0 ≤ k ∧ k < 8 := by simpa [TraceS.okAt] using h
  unfold cFrag; rw [if_pos h']
theorem tFrag_no {S : TraceS} {frag k : Int} (h : S.okAt frag k = false) : cFrag S.c frag k = .tuple #[.int .i64 0, .int .i64 1] := by
  have h' : ¬ (S.c.check = 0 ∧ 0 ≤ frag ∧ frag < S.c.frags ∧ 0 ≤ k ∧ k < 8) := by intro hh; rw [show S.okAt frag k = true from by simpa [TraceS.okAt] using hh] at h; cases h
  unfold cFrag; rw [if_neg h']
/-- What a read hands back. -/
def trdV (o : Option (Nat × Nat)) : Value := .tuple #[.complex .f64 (o.getD (0, 0)).1 (o.getD (0, 0)).2, .bool o.isSome]
/-- A word of a fragment is read. -/
theorem trace_read (g : GW) (t b tm bm : Nat) (S : TraceS) (m : MemS) (frag k : Int) (h : TraceAt g t b S) (hm : MemAt g tm bm m) (hc : 0 ≤ m.count ∧ m.count ≤ 1099511627776) :
    Calls Tryz.prog 247 #[.pointer (some ⟨b, 0, none⟩), .pointer (some ⟨bm, 0, none⟩), .int .i64 frag, .int .i64 k] g.w (Does (trdV (S.rd m frag k)) g (fun x => x = tm) (fun g' => MemAt g' tm bm (S.rdM m frag k))) := by
  obtain ⟨P, h⟩ := h
  have k0 := h.blk.cell (i := 0) rfl
  have k1 := h.blk.cell (i := 1) rfl
  have k2 := h.blk.cell (i := 2) rfl
  have k3 := h.blk.cell (i := 3) rfl
  have k4 := h.blk.cell (i := 4) rfl
  have k5 := h.blk.cell (i := 5) rfl
  have k6 := h.blk.cell (i := 6) rfl
  have k7 := h.blk.cell (i := 7) rfl
  have k8 := h.blk.cell (i := 8) rfl
  have hl := h.blk.lt
  have HF := Lib.hid (frag_any S.c frag k g.w h.cnf.ok)
  have HM := Lib.hid hm
  unfold Cnf.val at HF
  clear h hm
  cases hok : S.okAt frag k
  · have HV := Lib.hid (show S.rd m frag k = none by unfold TraceS.rd; rw [hok]; rfl)
    have HV2 := Lib.hid (show S.rdM m frag k = m by unfold TraceS.rdM; rw [if_neg (by rw [hok]; simp)])
    rw [tFrag_no hok] at HF
    clear hok
    go_enter Tryz.func247, Tryz.ntmps247
    go_wp2_with fail
    refine HF.out.mono ?_
    rintro e w1 ⟨rfl, hE⟩
    have HE := Lib.hid (Mod.ext (T := fun _ => False) (g := g) (show Ext g.w w1 from hE) 0)
    clear hE
    go_wp2_with fail
    go_ret2
    exact ⟨by rw [HV.out]; rfl, (g.to 0 w1).own, HE.out.mono (fun _ => False.elim), by rw [HV2.out]; exact HM.out.keep HE.out id⟩
  · have HV2 := Lib.hid (show S.rdM m frag k = m.tick by unfold TraceS.rdM; rw [if_pos hok])
    rw [tFrag_yes hok] at HF
    go_enter Tryz.func247, Tryz.ntmps247
    go_wp2_with fail
    refine HF.out.mono ?_
    rintro e w1 ⟨rfl, hE⟩
    have HE := Lib.hid (Mod.ext (T := fun _ => False) (g := g) (show Ext g.w w1 from hE) 0)
    have HM1 := Lib.hid (HM.out.keep HE.out id)
    clear hE
    go_wp2_with fail
    refine (mem_read (g.to 0 w1) tm bm (frag * 8 + k) m HM1.out hc).mono ?_
    rintro e w2 ⟨rfl, own2, m2, r2⟩
    have M2 := Lib.hid m2
    have R2 := Lib.hid r2
    clear m2 r2
    cases hb : inB (frag * 8 + k) m.l.length
    · have HV := Lib.hid (show S.rd m frag k = none by unfold TraceS.rd; rw [hok, hb]; rfl)
      have HP := Lib.hid (MemS.peek_out hb)
      clear hb hok
      go_wp2_with fail
      go_ret2
      exact ⟨by rw [HV.out, HP.out]; rfl, own2, (HE.out.mono (fun _ => False.elim)).trans M2.out, by rw [HV2.out]; exact R2.out⟩
    · have HV := Lib.hid (show S.rd m frag k = some (m.peek (frag * 8 + k)) by unfold TraceS.rd; rw [hok, hb]; rfl)
      clear hb hok
      go_wp2_with fail
      go_ret2
      exact ⟨by rw [HV.out]; rfl, own2, (HE.out.mono (fun _ => False.elim)).trans M2.out, by rw [HV2.out]; exact R2.out⟩
end Go.Proofs.YtnebimabokgofaaGreat
/-
  trace: what a step does, as plain data. No walk here.
-/
namespace Go
/-- A used head that is white; what a grey one turns. -/
def TabS.white (T : TabS) (i : Int) (s : Bool) : Bool := T.head i && !T.black i s
def TabS.grey (T : TabS) (i : Int) (s : Bool) : TabS := if T.white i s then T.mark i s else T
def PileS.push (p : PileS) (i : Int) : PileS := if (p.l.length : Int) = p.most then { p with lost := true } else { p with l := p.l ++ [i] }
def PileS.grey (p : PileS) (T : TabS) (i : Int) (s : Bool) : PileS := if T.white i s then p.push i else p
end Go
namespace Go.Proofs.YtnebimabokgofaaGreat
open Go Go.RowKit
set_option linter.unusedVariables false
set_option linter.unusedSimpArgs false
namespace TraceS
/-- How many fragments it has. -/
def frs (S : TraceS) : Int := if S.arr then sData S.n else S.shp.size 0
/-- The words of references in the fragment where it stands. -/
def refsL (S : TraceS) : List Int :=
  if S.arr then (if S.refs.getD 0 false then (List.range (min S.n ((S.j + 1) * 8) - S.j * 8).toNat).map (fun x => ((x : Nat) : Int)) else [])
  else (List.range S.refs.length).filterMap fun k => if S.refs.getD k false && decide (Shp.placeF k = S.j) then some (Shp.placeW k) else none
/-- On to a data fragment. -/
def enters (S : TraceS) : TraceS := if S.mode = 2 then { S with frag := S.base + S.j } else S
def entersPc (S : TraceS) : Int := if S.mode = 2 then 4 else 8
/-- On behind the references of a fragment. -/
def goes (S : TraceS) : TraceS := if S.words ≠ [] then S else if S.frs ≤ S.j + 1 then S else if S.arr = false then S else { S with j := S.j + 1 }.enters
def goesPc (S : TraceS) : Int := if S.words ≠ [] then 1 else if S.frs ≤ S.j + 1 then 9 else if S.arr = false then 3 else { S with j := S.j + 1 }.entersPc
def gone (S : TraceS) : TraceS := { S.goes with pc := S.goesPc }
def first (S : TraceS) (w : Nat × Nat) : TraceS × Bool := match wTell w with
  | none => (S, false)
  | some (kind, mode) => match S.c.shapeAt kind with
    | none => (S, false)
    | some (arr, refs) => if 1 < mode ∨ (arr = true ∧ 0 < mode) then (S, false)
      else if arr then ({ S with arr := arr, refs := refs, pc := 5 }, true)
      else (TraceS.gone { S with arr := arr, refs := refs, words := TraceS.refsL { S with arr := arr, refs := refs } }, true)
end TraceS
/-- All that a step touches. -/
structure TrW where
  s : TraceS
  m : MemS
  T : TabS
  p : PileS
  k : Int
namespace TrW
def head (w : TrW) : TrW × Bool := match w.s.rd w.m w.s.head 1 with
  | none => ({ w with m := w.s.rdM w.m w.s.head 1 }, false)
  | some v => ({ w with m := w.s.rdM w.m w.s.head 1, s := (w.s.first v).1 }, (w.s.first v).2)
def field (w : TrW) : TrW × Bool := match w.s.rd w.m w.s.frag (w.s.words.headD 0) with
  | none => ({ w with m := w.s.rdM w.m w.s.frag (w.s.words.headD 0) }, false)
  | some v => if wIs v = false then ({ w with m := w.s.rdM w.m w.s.frag (w.s.words.headD 0) }, false)
    else if (wIndex v).isSome then ({ w with m := w.s.rdM w.m w.s.frag (w.s.words.headD 0), s := { w.s with words := w.s.words.tail, next := (wIndex v).getD 0, pc := 2 } }, true)
    else ({ w with m := w.s.rdM w.m w.s.frag (w.s.words.headD 0), s := TraceS.gone { w.s with words := w.s.words.tail, next := 0 } }, true)
def grey (w : TrW) : TrW × Bool := ({ w with T := w.T.grey w.s.next w.s.sense, p := w.p.grey w.T w.s.next w.s.sense, k := w.k + 1, s := w.s.gone }, true)
def link (w : TrW) : TrW × Bool := match w.s.rd w.m w.s.frag 0 with
  | none => ({ w with m := w.s.rdM w.m w.s.frag 0 }, false)
  | some v => match wIndex v with
    | none => ({ w with m := w.s.rdM w.m w.s.frag 0 }, false)
    | some i => if i < w.s.c.frags then ({ w with m := w.s.rdM w.m w.s.frag 0, s := { w.s with frag := i, pc := 4, j := w.s.j + 1 } }, true) else ({ w with m := w.s.rdM w.m w.s.frag 0 }, false)
def part (w : TrW) : TrW × Bool := ({ w with T := w.T.mark w.s.frag w.s.sense, k := w.k + 1, s := TraceS.gone { w.s with words := w.s.refsL } }, true)
def length (w : TrW) : TrW × Bool := match w.s.rd w.m w.s.head 2 with
  | none => ({ w with m := w.s.rdM w.m w.s.head 2 }, false)
  | some v => match wInt v with
    | none => ({ w with m := w.s.rdM w.m w.s.head 2, s := { w.s with n := 0 } }, false)
    | some n => if n < 0 ∨ 512 < n then ({ w with m := w.s.rdM w.m w.s.head 2, s := { w.s with n := n } }, false) else ({ w with m := w.s.rdM w.m w.s.head 2, s := { w.s with n := n, pc := if n = 0 then 9 else 6 } }, true)
def mode (w : TrW) : TrW × Bool := match w.s.rd w.m w.s.head 3 with
  | none => ({ w with m := w.s.rdM w.m w.s.head 3 }, false)
  | some v => match wInt v with
    | none => ({ w with m := w.s.rdM w.m w.s.head 3, s := { w.s with mode := 0 } }, false)
    | some n => if n < 0 ∨ 2 < n ∨ decide (n = 0) ≠ decide (sData w.s.n ≤ 4) then ({ w with m := w.s.rdM w.m w.s.head 3, s := { w.s with mode := n } }, false)
      else ({ w with m := w.s.rdM w.m w.s.head 3, s := { w.s with mode := n, pc := if n = 0 then 8 else 7 } }, true)
def base (w : TrW) : TrW × Bool := match w.s.rd w.m w.s.head 4 with
  | none => ({ w with m := w.s.rdM w.m w.s.head 4 }, false)
  | some v => if w.s.mode = 1 then (match wInt v with
      | none => ({ w with m := w.s.rdM w.m w.s.head 4, s := { w.s with base := 0 } }, false)
      | some a => if a < 0 ∨ cWords w.s.c ≤ a then ({ w with m := w.s.rdM w.m w.s.head 4, s := { w.s with base := a } }, false) else ({ w with m := w.s.rdM w.m w.s.head 4, s := { w.s with base := a, pc := 8 } }, true))
    else (match wIndex v with
      | none => ({ w with m := w.s.rdM w.m w.s.head 4, s := { w.s with base := 0 } }, false)
      | some i => if w.s.c.frags < i + sData w.s.n then ({ w with m := w.s.rdM w.m w.s.head 4, s := { w.s with base := i } }, false) else ({ w with m := w.s.rdM w.m w.s.head 4, s := { w.s with base := i, frag := i + w.s.j, pc := 4 } }, true))
/-- A slot's word. -/
def slotRd (w : TrW) : Option (Nat × Nat) := if w.s.mode = 0 then w.s.rd w.m w.s.head (4 + w.s.j) else if inB (w.s.base + 2 + w.s.j) w.m.l.length then some (w.m.peek (w.s.base + 2 + w.s.j)) else none
def slotM (w : TrW) : MemS := if w.s.mode = 0 then w.s.rdM w.m w.s.head (4 + w.s.j) else w.m.tick
def slot (w : TrW) : TrW × Bool := match w.slotRd with
  | none => ({ w with m := w.slotM }, false)
  | some v => ({ w with m := w.slotM, s := { w.s with frag := (wIndex v).getD 0, pc := 4 } }, (wIndex v).isSome && decide ((wIndex v).getD 0 < w.s.c.frags))
def does (w : TrW) : TrW × Bool :=
  if w.s.pc = 0 then w.head
  else if 5 ≤ w.s.pc then (if w.s.pc = 6 then w.mode else if w.s.pc = 7 then w.base else if w.s.pc = 8 then w.slot else w.length)
  else if w.s.pc = 2 then w.grey else if w.s.pc = 3 then w.link else if w.s.pc = 4 then w.part else w.field
def ticked (w : TrW) : TrW := { w with s := { w.s with steps := w.s.steps + 1 } }
def ended (w : TrW) : TrW := { w with s := { w.s with pc := 9, e := 10 } }
def step (w : TrW) : TrW := if w.s.pc = 9 then w else if w.ticked.does.2 then w.ticked.does.1 else w.ticked.does.1.ended
end TrW
end Go.Proofs.YtnebimabokgofaaGreat
/-
  trace: fragments, enters, goes.
-/
namespace Go.Proofs.YtnebimabokgofaaGreat
open Go Go.RowKit
set_option linter.unusedVariables false
set_option linter.unnecessarySimpa false
set_option linter.unusedSimpArgs false
set_option maxHeartbeats 2000000
set_option maxRecDepth 100000
theorem frs_bd (S : TraceS) : -1 ≤ S.frs ∧ S.frs ≤ 140737488355328 + S.refs.length := by
  unfold TraceS.frs
  split
  · have := sData_bd S.n; omega
  · unfold Shp.size Shp.len TraceS.shp
    simp only
    repeat (first | split | omega)
theorem trace_frs (g : GW) (t b : Nat) (S : TraceS) (P : TrPl) (h : TraceIs g t b S P) : Calls Tryz.prog 284 #[.pointer (some ⟨b, 0, none⟩)] g.w (Gives (.int .i64 S.frs) g.w) := by
  have c12 := h.blk.cell (i := 12) rfl
  have c13 := h.blk.cell (i := 13) rfl
  have c18 := h.blk.cell (i := 18) rfl
  have hl := h.blk.lt
  have HD := Lib.hid (fun w => data_any S.n w)
  have HS := Lib.hid (fun w' (he : Ext g.w w') => size_any ⟨S.arr, P.sA, P.sc, S.refs⟩ 0 w' (h.shp.ok.ext he))
  cases ha : S.arr
  · have HV := Lib.hid (show S.frs = Shp.size ⟨S.arr, P.sA, P.sc, S.refs⟩ 0 by unfold TraceS.frs; rw [ha, if_neg (by decide)]; unfold TraceS.shp; rw [ha]; rfl)
    rw [HV.out]
    unfold Shp.val at HS
    generalize Shp.size ⟨S.arr, P.sA, P.sc, S.refs⟩ 0 = z at *
    rw [ha] at c12 HS
    clear h HV ha
    go_enter Tryz.func284, Tryz.ntmps284
    go_wp2_with fail
    refine (HS.out _ (by (repeat (first | (with_reducible assumption) | (with_reducible exact Ext.refl _) | (with_reducible exact Ext.more _ _ _ _) | apply Ext.alloc | refine Ext.setCell ?_ (by first | exact Nat.le_refl _ | exact Nat.le_add_right _ _ | assumption) _ | apply Ext.patch | apply Ext.drew | apply Ext.drewN)))).mono ?_
    rintro e w1 ⟨rfl, X1, rfl⟩
    go_wp2_with fail
    go_ret
    exact Gives.mk rfl (by (repeat (first | (with_reducible assumption) | (with_reducible exact Ext.refl _) | (with_reducible exact Ext.more _ _ _ _) | apply Ext.alloc | refine Ext.setCell ?_ (by first | exact Nat.le_refl _ | exact Nat.le_add_right _ _ | assumption) _ | apply Ext.patch | apply Ext.drew | apply Ext.drewN)))
  · have HV := Lib.hid (show S.frs = sData S.n by unfold TraceS.frs; rw [ha, if_pos rfl])
    rw [HV.out]
    rw [ha] at c12
    clear h HV ha HS
    go_enter Tryz.func284, Tryz.ntmps284
    go_wp2_with fail
    refine (HD.out _).mono ?_
    rintro e w1 ⟨rfl, X1, rfl⟩
    go_wp2_with fail
    go_ret
    exact Gives.mk rfl (by (repeat (first | (with_reducible assumption) | (with_reducible exact Ext.refl _) | (with_reducible exact Ext.more _ _ _ _) | apply Ext.alloc | refine Ext.setCell ?_ (by first | exact Nat.le_refl _ | exact Nat.le_add_right _ _ | assumption) _ | apply Ext.patch | apply Ext.drew | apply Ext.drewN)))
theorem trace_enters (g : GW) (t b : Nat) (S : TraceS) (P : TrPl) (h : TraceIs g t b S P) (hb : 0 ≤ S.base ∧ S.base ≤ 1099511627776) (hj : 0 ≤ S.j ∧ S.j ≤ 1099511627776) : Calls Tryz.prog 282 #[.pointer (some ⟨b, 0, none⟩)] g.w (Does (.int .i64 S.entersPc) g (fun x => x = t) (fun g' => TraceIs g' t b S.enters P)) := by
  have c19 := h.blk.cell (i := 19) rfl
  have hl := h.blk.lt
  have HO := Lib.hid h.blk.own
  by_cases hm : S.mode = 2
  · have c14 := h.blk.cell (i := 14) rfl
    have c15 := h.blk.cell (i := 15) rfl
    have c20 := h.blk.cell (i := 20) rfl
    have f14 := h.blk.live 14
    have HV := Lib.hid (show S.enters = { S with frag := S.base + S.j } by unfold TraceS.enters; rw [if_pos hm])
    have HW := Lib.hid (show S.entersPc = 4 by unfold TraceS.entersPc; rw [if_pos hm])
    have H := Lib.hid (h.st 14 (.int .i64 (S.base + S.j)) { S with frag := S.base + S.j } rfl rfl rfl rfl rfl)
    have e1 := IntWalk.i64_in (S.base + S.j) (by omega)
    rw [hm] at c19
    clear h hb hj
    rw [HW.out, HV.out]
    go_enter Tryz.func282, Tryz.ntmps282
    go_wp2_with fail
    refine wp_region_mixed [true, true, true, true, true, true, true, true, true, true, true, true, false] 1 12 (by kernel_rfl) (by kernel_rfl) (by kernel_rfl) ?_ (by decide) (by decide) (by decide) (by kernel_rfl) ?_
    · intro c a d v w h; cases d <;> exact h
    intro X00
    simp only [pickOps]
    repeat (go_big_quiet_step (fail))
    refine wpQuiet_nil (fun X0 => ?_)
    clear X00
    refine wpAnyM_last 12 _ (by kernel_rfl) (by kernel_rfl) rfl rfl (fun X1 K Q' hK => ?_)
    go_simp
    refine hK _ _ (fun X2 => ?_)
    clear hK K Q'
    go_wp2_with fail
    go_ret
    exact Does.ext ⟨g.own, g.w.setCell ⟨b, 14, none⟩ (.int .i64 (S.base + S.j))⟩ (by (repeat (first | (with_reducible assumption) | (with_reducible exact Ext.refl _) | (with_reducible exact Ext.more _ _ _ _) | apply Ext.alloc | refine Ext.setCell ?_ (by first | exact Nat.le_refl _ | exact Nat.le_add_right _ _ | assumption) _ | apply Ext.patch | apply Ext.drew | apply Ext.drewN))) rfl (Mod.st Mod.self HO.out) (fun g2 m => H.out.keep m id id)
  · have HV := Lib.hid (show S.enters = S by unfold TraceS.enters; rw [if_neg hm])
    have HW := Lib.hid (show S.entersPc = 8 by unfold TraceS.entersPc; rw [if_neg hm])
    have H := Lib.hid h
    have hmb : (S.mode != 2) = true := bne_iff_ne.2 hm
    clear h hb hj hm
    rw [HW.out, HV.out]
    go_enter Tryz.func282, Tryz.ntmps282
    go_wp2_with fail
    go_ret
    exact Does.of g rfl rfl (Mod.refl _ _) H.out
theorem trace_goes (g : GW) (t b : Nat) (S : TraceS) (P : TrPl) (h : TraceIs g t b S P) (hb : 0 ≤ S.base ∧ S.base ≤ 1099511627776) (hj : 0 ≤ S.j ∧ S.j ≤ 1000000) : Calls Tryz.prog 281 #[.pointer (some ⟨b, 0, none⟩)] g.w (Does (.int .i64 S.goesPc) g (fun x => x = t) (fun g' => TraceIs g' t b S.goes P)) := by
  have c16 := h.blk.cell (i := 16) rfl
  have hl := h.blk.lt
  have H := Lib.hid h
  by_cases hw : S.words = []
  · have HF := Lib.hid (fun X => trace_frs (g.pt X) t b S P (h.keep (T := fun _ => False) (Mod.pt (Mod.refl _ _) X) id id))
    have c15 := h.blk.cell (i := 15) rfl
    have hbd := frs_bd S
    have hmx := h.shp.max
    simp only at hmx
    rw [hw] at c16
    have e1 := IntWalk.i64_in (S.j + 1) (by omega)
    have HB := Lib.hid (And.intro hb hj)
    by_cases hf : S.frs ≤ S.j + 1
    · have HV := Lib.hid (show S.goes = S by unfold TraceS.goes; rw [if_neg (by simp [hw]), if_pos hf])
      have HW := Lib.hid (show S.goesPc = 9 by unfold TraceS.goesPc; rw [if_neg (by simp [hw]), if_pos hf])
      rw [HW.out, HV.out]
      have d1 : decide (S.frs ≤ S.j + 1) = true := decide_eq_true hf
      generalize S.frs = z at *
      clear h hb hj hw hf hbd hmx
      simp only [List.length_nil] at c16
      go_enter Tryz.func281, Tryz.ntmps281
      go_wp2_with fail
      refine wp_region_mixed [true, true, true, true, true, true, true, true, true] 0 9 (by kernel_rfl) (by kernel_rfl) (by kernel_rfl) ?_ (by decide) (by decide) (by decide) (by kernel_rfl) ?_
      · intro c a d v w h; cases d <;> exact h
      intro X00
      simp only [pickOps]
      repeat (go_big_quiet_step (exact Calls.added (HF.out _)))
      refine wpQuiet_nil (fun X0 => ?_)
      clear X00
      refine wpAnyM_done (by kernel_rfl) (fun X0' => ?_) _
      go_wp2_with fail
      go_ret
      exact Does.ext g (by (repeat (first | (with_reducible assumption) | (with_reducible exact Ext.refl _) | (with_reducible exact Ext.more _ _ _ _) | apply Ext.alloc | refine Ext.setCell ?_ (by first | exact Nat.le_refl _ | exact Nat.le_add_right _ _ | assumption) _ | apply Ext.patch | apply Ext.drew | apply Ext.drewN))) rfl (Mod.refl _ _) (fun g2 m => H.out.keep m id id)
    · have d1 : decide (S.frs ≤ S.j + 1) = false := decide_eq_false hf
      have c12 := h.blk.cell (i := 12) rfl
      cases ha : S.arr
      · have HV := Lib.hid (show S.goes = S by unfold TraceS.goes; rw [if_neg (by simp [hw]), if_neg hf, if_pos ha])
        have HW := Lib.hid (show S.goesPc = 3 by unfold TraceS.goesPc; rw [if_neg (by simp [hw]), if_neg hf, if_pos ha])
        rw [HW.out, HV.out]
        rw [ha] at c12
        generalize S.frs = z at *
        clear h hb hj hw hf hbd hmx ha
        simp only [List.length_nil] at c16
        go_enter Tryz.func281, Tryz.ntmps281
        go_wp2_with fail
        refine wp_region_mixed [true, true, true, true, true, true, true, true, true] 0 9 (by kernel_rfl) (by kernel_rfl) (by kernel_rfl) ?_ (by decide) (by decide) (by decide) (by kernel_rfl) ?_
        · intro c a d v w h; cases d <;> exact h
        intro X00
        simp only [pickOps]
        repeat (go_big_quiet_step (exact Calls.added (HF.out _)))
        refine wpQuiet_nil (fun X0 => ?_)
        clear X00
        refine wpAnyM_done (by kernel_rfl) (fun X0' => ?_) _
        go_wp2_with fail
        go_ret
        exact Does.ext g (by (repeat (first | (with_reducible assumption) | (with_reducible exact Ext.refl _) | (with_reducible exact Ext.more _ _ _ _) | apply Ext.alloc | refine Ext.setCell ?_ (by first | exact Nat.le_refl _ | exact Nat.le_add_right _ _ | assumption) _ | apply Ext.patch | apply Ext.drew | apply Ext.drewN))) rfl (Mod.refl _ _) (fun g2 m => H.out.keep m id id)
      · have HV := Lib.hid (show S.goes = ({ S with j := S.j + 1 } : TraceS).enters by unfold TraceS.goes; rw [if_neg (by simp [hw]), if_neg hf, if_neg (by simp [ha])])
        have HW := Lib.hid (show S.goesPc = ({ S with j := S.j + 1 } : TraceS).entersPc by unfold TraceS.goesPc; rw [if_neg (by simp [hw]), if_neg hf, if_neg (by simp [ha])])
        rw [HW.out, HV.out]
        rw [ha] at c12
        have f15 := h.blk.live 15
        have HO := Lib.hid h.blk.own
        have H1 := Lib.hid (fun X => (h.keep (T := fun _ => False) (Mod.pt (Mod.refl _ g) X) id id).st 15 (.int .i64 (S.j + 1)) { S with j := S.j + 1 } rfl rfl rfl rfl rfl)
        generalize S.frs = z at *
        clear h hb hj hw hf hbd hmx ha
        simp only [List.length_nil] at c16
        go_enter Tryz.func281, Tryz.ntmps281
        go_wp2_with fail
        refine wp_region_mixed [true, true, true, true, true, true, true, true, true] 0 9 (by kernel_rfl) (by kernel_rfl) (by kernel_rfl) ?_ (by decide) (by decide) (by decide) (by kernel_rfl) ?_
        · intro c a d v w h; cases d <;> exact h
        intro X00
        simp only [pickOps]
        repeat (go_big_quiet_step (exact Calls.added (HF.out _)))
        refine wpQuiet_nil (fun X0 => ?_)
        clear X00
        refine wpAnyM_done (by kernel_rfl) (fun X0' => ?_) _
        obtain ⟨Y, hY⟩ := (show Ext g.w ((g.w.patch X0).patch X0') from Ext.trans ⟨X0, rfl⟩ ⟨X0', rfl⟩)
        rw [hY]
        clear hY
        go_wp2_with fail
        rw [← World.setCell_patch _ _ _ _ _ (by assumption)]
        refine (trace_enters ⟨(g.pt Y).own, (g.w.patch Y).setCell ⟨b, 15, none⟩ (.int .i64 (S.j + 1))⟩ t b _ P (H1.out Y) HB.out.1 (by have := HB.out.2; show 0 ≤ S.j + 1 ∧ S.j + 1 ≤ 1099511627776; omega)).mono ?_
        rintro e w1 ⟨rfl, own1, m1, r1⟩
        have M1 := Lib.hid m1
        have R1 := Lib.hid r1
        clear m1 r1
        go_wp2_with fail
        go_ret
        exact ⟨rfl, own1, ((Mod.pt (Mod.refl (fun x => x = t) g) Y).trans (Mod.st (T := fun x => x = t) Mod.self (H.out.blk.pt Y).own)).trans M1.out, R1.out⟩
  · have hw0 : 0 < S.words.length := List.length_pos_iff.2 hw
    have HV := Lib.hid (show S.goes = S by unfold TraceS.goes; rw [if_pos hw])
    have HW := Lib.hid (show S.goesPc = 1 by unfold TraceS.goesPc; rw [if_pos hw])
    have d1 : decide ((0 : Int) < S.words.length) = true := decide_eq_true (by have := List.length_pos_iff.2 hw; omega)
    rw [HW.out, HV.out]
    clear h hb hj hw
    go_enter Tryz.func281, Tryz.ntmps281
    go_wp2_with fail
    go_ret
    exact Does.of g rfl rfl (Mod.refl _ _) H.out
end Go.Proofs.YtnebimabokgofaaGreat
/-
  trace: refs.
-/
namespace Go.Proofs.YtnebimabokgofaaGreat
open Go Go.RowKit
set_option linter.unusedVariables false
set_option linter.unnecessarySimpa false
set_option linter.unusedSimpArgs false
set_option maxHeartbeats 4000000
set_option maxRecDepth 100000
def minF (x y : Int) : Int := if y < x then y else x
@[go_sem] theorem min_intsF (ats : Array TypeId) (ty : TypeId) (x y : Int) : Builtin.min_ ats ty #[.int .i64 x, .int .i64 y] = pure (.int .i64 (minF x y)) := rfl
/-- A row of numbers of the call's own. -/
def RefsGot (g : GW) (l : List Int) (e : Ending) (w' : World) : Prop := ∃ A c, e = .returned (.slice A l.length c) ∧ Ext g.w w' ∧ (l.length ≤ c ∧ c ≤ 9223372036854775807) ∧ CellsAt w' A (l.map (Value.int .i64)) ∧ ∀ a, A = some a → g.w.heap.size ≤ a.block
theorem RefsGot.of {g : GW} {l : List Int} {v : Value} {own : Nat → Nat} {w' w2 : World} (M : Mod (fun _ => False) g ⟨own, w'⟩) (R : Mine g ⟨own, w'⟩ 3 1 v l.length (l.map (Value.int .i64))) (he : Ext w' w2) : RefsGot g l (.returned v) w2 := by
  obtain ⟨A, c, rfl, hn, hc, _⟩ := R.row.form
  exact ⟨A, c, rfl, M.toExt.trans he, ⟨hn, hc⟩, (R.row.cells).ext he, fun a ha => R.new a.block (by rw [ha]; rfl)⟩
/-- So many elements are references there. -/
def TraceS.elsN (S : TraceS) : Nat := (min S.n ((S.j + 1) * 8) - S.j * 8).toNat
def numsL (k : Nat) : List Int := (List.range k).map (fun x => ((x : Nat) : Int))
theorem numsL_succ (k : Nat) : numsL (k + 1) = numsL k ++ [(k : Int)] := by unfold numsL; rw [List.range_succ, List.map_append]; rfl
theorem numsL_len (k : Nat) : (numsL k).length = k := by simp [numsL]
theorem refsL_arr {S : TraceS} (ha : S.arr = true) : S.refsL = if S.refs.getD 0 false then numsL S.elsN else [] := by unfold TraceS.refsL; rw [ha]; rfl
/-- The words of the fields ahead of field k. -/
def fieldsL (refs : List Bool) (j : Int) : Nat → List Int
  | 0 => []
  | k + 1 => fieldsL refs j k ++ if refs.getD k false && decide (Shp.placeF k = j) then [Shp.placeW k] else []
theorem fieldsL_le (refs : List Bool) (j : Int) (k : Nat) : (fieldsL refs j k).length ≤ k := by
  induction k with
  | zero => exact Nat.le_refl _
  | succ k ih => rw [fieldsL, List.length_append]; split <;> simp <;> omega
theorem refsL_obj {S : TraceS} (ha : S.arr = false) : S.refsL = fieldsL S.refs S.j S.refs.length := by
  unfold TraceS.refsL
  rw [ha, if_neg (by decide)]
  suffices h : ∀ k, ((List.range k).filterMap fun k => if S.refs.getD k false && decide (Shp.placeF k = S.j) then some (Shp.placeW k) else none) = fieldsL S.refs S.j k from h _
  intro k
  induction k with
  | zero => rfl
  | succ k ih =>
    rw [List.range_succ, List.filterMap_append, ih, fieldsL]
    congr 1
    simp only [List.filterMap_cons, List.filterMap_nil]
    split <;> rename_i h <;> split at h <;> simp_all
theorem trace_refs (g : GW) (t b : Nat) (S : TraceS) (P : TrPl) (h : TraceIs g t b S P) (hj : 0 ≤ S.j ∧ S.j ≤ 1000000) (hn : 0 ≤ S.n ∧ S.n ≤ 1000000) (hmay : S.shp.may = true) : Calls Tryz.prog 280 #[.pointer (some ⟨b, 0, none⟩)] g.w (RefsGot g S.refsL) := by
  obtain ⟨i0, hi, hz0, hz1, hz2⟩ := info_parts infoInt
  have c12 := h.blk.cell (i := 12) rfl
  have hl := h.blk.lt
  have H := Lib.hid h
  have hlen : S.refs.length ≤ 40 := (of_decide_eq_true hmay).1
  have HMAY := Lib.hid hmay
  obtain ⟨hj0, hj1⟩ := hj
  obtain ⟨hn0, hn1⟩ := hn
  cases ha : S.arr
  · have HV := Lib.hid (refsL_obj ha)
    have HA := Lib.hid ha
    have c13 := h.blk.cell (i := 13) rfl
    rw [ha] at c12
    clear h hmay ha
    go_enter Tryz.func280, Tryz.ntmps280
    go_wp2_with fail
    go_loopw [3, 56] (fun v i wr => ∃ (k : Nat) (own : Nat → Nat) (w1 : World), k ≤ S.refs.length ∧ i = .int .i64 k ∧ Hid (Mod (fun _ => False) g ⟨own, w1⟩) ∧ Hid (Mine g ⟨own, w1⟩ 3 1 v (fieldsL S.refs S.j k).length ((fieldsL S.refs S.j k).map (Value.int .i64))) ∧ Ext w1 wr) (fun _ i _ => S.refs.length - (intOf i).toNat)
    case atStart => exact ⟨0, g.own, g.w, Nat.zero_le _, rfl, Lib.hid (Mod.refl _ _), Lib.hid (Mine.nil _ _ _ _), by (repeat (first | (with_reducible assumption) | (with_reducible exact Ext.refl _) | (with_reducible exact Ext.more _ _ _ _) | apply Ext.alloc | refine Ext.setCell ?_ (by first | exact Nat.le_refl _ | exact Nat.le_add_right _ _ | assumption) _ | apply Ext.patch | apply Ext.drew | apply Ext.drewN))⟩
    case round =>
      obtain ⟨k, own, w1, hk, rfl, HM, HR, X, rfl⟩ := hrel
      obtain ⟨A5, c5, hv5⟩ := own_form HR.out.row.row
      subst hv5
      have H1 := Lib.hid (H.out.keep HM.out id id)
      by_cases hlt : k < S.refs.length
      · have c12 := H1.out.blk.cell (i := 12) rfl
        have c13 := H1.out.blk.cell (i := 13) rfl
        have c15 := H1.out.blk.cell (i := 15) rfl
        have hl1 := H1.out.blk.lt
        simp only at c12 c13 c15 hl1
        rw [HA.out] at c12
        have HP := Lib.hid (fun w' (he : Ext w1 w') => place_any ⟨S.arr, P.sA, P.sc, S.refs⟩ k w' (H1.out.shp.ok.ext he) (by omega) (by omega))
        obtain ⟨q, o, hA, hq, hcell⟩ := H1.out.shp.ok.refs.cases (by simp; omega)
        have g0 := hcell k (.bool (S.refs.getD k false)) (by simp [List.getD, List.getElem?_eq_getElem hlt])
        simp only at hA g0 hq
        have hpl : Shp.place ⟨S.arr, P.sA, P.sc, S.refs⟩ k = .tuple #[.int .i64 (Shp.placeF k), .int .i64 (Shp.placeW k), .bool true] := by
          unfold Shp.place
          rw [if_pos (by
            unfold Shp.hasField
            rw [show Shp.may ⟨S.arr, P.sA, P.sc, S.refs⟩ = true from HMAY.out]
            simp only [HA.out, Shp.len]
            simp; omega)]
        rw [hpl] at HP
        unfold Shp.val at HP
        rw [HA.out] at HP
        simp only at HP
        have HFL := Lib.hid (show fieldsL S.refs S.j (k + 1) = fieldsL S.refs S.j k ++ if S.refs.getD k false && decide (Shp.placeF k = S.j) then [Shp.placeW k] else [] from rfl)
        have HPL := Lib.hid (Shp.placeW_bd k (by omega))
        have HPA := Lib.hid hA
        generalize P.sA = sA at *
        subst hA
        generalize hx : S.refs.getD k false = x at *
        generalize hy : Shp.placeF k = y at *
        clear hpl hcell hx hy
        go_wp2_with fail
        refine (HP.out _ (by (repeat (first | (with_reducible assumption) | (with_reducible exact Ext.refl _) | (with_reducible exact Ext.more _ _ _ _) | apply Ext.alloc | refine Ext.setCell ?_ (by first | exact Nat.le_refl _ | exact Nat.le_add_right _ _ | assumption) _ | apply Ext.patch | apply Ext.drew | apply Ext.drewN)))).mono ?_
        rintro e w2 ⟨rfl, X2, rfl⟩
        cases x
        · have HT2 := Lib.hid (HFL.out.trans (by rw [Bool.false_and, if_neg (by decide), List.append_nil]))
          go_wp2_with fail
          go_roundw
          case rel => exact ⟨k + 1, own, w1, by omega, by go_num, HM, by rw [HT2.out]; exact HR, by (repeat (first | (with_reducible assumption) | (with_reducible exact Ext.refl _) | (with_reducible exact Ext.more _ _ _ _) | apply Ext.alloc | refine Ext.setCell ?_ (by first | exact Nat.le_refl _ | exact Nat.le_add_right _ _ | assumption) _ | apply Ext.patch | apply Ext.drew | apply Ext.drewN))⟩
          case measure => simp [intOf]; omega
        · by_cases hp : y = S.j
          · have HT2 := Lib.hid (HFL.out.trans (by rw [decide_eq_true hp, Bool.true_and, if_pos rfl]))
            subst hp
            have R1 := Lib.hid (own_ext HR.out.row.row (show Ext w1 (w1.patch ⟨X.blocks ++ X2.blocks, X2.drawn⟩) by (repeat (first | (with_reducible assumption) | (with_reducible exact Ext.refl _) | (with_reducible exact Ext.more _ _ _ _) | apply Ext.alloc | refine Ext.setCell ?_ (by first | exact Nat.le_refl _ | exact Nat.le_add_right _ _ | assumption) _ | apply Ext.patch | apply Ext.drew | apply Ext.drewN))))
            have HFL2 := Lib.hid (show (fieldsL S.refs S.j k).length ≤ 1000 from Nat.le_trans (fieldsL_le S.refs S.j k) (by omega))
            have hfl := HFL2.out
            go_wp2_with (at_builtin; refine wpList_append_own_at _ rfl (.tmp 80) (.tmp 82) 79 rfl 0 3 i0 (.int .i64 0) 1 8 Tryz.underlying79 hi hz0 hz1 hz2 rfl (by decide) _ _ _ rfl (R1.out.alloc _) ⟨(w1.patch ⟨X.blocks ++ X2.blocks, X2.drawn⟩).heap.size, 0, none⟩ 1 1 [.int .i64 (Shp.placeW k)] rfl rfl (cell_one_new _ _ _) (by intro u hu; simp at hu; subst hu; rfl) (by unfold maxLen; omega) (by omega) (Nat.zero_le _) ?_; intro v2 w2 hown hgrow hnil hat)
            obtain ⟨own2, m2, r2, k2⟩ := HR.out.app HM.out (Ext.alloc ⟨_, rfl⟩ _) hown hgrow hat
            have M2 := Lib.hid m2
            have R2 := Lib.hid r2
            clear m2 r2 k2 hown hgrow hnil hat
            go_wp2_with fail
            go_roundw
            case rel => exact ⟨k + 1, own2, w2, by omega, by go_num, M2, Lib.hid ⟨R2.out.row.weak (by rw [HT2.out]; simp) (by rw [HT2.out]; simp), R2.out.new⟩, by (repeat (first | (with_reducible assumption) | (with_reducible exact Ext.refl _) | (with_reducible exact Ext.more _ _ _ _) | apply Ext.alloc | refine Ext.setCell ?_ (by first | exact Nat.le_refl _ | exact Nat.le_add_right _ _ | assumption) _ | apply Ext.patch | apply Ext.drew | apply Ext.drewN))⟩
            case measure => simp [intOf]; omega
          · have HT2 := Lib.hid (HFL.out.trans (by rw [decide_eq_false hp, Bool.and_false, if_neg (by decide), List.append_nil]))
            have hyb : (y == S.j) = false := beq_eq_false_iff_ne.2 hp
            go_wp2_with fail
            go_roundw
            case rel => exact ⟨k + 1, own, w1, by omega, by go_num, HM, by rw [HT2.out]; exact HR, by (repeat (first | (with_reducible assumption) | (with_reducible exact Ext.refl _) | (with_reducible exact Ext.more _ _ _ _) | apply Ext.alloc | refine Ext.setCell ?_ (by first | exact Nat.le_refl _ | exact Nat.le_add_right _ _ | assumption) _ | apply Ext.patch | apply Ext.drew | apply Ext.drewN))⟩
            case measure => simp [intOf]; omega
      · obtain rfl : k = S.refs.length := by omega
        go_wp2_with fail
        go_ret
        rw [HV.out]
        exact RefsGot.of HM.out HR.out (by (repeat (first | (with_reducible assumption) | (with_reducible exact Ext.refl _) | (with_reducible exact Ext.more _ _ _ _) | apply Ext.alloc | refine Ext.setCell ?_ (by first | exact Nat.le_refl _ | exact Nat.le_add_right _ _ | assumption) _ | apply Ext.patch | apply Ext.drew | apply Ext.drewN)))
  · have HA := Lib.hid ha
    have hrl : S.refs.length = 1 := (of_decide_eq_true hmay).2 ha
    have HV := Lib.hid (refsL_arr ha)
    have c15 := h.blk.cell (i := 15) rfl
    rw [ha] at c12
    have e1 := IntWalk.i64_in (S.j * 8) (by omega)
    have e2 := IntWalk.i64_in (S.j + 1) (by omega)
    have e3 := IntWalk.i64_in ((S.j + 1) * 8) (by omega)
    have hcnt : S.elsN ≤ 8 ∧ ∀ x : Nat, decide (S.j * 8 + x < minF S.n ((S.j + 1) * 8)) = decide (x < S.elsN) := by
      unfold TraceS.elsN minF
      refine ⟨by omega, fun x => ?_⟩
      rw [Bool.eq_iff_iff, decide_eq_true_iff, decide_eq_true_iff]
      split <;> omega
    obtain ⟨hc8, hcx⟩ := hcnt
    have HCX := Lib.hid hcx
    clear h hmay ha hcx
    go_enter Tryz.func280, Tryz.ntmps280
    go_wp2_with fail
    go_loopw [3, 4] (fun v i wr => ∃ (k : Nat) (own : Nat → Nat) (w1 : World), k ≤ S.elsN ∧ (S.refs.getD 0 false = false → k = 0) ∧ i = .int .i64 (S.j * 8 + k) ∧ Hid (Mod (fun _ => False) g ⟨own, w1⟩) ∧ Hid (Mine g ⟨own, w1⟩ 3 1 v k ((numsL k).map (Value.int .i64))) ∧ Ext w1 wr) (fun _ i _ => (S.j * 8 + 9 - intOf i).toNat)
    case atStart => exact ⟨0, g.own, g.w, Nat.zero_le _, fun _ => rfl, by go_num, Lib.hid (Mod.refl _ _), Lib.hid (Mine.nil _ _ _ _), by (repeat (first | (with_reducible assumption) | (with_reducible exact Ext.refl _) | (with_reducible exact Ext.more _ _ _ _) | apply Ext.alloc | refine Ext.setCell ?_ (by first | exact Nat.le_refl _ | exact Nat.le_add_right _ _ | assumption) _ | apply Ext.patch | apply Ext.drew | apply Ext.drewN))⟩
    case round =>
      obtain ⟨k, own, w1, hk, hk0, rfl, HM, HR, X, rfl⟩ := hrel
      obtain ⟨A5, c5, hv5⟩ := own_form HR.out.row.row
      subst hv5
      have H1 := Lib.hid (H.out.keep HM.out id id)
      have c13 := H1.out.blk.cell (i := 13) rfl
      have c15 := H1.out.blk.cell (i := 15) rfl
      have c18 := H1.out.blk.cell (i := 18) rfl
      have hl1 := H1.out.blk.lt
      simp only at c13 c15 c18 hl1
      obtain ⟨q, o, hA, hq, hcell⟩ := H1.out.shp.ok.refs.cases (by simp; omega)
      have g0 := hcell 0 (.bool (S.refs.getD 0 false)) (by simp [List.getD, List.getElem?_eq_getElem (show 0 < S.refs.length by omega)])
      simp only [Nat.add_zero] at hA g0 hq
      rw [hA] at c13
      rw [hrl] at c13
      have HK0 := Lib.hid hk0
      clear hcell hk0
      cases hx : S.refs.getD 0 false
      · rw [hx] at g0 HK0
        have HE := Lib.hid (HV.out.trans (by rw [hx, if_neg (by decide)]))
        have hk00 : k = 0 := HK0.out rfl
        subst hk00
        clear hx
        go_wp2_with fail
        refine wp_region_mixed [true, true, true, true, true, true, true, true, true, true, true, true, true, true, true, true, true, true, true, true, true, true] 0 22 (by kernel_rfl) (by kernel_rfl) (by kernel_rfl) ?_ (by decide) (by decide) (by decide) (by kernel_rfl) ?_
        · intro c a d v w h; cases d <;> exact h
        intro X00
        simp only [pickOps]
        repeat (go_big_quiet_step (fail))
        refine wpQuiet_nil (fun X0 => ?_)
        clear X00
        refine wpAnyM_done (by kernel_rfl) (fun X0' => ?_) _
        go_wp2_with fail
        go_ret
        rw [HE.out]
        exact RefsGot.of HM.out HR.out (by (repeat (first | (with_reducible assumption) | (with_reducible exact Ext.refl _) | (with_reducible exact Ext.more _ _ _ _) | apply Ext.alloc | refine Ext.setCell ?_ (by first | exact Nat.le_refl _ | exact Nat.le_add_right _ _ | assumption) _ | apply Ext.patch | apply Ext.drew | apply Ext.drewN)))
      · rw [hx] at g0 HK0
        have HE := Lib.hid (HV.out.trans (by rw [hx, if_pos rfl]))
        clear hx
        by_cases hlt : k < S.elsN
        · have d1 : decide (S.j * 8 + k < minF S.n ((S.j + 1) * 8)) = true := by rw [HCX.out, decide_eq_true hlt]
          have HE2 := HE
          have e4 := IntWalk.i64_in (S.j * 8 + k + 1) (by omega)
          have e5 : (S.j * 8 + (k : Int)).tmod 8 = k := by rw [Int.tmod_eq_emod_of_nonneg (by omega)]; omega
          have e6 := IntWalk.i64_in (k : Int) (by omega)
          go_wp2_with fail
          refine wp_region_mixed [true, true, true, true, true, true, true, true, true, true, true, true, true, true, true, true, true, true, true, true, true, true] 0 22 (by kernel_rfl) (by kernel_rfl) (by kernel_rfl) ?_ (by decide) (by decide) (by decide) (by kernel_rfl) ?_
          · intro c a d v w h; cases d <;> exact h
          intro X00
          simp only [pickOps]
          repeat (go_big_quiet_step (fail))
          refine wpQuiet_nil (fun X0 => ?_)
          clear X00
          refine wpAnyM_done (by kernel_rfl) (fun X0' => ?_) _
          obtain ⟨Y, hY⟩ := (show Ext w1 (((w1.patch X).patch X0).patch X0') from by (repeat (first | (with_reducible assumption) | (with_reducible exact Ext.refl _) | (with_reducible exact Ext.more _ _ _ _) | apply Ext.alloc | refine Ext.setCell ?_ (by first | exact Nat.le_refl _ | exact Nat.le_add_right _ _ | assumption) _ | apply Ext.patch | apply Ext.drew | apply Ext.drewN)))
          rw [hY]
          clear hY
          have R1 := Lib.hid (own_ext HR.out.row.row (show Ext w1 (w1.patch Y) by (repeat (first | (with_reducible assumption) | (with_reducible exact Ext.refl _) | (with_reducible exact Ext.more _ _ _ _) | apply Ext.alloc | refine Ext.setCell ?_ (by first | exact Nat.le_refl _ | exact Nat.le_add_right _ _ | assumption) _ | apply Ext.patch | apply Ext.drew | apply Ext.drewN))))
          go_wp2_with (at_builtin; refine wpList_append_own_at _ rfl (.tmp 44) (.tmp 47) 79 rfl 0 3 i0 (.int .i64 0) 1 8 Tryz.underlying79 hi hz0 hz1 hz2 rfl (by decide) _ _ _ rfl (R1.out.alloc _) ⟨(w1.patch Y).heap.size, 0, none⟩ 1 1 [.int .i64 (k : Int)] rfl rfl (cell_one_new _ _ _) (by intro u hu; simp at hu; subst hu; rfl) (by unfold maxLen; omega) (by omega) (Nat.zero_le _) ?_; intro v2 w2 hown hgrow hnil hat)
          obtain ⟨own2, m2, r2, k2⟩ := HR.out.app HM.out (Ext.alloc ⟨_, rfl⟩ _) hown hgrow hat
          have M2 := Lib.hid m2
          have R2 := Lib.hid r2
          clear m2 r2 k2 hown hgrow hnil hat
          go_wp2_with fail
          go_roundw
          case rel => exact ⟨k + 1, own2, w2, by omega, (fun e => absurd e (by decide)), by go_num, M2, Lib.hid ⟨R2.out.row.weak rfl (by rw [numsL_succ]; simp), R2.out.new⟩, by (repeat (first | (with_reducible assumption) | (with_reducible exact Ext.refl _) | (with_reducible exact Ext.more _ _ _ _) | apply Ext.alloc | refine Ext.setCell ?_ (by first | exact Nat.le_refl _ | exact Nat.le_add_right _ _ | assumption) _ | apply Ext.patch | apply Ext.drew | apply Ext.drewN))⟩
          case measure => simp [intOf]; omega
        · have d1 : decide (S.j * 8 + k < minF S.n ((S.j + 1) * 8)) = false := by rw [HCX.out, decide_eq_false hlt]
          obtain rfl : k = S.elsN := by omega
          go_wp2_with fail
          refine wp_region_mixed [true, true, true, true, true, true, true, true, true, true, true, true, true, true, true, true, true, true, true, true, true, true] 0 22 (by kernel_rfl) (by kernel_rfl) (by kernel_rfl) ?_ (by decide) (by decide) (by decide) (by kernel_rfl) ?_
          · intro c a d v w h; cases d <;> exact h
          intro X00
          simp only [pickOps]
          repeat (go_big_quiet_step (fail))
          refine wpQuiet_nil (fun X0 => ?_)
          clear X00
          refine wpAnyM_done (by kernel_rfl) (fun X0' => ?_) _
          go_wp2_with fail
          go_ret
          rw [HE.out]
          refine RefsGot.of HM.out ?_ (by (repeat (first | (with_reducible assumption) | (with_reducible exact Ext.refl _) | (with_reducible exact Ext.more _ _ _ _) | apply Ext.alloc | refine Ext.setCell ?_ (by first | exact Nat.le_refl _ | exact Nat.le_add_right _ _ | assumption) _ | apply Ext.patch | apply Ext.drew | apply Ext.drewN)))
          rw [numsL_len]
          exact HR.out
end Go.Proofs.YtnebimabokgofaaGreat
/-
  trace: first.
-/
namespace Go.Proofs.YtnebimabokgofaaGreat
open Go Go.RowKit
set_option linter.unusedVariables false
set_option linter.unnecessarySimpa false
set_option linter.unusedSimpArgs false
set_option maxHeartbeats 4000000
set_option maxRecDepth 100000
/-- New words are stored. -/
theorem TraceIs.wordsSet {g : GW} {t b : Nat} {S : TraceS} {P : TrPl} {l : List Int} {A : Option Addr} {c : Nat} {w1 : World} (h : TraceIs g t b S P) (hE : Ext g.w w1) (hl : l.length ≤ c ∧ c ≤ 9223372036854775807) (hc : CellsAt w1 A (l.map (Value.int .i64))) (hn : ∀ a, A = some a → g.w.heap.size ≤ a.block) :
    TraceIs ⟨(g.to (t + 1) w1).own, w1.setCell ⟨b, 16, none⟩ (.slice A l.length c)⟩ t b { S with words := l } ⟨P.sA, P.sc, A, c⟩ := by
  have m1 : Mod (fun _ => False) g (g.to (t + 1) w1) := Mod.ext hE (t + 1)
  have h1 := h.keep m1 id id
  have m2 : Mod (fun x => x = t) (g.to (t + 1) w1) ⟨(g.to (t + 1) w1).own, w1.setCell ⟨b, 16, none⟩ (.slice A l.length c)⟩ := Mod.st Mod.self h1.blk.own
  refine ⟨h1.blk.set 16 (.slice A l.length c), h1.cnf.keep m2 (by omega), h1.shp.keep m2 (by omega), ?_, hl⟩
  refine Seg.set (g := g.to (t + 1) w1) ⟨hc, fun a ha _ => GW.to_new (hn a ha)⟩ (fun a ha _ e => ?_)
  have := hn a ha
  have := h.blk.lt
  omega
/-- Its shape is stored. -/
theorem TraceIs.shapeSet {g : GW} {t b : Nat} {S : TraceS} {P : TrPl} {s : Shp} {w1 : World} (h : TraceIs g t b S P) (hE : Ext g.w w1) (hok : s.Ok w1) (hf : ∀ a, s.A = some a → g.w.heap.size ≤ a.block) :
    TraceIs ⟨(g.to (t + 1) w1).own, (w1.setCell ⟨b, 12, none⟩ (.bool s.arr)).setCell ⟨b, 13, none⟩ (.slice s.A s.refs.length s.cap)⟩ t b { S with arr := s.arr, refs := s.refs } ⟨s.A, s.cap, P.wA, P.wc⟩ := by
  have m1 : Mod (fun _ => False) g (g.to (t + 1) w1) := Mod.ext hE (t + 1)
  have h1 := h.keep m1 id id
  have m2 : Mod (fun x => x = t) (g.to (t + 1) w1) ⟨(g.to (t + 1) w1).own, (w1.setCell ⟨b, 12, none⟩ (.bool s.arr)).setCell ⟨b, 13, none⟩ (.slice s.A s.refs.length s.cap)⟩ := Mod.st (Mod.st Mod.self h1.blk.own) h1.blk.own
  refine ⟨(h1.blk.set 12 (.bool s.arr)).set 13 (.slice s.A s.refs.length s.cap), h1.cnf.keep m2 (by omega), ShpAt.keep (g := g.to (t + 1) w1) ⟨⟨hok.refs, fun a ha _ => GW.to_new (hf a ha)⟩, hok.len, hok.max⟩ m2 (by omega), h1.words.keep m2 (by omega), h.wlen⟩
theorem may_of_check {c : Cnf} {k : Int} {arr : Bool} {refs : List Bool} (hck : c.check = 0) (h : c.shapeAt k = some (arr, refs)) (A : Option Addr) (cap : Nat) : Shp.may ⟨arr, A, cap, refs⟩ = true := by
  unfold Cnf.shapeAt at h
  split at h
  · cases h
  · obtain ⟨s, hs, he⟩ := Option.map_eq_some_iff.1 h
    have hb := (Cnf.check_zero hck).2.2.2
    injection he with e1 e2
    cases hm : Shp.may s
    · rw [badIn_yes hs hm] at hb
      cases hb
    · unfold Shp.may at hm ⊢
      rw [← e1, ← e2]
      exact hm
theorem first_none (g : GW) (t b : Nat) (S : TraceS) (P : TrPl) (v : Nat × Nat) (h : TraceIs g t b S P) (hv : wTell v = none) : Calls Tryz.prog 248 #[.pointer (some ⟨b, 0, none⟩), .complex .f64 v.1 v.2] g.w (Does (.bool false) g (fun x => x = t) (fun g' => TraceIs g' t b S P)) := by
  have HT := Lib.hid (tell_any_w v g.w)
  rw [hv] at HT
  unfold tellV at HT
  obtain ⟨x, y⟩ := v
  simp only [Option.map_none, Option.getD_none, Option.isSome_none] at HT ⊢
  clear hv
  have HSH := Lib.hid (fun w' (he : Ext g.w w') => shape_any S.c 0 w' (h.cnf.ok.ext he))
  unfold Cnf.val at HSH
  have H := Lib.hid h
  clear h
  go_enter Tryz.func248, Tryz.ntmps248
  go_wp2_with fail
  refine HT.out.mono ?_
  rintro e w1 ⟨rfl, hE⟩
  have HX1 := Lib.hid (show Ext g.w w1 from hE)
  have H1 := Lib.hid (H.out.keep (Mod.ext (T := fun _ => False) HX1.out 0) id id)
  clear hE HT
  have k0 := H1.out.blk.cell (i := 0) rfl
  have k1 := H1.out.blk.cell (i := 1) rfl
  have k2 := H1.out.blk.cell (i := 2) rfl
  have k3 := H1.out.blk.cell (i := 3) rfl
  have k4 := H1.out.blk.cell (i := 4) rfl
  have k5 := H1.out.blk.cell (i := 5) rfl
  have k6 := H1.out.blk.cell (i := 6) rfl
  have k7 := H1.out.blk.cell (i := 7) rfl
  have k8 := H1.out.blk.cell (i := 8) rfl
  have hl := H1.out.blk.lt
  simp only [GW.to] at k0 k1 k2 k3 k4 k5 k6 k7 k8 hl
  go_wp2_with fail
  refine (HSH.out _ HX1.out).mono ?_
  rintro e w2 ⟨s', rfl, hs, hfr, hok, hE⟩
  have HS := Lib.hid hs
  have HFR := Lib.hid hfr
  have HOK := Lib.hid hok
  have HX2 := Lib.hid (HX1.out.trans (show Ext w1 w2 from hE))
  clear hs hfr hok hE HSH k0 k1 k2 k3 k4 k5 k6 k7 k8 hl H1
  generalize (S.c.shapeAt 0).isSome = z at *
  obtain ⟨arr', A', cap', refs'⟩ := s'
  unfold Shp.val
  go_wp2_with fail
  go_ret
  exact Does.ext g (HX2.out.trans (by (repeat (first | (with_reducible assumption) | (with_reducible exact Ext.refl _) | (with_reducible exact Ext.more _ _ _ _) | apply Ext.alloc | refine Ext.setCell ?_ (by first | exact Nat.le_refl _ | exact Nat.le_add_right _ _ | assumption) _ | apply Ext.patch | apply Ext.drew | apply Ext.drewN)))) rfl (Mod.refl _ _) (fun g2 m => H.out.keep m id id)
theorem first_kind (g : GW) (t b : Nat) (S : TraceS) (P : TrPl) (v : Nat × Nat) (kd md : Int) (h : TraceIs g t b S P) (hv : wTell v = some (kd, md)) (hk : S.c.shapeAt kd = none) : Calls Tryz.prog 248 #[.pointer (some ⟨b, 0, none⟩), .complex .f64 v.1 v.2] g.w (Does (.bool false) g (fun x => x = t) (fun g' => TraceIs g' t b S P)) := by
  have HT := Lib.hid (tell_any_w v g.w)
  rw [hv] at HT
  unfold tellV at HT
  obtain ⟨x, y⟩ := v
  simp only [Option.map_some, Option.getD_some, Option.isSome_some] at HT ⊢
  clear hv
  have HSH := Lib.hid (fun w' (he : Ext g.w w') => shape_any S.c kd w' (h.cnf.ok.ext he))
  unfold Cnf.val at HSH
  have H := Lib.hid h
  clear h
  go_enter Tryz.func248, Tryz.ntmps248
  go_wp2_with fail
  refine HT.out.mono ?_
  rintro e w1 ⟨rfl, hE⟩
  have HX1 := Lib.hid (show Ext g.w w1 from hE)
  have H1 := Lib.hid (H.out.keep (Mod.ext (T := fun _ => False) HX1.out 0) id id)
  clear hE HT
  have k0 := H1.out.blk.cell (i := 0) rfl
  have k1 := H1.out.blk.cell (i := 1) rfl
  have k2 := H1.out.blk.cell (i := 2) rfl
  have k3 := H1.out.blk.cell (i := 3) rfl
  have k4 := H1.out.blk.cell (i := 4) rfl
  have k5 := H1.out.blk.cell (i := 5) rfl
  have k6 := H1.out.blk.cell (i := 6) rfl
  have k7 := H1.out.blk.cell (i := 7) rfl
  have k8 := H1.out.blk.cell (i := 8) rfl
  have hl := H1.out.blk.lt
  simp only [GW.to] at k0 k1 k2 k3 k4 k5 k6 k7 k8 hl
  go_wp2_with fail
  refine (HSH.out _ HX1.out).mono ?_
  rintro e w2 ⟨s', rfl, hs, hfr, hok, hE⟩
  have HS := Lib.hid hs
  have HFR := Lib.hid hfr
  have HOK := Lib.hid hok
  have HX2 := Lib.hid (HX1.out.trans (show Ext w1 w2 from hE))
  clear hs hfr hok hE HSH k0 k1 k2 k3 k4 k5 k6 k7 k8 hl H1
  rw [hk]
  obtain ⟨arr', A', cap', refs'⟩ := s'
  unfold Shp.val
  clear hk
  simp only [Option.isSome_none]
  go_wp2_with fail
  go_ret
  exact Does.ext g (HX2.out.trans (by (repeat (first | (with_reducible assumption) | (with_reducible exact Ext.refl _) | (with_reducible exact Ext.more _ _ _ _) | apply Ext.alloc | refine Ext.setCell ?_ (by first | exact Nat.le_refl _ | exact Nat.le_add_right _ _ | assumption) _ | apply Ext.patch | apply Ext.drew | apply Ext.drewN)))) rfl (Mod.refl _ _) (fun g2 m => H.out.keep m id id)
theorem first_mode (g : GW) (t b : Nat) (S : TraceS) (P : TrPl) (v : Nat × Nat) (kd md : Int) (arr : Bool) (refs : List Bool) (h : TraceIs g t b S P) (hv : wTell v = some (kd, md)) (hk : S.c.shapeAt kd = some (arr, refs)) (hm : 1 < md ∨ (arr = true ∧ 0 < md)) : Calls Tryz.prog 248 #[.pointer (some ⟨b, 0, none⟩), .complex .f64 v.1 v.2] g.w (Does (.bool false) g (fun x => x = t) (fun g' => TraceIs g' t b S P)) := by
  have HT := Lib.hid (tell_any_w v g.w)
  rw [hv] at HT
  unfold tellV at HT
  obtain ⟨x, y⟩ := v
  simp only [Option.map_some, Option.getD_some, Option.isSome_some] at HT ⊢
  clear hv
  have HSH := Lib.hid (fun w' (he : Ext g.w w') => shape_any S.c kd w' (h.cnf.ok.ext he))
  unfold Cnf.val at HSH
  have H := Lib.hid h
  clear h
  go_enter Tryz.func248, Tryz.ntmps248
  go_wp2_with fail
  refine HT.out.mono ?_
  rintro e w1 ⟨rfl, hE⟩
  have HX1 := Lib.hid (show Ext g.w w1 from hE)
  have H1 := Lib.hid (H.out.keep (Mod.ext (T := fun _ => False) HX1.out 0) id id)
  clear hE HT
  have k0 := H1.out.blk.cell (i := 0) rfl
  have k1 := H1.out.blk.cell (i := 1) rfl
  have k2 := H1.out.blk.cell (i := 2) rfl
  have k3 := H1.out.blk.cell (i := 3) rfl
  have k4 := H1.out.blk.cell (i := 4) rfl
  have k5 := H1.out.blk.cell (i := 5) rfl
  have k6 := H1.out.blk.cell (i := 6) rfl
  have k7 := H1.out.blk.cell (i := 7) rfl
  have k8 := H1.out.blk.cell (i := 8) rfl
  have hl := H1.out.blk.lt
  simp only [GW.to] at k0 k1 k2 k3 k4 k5 k6 k7 k8 hl
  go_wp2_with fail
  refine (HSH.out _ HX1.out).mono ?_
  rintro e w2 ⟨s', rfl, hs, hfr, hok, hE⟩
  have HS := Lib.hid hs
  have HFR := Lib.hid hfr
  have HOK := Lib.hid hok
  have HX2 := Lib.hid (HX1.out.trans (show Ext w1 w2 from hE))
  clear hs hfr hok hE HSH k0 k1 k2 k3 k4 k5 k6 k7 k8 hl H1
  rw [hk] at HS ⊢
  obtain ⟨arr', A', cap', refs'⟩ := s'
  obtain rfl : arr' = arr := congrArg Prod.fst HS.out
  unfold Shp.val
  clear hk
  simp only [Option.isSome_some]
  have HB := Lib.hid (show (w2.alloc (.cells #[.bool arr', .slice A' refs'.length cap'] 95)).heap[w2.heap.size]? = some (.cells #[.bool arr', .slice A' refs'.length cap'] 95) from World.row_alloc_new _)
  have HXB := Lib.hid (HX2.out.trans (show Ext w2 (w2.alloc (.cells #[.bool arr', .slice A' refs'.length cap'] 95)) by (repeat (first | (with_reducible assumption) | (with_reducible exact Ext.refl _) | (with_reducible exact Ext.more _ _ _ _) | apply Ext.alloc | refine Ext.setCell ?_ (by first | exact Nat.le_refl _ | exact Nat.le_add_right _ _ | assumption) _ | apply Ext.patch | apply Ext.drew | apply Ext.drewN))))
  go_upto_region 3 with fail
  generalize w2.heap.size = bs at *
  generalize w2.alloc (.cells #[.bool arr', .slice A' refs'.length cap'] 95) = wb at *
  have s0 : wb.cell? ⟨bs, 0, none⟩ = some (.bool arr') := by simp only [World.cell?, HB.out]; rfl
  have hbs : bs < wb.heap.size := (Array.getElem?_eq_some_iff.1 HB.out).1
  by_cases h1 : 1 < md
  · clear hm
    go_wp2_with fail
    go_ret
    exact Does.ext g (HXB.out.trans (by (repeat (first | (with_reducible assumption) | (with_reducible exact Ext.refl _) | (with_reducible exact Ext.more _ _ _ _) | apply Ext.alloc | refine Ext.setCell ?_ (by first | exact Nat.le_refl _ | exact Nat.le_add_right _ _ | assumption) _ | apply Ext.patch | apply Ext.drew | apply Ext.drewN)))) rfl (Mod.refl _ _) (fun g2 m => H.out.keep m id id)
  · obtain ⟨rfl, h2⟩ : arr' = true ∧ 0 < md := by
      rcases hm with hm | hm
      · exact absurd hm h1
      · exact hm
    clear hm
    go_wp2_with fail
    go_ret
    exact Does.ext g (HXB.out.trans (by (repeat (first | (with_reducible assumption) | (with_reducible exact Ext.refl _) | (with_reducible exact Ext.more _ _ _ _) | apply Ext.alloc | refine Ext.setCell ?_ (by first | exact Nat.le_refl _ | exact Nat.le_add_right _ _ | assumption) _ | apply Ext.patch | apply Ext.drew | apply Ext.drewN)))) rfl (Mod.refl _ _) (fun g2 m => H.out.keep m id id)
theorem first_array (g : GW) (t b : Nat) (S : TraceS) (P : TrPl) (v : Nat × Nat) (kd md : Int) (refs : List Bool) (h : TraceIs g t b S P) (hv : wTell v = some (kd, md)) (hk : S.c.shapeAt kd = some (true, refs)) (hm : md ≤ 0) (hck : S.c.check = 0) : Calls Tryz.prog 248 #[.pointer (some ⟨b, 0, none⟩), .complex .f64 v.1 v.2] g.w (Does (.bool true) g (fun x => x = t) (fun g' => TraceAt g' t b { S with arr := true, refs := refs, pc := 5 })) := by
  have HT := Lib.hid (tell_any_w v g.w)
  rw [hv] at HT
  unfold tellV at HT
  obtain ⟨x, y⟩ := v
  simp only [Option.map_some, Option.getD_some, Option.isSome_some] at HT ⊢
  clear hv
  have HMAY := Lib.hid (fun A cap => may_of_check hck hk A cap)
  have HSH := Lib.hid (fun w' (he : Ext g.w w') => shape_any S.c kd w' (h.cnf.ok.ext he))
  unfold Cnf.val at HSH
  have H := Lib.hid h
  clear h
  go_enter Tryz.func248, Tryz.ntmps248
  go_wp2_with fail
  refine HT.out.mono ?_
  rintro e w1 ⟨rfl, hE⟩
  have HX1 := Lib.hid (show Ext g.w w1 from hE)
  have H1 := Lib.hid (H.out.keep (Mod.ext (T := fun _ => False) HX1.out 0) id id)
  clear hE HT
  have k0 := H1.out.blk.cell (i := 0) rfl
  have k1 := H1.out.blk.cell (i := 1) rfl
  have k2 := H1.out.blk.cell (i := 2) rfl
  have k3 := H1.out.blk.cell (i := 3) rfl
  have k4 := H1.out.blk.cell (i := 4) rfl
  have k5 := H1.out.blk.cell (i := 5) rfl
  have k6 := H1.out.blk.cell (i := 6) rfl
  have k7 := H1.out.blk.cell (i := 7) rfl
  have k8 := H1.out.blk.cell (i := 8) rfl
  have hl := H1.out.blk.lt
  simp only [GW.to] at k0 k1 k2 k3 k4 k5 k6 k7 k8 hl
  go_wp2_with fail
  refine (HSH.out _ HX1.out).mono ?_
  rintro e w2 ⟨s', rfl, hs, hfr, hok, hE⟩
  have HS := Lib.hid hs
  have HFR := Lib.hid hfr
  have HOK := Lib.hid hok
  have HX2 := Lib.hid (HX1.out.trans (show Ext w1 w2 from hE))
  clear hs hfr hok hE HSH k0 k1 k2 k3 k4 k5 k6 k7 k8 hl H1
  rw [hk] at HS ⊢
  obtain ⟨arr', A', cap', refs'⟩ := s'
  obtain rfl : arr' = true := congrArg Prod.fst HS.out
  obtain rfl : refs' = refs := congrArg Prod.snd HS.out
  unfold Shp.val
  clear hk hck
  simp only [Option.isSome_some]
  have HB := Lib.hid (show (w2.alloc (.cells #[.bool true, .slice A' refs'.length cap'] 95)).heap[w2.heap.size]? = some (.cells #[.bool true, .slice A' refs'.length cap'] 95) from World.row_alloc_new _)
  have HXB := Lib.hid (HX2.out.trans (show Ext w2 (w2.alloc (.cells #[.bool true, .slice A' refs'.length cap'] 95)) by (repeat (first | (with_reducible assumption) | (with_reducible exact Ext.refl _) | (with_reducible exact Ext.more _ _ _ _) | apply Ext.alloc | refine Ext.setCell ?_ (by first | exact Nat.le_refl _ | exact Nat.le_add_right _ _ | assumption) _ | apply Ext.patch | apply Ext.drew | apply Ext.drewN))))
  have HOKB := Lib.hid (HOK.out.ext (show Ext w2 (w2.alloc (.cells #[.bool true, .slice A' refs'.length cap'] 95)) by (repeat (first | (with_reducible assumption) | (with_reducible exact Ext.refl _) | (with_reducible exact Ext.more _ _ _ _) | apply Ext.alloc | refine Ext.setCell ?_ (by first | exact Nat.le_refl _ | exact Nat.le_add_right _ _ | assumption) _ | apply Ext.patch | apply Ext.drew | apply Ext.drewN))))
  have HFRB := Lib.hid (show ∀ a, A' = some a → g.w.heap.size ≤ a.block from fun a ha => Nat.le_trans HX1.out.size (HFR.out a ha))
  go_upto_region 3 with fail
  generalize w2.heap.size = bs at *
  generalize w2.alloc (.cells #[.bool true, .slice A' refs'.length cap'] 95) = wb at *
  have s0 : wb.cell? ⟨bs, 0, none⟩ = some (.bool true) := by simp only [World.cell?, HB.out]; rfl
  have s1 : wb.cell? ⟨bs, 1, none⟩ = some (.slice A' refs'.length cap') := by simp only [World.cell?, HB.out]; rfl
  have hbs : bs < wb.heap.size := (Array.getElem?_eq_some_iff.1 HB.out).1
  have mB : Mod (fun _ => False) g (g.to (t + 1) wb) := Mod.ext HXB.out (t + 1)
  have HBB := Lib.hid (H.out.blk.keep mB id)
  have MB := Lib.hid mB
  have H3 := Lib.hid (H.out.shapeSet HXB.out HOKB.out HFRB.out)
  clear mB HB HX1 HX2 HS HFR HOK
  have c11 := HBB.out.cell (i := 11) rfl
  have c12 := HBB.out.cell (i := 12) rfl
  have c13 := HBB.out.cell (i := 13) rfl
  have f11 := HBB.out.live 11
  have f12 := HBB.out.live 12
  have f13 := HBB.out.live 13
  have hl := HBB.out.lt
  simp only [GW.to] at c11 c12 c13 f11 f12 f13 hl
  have HO := Lib.hid HBB.out.own
  have H4 := Lib.hid (H3.out.st 11 (.int .i64 5) { S with arr := true, refs := refs', pc := 5 } rfl rfl rfl rfl rfl)
  go_wp2_with fail
  go_ret
  exact ⟨rfl, _, (MB.out.mono (fun _ => False.elim)).trans (Mod.st (T := fun x => x = t) (Mod.st (Mod.st Mod.self HO.out) HO.out) HO.out), _, H4.out⟩
theorem first_object (g : GW) (t b : Nat) (S : TraceS) (P : TrPl) (v : Nat × Nat) (kd md : Int) (refs : List Bool) (h : TraceIs g t b S P) (hv : wTell v = some (kd, md)) (hk : S.c.shapeAt kd = some (false, refs)) (hm : md ≤ 1) (hck : S.c.check = 0) (hj : 0 ≤ S.j ∧ S.j ≤ 1000000) (hn : 0 ≤ S.n ∧ S.n ≤ 1000000) (hb : 0 ≤ S.base ∧ S.base ≤ 1099511627776) :
    Calls Tryz.prog 248 #[.pointer (some ⟨b, 0, none⟩), .complex .f64 v.1 v.2] g.w (Does (.bool true) g (fun x => x = t) (fun g' => TraceAt g' t b (TraceS.gone { S with arr := false, refs := refs, words := TraceS.refsL { S with arr := false, refs := refs } }))) := by
  have HJ := Lib.hid (And.intro hj (And.intro hn hb))
  clear hj hn hb
  have HT := Lib.hid (tell_any_w v g.w)
  rw [hv] at HT
  unfold tellV at HT
  obtain ⟨x, y⟩ := v
  simp only [Option.map_some, Option.getD_some, Option.isSome_some] at HT ⊢
  clear hv
  have HMAY := Lib.hid (fun A cap => may_of_check hck hk A cap)
  have HSH := Lib.hid (fun w' (he : Ext g.w w') => shape_any S.c kd w' (h.cnf.ok.ext he))
  unfold Cnf.val at HSH
  have H := Lib.hid h
  clear h
  go_enter Tryz.func248, Tryz.ntmps248
  go_wp2_with fail
  refine HT.out.mono ?_
  rintro e w1 ⟨rfl, hE⟩
  have HX1 := Lib.hid (show Ext g.w w1 from hE)
  have H1 := Lib.hid (H.out.keep (Mod.ext (T := fun _ => False) HX1.out 0) id id)
  clear hE HT
  have k0 := H1.out.blk.cell (i := 0) rfl
  have k1 := H1.out.blk.cell (i := 1) rfl
  have k2 := H1.out.blk.cell (i := 2) rfl
  have k3 := H1.out.blk.cell (i := 3) rfl
  have k4 := H1.out.blk.cell (i := 4) rfl
  have k5 := H1.out.blk.cell (i := 5) rfl
  have k6 := H1.out.blk.cell (i := 6) rfl
  have k7 := H1.out.blk.cell (i := 7) rfl
  have k8 := H1.out.blk.cell (i := 8) rfl
  have hl := H1.out.blk.lt
  simp only [GW.to] at k0 k1 k2 k3 k4 k5 k6 k7 k8 hl
  go_wp2_with fail
  refine (HSH.out _ HX1.out).mono ?_
  rintro e w2 ⟨s', rfl, hs, hfr, hok, hE⟩
  have HS := Lib.hid hs
  have HFR := Lib.hid hfr
  have HOK := Lib.hid hok
  have HX2 := Lib.hid (HX1.out.trans (show Ext w1 w2 from hE))
  clear hs hfr hok hE HSH k0 k1 k2 k3 k4 k5 k6 k7 k8 hl H1
  rw [hk] at HS ⊢
  obtain ⟨arr', A', cap', refs'⟩ := s'
  obtain rfl : arr' = false := congrArg Prod.fst HS.out
  obtain rfl : refs' = refs := congrArg Prod.snd HS.out
  unfold Shp.val
  clear hk hck
  simp only [Option.isSome_some]
  have HB := Lib.hid (show (w2.alloc (.cells #[.bool false, .slice A' refs'.length cap'] 95)).heap[w2.heap.size]? = some (.cells #[.bool false, .slice A' refs'.length cap'] 95) from World.row_alloc_new _)
  have HXB := Lib.hid (HX2.out.trans (show Ext w2 (w2.alloc (.cells #[.bool false, .slice A' refs'.length cap'] 95)) by (repeat (first | (with_reducible assumption) | (with_reducible exact Ext.refl _) | (with_reducible exact Ext.more _ _ _ _) | apply Ext.alloc | refine Ext.setCell ?_ (by first | exact Nat.le_refl _ | exact Nat.le_add_right _ _ | assumption) _ | apply Ext.patch | apply Ext.drew | apply Ext.drewN))))
  have HOKB := Lib.hid (HOK.out.ext (show Ext w2 (w2.alloc (.cells #[.bool false, .slice A' refs'.length cap'] 95)) by (repeat (first | (with_reducible assumption) | (with_reducible exact Ext.refl _) | (with_reducible exact Ext.more _ _ _ _) | apply Ext.alloc | refine Ext.setCell ?_ (by first | exact Nat.le_refl _ | exact Nat.le_add_right _ _ | assumption) _ | apply Ext.patch | apply Ext.drew | apply Ext.drewN))))
  have HFRB := Lib.hid (show ∀ a, A' = some a → g.w.heap.size ≤ a.block from fun a ha => Nat.le_trans HX1.out.size (HFR.out a ha))
  go_upto_region 3 with fail
  generalize w2.heap.size = bs at *
  generalize w2.alloc (.cells #[.bool false, .slice A' refs'.length cap'] 95) = wb at *
  have s0 : wb.cell? ⟨bs, 0, none⟩ = some (.bool false) := by simp only [World.cell?, HB.out]; rfl
  have s1 : wb.cell? ⟨bs, 1, none⟩ = some (.slice A' refs'.length cap') := by simp only [World.cell?, HB.out]; rfl
  have hbs : bs < wb.heap.size := (Array.getElem?_eq_some_iff.1 HB.out).1
  have mB : Mod (fun _ => False) g (g.to (t + 1) wb) := Mod.ext HXB.out (t + 1)
  have HBB := Lib.hid (H.out.blk.keep mB id)
  have MB := Lib.hid mB
  have H3 := Lib.hid (H.out.shapeSet HXB.out HOKB.out HFRB.out)
  clear mB HB HX1 HX2 HS HFR HOK
  have c11 := HBB.out.cell (i := 11) rfl
  have c12 := HBB.out.cell (i := 12) rfl
  have c13 := HBB.out.cell (i := 13) rfl
  have f11 := HBB.out.live 11
  have f12 := HBB.out.live 12
  have f13 := HBB.out.live 13
  have hl := HBB.out.lt
  simp only [GW.to] at c11 c12 c13 f11 f12 f13 hl
  have HO := Lib.hid HBB.out.own
  go_wp2_with fail
  refine (trace_refs ⟨(g.to (t + 1) wb).own, (wb.setCell ⟨b, 12, none⟩ (.bool false)).setCell ⟨b, 13, none⟩ (.slice A' refs'.length cap')⟩ t b { S with arr := false, refs := refs' } ⟨A', cap', P.wA, P.wc⟩ H3.out HJ.out.1 HJ.out.2.1 (HMAY.out _ _)).mono ?_
  rintro e w4 ⟨A4, c4, rfl, hE4, hl4, hc4, hn4⟩
  have H5 := Lib.hid (H3.out.wordsSet hE4 hl4 hc4 hn4)
  have m4 : Mod (fun _ => False) (⟨(g.to (t + 1) wb).own, (wb.setCell ⟨b, 12, none⟩ (.bool false)).setCell ⟨b, 13, none⟩ (.slice A' refs'.length cap')⟩ : GW) (GW.to ⟨(g.to (t + 1) wb).own, (wb.setCell ⟨b, 12, none⟩ (.bool false)).setCell ⟨b, 13, none⟩ (.slice A' refs'.length cap')⟩ (t + 1) w4) := Mod.ext hE4 (t + 1)
  have B4 := Lib.hid (H3.out.blk.keep m4 id)
  have M4 := Lib.hid ((MB.out.mono (fun _ => False.elim)).trans ((Mod.st (T := fun x => x = t) (Mod.st Mod.self HO.out) HO.out).trans (m4.mono (fun _ => False.elim))))
  clear hE4 hl4 hc4 hn4 m4 c11 c12 c13 f11 f12 f13 hl s0 s1 hbs
  have c16 := B4.out.cell (i := 16) rfl
  have f16 := B4.out.live 16
  have hl := B4.out.lt
  simp only [GW.to] at c16 f16 hl
  go_wp2_with fail
  refine (trace_goes _ t b _ _ H5.out HJ.out.2.2 HJ.out.1).mono ?_
  rintro e w6 ⟨rfl, own6, m6, r6⟩
  have M6 := Lib.hid (M4.out.trans ((Mod.st (T := fun x => x = t) Mod.self B4.out.own).trans m6))
  have H7 := Lib.hid (TraceIs.st r6 11 (.int .i64 _) (TraceS.gone { S with arr := false, refs := refs', words := TraceS.refsL { S with arr := false, refs := refs' } }) rfl rfl rfl rfl rfl)
  have HO6 := Lib.hid r6.blk.own
  have c11 := r6.blk.cell (i := 11) rfl
  have f11 := r6.blk.live 11
  have hl := r6.blk.lt
  simp only at c11 f11 hl
  clear m6 r6 c16 f16
  go_wp2_with fail
  go_ret
  exact ⟨rfl, own6, M6.out.trans (Mod.st (T := fun x => x = t) Mod.self HO6.out), _, H7.out⟩
end Go.Proofs.YtnebimabokgofaaGreat

