import Derived.Test.YtcpeoflomdhidaaGreatKW07
import Derived.Deep.DeepCutAuto
/-
  Packed: TraceS, PileP, CoreW, HandM.
-/
open Go.Ext renaming alloc → zA, patch → zP, drew → zD, drewN → zN, more → zM, refl → zR, setCell → zS
open Nat renaming le_refl → zL, le_add_right → zK
/-
  Merged: XTraceS, XTraceP, XTraceF, XTraceR, XTraceG.
-/
/-
  trace: the program's state, in memory; New, the readers; read.
-/
namespace Go.Proofs.YtcpeoflomdhidaaGreat
open Go Go.RowKit
set_option linter.unusedVariables false
set_option linter.unnecessarySimpa false
set_option linter.unusedSimpArgs false
set_option maxHeartbeats 2000000
set_option maxRecDepth 100000
structure TraceS where
  c : Cnf
  head : Int
  sense : Bool
  pc : Int
  arr : Bool
  refs : List Bool
  frag : Int
  j : Int
  words : List Int
  next : Int
  n : Int
  mode : Int
  base : Int
  e : Int
  steps : Int
namespace TraceS
def cells (S : TraceS) (sA : Option Addr) (sc : Nat) (wA : Option Addr) (wc : Nat) : List Value := [.int .i64 S.c.frags, .int .i64 S.c.spine, .int .i64 S.c.globals, .int .i64 S.c.threads, .int .i64 S.c.locals, .int .i64 S.c.cache, .int .i64 S.c.stack, .int .i64 S.c.low, .slice S.c.A S.c.shapes.length S.c.cap,
  .int .i64 S.head, .bool S.sense, .int .i64 S.pc, .bool S.arr, .slice sA S.refs.length sc, .int .i64 S.frag, .int .i64 S.j, .slice wA S.words.length wc, .int .i64 S.next, .int .i64 S.n, .int .i64 S.mode, .int .i64 S.base, .int .i64 S.e, .int .i64 S.steps]
def fresh (c : Cnf) (head : Int) (sense : Bool) : TraceS := ⟨c, head, sense, 0, false, [], head, 0, [], 0, 0, 0, 0, 0, 0⟩
def okAt (S : TraceS) (frag k : Int) : Bool := decide (S.c.check = 0 ∧ 0 ≤ frag ∧ frag < S.c.frags ∧ 0 ≤ k ∧ k < 8)
def rd (S : TraceS) (m : MemS) (frag k : Int) : Option (Nat × Nat) := if S.okAt frag k && inB (frag * 8 + k) m.l.length then some (m.peek (frag * 8 + k)) else none
def rdM (S : TraceS) (m : MemS) (frag k : Int) : MemS := if S.okAt frag k then m.tick else m
def shp (S : TraceS) : Shp := ⟨S.arr, none, 0, S.refs⟩
end TraceS
structure TrPl where
  sA : Option Addr
  sc : Nat
  wA : Option Addr
  wc : Nat
structure TraceIs (g : GW) (t b : Nat) (S : TraceS) (P : TrPl) : Prop where
  blk : Blk g t b 260 (S.cells P.sA P.sc P.wA P.wc)
  cnf : CnfAt g (t + 1) S.c
  shp : ShpAt g (t + 1) ⟨S.arr, P.sA, P.sc, S.refs⟩
  words : Seg g (t + 1) P.wA (S.words.map (Value.int .i64))
  wlen : S.words.length ≤ P.wc ∧ P.wc ≤ 9223372036854775807
def TraceAt (g : GW) (t b : Nat) (S : TraceS) : Prop := ∃ P, TraceIs g t b S P
theorem TraceIs.keep {T : Nat → Prop} {g g' : GW} {t b : Nat} {S : TraceS} {P : TrPl} (h : TraceIs g t b S P) (m : Mod T g g') (h1 : ¬ T t) (h2 : ¬ T (t + 1)) : TraceIs g' t b S P := ⟨h.blk.keep m h1, h.cnf.keep m h2, h.shp.keep m h2, h.words.keep m h2, h.wlen⟩
theorem TraceAt.keep {T : Nat → Prop} {g g' : GW} {t b : Nat} {S : TraceS} (h : TraceAt g t b S) (m : Mod T g g') (h1 : ¬ T t) (h2 : ¬ T (t + 1)) : TraceAt g' t b S := by
  obtain ⟨P, h⟩ := h
  exact ⟨P, h.keep m h1 h2⟩
def TraceMade (c : Cnf) (head : Int) (sense : Bool) (t : Nat) (g : GW) (e : Ending) (w' : World) : Prop := ∃ own' b cm, e = .returned (.pointer (some ⟨b, 0, none⟩)) ∧ Mod (fun _ => False) g ⟨own', w'⟩ ∧ TraceAt ⟨own', w'⟩ t b (TraceS.fresh cm head sense) ∧ cm.Same c
def trdV (o : Option (Nat × Nat)) : Value := .tuple #[.complex .f64 (o.getD (0, 0)).1 (o.getD (0, 0)).2, .bool o.isSome]
end Go.Proofs.YtcpeoflomdhidaaGreat
/-
  trace: what a step does, as plain data. No walk here.
-/
namespace Go
def TabS.white (T : TabS) (i : Int) (s : Bool) : Bool := T.head i && !T.black i s
def TabS.grey (T : TabS) (i : Int) (s : Bool) : TabS := if T.white i s then T.mark i s else T
def PileS.push (p : PileS) (i : Int) : PileS := if (p.l.length : Int) = p.most then { p with lost := true } else { p with l := p.l ++ [i] }
def PileS.grey (p : PileS) (T : TabS) (i : Int) (s : Bool) : PileS := if T.white i s then p.push i else p
end Go
namespace Go.Proofs.YtcpeoflomdhidaaGreat
open Go Go.RowKit
set_option linter.unusedVariables false
set_option linter.unusedSimpArgs false
namespace TraceS
def frs (S : TraceS) : Int := if S.arr then sData S.n else S.shp.size 0
def refsL (S : TraceS) : List Int :=
  if S.arr then (if S.refs.getD 0 false then (List.range (min S.n ((S.j + 1) * 8) - S.j * 8).toNat).map (fun x => ((x : Nat) : Int)) else [])
  else (List.range S.refs.length).filterMap fun k => if S.refs.getD k false && decide (Shp.placeF k = S.j) then some (Shp.placeW k) else none
def enters (S : TraceS) : TraceS := if S.mode = 2 then { S with frag := S.base + S.j } else S
def entersPc (S : TraceS) : Int := if S.mode = 2 then 4 else 8
def goes (S : TraceS) : TraceS := if S.words ≠ [] then S else if S.frs ≤ S.j + 1 then S else if S.arr = false then S else { S with j := S.j + 1 }.enters
def goesPc (S : TraceS) : Int := if S.words ≠ [] then 1 else if S.frs ≤ S.j + 1 then 9 else if S.arr = false then 3 else { S with j := S.j + 1 }.entersPc
def gone (S : TraceS) : TraceS := { S.goes with pc := S.goesPc }
def first (S : TraceS) (w : Nat × Nat) : TraceS × Bool := match wTell w with
  | none => (S, false)
  | some (kind, mode) => match S.c.shapeAt kind with
    | none => (S, false)
    | some (arr, refs) => if 1 < mode ∨ (arr = true ∧ 0 < mode) then (S, false)
      else if arr then ({ S with arr := arr, refs := refs, pc := 5 }, true)
      else (TraceS.gone { S with arr := arr, refs := refs, words := TraceS.refsL { S with arr := arr, refs := refs } }, true)
end TraceS
structure TrW where
  s : TraceS
  m : MemS
  T : TabS
  p : PileS
  k : Int
namespace TrW
def head (w : TrW) : TrW × Bool := match w.s.rd w.m w.s.head 1 with
  | none => ({ w with m := w.s.rdM w.m w.s.head 1 }, false)
  | some v => ({ w with m := w.s.rdM w.m w.s.head 1, s := (w.s.first v).1 }, (w.s.first v).2)
def field (w : TrW) : TrW × Bool := match w.s.rd w.m w.s.frag (w.s.words.headD 0) with
  | none => ({ w with m := w.s.rdM w.m w.s.frag (w.s.words.headD 0) }, false)
  | some v => if wIs v = false then ({ w with m := w.s.rdM w.m w.s.frag (w.s.words.headD 0) }, false)
    else if (wIndex v).isSome then ({ w with m := w.s.rdM w.m w.s.frag (w.s.words.headD 0), s := { w.s with words := w.s.words.tail, next := (wIndex v).getD 0, pc := 2 } }, true)
    else ({ w with m := w.s.rdM w.m w.s.frag (w.s.words.headD 0), s := TraceS.gone { w.s with words := w.s.words.tail, next := 0 } }, true)
def grey (w : TrW) : TrW × Bool := ({ w with T := w.T.grey w.s.next w.s.sense, p := w.p.grey w.T w.s.next w.s.sense, k := w.k + 1, s := w.s.gone }, true)
def link (w : TrW) : TrW × Bool := match w.s.rd w.m w.s.frag 0 with
  | none => ({ w with m := w.s.rdM w.m w.s.frag 0 }, false)
  | some v => match wIndex v with
    | none => ({ w with m := w.s.rdM w.m w.s.frag 0 }, false)
    | some i => if i < w.s.c.frags then ({ w with m := w.s.rdM w.m w.s.frag 0, s := { w.s with frag := i, pc := 4, j := w.s.j + 1 } }, true) else ({ w with m := w.s.rdM w.m w.s.frag 0 }, false)
def part (w : TrW) : TrW × Bool := ({ w with T := w.T.mark w.s.frag w.s.sense, k := w.k + 1, s := TraceS.gone { w.s with words := w.s.refsL } }, true)
def length (w : TrW) : TrW × Bool := match w.s.rd w.m w.s.head 2 with
  | none => ({ w with m := w.s.rdM w.m w.s.head 2 }, false)
  | some v => match wInt v with
    | none => ({ w with m := w.s.rdM w.m w.s.head 2, s := { w.s with n := 0 } }, false)
    | some n => if n < 0 ∨ 512 < n then ({ w with m := w.s.rdM w.m w.s.head 2, s := { w.s with n := n } }, false) else ({ w with m := w.s.rdM w.m w.s.head 2, s := { w.s with n := n, pc := if n = 0 then 9 else 6 } }, true)
def mode (w : TrW) : TrW × Bool := match w.s.rd w.m w.s.head 3 with
  | none => ({ w with m := w.s.rdM w.m w.s.head 3 }, false)
  | some v => match wInt v with
    | none => ({ w with m := w.s.rdM w.m w.s.head 3, s := { w.s with mode := 0 } }, false)
    | some n => if n < 0 ∨ 2 < n ∨ decide (n = 0) ≠ decide (sData w.s.n ≤ 4) then ({ w with m := w.s.rdM w.m w.s.head 3, s := { w.s with mode := n } }, false)
      else ({ w with m := w.s.rdM w.m w.s.head 3, s := { w.s with mode := n, pc := if n = 0 then 8 else 7 } }, true)
def base (w : TrW) : TrW × Bool := match w.s.rd w.m w.s.head 4 with
  | none => ({ w with m := w.s.rdM w.m w.s.head 4 }, false)
  | some v => if w.s.mode = 1 then (match wInt v with
      | none => ({ w with m := w.s.rdM w.m w.s.head 4, s := { w.s with base := 0 } }, false)
      | some a => if a < 0 ∨ cWords w.s.c ≤ a then ({ w with m := w.s.rdM w.m w.s.head 4, s := { w.s with base := a } }, false) else ({ w with m := w.s.rdM w.m w.s.head 4, s := { w.s with base := a, pc := 8 } }, true))
    else (match wIndex v with
      | none => ({ w with m := w.s.rdM w.m w.s.head 4, s := { w.s with base := 0 } }, false)
      | some i => if w.s.c.frags < i + sData w.s.n then ({ w with m := w.s.rdM w.m w.s.head 4, s := { w.s with base := i } }, false) else ({ w with m := w.s.rdM w.m w.s.head 4, s := { w.s with base := i, frag := i + w.s.j, pc := 4 } }, true))
def slotRd (w : TrW) : Option (Nat × Nat) := if w.s.mode = 0 then w.s.rd w.m w.s.head (4 + w.s.j) else if inB (w.s.base + 2 + w.s.j) w.m.l.length then some (w.m.peek (w.s.base + 2 + w.s.j)) else none
def slotM (w : TrW) : MemS := if w.s.mode = 0 then w.s.rdM w.m w.s.head (4 + w.s.j) else w.m.tick
def slot (w : TrW) : TrW × Bool := match w.slotRd with
  | none => ({ w with m := w.slotM }, false)
  | some v => ({ w with m := w.slotM, s := { w.s with frag := (wIndex v).getD 0, pc := 4 } }, (wIndex v).isSome && decide ((wIndex v).getD 0 < w.s.c.frags))
def does (w : TrW) : TrW × Bool :=
  if w.s.pc = 0 then w.head
  else if 5 ≤ w.s.pc then (if w.s.pc = 6 then w.mode else if w.s.pc = 7 then w.base else if w.s.pc = 8 then w.slot else w.length)
  else if w.s.pc = 2 then w.grey else if w.s.pc = 3 then w.link else if w.s.pc = 4 then w.part else w.field
def ticked (w : TrW) : TrW := { w with s := { w.s with steps := w.s.steps + 1 } }
def ended (w : TrW) : TrW := { w with s := { w.s with pc := 9, e := 10 } }
def step (w : TrW) : TrW := if w.s.pc = 9 then w else if w.ticked.does.2 then w.ticked.does.1 else w.ticked.does.1.ended
end TrW
end Go.Proofs.YtcpeoflomdhidaaGreat
/-
  trace: fragments, enters, goes.
-/
namespace Go.Proofs.YtcpeoflomdhidaaGreat
open Go Go.RowKit
set_option linter.unusedVariables false
set_option linter.unnecessarySimpa false
set_option linter.unusedSimpArgs false
set_option maxHeartbeats 2000000
set_option maxRecDepth 100000
end Go.Proofs.YtcpeoflomdhidaaGreat
/-
  trace: refs.
-/
namespace Go.Proofs.YtcpeoflomdhidaaGreat
open Go Go.RowKit
set_option linter.unusedVariables false
set_option linter.unnecessarySimpa false
set_option linter.unusedSimpArgs false
set_option maxHeartbeats 4000000
set_option maxRecDepth 100000
def minF (x y : Int) : Int := if y < x then y else x
@[go_sem] theorem min_intsF (ats : Array TypeId) (ty : TypeId) (x y : Int) : Builtin.min_ ats ty #[.int .i64 x, .int .i64 y] = pure (.int .i64 (minF x y)) := rfl
def RefsGot (g : GW) (l : List Int) (e : Ending) (w' : World) : Prop := ∃ A c, e = .returned (.slice A l.length c) ∧ Ext g.w w' ∧ (l.length ≤ c ∧ c ≤ 9223372036854775807) ∧ CellsAt w' A (l.map (Value.int .i64)) ∧ ∀ a, A = some a → g.w.heap.size ≤ a.block
def TraceS.elsN (S : TraceS) : Nat := (min S.n ((S.j + 1) * 8) - S.j * 8).toNat
def numsL (k : Nat) : List Int := (List.range k).map (fun x => ((x : Nat) : Int))
def fieldsL (refs : List Bool) (j : Int) : Nat → List Int
  | 0 => []
  | k + 1 => fieldsL refs j k ++ if refs.getD k false && decide (Shp.placeF k = j) then [Shp.placeW k] else []
end Go.Proofs.YtcpeoflomdhidaaGreat
/-
  trace: first.
-/
namespace Go.Proofs.YtcpeoflomdhidaaGreat
open Go Go.RowKit
set_option linter.unusedVariables false
set_option linter.unnecessarySimpa false
set_option linter.unusedSimpArgs false
set_option maxHeartbeats 4000000
set_option maxRecDepth 100000
end Go.Proofs.YtcpeoflomdhidaaGreat

/-
  Merged: XTintM, XPileP.
-/
/-
  tint.Mark.
-/
namespace Go.Proofs.YtcpeoflomdhidaaGreat
open Go Go.RowKit
set_option linter.unusedVariables false
set_option linter.unnecessarySimpa false
set_option linter.unusedSimpArgs false
set_option maxHeartbeats 2000000
theorem TabS.mark_yes {T : TabS} {k : Nat} {o : One} {s : Bool} (ho : T.l[k]? = some o) (h2 : T.state k = 2) (hb : T.black k s = false) : T.mark k s = ⟨T.l.set k ⟨o.state, o.head, s⟩⟩ := by
  obtain ⟨hk, hx⟩ := List.getElem?_eq_some_iff.1 ho
  unfold TabS.mark
  rw [h2, hb, if_pos (by decide), Int.toNat_natCast]
  congr 1
  apply List.ext_getElem?
  intro i
  rw [List.getElem?_modify, List.getElem?_set]
  by_cases hi : k = i
  · subst hi
    simp [ho, hk, hx]
  · simp [hi]
theorem TabS.mark_no {T : TabS} {i : Int} {s : Bool} (h : (T.state i == 2 && !T.black i s) = false) : T.mark i s = T := by
  unfold TabS.mark
  rw [h]
  rfl
theorem TabAt.marked {g : GW} {t b r c k : Nat} {T : TabS} {o : One} {s : Bool} (h : TabAt g t b T) (hk : k < T.l.length) (ho : T.l[k]? = some o)
    (hb : Blk g t b 108 [.slice (some ⟨r, 0, none⟩) T.l.length c, .int .i64 (T.cnt 0), .int .i64 (T.cnt 1), .int .i64 (T.cnt 2)])
    (hr : Row g t 134 3 (.slice (some ⟨r, 0, none⟩) T.l.length c) T.l.length (T.l.flatMap One.cells)) (hne : r ≠ b) :
    TabAt ⟨g.own, g.w.setCell ⟨r, k * 3 + 2, none⟩ (.bool s)⟩ t b ⟨T.l.set k ⟨o.state, o.head, s⟩⟩ := by
  refine ⟨⟨some ⟨r, 0, none⟩, c, ?_, ?_⟩, by simpa using h.len, fun u hu => ?_⟩
  · simp only [List.length_set]
    rw [TabS.cnt_set ho, TabS.cnt_set ho, TabS.cnt_set ho]
    have := hb.setOther (k * 3 + 2) (.bool s) hne
    simpa using this
  · simp only [List.length_set]
    have := hr.store (k * 3 + 2) (.bool s)
    rw [flat_set3 _ _ hk]
    obtain ⟨st, hd, se⟩ := o
    have e0 : (T.l.flatMap One.cells)[k * 3]? = some (.int .i64 st) := flat_at One.cells_len T.l k 0 _ ho (by omega)
    have e1 : (T.l.flatMap One.cells)[k * 3 + 1]? = some (.bool hd) := flat_at One.cells_len T.l k 1 _ ho (by omega)
    rw [show ((T.l.flatMap One.cells).set (k * 3) (.int .i64 st)).set (k * 3 + 1) (.bool hd) = T.l.flatMap One.cells from ?_]
    · exact this
    · apply List.ext_getElem?
      intro i
      rw [List.getElem?_set, List.getElem?_set]
      by_cases h1 : k * 3 + 1 = i
      · subst h1
        rw [if_pos rfl, e1]
        simp
        have := (List.getElem?_eq_some_iff.1 e1).1
        simpa using this
      · rw [if_neg h1]
        by_cases h2 : k * 3 = i
        · subst h2
          rw [if_pos rfl, e0]
          have := (List.getElem?_eq_some_iff.1 e0).1
          rw [if_pos this]
        · rw [if_neg h2]
  · rcases List.mem_or_eq_of_mem_set hu with hu | rfl
    · exact h.st u hu
    · exact h.st o (List.mem_of_getElem? ho)
theorem tab_mark (g : GW) (t b : Nat) (i : Int) (s : Bool) (T : TabS) (h : TabAt g t b T) :
    Calls Tryz.prog 250 #[.pointer (some ⟨b, 0, none⟩), .int .i64 i, .bool s] g.w (Does (.bool (T.state i == 2 && !T.black i s)) g (fun x => x = t) (fun g' => TabAt g' t b (T.mark i s))) := by
  have HS := Lib.hid (tab_state g t b i T h)
  have HB := Lib.hid (tab_black g t b i s T h)
  cases hst : T.state i == 2
  · have hz : ((T.state i : Int) != 2) = true := by
      have h1 : T.state i ≠ 2 := by simpa using hst
      exact bne_iff_ne.2 (by omega)
    have HM := Lib.hid (show T.mark i s = T from TabS.mark_no (by rw [hst]; rfl))
    have H := Lib.hid h
    generalize T.state i = x at *
    clear hst h
    go_enter Tryz.func250, Tryz.ntmps250
    go_wp2_with fail
    refine (HS.out).mono ?_
    rintro e w1 ⟨rfl, rfl⟩
    go_wp2_with fail
    go_ret
    exact Does.of g rfl rfl (Mod.refl _ _) (by rw [HM.out]; exact H.out)
  · have hz : ((T.state i : Int) != 2) = false := by
      have h1 : T.state i = 2 := by simpa using hst
      rw [h1]; rfl
    cases hbl : T.black i s
    · cases hin : inB i T.l.length
      · rw [show T.state i = 0 by unfold TabS.state; rw [TabS.at_out hin]; rfl] at hst
        cases hst
      obtain ⟨k, rfl, hk⟩ := inB_true hin
      obtain ⟨r, c, o, ho, h2, hb, hr, hrl, -, -, k2, kf, hne⟩ := h.one hk
      have e2 : T.state k = 2 := by simpa using hst
      have HM := Lib.hid (TabS.mark_yes ho e2 hbl)
      have HOR := Lib.hid (hr.own r rfl)
      have H := Lib.hid (h.marked (s := s) hk ho hb hr (fun e => hne e.symm))
      rw [hbl] at HB
      rw [e2] at HS
      have c0 := hb.cell (i := 0) rfl
      have hlen := h.len
      have f2 := kf (k * 3 + 2)
      generalize T.l.length = n at *
      clear hb hr h ho hst hz e2 hbl kf
      go_enter Tryz.func250, Tryz.ntmps250
      go_wp2_with fail
      refine (HS.out).mono ?_
      rintro e w1 ⟨rfl, rfl⟩
      go_wp2_with fail
      refine (HB.out).mono ?_
      rintro e w1 ⟨rfl, rfl⟩
      go_wp2_with fail
      go_ret
      exact Does.of ⟨g.own, _⟩ rfl rfl (Mod.st Mod.self HOR.out) (by rw [HM.out]; exact H.out)
    · have HM := Lib.hid (show T.mark i s = T from TabS.mark_no (by rw [hst, hbl]; rfl))
      have H := Lib.hid h
      rw [hbl] at HB
      generalize T.state i = x at *
      clear hst h hbl
      go_enter Tryz.func250, Tryz.ntmps250
      go_wp2_with fail
      refine (HS.out).mono ?_
      rintro e w1 ⟨rfl, rfl⟩
      go_wp2_with fail
      refine (HB.out).mono ?_
      rintro e w1 ⟨rfl, rfl⟩
      go_wp2_with fail
      go_ret
      exact Does.of g rfl rfl (Mod.refl _ _) (by rw [HM.out]; exact H.out)
end Go.Proofs.YtcpeoflomdhidaaGreat
/-
  pile.Push; shade.Grey, Part.
-/
namespace Go.Proofs.YtcpeoflomdhidaaGreat
open Go Go.RowKit
set_option linter.unusedVariables false
set_option linter.unnecessarySimpa false
set_option linter.unusedSimpArgs false
set_option maxHeartbeats 2000000
set_option maxRecDepth 100000
theorem pile_push (g : GW) (t b : Nat) (i : Int) (p : PileS) (h : PileAt g t b p) :
    Calls Tryz.prog 251 #[.pointer (some ⟨b, 0, none⟩), .int .i64 i] g.w (Does (.bool (!((p.l.length : Int) == p.most))) g (fun x => x = t) (fun g' => PileAt g' t b (p.push i))) := by
  obtain ⟨i0, hi, hz0, hz1, hz2⟩ := info_parts infoInt
  obtain ⟨A, c, hb, hr⟩ := h.ex
  have c0 := hb.cell (i := 0) rfl
  have c1 := hb.cell (i := 1) rfl
  have c2 := hb.cell (i := 2) rfl
  have f0 := hb.live 0
  have f2 := hb.live 2
  have hl := hb.lt
  have HO := Lib.hid hb.own
  have HB := Lib.hid hb
  have HR := Lib.hid hr
  have HM := Lib.hid h.most
  have HL := Lib.hid h.len
  have hll : p.l.length ≤ 256 := by have := h.len; have := h.most; omega
  by_cases hf : (p.l.length : Int) = p.most
  · have hz : ((p.l.length : Int) == p.most) = true := beq_iff_eq.2 hf
    have HP := Lib.hid (show p.push i = { p with lost := true } by unfold PileS.push; rw [if_pos hf])
    clear hf hb hr h
    go_enter Tryz.func251, Tryz.ntmps251
    go_wp2_with fail
    refine wp_region_mixed [true, true, true, true, true, true, true, true, true, true] 0 10 (by kernel_rfl) (by kernel_rfl) (by kernel_rfl) ?_ (by decide) (by decide) (by decide) (by kernel_rfl) ?_
    · intro c a d v w h; cases d <;> exact h
    intro X00
    simp only [pickOps]
    repeat (go_big_quiet_step (fail))
    refine wpQuiet_nil (fun X0 => ?_)
    clear X00
    refine wpAnyM_done (by kernel_rfl) (fun X0' => ?_) _
    go_wp2_with fail
    go_ret
    refine Does.ext ⟨g.own, g.w.setCell ⟨b, 2, none⟩ (.bool true)⟩ (by (repeat (first | (with_reducible (first | assumption | exact zR _ | exact zM _ _ _ _)) | apply zA | refine zS ?_ (by first | exact zL _ | exact zK _ _ | assumption) _ | apply zP | apply zD | apply zN))) (by rw [hz]; rfl) (Mod.st Mod.self HO.out) (fun g2 m => ?_)
    rw [HP.out]
    exact PileAt.keep ⟨⟨A, c, HB.out.set 2 (.bool true), HR.out.setOther 2 _ (fun x hx => HR.out.ne_type HB.out (by decide) hx)⟩, HM.out, HL.out⟩ m id
  · have hz : ((p.l.length : Int) == p.most) = false := beq_eq_false_iff_ne.2 hf
    have HP := Lib.hid (show p.push i = { p with l := p.l ++ [i] } by unfold PileS.push; rw [if_neg hf])
    have HLT := Lib.hid (show ((p.l ++ [i]).length : Int) ≤ p.most from by have := h.len; simp; omega)
    clear hf hb hr h
    go_enter Tryz.func251, Tryz.ntmps251
    go_wp2_with fail
    refine wp_region_mixed [true, true, true, true, true, true, true, true, true, true] 0 10 (by kernel_rfl) (by kernel_rfl) (by kernel_rfl) ?_ (by decide) (by decide) (by decide) (by kernel_rfl) ?_
    · intro c a d v w h; cases d <;> exact h
    intro X00
    simp only [pickOps]
    repeat (go_big_quiet_step (fail))
    refine wpQuiet_nil (fun X0 => ?_)
    clear X00
    refine wpAnyM_done (by kernel_rfl) (fun X0' => ?_) _
    obtain ⟨X1, hX⟩ := (show Ext g.w ((g.w.patch X0).patch X0') from Ext.trans ⟨X0, rfl⟩ ⟨X0', rfl⟩)
    rw [hX]
    clear hX
    have R1 := Lib.hid (HR.out.ptx X1)
    have B1 := Lib.hid (HB.out.pt X1)
    have hbl : b < (g.w.patch X1).heap.size := B1.out.lt
    have HEX := Lib.hid (fun o => show Ext (g.pt X1).w ((g.w.patch X1).alloc o) from Ext.alloc (Ext.refl _) o)
    go_wp2_with (at_builtin; refine wpList_append_own_at _ rfl (.tmp 22) (.tmp 24) 62 rfl 0 3 i0 (.int .i64 0) 1 8 Tryz.underlying62 hi hz0 hz1 hz2 rfl (by decide) _ _ _ rfl (R1.out.row.alloc _) ⟨(g.w.patch X1).heap.size, 0, none⟩ 1 1 [.int .i64 i] rfl rfl (cell_one_new _ _ _) (by intro u hu; simp at hu; subst hu; rfl) (by unfold maxLen; omega) (by omega) (Nat.zero_le _) ?_; intro v2 w2 hown hgrow hnil hat; obtain ⟨A2, cp2, rfl⟩ := own_form hown; have R2 := Lib.hid ((R1.out.ext (HEX.out (.cells #[.int .i64 i] 3)) 0).grown hown hat); have B2 := Lib.hid ((B1.out.ext (HEX.out (.cells #[.int .i64 i] 3)) 0).grown (t' := t) hgrow (fun x hx => R1.out.ne_type B1.out (by decide) hx)); have M2 := Lib.hid (((Mod.pt (Mod.refl (fun x => x = t) g) X1).trans (Mod.ext (T := fun x => x = t) (HEX.out (.cells #[.int .i64 i] 3)) 0)).trans (Mod.grown hgrow t (fun k hk hl => (R1.out.ext (HEX.out (.cells #[.int .i64 i] 3)) 0).own k hk))); have d0 := B2.out.cell (i := 0) rfl; have e0 := B2.out.live 0; have hbl2 := B2.out.lt; simp only [GW.to] at d0 e0 hbl2; clear hown hgrow hnil hat c0 f0 hbl hl)
    go_ret
    refine ⟨by rw [hz]; rfl, _, M2.out.trans (Mod.st Mod.self B2.out.own), ?_⟩
    rw [HP.out]
    exact ⟨⟨A2, cp2, (by simp only [List.length_append, List.length_cons, List.length_nil]; exact B2.out.set 0 _), (by simp only [List.length_append, List.length_cons, List.length_nil, List.map_append, List.map_cons, List.map_nil]; exact R2.out.setOther 0 _ (fun x hx => R2.out.ne_type B2.out (by decide) hx))⟩, HM.out, HLT.out⟩
theorem white_any (g : GW) (tt bt : Nat) (T : TabS) (i : Int) (s : Bool) (h : TabAt g tt bt T) : Calls Tryz.prog 249 #[.agg #[.pointer (some ⟨bt, 0, none⟩)], .int .i64 i, .bool s] g.w (Gives (.bool (T.white i s)) g.w) := by
  have HH := Lib.hid (fun w' (he : Ext g.w w') => tab_head (g.to 0 w') tt bt i T (h.keep (Mod.ext (T := fun _ => False) he 0) id))
  have HB := Lib.hid (fun w' (he : Ext g.w w') => tab_black (g.to 0 w') tt bt i s T (h.keep (Mod.ext (T := fun _ => False) he 0) id))
  have HV := Lib.hid (show T.white i s = (T.head i && !T.black i s) from rfl)
  rw [HV.out]
  generalize T.head i = a at *
  generalize T.black i s = b at *
  clear h HV
  cases a
  · go_enter Tryz.func249, Tryz.ntmps249
    go_wp2_with fail
    refine (HH.out _ (by (repeat (first | (with_reducible (first | assumption | exact zR _ | exact zM _ _ _ _)) | apply zA | refine zS ?_ (by first | exact zL _ | exact zK _ _ | assumption) _ | apply zP | apply zD | apply zN)))).mono ?_
    rintro e w1 ⟨rfl, rfl⟩
    go_wp2_with fail
    go_ret
    exact Gives.mk rfl (by (try simp only [GW.to]); (repeat (first | (with_reducible (first | assumption | exact zR _ | exact zM _ _ _ _)) | apply zA | refine zS ?_ (by first | exact zL _ | exact zK _ _ | assumption) _ | apply zP | apply zD | apply zN)))
  · go_enter Tryz.func249, Tryz.ntmps249
    go_wp2_with fail
    refine (HH.out _ (by (repeat (first | (with_reducible (first | assumption | exact zR _ | exact zM _ _ _ _)) | apply zA | refine zS ?_ (by first | exact zL _ | exact zK _ _ | assumption) _ | apply zP | apply zD | apply zN)))).mono ?_
    rintro e w1 ⟨rfl, rfl⟩
    simp only [GW.to]
    go_wp2_with fail
    refine (HB.out _ (by (repeat (first | (with_reducible (first | assumption | exact zR _ | exact zM _ _ _ _)) | apply zA | refine zS ?_ (by first | exact zL _ | exact zK _ _ | assumption) _ | apply zP | apply zD | apply zN)))).mono ?_
    rintro e w1 ⟨rfl, rfl⟩
    simp only [GW.to]
    go_wp2_with fail
    go_ret
    exact Gives.mk (by simp) (by (try simp only [GW.to]); (repeat (first | (with_reducible (first | assumption | exact zR _ | exact zM _ _ _ _)) | apply zA | refine zS ?_ (by first | exact zL _ | exact zK _ _ | assumption) _ | apply zP | apply zD | apply zN)))
structure ShdAt (g : GW) (t b bt tt bp tp : Nat) (T : TabS) (p : PileS) (n : Int) : Prop where
  blk : Blk g t b 148 [.pointer (some ⟨bt, 0, none⟩), .pointer (some ⟨bp, 0, none⟩), .int .i64 n]
  tab : TabAt g tt bt T
  pile : PileAt g tp bp p
theorem ShdAt.keep {S : Nat → Prop} {g g' : GW} {t b bt tt bp tp : Nat} {T : TabS} {p : PileS} {n : Int} (h : ShdAt g t b bt tt bp tp T p n) (m : Mod S g g') (h1 : ¬ S t) (h2 : ¬ S tt) (h3 : ¬ S tp) : ShdAt g' t b bt tt bp tp T p n := ⟨h.blk.keep m h1, h.tab.keep m h2, h.pile.keep m h3⟩
theorem ShdAt.tick {g : GW} {t b bt tt bp tp : Nat} {T : TabS} {p : PileS} {n : Int} (h : ShdAt g t b bt tt bp tp T p n) (h1 : t ≠ tt) (h2 : t ≠ tp) : ShdAt ⟨g.own, g.w.setCell ⟨b, 2, none⟩ (.int .i64 (n + 1))⟩ t b bt tt bp tp T p (n + 1) := by
  have m : Mod (fun x => x = t) g ⟨g.own, g.w.setCell ⟨b, 2, none⟩ (.int .i64 (n + 1))⟩ := Mod.st Mod.self h.blk.own
  exact ⟨h.blk.set 2 (.int .i64 (n + 1)), h.tab.keep m (fun e => h1 e.symm), h.pile.keep m (fun e => h2 e.symm)⟩
theorem shade_grey (g : GW) (t b bt tt bp tp : Nat) (T : TabS) (p : PileS) (n i : Int) (s : Bool) (h : ShdAt g t b bt tt bp tp T p n) (hn : 0 ≤ n ∧ n ≤ 1099511627776) (h1 : t ≠ tt) (h2 : t ≠ tp) (h3 : tt ≠ tp) :
    Calls Tryz.prog 182 #[.pointer (some ⟨b, 0, none⟩), .int .i64 i, .bool s] g.w (Does (.bool (T.white i s)) g (fun x => x = t ∨ x = tt ∨ x = tp) (fun g' => ShdAt g' t b bt tt bp tp (T.grey i s) (p.grey T i s) (n + 1))) := by
  have c0 := h.blk.cell (i := 0) rfl
  have c2 := h.blk.cell (i := 2) rfl
  have f2 := h.blk.live 2
  have hl := h.blk.lt
  have HO := Lib.hid h.blk.own
  have HN := Lib.hid (And.intro h1 (And.intro h2 h3))
  have H1 := Lib.hid (h.tick h1 h2)
  have M1 := Lib.hid (show Mod (fun x => x = t) g ⟨g.own, g.w.setCell ⟨b, 2, none⟩ (.int .i64 (n + 1))⟩ from Mod.st Mod.self HO.out)
  have HW := Lib.hid (white_any ⟨g.own, g.w.setCell ⟨b, 2, none⟩ (.int .i64 (n + 1))⟩ tt bt T i s H1.out.tab)
  obtain ⟨hn0, hn1⟩ := hn
  clear h h1 h2 h3
  cases hw : T.white i s
  · have HG := Lib.hid (And.intro (show T.grey i s = T by unfold TabS.grey; rw [hw]; rfl) (show p.grey T i s = p by unfold PileS.grey; rw [hw]; rfl))
    rw [hw] at HW
    clear hw
    go_enter Tryz.func182, Tryz.ntmps182
    go_wp2_with fail
    refine HW.out.mono ?_
    rintro e w1 ⟨rfl, hE⟩
    have M2 := Lib.hid (Mod.ext (T := fun _ => False) (g := ⟨g.own, g.w.setCell ⟨b, 2, none⟩ (.int .i64 (n + 1))⟩) (show Ext (g.w.setCell ⟨b, 2, none⟩ (.int .i64 (n + 1))) w1 from hE) 0)
    clear hE
    go_wp2_with fail
    go_ret
    exact ⟨rfl, _, (M1.out.mono (fun x hx => Or.inl hx)).trans (M2.out.mono (fun _ => False.elim)), by rw [HG.out.1, HG.out.2]; exact H1.out.keep M2.out id id id⟩
  · have HG := Lib.hid (And.intro (show T.grey i s = T.mark i s by unfold TabS.grey; rw [hw]; rfl) (show p.grey T i s = p.push i by unfold PileS.grey; rw [hw]; rfl))
    rw [hw] at HW
    clear hw
    go_enter Tryz.func182, Tryz.ntmps182
    go_wp2_with fail
    refine HW.out.mono ?_
    rintro e w1 ⟨rfl, hE⟩
    have M2 := Lib.hid (Mod.ext (T := fun _ => False) (g := ⟨g.own, g.w.setCell ⟨b, 2, none⟩ (.int .i64 (n + 1))⟩) (show Ext (g.w.setCell ⟨b, 2, none⟩ (.int .i64 (n + 1))) w1 from hE) 0)
    have H2 := Lib.hid (H1.out.keep M2.out id id id)
    clear hE c0 c2 f2 hl
    have c0 := H2.out.blk.cell (i := 0) rfl
    have hl := H2.out.blk.lt
    simp only [GW.to] at c0 hl
    go_wp2_with fail
    refine (tab_mark (GW.to ⟨g.own, g.w.setCell ⟨b, 2, none⟩ (.int .i64 (n + 1))⟩ 0 w1) tt bt i s T H2.out.tab).mono ?_
    rintro e w2 ⟨rfl, own2, m2, r2⟩
    have M3 := Lib.hid m2
    have B3 := Lib.hid (H2.out.blk.keep m2 HN.out.1)
    have P3 := Lib.hid (H2.out.pile.keep m2 (fun e => HN.out.2.2 e.symm))
    have T3 := Lib.hid r2
    clear m2 r2 c0 hl
    have c1 := B3.out.cell (i := 1) rfl
    have hl := B3.out.lt
    simp only at c1 hl
    go_wp2_with fail
    refine (pile_push ⟨own2, w2⟩ tp bp i p P3.out).mono ?_
    rintro e w3 ⟨rfl, own3, m3, r3⟩
    have M4 := Lib.hid m3
    have R4 := Lib.hid (show ShdAt ⟨own3, w3⟩ t b bt tt bp tp (T.mark i s) (p.push i) (n + 1) from ⟨B3.out.keep m3 HN.out.2.1, T3.out.keep m3 HN.out.2.2, r3⟩)
    clear m3 r3 c1 hl
    go_wp2_with fail
    go_ret
    exact ⟨rfl, own3, (M1.out.mono (fun x hx => Or.inl hx)).trans ((M2.out.mono (fun _ => False.elim)).trans ((M3.out.mono (fun x hx => Or.inr (Or.inl hx))).trans (M4.out.mono (fun x hx => Or.inr (Or.inr hx))))), by rw [HG.out.1, HG.out.2]; exact R4.out⟩
end Go.Proofs.YtcpeoflomdhidaaGreat

/-
  core: one part turned, the others kept.
-/
namespace Go.Proofs.YtcpeoflomdhidaaGreat
open Go Go.RowKit
set_option linter.unusedVariables false
section
variable {g g' : GW} {B b bm bs bt bp bsp bh : Nat} {K : CoreS} {cm : Cnf}
theorem CoreIn.putMem (h : CoreIn g B b K bm bs bt bp bsp bh cm) {M : MemS} (m : Mod (fun x => x = B + 62) g g') (hm : MemAt g' (B + 62) bm M) : CoreIn g' B b { K with mem := M } bm bs bt bp bsp bh cm :=
  ⟨h.blk.keep m (by omega), hm, h.sh.keep m (by omega), h.pile.keep m (by omega), h.sp.keep m (fun x hx => by omega), h.hand.keep m (by omega), h.cnf.keep m (by omega), h.same⟩
theorem CoreIn.putHand (h : CoreIn g B b K bm bs bt bp bsp bh cm) {H : HandS} (m : Mod (fun x => x = B + 63) g g') (hm : HandAt g' (B + 63) bh H) : CoreIn g' B b { K with hand := H } bm bs bt bp bsp bh cm :=
  ⟨h.blk.keep m (by omega), h.mem.keep m (by omega), h.sh.keep m (by omega), h.pile.keep m (by omega), h.sp.keep m (fun x hx => by omega), hm, h.cnf.keep m (by omega), h.same⟩
theorem CoreIn.putSp (h : CoreIn g B b K bm bs bt bp bsp bh cm) {S : SpaceS} (m : Mod (inst B) g g') (hm : SpaceAt g' B bsp bt S) : CoreIn g' B b { K with sp := S } bm bs bt bp bsp bh cm :=
  ⟨h.blk.keep m (fun hx => by have := hx.2; omega), h.mem.keep m (fun hx => by have := hx.2; omega), h.sh.keep m (fun hx => by have := hx.2; omega), h.pile.keep m (fun hx => by have := hx.2; omega), hm, h.hand.keep m (fun hx => by have := hx.2; omega), h.cnf.keep m (fun hx => by have := hx.2; omega), h.same⟩
theorem SpaceAt.putTab {S : SpaceS} (h : SpaceAt g B b bt S) {T : TabS} (m : Mod (fun x => x = B + 60 ∨ x = B + 50 ∨ x = B + 61) g g') (ht : TabAt g' (B + 50) bt T) : SpaceAt g' B b bt { S with tab := T } := by
  obtain ⟨bp, bk, bl, A, cs, cm, bs, h⟩ := h
  exact ⟨bp, bk, bl, A, cs, cm, bs, ⟨h.blk.keep m (by omega), h.row.keep m (by omega), ht, h.pool.keep m (by omega), h.coil.keep m (by omega), h.line.keep m (by omega) (by omega), h.cnf.keep m (by omega), h.same, h.blen, fun j x s hx hs => (h.stock j x s hx hs).keep m (by have h1 : j < S.stocks.length := (List.getElem?_eq_some_iff.1 hs).1; have := h.few; omega), h.check, h.few⟩⟩
theorem SpaceAt.tab {S : SpaceS} (h : SpaceAt g B b bt S) : TabAt g (B + 50) bt S.tab := by
  obtain ⟨bp, bk, bl, A, cs, cm, bs, h⟩ := h
  exact h.tab
theorem CoreIn.shd (h : CoreIn g B b K bm bs bt bp bsp bh cm) : ShdAt g (B + 60) bs bt (B + 50) bp (B + 61) K.sp.tab K.pile K.n := ⟨h.sh, h.sp.tab, h.pile⟩
theorem CoreIn.putShd (h : CoreIn g B b K bm bs bt bp bsp bh cm) {T : TabS} {p : PileS} {n : Int} (m : Mod (fun x => x = B + 60 ∨ x = B + 50 ∨ x = B + 61) g g') (hs : ShdAt g' (B + 60) bs bt (B + 50) bp (B + 61) T p n) : CoreIn g' B b { K with sp := { K.sp with tab := T }, pile := p, n := n } bm bs bt bp bsp bh cm :=
  ⟨h.blk.keep m (by omega), h.mem.keep m (by omega), hs.blk, hs.pile, h.sp.putTab m hs.tab, h.hand.keep m (by omega), h.cnf.keep m (by omega), h.same⟩
end
end Go.Proofs.YtcpeoflomdhidaaGreat

/-
  hand: Post, Poll, Answer, Join, Leave; shade.Next, Lost; pile.Pop, Lost, Found.
-/
namespace Go
open Go.RowKit
namespace HandS
def polled (h : HandS) (i : Int) : Bool := h.own i == -1 || h.own i == h.status
def knownB (s : Int) : Bool := decide (0 ≤ s) && decide (s ≤ 4)
def post (h : HandS) (s : Int) (flip : Bool) : HandS := if knownB s then { h.tick with status := s, sense := h.sense != flip } else h.tick
def mayAnswer (h : HandS) (i s : Int) : Bool := !(h.own i == -1) && knownB s
def answer (h : HandS) (i s : Int) : HandS := if h.mayAnswer i s then { h.tick with l := h.l.set i.toNat s } else h.tick
def mayJoin (h : HandS) (i : Int) : Bool := inB i h.l.length && (h.l.getD i.toNat 0 == -1)
def join (h : HandS) (i : Int) : HandS := if h.mayJoin i then { h.tick with l := h.l.set i.toNat h.status } else h.tick
def joined (h : HandS) (i : Int) : Value := if h.mayJoin i then .tuple #[.int .i64 h.status, .bool h.sense, .bool true] else .tuple #[.int .i64 0, .bool false, .bool false]
def mayLeave (h : HandS) (i : Int) : Bool := !(h.own i == -1)
def leave (h : HandS) (i : Int) : HandS := if h.mayLeave i then { h.tick with l := h.l.set i.toNat (-1) } else h.tick
theorem own_in {h : HandS} {i : Int} (hi : (h.own i == -1) = false) : ∃ k : Nat, i = k ∧ k < h.l.length := by
  unfold own at hi
  cases hb : inB i h.l.length
  · rw [hb] at hi; simp at hi
  · exact inB_true hb
end HandS
end Go
namespace Go.Proofs.YtcpeoflomdhidaaGreat
open Go Go.RowKit
set_option linter.unusedVariables false
set_option linter.unnecessarySimpa false
set_option linter.unusedSimpArgs false
set_option maxHeartbeats 2000000
theorem known_any (s : Int) (w : World) : Calls Tryz.prog 247 #[.int .i64 s] w (Gives (.bool (HandS.knownB s)) w) := by
  by_cases h0 : 0 ≤ s
  · have d0 : decide (0 ≤ s) = true := decide_eq_true h0
    have HV := Lib.hid (show HandS.knownB s = decide (s ≤ 4) by unfold HandS.knownB; rw [d0, Bool.true_and])
    go_enter Tryz.func247, Tryz.ntmps247
    go_wp2_with fail
    go_ret
    exact Gives.bool (by rw [HV.out]) (by (repeat (first | (with_reducible (first | assumption | exact zR _ | exact zM _ _ _ _)) | apply zA | refine zS ?_ (by first | exact zL _ | exact zK _ _ | assumption) _ | apply zP | apply zD | apply zN)))
  · have d0 : decide (0 ≤ s) = false := decide_eq_false h0
    have HV := Lib.hid (show HandS.knownB s = false by unfold HandS.knownB; rw [d0, Bool.false_and])
    go_enter Tryz.func247, Tryz.ntmps247
    go_wp2_with fail
    go_ret
    exact Gives.bool (by rw [HV.out]) (by (repeat (first | (with_reducible (first | assumption | exact zR _ | exact zM _ _ _ _)) | apply zA | refine zS ?_ (by first | exact zL _ | exact zK _ _ | assumption) _ | apply zP | apply zD | apply zN)))
theorem HandAt.tick {g : GW} {t b : Nat} {h : HandS} (H : HandAt g t b h) : HandAt ⟨g.own, g.w.setCell ⟨b, 3, none⟩ (.int .i64 (h.count + 1))⟩ t b h.tick := by
  obtain ⟨A, c, hb, hr⟩ := H.ex
  exact ⟨⟨A, c, hb.set 3 _, hr.setOther 3 _ (fun x hx => hr.ne_type hb (by decide) hx)⟩, H.len⟩
theorem HandAt.put {g : GW} {t b r c k : Nat} {h : HandS} (s : Int) (H : HandAt g t b h) (hk : k < h.l.length) (hb : Blk g t b 213 [.int .i64 h.status, .bool h.sense, .slice (some ⟨r, 0, none⟩) h.l.length c, .int .i64 h.count]) :
    HandAt ⟨g.own, g.w.setCell ⟨r, k, none⟩ (.int .i64 s)⟩ t b { h with l := h.l.set k s } ∧ g.own r = t := by
  obtain ⟨A, c', hb', hr⟩ := H.ex
  have he := hb.same hb'
  simp only [List.cons.injEq, Value.slice.injEq, and_true, true_and] at he
  obtain ⟨rfl, rfl⟩ := he
  obtain ⟨r', hA, hrl, ho, hcell, hfr⟩ := hr.block (by omega)
  injection hA with hA
  injection hA with hA
  subst hA
  refine ⟨⟨⟨some ⟨r, 0, none⟩, c, ?_, ?_⟩, by show (h.l.set k s).length ≤ 16; rw [List.length_set]; exact H.len⟩, ho⟩
  · have hne : r ≠ b := fun e => (hr.ne_type hb (by decide) (x := r) rfl) e.symm
    show Blk _ t b _ [.int .i64 h.status, .bool h.sense, .slice (some ⟨r, 0, none⟩) (h.l.set k s).length c, .int .i64 h.count]
    rw [List.length_set]
    exact hb.setOther k _ hne
  · show Row _ t 3 1 (.slice (some ⟨r, 0, none⟩) (h.l.set k s).length c) (h.l.set k s).length ((h.l.set k s).map (Value.int .i64))
    rw [List.length_set, List.map_set]
    exact hr.store k (.int .i64 s)
theorem hand_poll (g : GW) (t b : Nat) (i : Int) (h : HandS) (H : HandAt g t b h) (hc : 0 ≤ h.count ∧ h.count ≤ 1099511627776) :
    Calls Tryz.prog 248 #[.pointer (some ⟨b, 0, none⟩), .int .i64 i] g.w (Does (.bool (h.polled i)) g (fun x => x = t) (fun g' => HandAt g' t b h.tick)) := by
  have HST := Lib.hid (hand_status _ t b i h.tick H.tick)
  have HT := Lib.hid H.tick
  obtain ⟨A, c, hb, hr⟩ := H.ex
  obtain ⟨hc0, hc1⟩ := hc
  have M0 := Lib.hid (show Mod (fun x => x = t) g ⟨g.own, g.w.setCell ⟨b, 3, none⟩ (.int .i64 (h.count + 1))⟩ from Mod.set hb.own)
  have HV := Lib.hid (show h.polled i = (h.own i == -1 || h.own i == h.status) from rfl)
  rw [show h.tick.own i = h.own i from rfl] at HST
  obtain ⟨a0, a1, a2, a3, al⟩ := hb.c4
  have af3 := hb.live 3
  (try simp only [GW.to] at a0 a1 a2 a3 af3 al)
  clear hb hr H
  generalize h.own i = x at *
  cases hx : (x == -1)
  · go_enter Tryz.func248, Tryz.ntmps248
    go_wp2_with fail
    refine HST.out.mono ?_
    rintro e w1 ⟨rfl, rfl⟩
    go_wp2_with fail
    go_ret
    exact Does.of ⟨g.own, _⟩ rfl (by rw [HV.out, hx]; simp) M0.out HT.out
  · go_enter Tryz.func248, Tryz.ntmps248
    go_wp2_with fail
    refine HST.out.mono ?_
    rintro e w1 ⟨rfl, rfl⟩
    go_wp2_with fail
    go_ret
    exact Does.of ⟨g.own, _⟩ rfl (by rw [HV.out, hx]; simp) M0.out HT.out
theorem hand_post (g : GW) (t b : Nat) (s : Int) (flip : Bool) (h : HandS) (H : HandAt g t b h) (hc : 0 ≤ h.count ∧ h.count ≤ 1099511627776) :
    Calls Tryz.prog 180 #[.pointer (some ⟨b, 0, none⟩), .int .i64 s, .bool flip] g.w (Does (.bool (HandS.knownB s)) g (fun x => x = t) (fun g' => HandAt g' t b (h.post s flip))) := by
  have HT := Lib.hid H.tick
  obtain ⟨A, c, hb, hr⟩ := H.ex
  obtain ⟨hc0, hc1⟩ := hc
  have HK := Lib.hid (fun w' => known_any s w')
  have M0 := Lib.hid (show Mod (fun x => x = t) g ⟨g.own, g.w.setCell ⟨b, 3, none⟩ (.int .i64 (h.count + 1))⟩ from Mod.set hb.own)
  obtain ⟨a0, a1, a2, a3, al⟩ := hb.c4
  have af0 := hb.live 0
  have af1 := hb.live 1
  have af3 := hb.live 3
  (try simp only [GW.to] at a0 a1 a2 a3 af0 af1 af3 al)
  have HB := Lib.hid hb
  have HR := Lib.hid hr
  have HL := Lib.hid H.len
  clear hb hr H
  cases hk : HandS.knownB s
  · rw [hk] at HK
    have HV := Lib.hid (show h.post s flip = h.tick by unfold HandS.post; rw [hk]; rfl)
    clear hk
    go_enter Tryz.func180, Tryz.ntmps180
    go_wp2_with fail
    refine (HK.out _).mono ?_
    rintro e w1 ⟨rfl, hE⟩
    obtain ⟨own1, m1⟩ : ∃ own1, Mod (fun _ => False) ⟨g.own, g.w.setCell ⟨b, 3, none⟩ (.int .i64 (h.count + 1))⟩ ⟨own1, w1⟩ := ⟨_, Mod.ext (g := ⟨g.own, g.w.setCell ⟨b, 3, none⟩ (.int .i64 (h.count + 1))⟩) (show Ext _ w1 from hE) 0⟩
    have M1 := Lib.hid (M0.out.trans (m1.mono (S := fun x => x = t) (fun _ => False.elim)))
    have H1 := Lib.hid (HT.out.keep m1 id)
    clear m1 hE
    go_wp2_with fail
    go_ret
    exact Does.of ⟨own1, w1⟩ rfl rfl M1.out (by rw [HV.out]; exact H1.out)
  · rw [hk] at HK
    have HV := Lib.hid (show h.post s flip = { h.tick with status := s, sense := h.sense != flip } by unfold HandS.post; rw [hk]; rfl)
    clear hk
    go_enter Tryz.func180, Tryz.ntmps180
    go_wp2_with fail
    refine (HK.out _).mono ?_
    rintro e w1 ⟨rfl, hE⟩
    obtain ⟨own1, m1⟩ : ∃ own1, Mod (fun _ => False) ⟨g.own, g.w.setCell ⟨b, 3, none⟩ (.int .i64 (h.count + 1))⟩ ⟨own1, w1⟩ := ⟨_, Mod.ext (g := ⟨g.own, g.w.setCell ⟨b, 3, none⟩ (.int .i64 (h.count + 1))⟩) (show Ext _ w1 from hE) 0⟩
    have M1 := Lib.hid (M0.out.trans (m1.mono (S := fun x => x = t) (fun _ => False.elim)))
    have B1 := Lib.hid ((HB.out.set 3 (.int .i64 (h.count + 1))).keep m1 id)
    have R1 := Lib.hid ((HR.out.setOther 3 (.int .i64 (h.count + 1)) (fun x hx => HR.out.ne_type HB.out (by decide) hx)).keep m1 id)
    clear m1 hE a0 a1 a2 a3 af0 af1 af3 al
    obtain ⟨a0, a1, a2, a3, al⟩ := B1.out.c4
    have af0 := B1.out.live 0
    have af1 := B1.out.live 1
    (try simp only [GW.to] at a0 a1 a2 a3 af0 af1 al)
    go_wp2_with fail
    go_ret
    refine Does.of ⟨own1, (w1.setCell ⟨b, 0, none⟩ (.int .i64 s)).setCell ⟨b, 1, none⟩ (.bool (h.sense != flip))⟩ rfl rfl (Mod.st (Mod.st M1.out B1.out.own) B1.out.own) ?_
    rw [HV.out]
    exact ⟨⟨A, c, (B1.out.set 0 (.int .i64 s)).set 1 (.bool (h.sense != flip)), (R1.out.setOther 0 _ (fun x hx => HR.out.ne_type HB.out (by decide) hx)).setOther 1 _ (fun x hx => HR.out.ne_type HB.out (by decide) hx)⟩, HL.out⟩
theorem hand_answer (g : GW) (t b : Nat) (i s : Int) (h : HandS) (H : HandAt g t b h) (hc : 0 ≤ h.count ∧ h.count ≤ 1099511627776) :
    Calls Tryz.prog 223 #[.pointer (some ⟨b, 0, none⟩), .int .i64 i, .int .i64 s] g.w (Does (.bool (h.mayAnswer i s)) g (fun x => x = t) (fun g' => HandAt g' t b (h.answer i s))) := by
  have HST := Lib.hid (hand_status _ t b i h.tick H.tick)
  have HT := Lib.hid H.tick
  obtain ⟨A, c, hb, hr⟩ := H.ex
  obtain ⟨hc0, hc1⟩ := hc
  have HK := Lib.hid (fun w' => known_any s w')
  have M0 := Lib.hid (show Mod (fun x => x = t) g ⟨g.own, g.w.setCell ⟨b, 3, none⟩ (.int .i64 (h.count + 1))⟩ from Mod.set hb.own)
  rw [show h.tick.own i = h.own i from rfl] at HST
  obtain ⟨a0, a1, a2, a3, al⟩ := hb.c4
  have af3 := hb.live 3
  (try simp only [GW.to] at a0 a1 a2 a3 af3 al)
  have HB := Lib.hid hb
  have HR := Lib.hid hr
  clear hb hr
  cases hx : (h.own i == -1)
  case true =>
    have HV := Lib.hid (show h.mayAnswer i s = false by unfold HandS.mayAnswer; rw [hx]; rfl)
    have HW := Lib.hid (show h.answer i s = h.tick by unfold HandS.answer; rw [HV.out]; rfl)
    go_enter Tryz.func223, Tryz.ntmps223
    go_wp2_with fail
    refine HST.out.mono ?_
    rintro e w1 ⟨rfl, rfl⟩
    go_wp2_with fail
    go_ret
    exact Does.of ⟨g.own, _⟩ rfl (by rw [HV.out]; try rfl) M0.out (by rw [HW.out]; exact HT.out)
  obtain ⟨k, rfl, hk⟩ := HandS.own_in hx
  cases hkn : HandS.knownB s
  · rw [hkn] at HK
    have HV := Lib.hid (show h.mayAnswer k s = false by unfold HandS.mayAnswer; rw [hx, hkn]; rfl)
    have HW := Lib.hid (show h.answer k s = h.tick by unfold HandS.answer; rw [HV.out]; rfl)
    clear hkn
    go_enter Tryz.func223, Tryz.ntmps223
    go_wp2_with fail
    refine HST.out.mono ?_
    rintro e w1 ⟨rfl, rfl⟩
    go_wp2_with fail
    refine (HK.out _).mono ?_
    rintro e w1 ⟨rfl, hE⟩
    obtain ⟨own1, m1⟩ : ∃ own1, Mod (fun _ => False) ⟨g.own, g.w.setCell ⟨b, 3, none⟩ (.int .i64 (h.count + 1))⟩ ⟨own1, w1⟩ := ⟨_, Mod.ext (g := ⟨g.own, g.w.setCell ⟨b, 3, none⟩ (.int .i64 (h.count + 1))⟩) (show Ext _ w1 from hE) 0⟩
    have M1 := Lib.hid (M0.out.trans (m1.mono (S := fun x => x = t) (fun _ => False.elim)))
    have H1 := Lib.hid (HT.out.keep m1 id)
    clear m1 hE
    go_wp2_with fail
    go_ret
    exact Does.of ⟨own1, w1⟩ rfl (by rw [HV.out]; try rfl) M1.out (by rw [HW.out]; exact H1.out)
  · rw [hkn] at HK
    have HV := Lib.hid (show h.mayAnswer k s = true by unfold HandS.mayAnswer; rw [hx, hkn]; rfl)
    have HW := Lib.hid (show h.answer k s = { h.tick with l := h.tick.l.set k s } by unfold HandS.answer; rw [HV.out, if_pos rfl, Int.toNat_natCast]; rfl)
    clear hkn
    go_enter Tryz.func223, Tryz.ntmps223
    go_wp2_with fail
    refine HST.out.mono ?_
    rintro e w1 ⟨rfl, rfl⟩
    go_wp2_with fail
    refine (HK.out _).mono ?_
    rintro e w1 ⟨rfl, hE⟩
    obtain ⟨own1, m1⟩ : ∃ own1, Mod (fun _ => False) ⟨g.own, g.w.setCell ⟨b, 3, none⟩ (.int .i64 (h.count + 1))⟩ ⟨own1, w1⟩ := ⟨_, Mod.ext (g := ⟨g.own, g.w.setCell ⟨b, 3, none⟩ (.int .i64 (h.count + 1))⟩) (show Ext _ w1 from hE) 0⟩
    have M1 := Lib.hid (M0.out.trans (m1.mono (S := fun x => x = t) (fun _ => False.elim)))
    have H1 := Lib.hid (HT.out.keep m1 id)
    have B1 := Lib.hid ((HB.out.set 3 (.int .i64 (h.count + 1))).keep m1 id)
    have R1 := Lib.hid ((HR.out.setOther 3 (.int .i64 (h.count + 1)) (fun x hx => HR.out.ne_type HB.out (by decide) hx)).keep m1 id)
    have hlen := H.len
    clear m1 hE a0 a1 a2 a3 af3 al
    obtain ⟨a0, a1, a2, a3, al⟩ := B1.out.c4
    (try simp only [GW.to] at a0 a1 a2 a3 al)
    obtain ⟨r, rfl, hrl, ho, hcell, hfr⟩ := R1.out.block (by omega)
    have k0 := hcell k (.int .i64 (h.l.getD k 0)) (by simp [List.getD_eq_getElem?_getD, hk])
    have kf := hfr k
    have HP := Lib.hid (HandAt.put s H1.out (show k < h.tick.l.length from hk) B1.out)
    (try simp only at k0 kf hrl)
    clear hcell hfr H
    generalize h.l.getD k 0 = x at *
    go_wp2_with fail
    go_ret
    exact Does.of ⟨own1, w1.setCell ⟨r, k, none⟩ (.int .i64 s)⟩ rfl (by rw [HV.out]; try rfl) (Mod.st M1.out HP.out.2) (by rw [HW.out]; exact HP.out.1)
theorem hand_leave (g : GW) (t b : Nat) (i : Int) (h : HandS) (H : HandAt g t b h) (hc : 0 ≤ h.count ∧ h.count ≤ 1099511627776) :
    Calls Tryz.prog 224 #[.pointer (some ⟨b, 0, none⟩), .int .i64 i] g.w (Does (.bool (h.mayLeave i)) g (fun x => x = t) (fun g' => HandAt g' t b (h.leave i))) := by
  have HST := Lib.hid (hand_status _ t b i h.tick H.tick)
  have HT := Lib.hid H.tick
  obtain ⟨A, c, hb, hr⟩ := H.ex
  obtain ⟨hc0, hc1⟩ := hc
  have M0 := Lib.hid (show Mod (fun x => x = t) g ⟨g.own, g.w.setCell ⟨b, 3, none⟩ (.int .i64 (h.count + 1))⟩ from Mod.set hb.own)
  rw [show h.tick.own i = h.own i from rfl] at HST
  obtain ⟨a0, a1, a2, a3, al⟩ := hb.c4
  have af3 := hb.live 3
  (try simp only [GW.to] at a0 a1 a2 a3 af3 al)
  have HB := Lib.hid hb
  have HR := Lib.hid hr
  clear hb hr
  cases hx : (h.own i == -1)
  case true =>
    have HV := Lib.hid (show h.mayLeave i = false by unfold HandS.mayLeave; rw [hx]; rfl)
    have HW := Lib.hid (show h.leave i = h.tick by unfold HandS.leave; rw [HV.out]; rfl)
    go_enter Tryz.func224, Tryz.ntmps224
    go_wp2_with fail
    refine HST.out.mono ?_
    rintro e w1 ⟨rfl, rfl⟩
    go_wp2_with fail
    go_ret
    exact Does.of ⟨g.own, _⟩ rfl (by rw [HV.out]; try rfl) M0.out (by rw [HW.out]; exact HT.out)
  obtain ⟨k, rfl, hk⟩ := HandS.own_in hx
  have HV := Lib.hid (show h.mayLeave k = true by unfold HandS.mayLeave; rw [hx]; rfl)
  have HW := Lib.hid (show h.leave k = { h.tick with l := h.tick.l.set k (-1) } by unfold HandS.leave; rw [HV.out, if_pos rfl, Int.toNat_natCast]; rfl)
  have B1 := Lib.hid (HB.out.set 3 (.int .i64 (h.count + 1)))
  have R1 := Lib.hid (HR.out.setOther 3 (.int .i64 (h.count + 1)) (fun x hx => HR.out.ne_type HB.out (by decide) hx))
  have hlen := H.len
  obtain ⟨r, rfl, hrl, ho, hcell, hfr⟩ := HR.out.block (by omega)
  have hrb : b ≠ r := HR.out.ne_type HB.out (by decide) rfl
  have hrb2 : r ≠ b := fun e => hrb e.symm
  have k0 := hcell k (.int .i64 (h.l.getD k 0)) (by simp [List.getD_eq_getElem?_getD, hk])
  have kf := hfr k
  have HP := Lib.hid (HandAt.put (-1) HT.out (show k < h.tick.l.length from hk) B1.out)
  (try simp only at k0 kf hrl)
  clear hcell hfr H
  generalize h.l.getD k 0 = x at *
  go_enter Tryz.func224, Tryz.ntmps224
  go_wp2_with fail
  refine HST.out.mono ?_
  rintro e w1 ⟨rfl, rfl⟩
  go_wp2_with fail
  go_ret
  exact Does.of ⟨g.own, (g.w.setCell ⟨b, 3, none⟩ (.int .i64 (h.count + 1))).setCell ⟨r, k, none⟩ (.int .i64 (-1))⟩ rfl (by rw [HV.out]; try rfl) (Mod.st M0.out HP.out.2) (by rw [HW.out]; exact HP.out.1)
theorem hand_join (g : GW) (t b : Nat) (i : Int) (h : HandS) (H : HandAt g t b h) (hc : 0 ≤ h.count ∧ h.count ≤ 1099511627776) :
    Calls Tryz.prog 92 #[.pointer (some ⟨b, 0, none⟩), .int .i64 i] g.w (Does (h.joined i) g (fun x => x = t) (fun g' => HandAt g' t b (h.join i))) := by
  have HT := Lib.hid H.tick
  obtain ⟨A, c, hb, hr⟩ := H.ex
  obtain ⟨hc0, hc1⟩ := hc
  have M0 := Lib.hid (show Mod (fun x => x = t) g ⟨g.own, g.w.setCell ⟨b, 3, none⟩ (.int .i64 (h.count + 1))⟩ from Mod.set hb.own)
  have HB := Lib.hid hb
  have HR := Lib.hid hr
  have hlen := H.len
  obtain ⟨a0, a1, a2, a3, al⟩ := hb.c4
  have af3 := hb.live 3
  (try simp only [GW.to] at a0 a1 a2 a3 af3 al)
  clear hb hr
  cases hin : inB i h.l.length
  · have hm : h.mayJoin i = false := by unfold HandS.mayJoin; rw [hin]; rfl
    have HV := Lib.hid (show h.joined i = .tuple #[.int .i64 0, .bool false, .bool false] by unfold HandS.joined; rw [hm]; rfl)
    have HW := Lib.hid (show h.join i = h.tick by unfold HandS.join; rw [hm]; rfl)
    have hq := inB_false hin
    clear hm hin H
    by_cases h0 : i < 0
    · have d0 : decide (i < 0) = true := decide_eq_true h0
      clear hq
      go_enter Tryz.func92, Tryz.ntmps92
      go_wp2_with fail
      go_ret3
      exact Does.of ⟨g.own, _⟩ rfl (by rw [HV.out]; try rfl) M0.out (by rw [HW.out]; exact HT.out)
    · have d0 : decide (i < 0) = false := decide_eq_false h0
      have d1 : decide ((h.l.length : Int) ≤ i) = true := decide_eq_true (by omega)
      clear hq
      go_enter Tryz.func92, Tryz.ntmps92
      go_wp2_with fail
      go_ret3
      exact Does.of ⟨g.own, _⟩ rfl (by rw [HV.out]; try rfl) M0.out (by rw [HW.out]; exact HT.out)
  obtain ⟨k, rfl, hk⟩ := inB_true hin
  have d0 : decide ((k : Int) < 0) = false := decide_eq_false (by omega)
  have d1 : decide ((h.l.length : Int) ≤ k) = false := decide_eq_false (by omega)
  obtain ⟨r, rfl, hrl, ho, hcell, hfr⟩ := HR.out.block (by omega)
  have hrb : b ≠ r := HR.out.ne_type HB.out (by decide) rfl
  have hrb2 : r ≠ b := fun e => hrb e.symm
  have k0 := hcell k (.int .i64 (h.l.getD k 0)) (by simp [List.getD_eq_getElem?_getD, hk])
  have kf := hfr k
  have B1 := Lib.hid (HB.out.set 3 (.int .i64 (h.count + 1)))
  have HP := Lib.hid (HandAt.put h.status HT.out (show k < h.tick.l.length from hk) B1.out)
  have HJ := Lib.hid (show h.mayJoin k = (h.l.getD k 0 == -1) by unfold HandS.mayJoin; rw [hin, Int.toNat_natCast]; rfl)
  (try simp only at k0 kf hrl)
  clear hcell hfr H hin
  generalize h.l.getD k 0 = x at *
  cases hx : (x == -1)
  · have hxx : (x != -1) = true := by unfold bne; rw [hx]; rfl
    have HV := Lib.hid (show h.joined k = .tuple #[.int .i64 0, .bool false, .bool false] by unfold HandS.joined; rw [HJ.out, hx]; rfl)
    have HW := Lib.hid (show h.join k = h.tick by unfold HandS.join; rw [HJ.out, hx]; rfl)
    clear hx
    go_enter Tryz.func92, Tryz.ntmps92
    go_wp2_with fail
    go_ret3
    exact Does.of ⟨g.own, _⟩ rfl (by rw [HV.out]; try rfl) M0.out (by rw [HW.out]; exact HT.out)
  · have hxx : (x != -1) = false := by unfold bne; rw [hx]; rfl
    have HV := Lib.hid (show h.joined k = .tuple #[.int .i64 h.status, .bool h.sense, .bool true] by unfold HandS.joined; rw [HJ.out, hx]; rfl)
    have HW := Lib.hid (show h.join k = { h.tick with l := h.tick.l.set k h.status } by unfold HandS.join; rw [HJ.out, hx, if_pos rfl, Int.toNat_natCast]; rfl)
    clear hx
    have R1 := Lib.hid (HR.out.setOther 3 (.int .i64 (h.count + 1)) (fun x hx => HR.out.ne_type HB.out (by decide) hx))
    go_enter Tryz.func92, Tryz.ntmps92
    go_upto_region 4 with fail
    generalize g.w.setCell ⟨b, 3, none⟩ (.int .i64 (h.count + 1)) = w0 at *
    clear a0 a1 a2 a3 af3 al k0 kf
    obtain ⟨a0, a1, a2, a3, al⟩ := B1.out.c4
    (try simp only [GW.to] at a0 a1 a2 a3 al)
    obtain ⟨r', hA, hrl', ho', hcell, hfr⟩ := R1.out.block (by omega)
    injection hA with hA
    injection hA with hA
    subst hA
    obtain ⟨vk, hvk⟩ : ∃ v, (h.l.map (Value.int .i64))[k]? = some v := ⟨_, List.getElem?_eq_getElem (by simp; omega)⟩
    have k0 := hcell k vk hvk
    have kf := hfr k
    simp only at k0 kf hrl'
    clear hcell hfr hvk
    refine wp_region_mixed [true, true, true, true, true, true, true, true, true, true, false] 1 10 (by kernel_rfl) (by kernel_rfl) (by kernel_rfl) ?_ (by decide) (by decide) (by decide) (by kernel_rfl) ?_
    · intro c a d v w h; cases d <;> exact h
    intro X00
    simp only [pickOps]
    repeat (go_big_quiet_step (fail))
    refine wpQuiet_nil (fun X0 => ?_)
    clear X00
    refine wpAnyM_last 10 _ (by kernel_rfl) (by kernel_rfl) rfl rfl (fun X1 K Q' hK => ?_)
    go_simp
    refine hK _ _ (fun X2 => ?_)
    clear hK K Q'
    (try go_simp)
    obtain ⟨own2, m2⟩ : ∃ own2, Mod (fun _ => False) ⟨g.own, w0.setCell ⟨r, k, none⟩ (.int .i64 h.status)⟩ ⟨own2, (w0.setCell ⟨r, k, none⟩ (.int .i64 h.status)).patch ⟨X0.blocks ++ (X1.blocks ++ X2.blocks), X2.drawn⟩⟩ := ⟨_, Mod.pt (Mod.refl _ _) _⟩
    generalize (w0.setCell ⟨r, k, none⟩ (.int .i64 h.status)).patch ⟨X0.blocks ++ (X1.blocks ++ X2.blocks), X2.drawn⟩ = w2 at *
    have H2 := Lib.hid (HP.out.1.keep m2 id)
    have M2 := Lib.hid ((Mod.st (i := k) (v := .int .i64 h.status) M0.out HP.out.2).trans (m2.mono (S := fun x => x = t) (fun _ => False.elim)))
    clear a0 a1 a2 a3 al k0 kf m2
    obtain ⟨A2, c2, hb2, hr2⟩ := H2.out.ex
    obtain ⟨a0, a1, a2, a3, al⟩ := hb2.c4
    (try simp only [GW.to] at a0 a1 a2 a3 al)
    clear hb2 hr2
    (try simp only at a0 a1 a2 a3)
    go_wp2_with fail
    refine wp_region_mixed [true, true, true, true, true, true, true, true, true, true, true] 0 11 (by kernel_rfl) (by kernel_rfl) (by kernel_rfl) ?_ (by decide) (by decide) (by decide) (by kernel_rfl) ?_
    · intro c a d v w h; cases d <;> exact h
    intro X00
    simp only [pickOps]
    repeat (go_big_quiet_step (fail))
    refine wpQuiet_nil (fun X0 => ?_)
    clear X00
    refine wpAnyM_done (by kernel_rfl) (fun X0' => ?_) _
    (try go_simp)
    go_wp2_with fail
    go_ret3
    exact Does.ext ⟨own2, w2⟩ (by (repeat (first | (with_reducible (first | assumption | exact zR _ | exact zM _ _ _ _)) | apply zA | refine zS ?_ (by first | exact zL _ | exact zK _ _ | assumption) _ | apply zP | apply zD | apply zN))) (by rw [HV.out]; try rfl) M2.out (fun g2 m => by rw [HW.out]; exact H2.out.keep m id)
end Go.Proofs.YtcpeoflomdhidaaGreat

