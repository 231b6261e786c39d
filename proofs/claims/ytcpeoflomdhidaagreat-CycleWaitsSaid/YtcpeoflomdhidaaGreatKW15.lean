import Derived.Test.YtcpeoflomdhidaaGreatKW14
import Derived.Deep.DeepCutAuto
/-
  Packed: Drain, FindE, FindJ, FindO, Plan2, Plan3, Obj, Object, Sentinel, AreaOf, OpSize, Mode, Laid, Array, ActS, ActR, DuoP.
-/
open Go.Ext renaming alloc → zA, patch → zP, drew → zD, drewN → zN, more → zM, refl → zR, setCell → zS
open Nat renaming le_refl → zL, le_add_right → zK
/-
  space: Drain.
-/
namespace Go
open Go.RowKit
def SpaceS.freed (S : SpaceS) (l : List Int) : SpaceS := l.foldl (fun S i => { S with tab := S.tab.set i 0 false false, pool := S.pool.give i }) S
end Go
namespace Go.Proofs.YtcpeoflomdhidaaGreat
open Go Go.RowKit
set_option linter.unusedVariables false
set_option linter.unnecessarySimpa false
set_option linter.unusedSimpArgs false
set_option maxHeartbeats 4000000
def drainN (S : SpaceS) (t : Int) : Int := if inB t S.stocks.length then ((stockOf S t).l.length : Int) else 0
def drainS (S : SpaceS) (t : Int) : SpaceS := if inB t S.stocks.length then ({ S.tick with stocks := S.stocks.set t.toNat ⟨[], (stockOf S t).most⟩ }).freed (stockOf S t).l else S.tick
theorem space_drain (t : Int) (g : GW) (B b bt : Nat) (S : SpaceS) (h : SpaceAt g B b bt S) (hB : 100 ≤ B) (hc : 0 ≤ S.count ∧ S.count ≤ 1099511627776) :
    Calls Tryz.prog 60 #[.pointer (some ⟨b, 0, none⟩), .int .i64 t] g.w (Does (.int .i64 (drainN S t)) g (inst B) (fun g' => SpaceAt g' B b bt (drainS S t))) := by
  obtain ⟨bp, bk, bl, A, cs, cm, bs, h⟩ := h
  obtain ⟨hc0, hc1⟩ := hc
  have M0 := Lib.hid (show Mod (inst B) g ⟨g.own, g.w.setCell ⟨b, 3, none⟩ (.int .i64 (S.count + 1))⟩ from Mod.set (by rw [h.blk.own]; exact ⟨by omega, by omega⟩))
  have H0 := Lib.hid (show SpaceIn ⟨g.own, g.w.setCell ⟨b, 3, none⟩ (.int .i64 (S.count + 1))⟩ B b bt S.tick bp bk bl A cs cm bs from h.tick)
  have HST := Lib.hid (space_stock t h.tick)
  obtain ⟨a0, a1, a2, a3, a4, a5, a6, a7, a8, a9, a10, a11, a12, a13, a14, a15, al⟩ := h.blk.c16
  have af3 := h.blk.live 3
  (try simp only [GW.to] at a0 a1 a2 a3 a4 a5 a6 a7 a8 a9 a10 a11 a12 a13 a14 a15 af3 al)
  clear h
  cases hin : inB t S.stocks.length
  · have HV := Lib.hid (show drainN S t = 0 by unfold drainN; rw [hin]; rfl)
    have HW := Lib.hid (show drainS S t = S.tick by unfold drainS; rw [hin]; rfl)
    simp only [hin, Bool.false_eq_true, if_false] at HST
    clear hin
    go_enter Tryz.func60, Tryz.ntmps60
    go_wp2_with fail
    refine HST.out.mono ?_
    rintro e w1 ⟨rfl, rfl⟩
    go_wp2_with fail
    go_ret
    exact Does.of ⟨g.own, _⟩ rfl (by rw [HV.out]; try rfl) M0.out (by rw [HW.out]; exact ⟨_, _, _, _, _, _, _, H0.out⟩)
  · obtain ⟨k, rfl, hk⟩ := inB_true hin
    obtain ⟨s, hs⟩ : ∃ s, S.stocks[k]? = some s := ⟨S.stocks[k], List.getElem?_eq_getElem hk⟩
    obtain ⟨x, hx⟩ : ∃ x, bs[k]? = some x := ⟨bs[k]'(by have := H0.out.blen; rw [this]; exact hk), List.getElem?_eq_getElem _⟩
    have HSO := Lib.hid (show stockOf S k = s by unfold stockOf; rw [Int.toNat_natCast, List.getD_eq_getElem?_getD, hs]; rfl)
    have HV := Lib.hid (show drainN S k = (s.l.length : Int) by unfold drainN; rw [hin, HSO.out]; rfl)
    have HW := Lib.hid (show drainS S k = ({ S.tick with stocks := S.stocks.set k ⟨[], s.most⟩ }).freed s.l by unfold drainS; rw [hin, HSO.out, Int.toNat_natCast]; rfl)
    have hbx : bs.getD k 0 = x := by rw [List.getD_eq_getElem?_getD, hx]; rfl
    simp only [hin, if_true, Int.toNat_natCast, hbx] at HST
    have HSA := Lib.hid (H0.out.stock k x s hx hs)
    have HX := Lib.hid hx
    have HKL := Lib.hid hk
    have HD := Lib.hid (stock_drain _ _ _ _ HSA.out)
    have hsl : s.l.length ≤ 8 := by have h1 := HSA.out.most; have h2 := HSA.out.len; omega
    clear hin hbx hs hx hk
    go_enter Tryz.func60, Tryz.ntmps60
    go_wp2_with fail
    refine HST.out.mono ?_
    rintro e w1 ⟨rfl, rfl⟩
    go_wp2_with fail
    refine HD.out.mono ?_
    rintro e w2 ⟨v, own2, rfl, m2, s2, r2⟩
    obtain ⟨A2, c2, rfl⟩ := own_form r2.row
    have M2 := Lib.hid (M0.out.trans (m2.mono (fun y (hy : y = B + 10 + k) => (⟨by have := HKL.out; omega, by have := HKL.out; have := H0.out.few; simp only [SpaceS.tick] at this; omega⟩ : inst B y))))
    have H2 := Lib.hid (H0.out.withStock HKL.out HX.out m2 s2)
    have R2 := Lib.hid r2
    clear m2 s2 r2 a0 a1 a2 a3 a4 a5 a6 a7 a8 a9 a10 a11 a12 a13 a14 a15 al HST HD
    go_wp2_with fail
    go_loopw [25] (fun i wr => ∃ (j : Nat) (own : Nat → Nat), j ≤ s.l.length ∧ i = .int .i64 j ∧ Hid (Mod (inst B) g ⟨own, wr⟩) ∧ Hid (SpaceIn ⟨own, wr⟩ B b bt (({ S.tick with stocks := S.stocks.set k ⟨[], s.most⟩ }).freed (s.l.take j)) bp bk bl A cs cm bs) ∧ Hid (Row ⟨own, wr⟩ (B + 10 + k) 3 1 (.slice A2 s.l.length c2) s.l.length (s.l.map (Value.int .i64)))) (fun i _ => s.l.length - (intOf i).toNat)
    case atStart => exact ⟨0, own2, Nat.zero_le _, rfl, M2, H2, R2⟩
    case round =>
      obtain ⟨j, own3, hj, rfl, M3, H3, R3⟩ := hrel
      clear M2 H2 R2
      by_cases hlt : j < s.l.length
      · obtain ⟨q, o, hA, hq, hcell⟩ := words_at R3.out.cells hlt
        have k0 := hcell j hlt
        simp only at k0 hq
        have HS := Lib.hid (show ({ S.tick with stocks := S.stocks.set k ⟨[], s.most⟩ }).freed (s.l.take (j + 1)) = { ({ S.tick with stocks := S.stocks.set k ⟨[], s.most⟩ }).freed (s.l.take j) with tab := (({ S.tick with stocks := S.stocks.set k ⟨[], s.most⟩ }).freed (s.l.take j)).tab.set (s.l.getD j 0) 0 false false, pool := (({ S.tick with stocks := S.stocks.set k ⟨[], s.most⟩ }).freed (s.l.take j)).pool.give (s.l.getD j 0) } by
          unfold SpaceS.freed
          rw [List.take_add_one, List.getElem?_eq_getElem hlt, List.getD_eq_getElem?_getD, List.getElem?_eq_getElem hlt, List.foldl_append]
          rfl)
        generalize s.l.getD j 0 = y at *
        subst hA
        clear hcell
        go_wp2_with fail
        refine (space_frees y H3.out hB).mono ?_
        rintro e w4 ⟨rfl, own4, m4, h4⟩
        have M4 := Lib.hid (M3.out.trans (m4.mono (fun z (hz : z = B + 50 ∨ z = B + 1) => (⟨by omega, by omega⟩ : inst B z))))
        have H4 := Lib.hid h4
        have R4 := Lib.hid (R3.out.keep m4 (by have := HKL.out; have := H0.out.few; simp only [SpaceS.tick] at this; omega))
        clear m4 h4
        go_wp2_with fail
        go_roundw
        case rel => exact ⟨j + 1, own4, by omega, by go_num, M4, by rw [HS.out]; exact H4, R4⟩
        case measure => simp [intOf]; omega
      · obtain rfl : j = s.l.length := by omega
        have HS := Lib.hid (show s.l.take s.l.length = s.l from List.take_of_length_le (Nat.le_refl _))
        go_wp2_with fail
        go_ret
        rw [HS.out] at H3
        exact Does.of ⟨own3, _⟩ rfl (by rw [HV.out]; try rfl) M3.out (by rw [HW.out]; exact ⟨_, _, _, _, _, _, _, H3.out⟩)
end Go.Proofs.YtcpeoflomdhidaaGreat

/-
  Merged: XFindS, XFindF, XFindE.
-/
/-
  find: the program's state, in memory; New, the readers; ends, stands, data, read.
-/
namespace Go.Proofs.YtcpeoflomdhidaaGreat
open Go Go.RowKit
set_option linter.unusedVariables false
set_option linter.unnecessarySimpa false
set_option linter.unusedSimpArgs false
set_option maxHeartbeats 2000000
structure FindS where
  c : Cnf
  head : Int
  k : Int
  array : Bool
  pc : Int
  frag : Int
  ahead : Int
  word : Int
  n : Int
  mode : Int
  slot : Int
  at_ : Int
  ref : Bool
  e : Int
  steps : Int
namespace FindS
def cells (S : FindS) : List Value := [.int .i64 S.c.frags, .int .i64 S.c.spine, .int .i64 S.c.globals, .int .i64 S.c.threads, .int .i64 S.c.locals, .int .i64 S.c.cache, .int .i64 S.c.stack, .int .i64 S.c.low, .slice S.c.A S.c.shapes.length S.c.cap,
  .int .i64 S.head, .int .i64 S.k, .bool S.array, .int .i64 S.pc, .int .i64 S.frag, .int .i64 S.ahead, .int .i64 S.word, .int .i64 S.n, .int .i64 S.mode, .int .i64 S.slot, .int .i64 S.at_, .bool S.ref, .int .i64 S.e, .int .i64 S.steps]
def fresh (c : Cnf) (head k : Int) (array : Bool) (frag : Int) : FindS := ⟨c, head, k, array, 0, frag, 0, 0, 0, 0, 0, -1, false, 0, 0⟩
def ends (S : FindS) (e : Int) : FindS := { S with pc := 6, e := e, at_ := -1, ref := false }
def okAt (S : FindS) (frag k : Int) : Bool := decide (S.c.check = 0 ∧ 0 ≤ frag ∧ frag < S.c.frags ∧ 0 ≤ k ∧ k < 8)
def stands (S : FindS) (frag k : Int) : FindS := if S.okAt frag k then { S with pc := 6, at_ := frag * 8 + k } else S.ends 10
end FindS
structure FindAt (g : GW) (t b : Nat) (S : FindS) : Prop where
  blk : Blk g t b 286 S.cells
  cnf : CnfAt g (t + 1) S.c
theorem FindAt.keep {T : Nat → Prop} {g g' : GW} {t b : Nat} {S : FindS} (h : FindAt g t b S) (m : Mod T g g') (h1 : ¬ T t) (h2 : ¬ T (t + 1)) : FindAt g' t b S := ⟨h.blk.keep m h1, h.cnf.keep m h2⟩
def rdV (S : FindS) (m : MemS) (frag k : Int) : Value := if S.okAt frag k then .tuple #[.complex .f64 (m.peek (frag * 8 + k)).1 (m.peek (frag * 8 + k)).2, .bool (inB (frag * 8 + k) m.l.length)] else .tuple #[.complex .f64 0 0, .bool false]
def rdM (S : FindS) (m : MemS) (frag k : Int) : MemS := if S.okAt frag k then m.tick else m
end Go.Proofs.YtcpeoflomdhidaaGreat
/-
  find: New; the head.
-/
namespace Go.Proofs.YtcpeoflomdhidaaGreat
open Go Go.RowKit
set_option linter.unusedVariables false
set_option linter.unnecessarySimpa false
set_option linter.unusedSimpArgs false
set_option maxHeartbeats 2000000
def FindMade (c : Cnf) (head k : Int) (array : Bool) (frag : Int) (t : Nat) (g : GW) (e : Ending) (w' : World) : Prop := ∃ own' b cm, e = .returned (.pointer (some ⟨b, 0, none⟩)) ∧ Mod (fun _ => False) g ⟨own', w'⟩ ∧ FindAt ⟨own', w'⟩ t b (FindS.fresh cm head k array frag) ∧ cm.Same c
end Go.Proofs.YtcpeoflomdhidaaGreat
/-
  Merged: XFindB, XFindE, XFindT.
-/
/-
  find: the steps.
-/
namespace Go.Proofs.YtcpeoflomdhidaaGreat
open Go Go.RowKit
set_option linter.unusedVariables false
set_option linter.unnecessarySimpa false
set_option linter.unusedSimpArgs false
set_option maxHeartbeats 4000000
set_option maxRecDepth 100000
end Go.Proofs.YtcpeoflomdhidaaGreat
/-
  find: an array's mode, its data fragments.
-/
namespace Go.Proofs.YtcpeoflomdhidaaGreat
open Go Go.RowKit
set_option linter.unusedVariables false
set_option linter.unnecessarySimpa false
set_option linter.unusedSimpArgs false
set_option maxHeartbeats 4000000
set_option maxRecDepth 100000
end Go.Proofs.YtcpeoflomdhidaaGreat
/-
  find.Step.
-/
namespace Go.Proofs.YtcpeoflomdhidaaGreat
open Go Go.RowKit
set_option linter.unusedVariables false
set_option linter.unnecessarySimpa false
set_option linter.unusedSimpArgs false
set_option maxHeartbeats 2000000
end Go.Proofs.YtcpeoflomdhidaaGreat

/-
  Merged: XFindG, XFindJ.
-/
/-
  Merged: XMoves, XFindG, XFindH.
-/
/-
  find: the head of an object; the links.
-/
namespace Go.Proofs.YtcpeoflomdhidaaGreat
open Go Go.RowKit
set_option linter.unusedVariables false
set_option linter.unnecessarySimpa false
set_option linter.unusedSimpArgs false
set_option maxHeartbeats 1500000
set_option maxRecDepth 100000
end Go.Proofs.YtcpeoflomdhidaaGreat
/-
  find: the head of an object, where the field is behind links. (Does not build yet: region 18.)
-/
namespace Go.Proofs.YtcpeoflomdhidaaGreat
open Go Go.RowKit
set_option linter.unusedVariables false
set_option linter.unnecessarySimpa false
set_option linter.unusedSimpArgs false
set_option maxHeartbeats 1500000
set_option maxRecDepth 100000
end Go.Proofs.YtcpeoflomdhidaaGreat
/-
  Merged: XFindJ, XFindK.
-/
/-
  find: indexes that are none; an array side by side; an array with a spine.
-/
namespace Go.Proofs.YtcpeoflomdhidaaGreat
open Go Go.RowKit
set_option linter.unusedVariables false
set_option linter.unnecessarySimpa false
set_option linter.unusedSimpArgs false
set_option maxHeartbeats 1500000
set_option maxRecDepth 100000
end Go.Proofs.YtcpeoflomdhidaaGreat
/-
  find: an array with a spine: the slot.
-/
namespace Go.Proofs.YtcpeoflomdhidaaGreat
open Go Go.RowKit
set_option linter.unusedVariables false
set_option linter.unnecessarySimpa false
set_option linter.unusedSimpArgs false
set_option maxHeartbeats 800000
set_option maxRecDepth 100000
end Go.Proofs.YtcpeoflomdhidaaGreat

/-
  find: Step as a plain function, where the words are as they must be.
-/
namespace Go.Proofs.YtcpeoflomdhidaaGreat
open Go Go.RowKit
set_option linter.unusedVariables false
set_option linter.unnecessarySimpa false
set_option linter.unusedSimpArgs false
set_option maxHeartbeats 1500000
set_option maxRecDepth 100000
namespace FindS
def okRd (S : FindS) (m : MemS) (frag k : Int) : Bool := S.okAt frag k && inB (frag * 8 + k) m.l.length
def rdTell (S : FindS) (m : MemS) : Option (Int × Int) := if S.okRd m S.head 1 then wTell (m.peek (S.head * 8 + 1)) else none
def rdIndex (S : FindS) (m : MemS) (frag k : Int) : Option Int := if S.okRd m frag k then wIndex (m.peek (frag * 8 + k)) else none
def rdInt (S : FindS) (m : MemS) (frag k : Int) : Option Int := if S.okRd m frag k then wInt (m.peek (frag * 8 + k)) else none
def withRef (S : FindS) (r : Bool) : FindS := { S with ref := r }
def linked (S : FindS) (nx : Int) : FindS := { S with frag := nx, ahead := S.ahead - 1 }
def up (S : FindS) : FindS := { S with steps := S.steps + 1 }
abbrev R := Option (Bool × FindS × MemS)
def firstO (S : FindS) (m : MemS) (kd md : Int) (arr : Bool) (refs : List Bool) : R :=
  if arr ≠ S.array then some (true, S.ends 4, m.tick)
  else if arr = true then (if md = 0 ∧ 0 < refs.length then some (false, { S with ref := refs.getD 0 false, pc := 2 }, m.tick) else none)
  else if S.k < 0 ∨ (refs.length : Int) ≤ S.k then (if md = 1 ∨ md = 0 then some (true, S.ends 5, m.tick) else none)
  else if 40 < refs.length then none
  else if md = 1 ∨ md = 0 ∧ Shp.placeF S.k = 0 then (if 0 ≤ S.head ∧ S.head ≤ 100000 then some (true, (S.withRef (refs.getD S.k.toNat false)).stands (S.head + Shp.placeF S.k) (Shp.placeW S.k), m.tick) else none)
  else if md = 0 then some (false, { S with ref := refs.getD S.k.toNat false, ahead := Shp.placeF S.k, word := Shp.placeW S.k, pc := 1 }, m.tick)
  else none
def headO (S : FindS) (m : MemS) : R := match S.rdTell m with
  | none => none
  | some (kd, md) => match S.c.shapeAt kd with
    | none => none
    | some (arr, refs) => S.firstO m kd md arr refs
def linkO (S : FindS) (m : MemS) : R := match S.rdIndex m S.frag 0 with
  | none => none
  | some nx => if nx < S.c.frags ∧ 1 ≤ S.ahead ∧ S.ahead ≤ 1000000 then
      some (S.ahead == 1, (if S.ahead = 1 then (S.linked nx).stands nx S.word else S.linked nx), m.tick) else none
def lengthO (S : FindS) (m : MemS) : R := match S.rdInt m S.head 2 with
  | none => none
  | some i => if 0 ≤ i ∧ i ≤ 512 then (if 0 ≤ S.k ∧ S.k < i then some (false, { S with n := sData i, pc := 3 }, m.tick) else some (true, S.ends 5, m.tick)) else none
def modeO (S : FindS) (m : MemS) : R := match S.rdInt m S.head 3 with
  | none => none
  | some md => if md = 0 ∧ S.n ≤ 4 ∨ (md = 1 ∨ md = 2) ∧ 4 < S.n then some (false, { S with mode := md, pc := 4 }, m.tick) else none
def dataO (S : FindS) (m : MemS) : R :=
  if S.mode = 0 then (if 0 ≤ S.k ∧ S.k / 8 < 4 then (match S.rdIndex m S.head (4 + S.k / 8) with | none => none | some fr => some (true, S.stands fr (S.k % 8), m.tick)) else none)
  else if S.mode = 2 then (if 0 ≤ S.k ∧ S.k ≤ 1000 then (match S.rdIndex m S.head 4 with | none => none | some fr => some (true, S.stands (fr + S.k / 8) (S.k % 8), m.tick)) else none)
  else if S.mode = 1 then (match S.rdInt m S.head 4 with | none => none | some a => if 0 ≤ a ∧ a < cWords S.c ∧ a ≤ 1000000 then some (false, { S with slot := a, pc := 5 }, m.tick) else none)
  else none
def slotO (S : FindS) (m : MemS) : R :=
  if (0 ≤ S.k ∧ S.k ≤ 1000) ∧ (0 ≤ S.slot ∧ S.slot ≤ 1000000) ∧ inB (S.slot + 2 + S.k / 8) m.l.length = true then
    (match wIndex (m.peek (S.slot + 2 + S.k / 8)) with | none => none | some fr => some (true, S.stands fr (S.k % 8), m.tick)) else none
def stepO (S : FindS) (m : MemS) : R :=
  if S.pc = 6 then some (true, S, m) else if S.pc = 0 then S.up.headO m else if S.pc = 1 then S.up.linkO m else if S.pc = 2 then S.up.lengthO m
  else if S.pc = 3 then S.up.modeO m else if S.pc = 4 then S.up.dataO m else if S.pc = 5 then S.up.slotO m else none
def withC (S : FindS) (cm : Cnf) : FindS := { S with c := cm }
def mapC (cm : Cnf) (r : R) : R := r.map fun x => (x.1, x.2.1.withC cm, x.2.2)
section
variable {S : FindS} {cm : Cnf}
end
end FindS
section
variable {t b tm bm : Nat}
end
end Go.Proofs.YtcpeoflomdhidaaGreat

/-
  plan.wrong.
-/
namespace Go.Proofs.YtcpeoflomdhidaaGreat
open Go Go.RowKit Go.Maps

def wrongE (c : Cnf) (is : Bool) (s : Shp) (n : Int) (array : Bool) (got : List Int) : Int :=
  if c.check ≠ 0 ∨ got.all (fragOk c) = false then 1
  else if is = false ∨ s.arr ≠ array then 4
  else if s.size n < 0 then 5
  else if (got.length : Int) ≠ s.size n ∨ twiceIn got = true then 2 else 0
def WrongGot (c : Cnf) (kind n : Int) (array : Bool) (got : List Int) (w : World) (e : Ending) (w' : World) : Prop :=
  ∃ s' : Shp, e = .returned (.tuple #[s'.val, .int .i64 (wrongE c (c.shapeAt kind).isSome s' n array got)]) ∧ (s'.arr, s'.refs) = (c.shapeAt kind).getD (false, []) ∧ s'.Ok w' ∧ Ext w w'

end Go.Proofs.YtcpeoflomdhidaaGreat

/-
  plan.fields, plan.whole.
-/
namespace Go.Proofs.YtcpeoflomdhidaaGreat
open Go Go.RowKit

end Go.Proofs.YtcpeoflomdhidaaGreat

/-
  What a new object's fragments hold. No program here.
-/
namespace Go
open Go.RowKit

def cxOf : Value → Nat × Nat
  | .complex _ a b => (a, b)
  | _ => (0, 0)
def IsCx (v : Value) : Prop := ∃ a b, v = .complex .f64 a b
def rowF (l : List Value) (k : Nat) : Nat × Nat := cxOf (l.getD k wZero)
def objInit (kind : Int) (got : List Int) (side : Bool) (j : Nat) : List Value :=
  [if j + 1 < got.length then wRef (got.getD (j + 1) 0) else wNone, if j = 0 then wHead kind (if side then 1 else 0) else wZero, wZero, wZero, wZero, wZero, wZero, wZero]
def objRow (s : Shp) (kind : Int) (got : List Int) (side : Bool) (j : Nat) : List Value := putFields s j (objInit kind got side j) s.refs.length
def objWrites (s : Shp) (kind : Int) (got : List Int) (side : Bool) : Nat → List Value
  | 0 => []
  | j + 1 => objWrites s kind got side j ++ writes (got.getD j 0) (rowF (objRow s kind got side j)) 8
end Go

/-
  plan.Object.
-/
namespace Go.Proofs.YtcpeoflomdhidaaGreat
open Go Go.RowKit

def ObjGot (c : Cnf) (kind : Int) (got : List Int) (w : World) (e : Ending) (w' : World) : Prop :=
  ∃ (s' : Shp) (l : Value) (n : Nat), e = .returned (.tuple #[l, .int .i64 (wrongE c (c.shapeAt kind).isSome s' 0 false got)]) ∧ (s'.arr, s'.refs) = (c.shapeAt kind).getD (false, []) ∧
    w'.ownsRow w.heap.size 250 2 l n (if wrongE c (c.shapeAt kind).isSome s' 0 false got = 0 then objWrites s' kind got (isSide got) got.length else []) ∧ Ext w w'

structure ObjSt (c : Cnf) (kind : Int) (got : List Int) (w : World) (j : Nat) (l : Value) (s : Shp) (bs bw : Nat) (vs : List Value) (wr : World) : Prop where
  lt : j < got.length
  box : wr.heap[w.heap.size]? = some (.cells #[.int .i64 c.frags, .int .i64 c.spine, .int .i64 c.globals, .int .i64 c.threads, .int .i64 c.locals, .int .i64 c.cache, .int .i64 c.stack, .int .i64 c.low, .slice c.A c.shapes.length c.cap] 24)
  sblk : wr.heap[bs]? = some (.cells #[.bool s.arr, .slice s.A s.refs.length s.cap] 98)
  wblk : wr.heap[bw]? = some (.cells vs.toArray 289)
  vlen : vs.length = 8
  sok : s.Ok wr
  sne : ∀ a, s.A = some a → 0 < s.refs.length → a.block < bw
  ext : Ext w wr
  own : wr.ownsRow (bw + 1) 250 2 l (8 * j) (objWrites s kind got (isSide got) j)
  lt1 : w.heap.size < bs
  lt2 : bs < bw
  what : (s.arr, s.refs) = (c.shapeAt kind).getD (false, [])
  fine : wrongE c (c.shapeAt kind).isSome s 0 false got = 0
def objHead (kind : Int) (got : List Int) (j : Nat) : List Value := [wNone, if j = 0 then wHead kind (if isSide got then 1 else 0) else wZero, wZero, wZero, wZero, wZero, wZero, wZero]
def ObjAt (c : Cnf) (kind : Int) (A : Option Addr) (cap : Nat) (got : List Int) (w : World) (a : Act) (wr : World) : Prop :=
  ∃ (j : Nat) (l : Value) (s : Shp) (bs bw : Nat) (vs : List Value) (u4 u5 u6 u7 u9 u13 u14 u15 u16 u17 u18 u19 u20 u21 u22 u23 u24 u25 u26 u27 u28 u29 u30 u31 u32 u33 u34 u35 u36 u37 u38 u39 u40 u41 u42 u43 u44 u45 u46 u47 u48 u49 u50 u51 u52 u53 u54 u55 u56 u57 u58 u59 u60 u61 u62 u63 u64 : Value), a = { tmps := #[(.agg #[.int .i64 c.frags, .int .i64 c.spine, .int .i64 c.globals, .int .i64 c.threads, .int .i64 c.locals, .int .i64 c.cache, .int .i64 c.stack, .int .i64 c.low, .slice c.A c.shapes.length c.cap]), .int .i64 kind, .slice A got.length cap, .pointer (some ⟨w.heap.size, 0, none⟩), u4, u5, u6, u7, .pointer (some ⟨bs, 0, none⟩), u9, l, .pointer (some ⟨bw, 0, none⟩), .int .i64 j, u13, u14, u15, u16, u17, u18, u19, u20, u21, u22, u23, u24, u25, u26, u27, u28, u29, u30, u31, u32, u33, u34, u35, u36, u37, u38, u39, u40, u41, u42, u43, u44, u45, u46, u47, u48, u49, u50, u51, u52, u53, u54, u55, u56, u57, u58, u59, u60, u61, u62, u63, u64], defers := [] } ∧ ObjSt c kind got w j l s bs bw vs wr

end Go.Proofs.YtcpeoflomdhidaaGreat

/-
  plan.sentinel.
-/
namespace Go.Proofs.YtcpeoflomdhidaaGreat
open Go Go.RowKit
set_option linter.unusedVariables false
set_option linter.unnecessarySimpa false
set_option linter.unusedSimpArgs false
set_option maxHeartbeats 4000000
def sentIn (got : List Int) (j : Nat) : Value := if j + 1 < got.length then wRef (got.getD (j + 1) 0) else wNone
def sentWords (kind n m : Int) (got : List Int) (at_ : Int) : List Value := [wNone, wHead kind 0, wWhole n, wWhole m] ++
  (if m = 0 then [sentIn got 0, sentIn got 1, sentIn got 2, sentIn got 3] else if m = 1 then [wWhole at_, wZero, wZero, wZero] else [wRef (got.getD 1 0), wZero, wZero, wZero])
def sentTo (p1 q1 p2 q2 p3 q3 : Nat) (got : List Int) : Nat → List Value
  | 0 => [.complex .f64 0 4607182418800017408, .complex .f64 p1 q1, .complex .f64 p2 q2, .complex .f64 p3 q3, .complex .f64 0 0, .complex .f64 0 0, .complex .f64 0 0, .complex .f64 0 0]
  | 1 => [.complex .f64 0 4607182418800017408, .complex .f64 p1 q1, .complex .f64 p2 q2, .complex .f64 p3 q3, sentIn got 0, .complex .f64 0 0, .complex .f64 0 0, .complex .f64 0 0]
  | 2 => [.complex .f64 0 4607182418800017408, .complex .f64 p1 q1, .complex .f64 p2 q2, .complex .f64 p3 q3, sentIn got 0, sentIn got 1, .complex .f64 0 0, .complex .f64 0 0]
  | 3 => [.complex .f64 0 4607182418800017408, .complex .f64 p1 q1, .complex .f64 p2 q2, .complex .f64 p3 q3, sentIn got 0, sentIn got 1, sentIn got 2, .complex .f64 0 0]
  | _ => [.complex .f64 0 4607182418800017408, .complex .f64 p1 q1, .complex .f64 p2 q2, .complex .f64 p3 q3, sentIn got 0, sentIn got 1, sentIn got 2, sentIn got 3]
end Go.Proofs.YtcpeoflomdhidaaGreat

/-
  area.Of: what an address is of.
-/
namespace Go.Proofs.YtcpeoflomdhidaaGreat
open Go Go.RowKit
set_option linter.unusedVariables false

def cOf (c : Cnf) (a : Int) : Int × Int × Int :=
  if a < 0 ∨ ¬ c.check = 0 then (0, 0, 0)
  else if a < c.frags * 8 then (1, a / 8, a % 8)
  else if a < c.frags * 8 + c.spine then (2, 0, a - c.frags * 8)
  else if a < c.frags * 8 + c.spine + c.spine then (3, 0, a - c.frags * 8 - c.spine)
  else if a < c.frags * 8 + c.spine + c.spine + c.globals then (4, 0, a - c.frags * 8 - c.spine - c.spine)
  else (0, 0, 0)
def tri (p : Int × Int × Int) : Value := .tuple #[.int .i64 p.1, .int .i64 p.2.1, .int .i64 p.2.2]
def ofIn (a0 a1 a2 a3 a : Int) : Int × Int × Int :=
  if a < 0 then (0, 0, 0) else if a < a0 then (1, a / 8, a % 8) else if a < a0 + a1 then (2, 0, a - a0) else if a < a0 + a1 + a2 then (3, 0, a - a0 - a1)
  else if a < a0 + a1 + a2 + a3 then (4, 0, a - a0 - a1 - a2) else (0, 0, 0)

end Go.Proofs.YtcpeoflomdhidaaGreat

/-
  shape.Spine, op.size.
-/
namespace Go.Proofs.YtcpeoflomdhidaaGreat
open Go Go.RowKit
set_option linter.unusedVariables false

end Go.Proofs.YtcpeoflomdhidaaGreat

/-
  plan.mode, plan.begins.
-/
namespace Go.Proofs.YtcpeoflomdhidaaGreat
open Go Go.RowKit
set_option linter.unusedVariables false

def modeOf (d : Int) (got : List Int) : Int := if d ≤ 4 then 0 else if isSide got = true then 2 else 1
def beginsAt (c : Cnf) (at_ n : Int) : Bool := ((cOf c at_).1 == 2 || (cOf c at_).1 == 3) && decide ((cOf c at_).2.2 + n ≤ c.spine)
end Go.Proofs.YtcpeoflomdhidaaGreat

/-
  What a new object's writes are, word by word. No program here.
-/
namespace Go
open Go.RowKit
end Go

/-
  Merged: XArray, XArrP.
-/
/-
  plan.Array.
-/
namespace Go.Proofs.YtcpeoflomdhidaaGreat
open Go Go.RowKit
set_option linter.unusedVariables false
set_option linter.unnecessarySimpa false
set_option linter.unusedSimpArgs false
def arrMode (n : Int) (got : List Int) : Int := modeOf (sData n) got
def arrE (c : Cnf) (is : Bool) (s : Shp) (n : Int) (got : List Int) (at_ : Int) : Int :=
  if wrongE c is s n true got = 0 then (if (decide (arrMode n got = 1) && !beginsAt c at_ (s.spine n)) = true then 2 else 0) else wrongE c is s n true got
def dataF (s : Shp) : Nat → Nat × Nat := fun _ => cxOf (wBlank (s.refs.getD 0 false))
def fragWrites (f0 f : Nat → Nat × Nat) (got : List Int) : Nat → List Value
  | 0 => []
  | j + 1 => fragWrites f0 f got j ++ writes (got.getD j 0) (if j = 0 then f0 else f) 8
def spineW (got : List Int) (at_ : Int) : Nat → List Value
  | 0 => [.int .i64 at_, wRef (got.getD 0 0), .int .i64 (at_ + 1), wWhole ((got.length : Int) - 1)]
  | k + 1 => spineW got at_ k ++ [.int .i64 (at_ + 2 + k), wRef (got.getD (k + 1) 0)]
def sentF (kind n at_ : Int) (got : List Int) : Nat → Nat × Nat := rowF (sentWords kind n (arrMode n got) got at_)
def arrFrags (s : Shp) (kind n at_ : Int) (got : List Int) (j : Nat) : List Value := fragWrites (sentF kind n at_ got) (dataF s) got j
def arrWrites (s : Shp) (kind n at_ : Int) (got : List Int) : List Value := arrFrags s kind n at_ got got.length ++ if arrMode n got = 1 then spineW got at_ (got.length - 1) else []
def arrLen (n : Int) (got : List Int) : Nat := 8 * got.length + if arrMode n got = 1 then got.length + 1 else 0
def ArrGot (c : Cnf) (kind n : Int) (got : List Int) (at_ : Int) (w : World) (e : Ending) (w' : World) : Prop :=
  ∃ (s' : Shp) (l : Value) (m : Nat), e = .returned (.tuple #[l, .int .i64 (arrE c (c.shapeAt kind).isSome s' n got at_)]) ∧ (s'.arr, s'.refs) = (c.shapeAt kind).getD (false, []) ∧
    w'.ownsRow w.heap.size 250 2 l m (if arrE c (c.shapeAt kind).isSome s' n got at_ = 0 then arrWrites s' kind n at_ got else []) ∧ Ext w w'
structure ArrSt (c : Cnf) (kind n at_ : Int) (got : List Int) (w : World) (j : Nat) (l : Value) (s : Shp) (bd bs : Nat) (vs : List Value) (wr : World) : Prop where
  box : wr.heap[w.heap.size]? = some (.cells #[.int .i64 c.frags, .int .i64 c.spine, .int .i64 c.globals, .int .i64 c.threads, .int .i64 c.locals, .int .i64 c.cache, .int .i64 c.stack, .int .i64 c.low, .slice c.A c.shapes.length c.cap] 24)
  dblk : wr.heap[bd]? = some (.cells vs.toArray 289)
  sblk : wr.heap[bs]? = some (.cells #[.bool s.arr, .slice s.A s.refs.length s.cap] 98)
  vlen : vs.length = 8
  vcx : ∀ v ∈ vs, IsCx v
  sok : s.Ok wr
  slt : ∀ a, s.A = some a → 0 < s.refs.length → a.block < bs
  ext : Ext w wr
  own : wr.ownsRow (bs + 1) 250 2 l (8 * j) (arrFrags s kind n at_ got j)
  lt1 : w.heap.size < bd
  lt2 : bd < bs
  what : (s.arr, s.refs) = (c.shapeAt kind).getD (false, [])
  fine0 : wrongE c (c.shapeAt kind).isSome s n true got = 0
def ArrAt (c : Cnf) (kind n at_ : Int) (A : Option Addr) (cap : Nat) (got : List Int) (w : World) (a : Act) (wr : World) : Prop :=
  ∃ (j : Nat) (l : Value) (s : Shp) (bd bs : Nat) (u : Nat → Value), a = { tmps := #[(.agg #[.int .i64 c.frags, .int .i64 c.spine, .int .i64 c.globals, .int .i64 c.threads, .int .i64 c.locals, .int .i64 c.cache, .int .i64 c.stack, .int .i64 c.low, .slice c.A c.shapes.length c.cap]), .int .i64 kind, .int .i64 n, .slice A got.length cap, .int .i64 at_, .pointer (some ⟨w.heap.size, 0, none⟩), u 6, u 7, u 8, u 9, u 10, u 11, l, .pointer (some ⟨bd, 0, none⟩), .int .i64 (arrMode n got), .int .i64 j, .pointer (some ⟨bs, 0, none⟩), .int .i64 0, u 18, u 19, u 20, u 21, u 22, u 23, u 24, u 25, u 26, u 27, u 28, u 29, u 30, u 31, u 32, u 33, u 34, u 35, u 36, u 37, u 38, u 39, u 40, u 41, u 42, u 43, u 44, u 45, u 46, u 47, u 48, u 49, u 50, u 51, u 52, u 53, u 54, u 55, u 56, u 57, u 58, u 59, u 60, u 61, u 62, u 63, u 64, u 65, u 66, u 67, u 68, u 69, u 70, u 71, u 72, u 73, u 74, u 75, u 76, u 77, u 78, u 79, u 80, u 81, u 82, u 83, u 84, u 85, u 86, u 87, u 88, u 89, u 90, u 91, u 92, u 93, u 94, u 95, u 96, u 97, u 98, u 99, u 100, u 101, u 102, u 103, u 104, u 105, u 106, u 107, u 108, u 109, u 110, u 111, u 112, u 113, u 114, u 115, u 116, u 117, u 118, u 119, u 120, u 121], defers := [] } ∧ 1 ≤ j ∧ j ≤ got.length ∧ arrE c (c.shapeAt kind).isSome s n got at_ = 0 ∧ ArrSt c kind n at_ got w j l s bd bs (cxs (dataF s)) wr
def dataTo (b : Value) (k : Nat) : List Value := List.replicate k b ++ List.replicate (8 - k) wZero
end Go.Proofs.YtcpeoflomdhidaaGreat
/-
  Merged: XArrP.
-/
/-
  What a new array's writes are, word by word. No walk here.
-/
namespace Go.Proofs.YtcpeoflomdhidaaGreat
open Go Go.RowKit
set_option linter.unusedVariables false
def spineV (got : List Int) (k : Nat) : Value := if k = 0 then wRef (got.getD 0 0) else if k = 1 then wWhole ((got.length : Int) - 1) else wRef (got.getD (k - 1) 0)
def runTo (l : List Int) (k : Nat) : Bool := (List.range k).all fun i => decide (l.getD (i + 1) 0 = l.getD 0 0 + (i + 1 : Nat))
end Go.Proofs.YtcpeoflomdhidaaGreat

/-
  act: a thread's state, as plain data; what each step does to it and to the core. No program here.
-/
namespace Go
open Go.RowKit
set_option linter.unusedVariables false
structure LVal where
  ref : Bool
  z : Nat × Nat
namespace LVal
def cells (v : LVal) : List Value := [.bool v.ref, .complex .f64 v.z.1 v.z.2]
def val (v : LVal) : Value := .agg #[.bool v.ref, .complex .f64 v.z.1 v.z.2]
def zero : LVal := ⟨false, (0, 0)⟩
def none : LVal := ⟨true, (0, 4607182418800017408)⟩
theorem cells_len (v : LVal) : v.cells.length = 2 := rfl
end LVal
structure ResS where
  op : Int
  own : Int
  e : Int
  v : LVal
namespace ResS
def zero : ResS := ⟨0, 0, 0, LVal.zero⟩
def val (r : ResS) : Value := .agg #[.int .i64 r.op, .int .i64 r.own, .int .i64 r.e, .bool r.v.ref, .complex .f64 r.v.z.1 r.v.z.2]
end ResS
def resV (x : ResS × Bool) : Value := .tuple #[x.1.val, .bool x.2]
def zWhole (n : Int) : Nat × Nat := (floatOfInt .f64 n, 0)
def zNone : Nat × Nat := (0, 4607182418800017408)
def zRef (i : Int) : Nat × Nat := (floatOfInt .f64 (i + 1), 4607182418800017408)
def truthV (b : Bool) : LVal := ⟨false, zWhole (if b then 1 else 0)⟩
end Go
namespace Go.Proofs.YtcpeoflomdhidaaGreat
open Go Go.RowKit
set_option linter.unusedVariables false
structure AcS where
  t : Int
  ops : List Opr
  locals : List LVal
  phase : Int
  status : Int
  sense : Bool
  next : Int
  pc : Int
  seen : Int
  grey : List Int
  own : Int
  at_ : Int
  f : Option FindS
  addr : Int
  ref : Bool
  old : Nat × Nat
  w : Nat × Nat
  got : List Int
  writes : List Value
structure AcP where
  opsA : Option Addr
  opsC : Nat
  locA : Option Addr
  locC : Nat
  greyA : Option Addr
  greyC : Nat
  fp : Option Addr
  gotA : Option Addr
  gotC : Nat
  wrA : Option Addr
  wrC : Nat
namespace AcS
def cells (A : AcS) (p : AcP) : List Value := [.int .i64 A.t, .slice p.opsA A.ops.length p.opsC, .slice p.locA A.locals.length p.locC, .int .i64 A.phase, .int .i64 A.status, .bool A.sense, .int .i64 A.next, .int .i64 A.pc, .int .i64 A.seen, .slice p.greyA A.grey.length p.greyC,
  .int .i64 A.own, .int .i64 A.at_, .pointer p.fp, .int .i64 A.addr, .bool A.ref, .complex .f64 A.old.1 A.old.2, .complex .f64 A.w.1 A.w.2, .slice p.gotA A.got.length p.gotC, .slice p.wrA (A.writes.length / 2) p.wrC]
def fresh (t : Int) (locals : Nat) (ops : List Opr) : AcS := ⟨t, ops, List.replicate locals LVal.zero, 0, 0, false, 0, 0, 0, [], 0, 0, none, 0, false, (0, 0), (0, 0), [], []⟩
def idle (A : AcS) : AcS := { A with own := 0, at_ := 0, f := none, addr := 0, ref := false, old := (0, 0), w := (0, 0), got := [], writes := [] }
def began (A : AcS) : AcS := { A with phase := 2, own := 0, at_ := 0, f := none, addr := 0, ref := false, old := (0, 0), w := (0, 0), got := [], writes := [] }
def loc (A : AcS) (i : Int) : LVal := A.locals.getD i.toNat LVal.zero
def op (A : AcS) : Opr := A.ops.getD A.next.toNat ⟨0, 0, 0, 0, 0, 0, 0⟩
def head (A : AcS) (i : Int) : Int := (wIndex (A.loc i).z).getD 0
def shades (A : AcS) : Bool := A.status == 1 || (A.status == 2 || A.status == 3)
def both (A : AcS) : Bool := A.status == 1 || A.status == 2
def behind (A : AcS) : Int := if (wIndex A.w).isSome && A.both then 5 else 6
def res (A : AcS) (v : LVal) (e : Int) : ResS := ⟨A.next, A.own, e, if e = 0 then v else LVal.zero⟩
def done (A : AcS) : AcS := if A.phase = 4 then { A with next := A.next + 1 } else { A with next := A.next + 1, phase := 1, pc := 0 }
def chooses (A : AcS) (o : Opr) : AcS := { A with w := (A.loc o.b).z, at_ := if A.ref && A.shades then 3 else 6 }
def greys (l : List LVal) : List Int := l.filterMap fun v => if v.ref then wIndex v.z else none
def mustL (A : AcS) (o : Opr) : List LVal :=
  if o.kind = 9 ∨ o.kind = 15 ∨ o.kind = 16 then [A.loc o.b, A.loc o.c] else if o.kind = 3 ∨ o.kind = 5 ∨ o.kind = 10 ∨ o.kind = 11 ∨ o.kind = 8 then [A.loc o.b] else if o.kind = 4 ∨ o.kind = 6 then [A.loc o.a] else []
def refB (o : Opr) : Bool := !(o.kind == 15 || o.kind == 16)
def someB (o : Opr) : Bool := !(o.kind == 9 || o.kind == 15 || o.kind == 16 || o.kind == 8)
def operandsE (A : AcS) (o : Opr) : Int :=
  if (A.mustL o).any (fun v => v.ref != refB o) then 4 else if someB o && (A.mustL o).any (fun v => sameF v.z zNone) then 3 else 0
def plainV (A : AcS) (o : Opr) : Option LVal :=
  if o.kind = 9 then some (truthV (sameF (A.loc o.b).z (A.loc o.c).z)) else if o.kind = 12 then some ⟨false, (o.re, o.im)⟩ else if o.kind = 13 then some LVal.none else if o.kind = 14 then some (A.loc o.b) else none
end AcS
def inL (c : Cnf) (i : Int) : Bool := decide (0 ≤ i ∧ i < c.locals)
def inG (c : Cnf) (i : Int) : Bool := decide (0 ≤ i ∧ i < c.globals)
def needF (c : Cnf) (o : Opr) : Int := Shp.size ⟨o.kind == 2, none, 0, ((c.shapeAt o.b).getD (false, [])).2⟩ (if o.kind = 2 then o.n else 0)
def needS (c : Cnf) (o : Opr) : Int := Shp.spine ⟨o.kind == 2, none, 0, ((c.shapeAt o.b).getD (false, [])).2⟩ o.n
def opOk (c : Cnf) (o : Opr) : Bool :=
  if o.kind = 1 ∨ o.kind = 2 then inL c o.a && (c.shapeAt o.b).isSome && (((c.shapeAt o.b).getD (false, [])).1 == (o.kind == 2)) && decide (0 ≤ needF c o) && decide (needF c o ≤ c.frags) && decide (needS c o ≤ c.spine)
  else if o.kind = 3 ∨ o.kind = 4 ∨ o.kind = 5 ∨ o.kind = 6 ∨ o.kind = 10 ∨ o.kind = 11 ∨ o.kind = 14 then inL c o.a && inL c o.b
  else if o.kind = 7 then inL c o.a && inG c o.n
  else if o.kind = 8 then inL c o.b && inG c o.n
  else if o.kind = 9 then false
  else if o.kind = 12 ∨ o.kind = 13 then inL c o.a
  else o.kind == 17 || o.kind == 18
def shpOf (c : Cnf) (b : Int) : Shp := ⟨((c.shapeAt b).getD (false, [])).1, none, 0, ((c.shapeAt b).getD (false, [])).2⟩
structure AcW where
  a : AcS
  K : CoreS
abbrev AcR := (ResS × Bool) × AcW
namespace AcW
def no (W : AcW) : AcR := ((ResS.zero, false), W)
def withA (W : AcW) (A : AcS) : AcW := { W with a := A }
def tickH (W : AcW) : AcW := { W with K := { W.K with hand := W.K.hand.tick } }
def spc (W : AcW) (S : SpaceS) : AcW := { W with K := { W.K with sp := S } }
def memW (W : AcW) (m : MemS) : AcW := { W with K := { W.K with mem := m } }
def greyK (W : AcW) (i : Int) : AcW := { W with K := { W.K with sp := { W.K.sp with tab := W.K.sp.tab.grey i W.a.sense }, pile := W.K.pile.grey W.K.sp.tab i W.a.sense, n := W.K.n + 1 } }
def doneR (W : AcW) (v : LVal) (e : Int) : AcR := ((W.a.res v e, true), { W with a := W.a.done })
def fails (W : AcW) (e : Int) : AcR := W.doneR LVal.zero e
def laysR (W : AcW) (i : Int) (v : LVal) : AcR := AcW.doneR { W with a := { W.a with locals := W.a.locals.set i.toNat v } } v 0
def looksB (W : AcW) : Bool := W.K.hand.status == W.a.status
def looksA (W : AcW) : AcS := { W.a with seen := W.K.hand.status, grey := if W.K.hand.status = 3 then AcS.greys W.a.locals else [], pc := if W.K.hand.status = 3 ∧ AcS.greys W.a.locals ≠ [] then 1 else 2, sense := if W.K.hand.status = 1 then W.K.hand.sense else W.a.sense }
def looks (W : AcW) : AcW := if W.looksB then W.tickH else W.tickH.withA W.looksA
def answersB (W : AcW) : Bool := W.a.pc != 1
def answers (W : AcW) : AcW :=
  if W.a.pc = 1 then (W.greyK (W.a.grey.headD 0)).withA { W.a with grey := W.a.grey.tail, pc := if W.a.grey.tail = [] then 2 else 1 }
  else { a := { W.a with status := W.a.seen }, K := { W.K with hand := W.K.hand.answer W.a.t W.a.seen } }
def goes (W : AcW) : AcW := { a := { W.a with phase := 4, locals := List.replicate W.a.locals.length LVal.zero }, K := { W.K with hand := W.K.hand.leave W.a.t } }
def border (W : AcW) : AcW :=
  if W.a.pc = 0 then (if !W.looksB then W.looks else if (W.a.ops.length : Int) ≤ W.a.next then W.looks.withA { W.a with pc := 3 } else W.looks.withA W.a.began)
  else if W.a.pc = 1 ∨ W.a.pc = 2 then (if W.answersB then W.answers.withA { W.answers.a with pc := 0 } else W.answers)
  else if W.a.pc = 3 then (W.spc (drainS W.K.sp W.a.t)).withA { W.a with pc := 4 }
  else if W.a.pc = 4 then W.goes
  else W
def rdB (W : AcW) (frag k : Int) : Bool := decide (W.K.c.check = 0 ∧ 0 ≤ frag ∧ frag < W.K.c.frags ∧ 0 ≤ k ∧ k < 8) && inB (frag * 8 + k) W.K.mem.l.length
def takenW (W : AcW) (o : Opr) (got : List Int) (at_ : Int) : List Value :=
  if o.kind = 1 then objWrites (shpOf W.K.c o.b) o.b got (isSide got) got.length else arrWrites (shpOf W.K.c o.b) o.b o.n at_ got
def takes (W : AcW) (o : Opr) (got : List Int) (at_ : Int) : AcW := W.withA { W.a with writes := W.takenW o got at_, got := got, phase := 2, at_ := 7 }
def takesOk (W : AcW) (o : Opr) (got : List Int) (at_ : Int) : Bool :=
  decide (got.length ≤ 1000) && (got.all (fun x => decide (0 ≤ x ∧ x ≤ 1000000)) && (decide (-1 ≤ at_ ∧ at_ ≤ 1000000) && (
  if o.kind = 1 then wrongE W.K.c (W.K.c.shapeAt o.b).isSome (shpOf W.K.c o.b) 0 false got == 0
  else arrE W.K.c (W.K.c.shapeAt o.b).isSome (shpOf W.K.c o.b) o.n got at_ == 0)))
def asks (W : AcW) (o : Opr) : AcR :=
  let r := ask W.K.sp W.a.t (needF W.K.c o) (needS W.K.c o) (W.a.sense != W.a.both)
  if r.1.1 = 0 then ((W.spc r.2).withA { W.a with phase := 3, pc := 5 }).no else ((W.spc r.2).takes o r.1.2.1 r.1.2.2).no
def makes (W : AcW) : AcR := match W.a.writes with
  | .int _ a :: .complex _ p q :: l => ((W.memW (W.K.mem.tick.lay a (p, q))).withA { W.a with writes := l, at_ := if l = [] then 8 else W.a.at_ }).no
  | _ => W.no
def bears (W : AcW) (o : Opr) : AcR := (W.spc { W.K.sp.tick with tab := W.K.sp.tab.born (W.a.got.headD 0) }).laysR o.a ⟨true, zRef (W.a.got.headD 0)⟩
def found (W : AcW) (o : Opr) (x : Bool × FindS × MemS) : AcR :=
  let V := (W.memW x.2.2).withA { W.a with at_ := 1, f := some x.2.1 }
  if x.1 = false then V.no
  else if x.2.1.e ≠ 0 then V.fails x.2.1.e
  else
    let A := { V.a with addr := x.2.1.at_, ref := decide (0 ≤ x.2.1.at_) && x.2.1.ref, at_ := 2 }
    if o.kind = 3 ∨ o.kind = 5 then (V.withA A).no
    else if (A.loc o.b).ref ≠ A.ref then (V.withA A).fails 4
    else (V.withA (A.chooses o)).no
def finds (W : AcW) (o : Opr) : Option AcR := match W.a.f with
  | none => none
  | some F => if 0 ≤ F.steps ∧ F.steps ≤ 1099511627776 ∧ -9223372036854775808 ≤ F.k ∧ F.k ≤ 9223372036854775807 then (F.stepO W.K.mem).map (W.found o) else none
def reads (W : AcW) (o : Opr) : Option AcR :=
  if inB W.a.addr W.K.mem.l.length && (!W.a.ref || wIs (W.K.mem.peek W.a.addr)) then some ((W.memW W.K.mem.tick).laysR o.a ⟨W.a.ref, W.K.mem.peek W.a.addr⟩) else none
def storesOld (W : AcW) : AcR := ((W.greyK ((wIndex W.a.old).getD 0)).withA { W.a with at_ := W.a.behind }).no
def storesNew (W : AcW) : AcR := ((W.greyK ((wIndex W.a.w).getD 0)).withA { W.a with at_ := 6 }).no
def storesWrite (W : AcW) : AcR := (W.memW (W.K.mem.tick.lay W.a.addr W.a.w)).doneR LVal.zero 0
def storesRead (W : AcW) : AcR := ((W.memW W.K.mem.tick).withA { W.a with old := W.K.mem.peek W.a.addr, at_ := if (wIndex (W.K.mem.peek W.a.addr)).isSome then 4 else W.a.behind }).no
def stores (W : AcW) : Option AcR :=
  if W.a.at_ = 4 then some W.storesOld else if W.a.at_ = 5 then some W.storesNew
  else if W.a.at_ = 6 then (if inB W.a.addr W.K.mem.l.length then some W.storesWrite else none)
  else if inB W.a.addr W.K.mem.l.length && wIs (W.K.mem.peek W.a.addr) then some W.storesRead else none
def tells (W : AcW) (o : Opr) : Option AcR :=
  if W.rdB (W.a.head o.b) 1 then (match wTell (W.K.mem.peek (W.a.head o.b * 8 + 1)) with
    | none => none
    | some (kd, md) => match W.K.c.shapeAt kd with
      | none => none
      | some (arr, refs) =>
        if md ≤ 1 ∧ (arr = false ∨ md = 0) then
          (if o.kind = 11 then some ((W.memW W.K.mem.tick).laysR o.a ⟨false, zWhole kd⟩)
          else if arr = false then some ((W.memW W.K.mem.tick).fails 4)
          else some ((W.memW W.K.mem.tick).withA { W.a with at_ := 9 }).no)
        else none) else none
def counts (W : AcW) (o : Opr) : Option AcR :=
  if W.rdB (W.a.head o.b) 2 then (match wInt (W.K.mem.peek (W.a.head o.b * 8 + 2)) with
    | none => none
    | some n => if 0 ≤ n ∧ n ≤ 512 then some ((W.memW W.K.mem.tick).laysR o.a ⟨false, zWhole n⟩) else none) else none
def prog (W : AcW) (o : Opr) : FindS :=
  if o.kind = 3 then FindS.fresh W.K.c (W.a.head o.b) o.n false (W.a.head o.b) else if o.kind = 4 then FindS.fresh W.K.c (W.a.head o.a) o.n false (W.a.head o.a)
  else if o.kind = 5 then FindS.fresh W.K.c (W.a.head o.b) o.n true 0 else FindS.fresh W.K.c (W.a.head o.a) o.n true 0
def asksR (W : AcW) (o : Opr) : AskR := ask W.K.sp W.a.t (needF W.K.c o) (needS W.K.c o) (W.a.sense != W.a.both)
def asksO (W : AcW) (o : Opr) : Option AcR :=
  if (W.asksR o).1.1 = 0 ∨ ((W.asksR o).1.1 = 1 ∧ (W.spc (W.asksR o).2).takesOk o (W.asksR o).1.2.1 (W.asksR o).1.2.2 = true) then some (W.asks o) else none
def atGlobal (W : AcW) (o : Opr) : AcW := W.withA { W.a with addr := cAtV W.K.c 3 o.n, ref := true }
def starts (W : AcW) (o : Opr) : Option AcR :=
  if opOk W.K.c o = false then none
  else if W.a.operandsE o ≠ 0 then some (W.fails (W.a.operandsE o))
  else match W.a.plainV o with
    | some v => some (W.laysR o.a v)
    | none =>
      if o.kind = 1 ∨ o.kind = 2 then W.asksO o
      else if o.kind = 3 ∨ o.kind = 4 ∨ o.kind = 5 ∨ o.kind = 6 then (W.withA { W.a with f := some (W.prog o) }).finds o
      else if o.kind = 7 then (W.atGlobal o).reads o
      else if o.kind = 8 then ((W.atGlobal o).withA ((W.atGlobal o).a.chooses o)).stores
      else if o.kind = 10 ∨ o.kind = 11 then W.tells o
      else if o.kind = 17 then some ((W.spc (forceS W.K.sp)).doneR LVal.zero 0)
      else if o.kind = 18 then some ((W.spc (drainS W.K.sp W.a.t)).withA { W.a with at_ := 10 }).no
      else none
def within (W : AcW) : Option AcR :=
  if W.a.at_ = 0 then W.starts W.a.op
  else if W.a.at_ = 1 then W.finds W.a.op
  else if W.a.at_ = 2 then W.reads W.a.op
  else if W.a.at_ = 7 then (match W.a.writes with
    | .int _ a :: .complex _ p q :: l => if inB a W.K.mem.l.length then some W.makes else none
    | _ => none)
  else if W.a.at_ = 8 then (if W.a.got ≠ [] ∧ (W.K.sp.tab.state (W.a.got.headD 0) == 2 && !W.K.sp.tab.head (W.a.got.headD 0)) = true ∧ 0 ≤ W.a.got.headD 0 ∧ W.a.got.headD 0 ≤ 1099511627776 then some (W.bears W.a.op) else none)
  else if W.a.at_ = 9 then W.counts W.a.op
  else if W.a.at_ = 10 then some (W.goes.doneR LVal.zero 0)
  else W.stores
def lookR (W : AcW) : AskR := look W.K.sp W.a.t
def waiting (W : AcW) : Option AcR :=
  if W.a.pc = 5 then
    (if W.lookR.1.1 = 0 then some ((W.spc W.lookR.2).withA { W.a with pc := 0 }).no
    else if W.lookR.1.1 = 1 then (if (W.spc W.lookR.2).takesOk W.a.op W.lookR.1.2.1 W.lookR.1.2.2 then some ((W.spc W.lookR.2).takes W.a.op W.lookR.1.2.1 W.lookR.1.2.2).no else none)
    else if W.lookR.1.1 = 2 then some ((W.spc W.lookR.2).fails 6) else none)
  else if W.a.pc = 0 then some (if W.looksB then W.looks.withA { W.a with pc := 5 } else W.looks).no
  else if W.a.pc = 1 ∨ W.a.pc = 2 then some (if W.answersB then W.answers.withA { W.answers.a with pc := 5 } else W.answers).no
  else none
def joins (W : AcW) : AcW :=
  { a := if W.K.hand.mayJoin W.a.t then { W.a with status := W.K.hand.status, sense := W.K.hand.sense, phase := 1, pc := 0 } else { W.a with phase := 4 }, K := { W.K with hand := W.K.hand.join W.a.t } }
def cntOk (n : Int) : Bool := decide (0 ≤ n ∧ n ≤ 1099511627776)
def bdB (W : AcW) : Bool := cntOk W.a.own && cntOk W.a.next && cntOk W.K.hand.count && cntOk W.K.sp.count && cntOk W.K.mem.count && cntOk W.K.n && decide (W.K.sp.line.length < 1000000)
def greyOk (W : AcW) : Bool := W.a.pc != 1 || !W.a.grey.isEmpty
def opIn (W : AcW) : Bool := decide (W.a.next < W.a.ops.length)
def locOk (W : AcW) : Bool := decide ((W.a.locals.length : Int) = W.K.c.locals)
def up (W : AcW) : AcW := W.withA { W.a with own := W.a.own + 1 }
def step (W : AcW) : Option AcR :=
  if W.bdB = false then none
  else if W.a.phase = 0 then some W.joins.no
  else if W.a.phase = 1 then (if W.greyOk then some W.border.no else none)
  else if W.a.phase = 2 then (if W.opIn && W.locOk then W.up.within else none)
  else if W.a.phase = 3 then (if W.opIn && W.greyOk then W.up.waiting else none)
  else if W.a.phase = 4 then some W.no
  else none
end AcW
end Go.Proofs.YtcpeoflomdhidaaGreat

/-
  act: runs of a thread, as plain data. No program here.
-/
namespace Go.Proofs.YtcpeoflomdhidaaGreat
open Go Go.RowKit
set_option linter.unusedVariables false
set_option maxRecDepth 1000000
namespace AcW
def kindR (o : Opr) : Bool := o.kind == 1 || (o.kind == 4 || (o.kind == 12 || (o.kind == 13 || o.kind == 18)))
def wrOk (W : AcW) : Bool := match W.a.writes with
  | .int .i64 _ :: .complex .f64 _ _ :: _ => true
  | _ => false
def okW (W : AcW) : Bool := kindR W.a.op && (W.a.at_ != 9 && ((W.a.at_ != 1 || inL W.K.c W.a.op.b) && ((W.a.at_ != 2 || inL W.K.c W.a.op.a) && ((W.a.at_ != 8 || inL W.K.c W.a.op.a) && (W.a.at_ != 7 || W.wrOk)))))
def okR (W : AcW) : Bool := W.a.phase != 3 && ((W.a.phase != 2 || W.okW) && (decide (W.a.locals.length ≤ 1000) && (decide (W.a.ops.length ≤ 1000000) && W.K.c.check == 0)))
def stepR (W : AcW) : Option AcR := if W.okR then W.step else none
def stepZ (W : AcW) : Option AcR := if W.a.phase == 0 || W.a.phase == 1 then W.stepR else none
def post (W : AcW) (s : Int) (flip : Bool) : AcW := { W with K := { W.K with hand := W.K.hand.post s flip } }
def untilR : Nat → AcW → Option AcR
  | 0, W => some W.no
  | n + 1, W => match W.stepR with
    | none => none
    | some x => if x.1.2 then some x else untilR n x.2
def awaitR : Nat → Int → AcW → Option AcW
  | 0, _, W => some W
  | n + 1, s, W => if W.a.status == s then some W else match W.stepR with
    | none => none
    | some x => awaitR n s x.2
end AcW
def cPair (A A1 A2 : Option Addr) : Cnf := ⟨40, 40, 2, 2, 3, 0, 9, 0, A, 2, [⟨false, A1, 3, [true, true, false]⟩, ⟨true, A2, 1, [true]⟩]⟩
def pairW (A A1 A2 : Option Addr) (ops : List Opr) : AcW := ⟨AcS.fresh 0 3 ops, CoreS.fresh (cPair A A1 A2)⟩
def c23 (A : Option Addr) : Cnf := ⟨4, 0, 0, 1, 1, 0, 1, 0, A, 1, [⟨false, none, 0, []⟩]⟩
def first23W (A : Option Addr) : AcW := ⟨AcS.fresh 0 1 [⟨12, 0, 0, 0, 0, 4617315517961601024, 0⟩], CoreS.fresh (c23 A)⟩
def opNew (a : Int) : Opr := ⟨1, a, 0, 0, 0, 0, 0⟩
end Go.Proofs.YtcpeoflomdhidaaGreat

/-
  A collector and a thread over one core, as plain data; the run of CycleWaits. No program here.
-/
namespace Go.Proofs.YtcpeoflomdhidaaGreat
open Go Go.RowKit
set_option linter.unusedVariables false
set_option maxRecDepth 1000000
structure DuW where
  y : CyS
  tr : Option TraceS
  h : Option HaulS
  a : AcS
  K : CoreS
namespace DuW
def cy (D : DuW) : CyW := ⟨D.y, D.tr, D.h, D.K⟩
def ac (D : DuW) : AcW := ⟨D.a, D.K⟩
def putC (D : DuW) (V : CyW) : DuW := ⟨V.y, V.tr, V.h, D.a, V.K⟩
def putA (D : DuW) (V : AcW) : DuW := ⟨D.y, D.tr, D.h, V.a, V.K⟩
def stepC (D : DuW) : Option DuW := match D.cy.stepO with
  | none => none
  | some V => some (D.putC V)
def stepA (D : DuW) : Option DuW := match D.ac.stepZ with
  | none => none
  | some x => some (D.putA x.2)
def tick (D : DuW) : DuW := { D with K := { D.K with hand := D.K.hand.tick } }
def force (D : DuW) : DuW := { D with K := { D.K with sp := forceS D.K.sp } }
def same (D : DuW) : Bool := D.a.status == D.K.hand.status
def handOk (D : DuW) : Bool := AcW.cntOk D.K.hand.count
def waitJ : Nat → DuW → Option DuW
  | 0, D => some D
  | n + 1, D => if !D.handOk then none else if D.same then some D.tick else match D.tick.stepA with
    | none => none
    | some E => waitJ n E
def waitY : Nat → DuW → Option DuW
  | 0, D => some D
  | n + 1, D => match D.stepC with
    | none => none
    | some E => waitY n E
def waitM (which n : Nat) (D : DuW) : Option DuW :=
  if n == which then (match waitY 100 D with
    | none => none
    | some E => if E.y.stage == [2, 3, 4, 6, 8].getD n 0 && E.y.finished == 0 then some E else none)
  else some D
def waitRun (which : Nat) : Nat → Nat → DuW → Option (Nat × DuW)
  | 0, n, D => some (n, D)
  | f + 1, n, D => if D.y.finished != 0 then some (n, D) else match D.stepC with
    | none => none
    | some D1 => if !D1.handOk then none else if D1.same then waitRun which f n D1.tick else match waitM which n D1.tick with
      | none => none
      | some D3 => match waitJ 9 D3 with
        | none => none
        | some D4 => waitRun which f (n + 1) D4
end DuW
namespace DuW
theorem waitRun_exit (which f n : Nat) (D : DuW) (r : Nat × DuW) (h : waitRun which f n D = some r) (hx : f = 0 ∨ D.y.finished ≠ 0) : r = (n, D) := by
  cases f with
  | zero => unfold waitRun at h; injection h with h; exact h.symm
  | succ f =>
    rcases hx with hx | hx
    · cases hx
    · unfold waitRun at h
      rw [if_pos (by simpa using hx)] at h
      injection h with h
      exact h.symm
theorem waitRun_step (which f n : Nat) (D : DuW) (r : Nat × DuW) (h : waitRun which (f + 1) n D = some r) (hx : D.y.finished = 0) : ∃ V, D.cy.stepO = some V ∧ (D.putC V).handOk = true ∧ (((D.putC V).same = true ∧ waitRun which f n (D.putC V).tick = some r) ∨ ((D.putC V).same = false ∧ ∃ D3 D4, waitM which n (D.putC V).tick = some D3 ∧ waitJ 9 D3 = some D4 ∧ waitRun which f (n + 1) D4 = some r)) := by
  unfold waitRun at h
  rw [if_neg (by simp [hx])] at h
  unfold stepC at h
  cases hs : D.cy.stepO with
  | none => rw [hs] at h; cases h
  | some V =>
    rw [hs] at h
    simp only at h
    cases ho : (D.putC V).handOk
    · rw [ho] at h; cases h
    cases hq : (D.putC V).same
    · rw [ho, hq] at h
      simp only [Bool.not_true, Bool.false_eq_true, if_false] at h
      cases hm : waitM which n (D.putC V).tick with
      | none => rw [hm] at h; cases h
      | some D3 =>
        rw [hm] at h
        simp only at h
        cases hj : waitJ 9 D3 with
        | none => rw [hj] at h; cases h
        | some D4 => rw [hj] at h; exact ⟨V, rfl, ho, Or.inr ⟨hq, D3, D4, hm, hj, h⟩⟩
    · rw [ho, hq] at h
      exact ⟨V, rfl, ho, Or.inl ⟨hq, h⟩⟩
theorem waitM_no (which n : Nat) (D E : DuW) (h : waitM which n D = some E) (hn : n ≠ which) : E = D := by
  unfold waitM at h
  rw [if_neg (by simpa using hn)] at h
  injection h with h
  exact h.symm
theorem waitM_yes (which n : Nat) (D E : DuW) (h : waitM which n D = some E) (hn : n = which) : waitY 100 D = some E ∧ E.y.stage = [2, 3, 4, 6, 8].getD n 0 ∧ E.y.finished = 0 := by
  unfold waitM at h
  rw [if_pos (by simpa using hn)] at h
  cases hy : waitY 100 D with
  | none => rw [hy] at h; cases h
  | some F =>
    rw [hy] at h
    simp only at h
    split at h
    case isFalse => cases h
    case isTrue hc =>
      injection h with h
      subst h
      rw [Bool.and_eq_true, beq_iff_eq, beq_iff_eq] at hc
      exact ⟨rfl, hc.1, hc.2⟩
theorem waitY_step (n : Nat) (D E : DuW) (h : waitY (n + 1) D = some E) : ∃ V, D.cy.stepO = some V ∧ waitY n (D.putC V) = some E := by
  unfold waitY stepC at h
  cases hs : D.cy.stepO with
  | none => rw [hs] at h; cases h
  | some V => rw [hs] at h; exact ⟨V, rfl, h⟩
theorem waitY_end (D E : DuW) (h : waitY 0 D = some E) : E = D := by
  unfold waitY at h
  injection h with h
  exact h.symm
theorem waitJ_end (D E : DuW) (h : waitJ 0 D = some E) : E = D := by
  unfold waitJ at h
  injection h with h
  exact h.symm
theorem waitJ_step (n : Nat) (D E : DuW) (h : waitJ (n + 1) D = some E) : D.handOk = true ∧ ((D.same = true ∧ E = D.tick) ∨ (D.same = false ∧ ∃ x, D.tick.ac.stepZ = some x ∧ waitJ n (D.tick.putA x.2) = some E)) := by
  unfold waitJ at h
  cases ho : D.handOk
  · rw [ho] at h; cases h
  cases hq : D.same
  · rw [ho, hq] at h
    simp only [Bool.not_true, Bool.false_eq_true, if_false] at h
    unfold stepA at h
    cases hs : D.tick.ac.stepZ with
    | none => rw [hs] at h; cases h
    | some x => rw [hs] at h; exact ⟨rfl, Or.inr ⟨rfl, x, rfl, h⟩⟩
  · rw [ho, hq] at h
    simp only [Bool.not_true, Bool.false_eq_true, if_false, if_true] at h
    injection h with h
    exact ⟨rfl, Or.inl ⟨rfl, h.symm⟩⟩
end DuW
def cChain (frags stack : Int) (A A1 A2 : Option Addr) : Cnf := ⟨frags, 0, 1, 1, 3, 0, stack, 0, A, 2, [⟨false, A1, 2, [true, false]⟩, ⟨false, A2, 40, List.replicate 40 true⟩]⟩
def aloneD (c : Cnf) (ops : List Opr) : DuW := ⟨CyS.fresh, none, none, AcS.fresh 0 c.locals.toNat ops, CoreS.fresh c⟩
def opW : Opr := ⟨12, 0, 0, 0, 0, 0, 0⟩
def waitsAll (A A1 A2 : Option Addr) (which : Nat) : Bool := match (aloneD (cChain 20 9 A A1 A2) [opW]).ac.stepZ with
  | none => false
  | some x => AcW.cntOk ((aloneD (cChain 20 9 A A1 A2) [opW]).putA x.2).K.sp.count && (match DuW.waitRun which 2000 0 ((aloneD (cChain 20 9 A A1 A2) [opW]).putA x.2).force with
    | none => false
    | some (n, E) => E.y.finished == 1 && (n == 5 && E.y.e == 0))
theorem waits_run (A A1 A2 : Option Addr) (m : Nat) (h : waitsAll A A1 A2 m = true) : ∃ x E, (aloneD (cChain 20 9 A A1 A2) [opW]).ac.stepZ = some x ∧ AcW.cntOk ((aloneD (cChain 20 9 A A1 A2) [opW]).putA x.2).K.sp.count = true ∧ DuW.waitRun m 2000 0 ((aloneD (cChain 20 9 A A1 A2) [opW]).putA x.2).force = some (5, E) ∧ E.y.finished = 1 ∧ E.y.e = 0 := by
  unfold waitsAll at h
  cases hx : (aloneD (cChain 20 9 A A1 A2) [opW]).ac.stepZ with
  | none => rw [hx] at h; cases h
  | some x =>
    rw [hx] at h
    simp only [Bool.and_eq_true] at h
    obtain ⟨h1, h2⟩ := h
    cases hr : DuW.waitRun m 2000 0 ((aloneD (cChain 20 9 A A1 A2) [opW]).putA x.2).force with
    | none => rw [hr] at h2; cases h2
    | some q =>
      obtain ⟨n, E⟩ := q
      rw [hr] at h2
      simp only [Bool.and_eq_true, beq_iff_eq] at h2
      obtain ⟨h3, h4, h5⟩ := h2
      exact ⟨x, E, rfl, h1, h4 ▸ hr, h3, h5⟩
end Go.Proofs.YtcpeoflomdhidaaGreat

