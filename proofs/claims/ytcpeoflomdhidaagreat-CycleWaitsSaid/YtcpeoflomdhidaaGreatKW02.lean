import Derived.Test.YtcpeoflomdhidaaGreatKW01
import Derived.Test.YtcpeoflomdhidaaGreatChecked
/-
  Packed: Clone2, St, Hand, Tint, Conf.
-/
open Go.Ext renaming alloc → zA, patch → zP, drew → zD, drewN → zN, more → zM, refl → zR, setCell → zS
open Nat renaming le_refl → zL, le_add_right → zK
/-
  slices.Clone at ints: a row of whoever is asked for.
-/
namespace Go.Proofs.YtcpeoflomdhidaaGreat
open Go Go.RowKit
set_option linter.unusedVariables false
attribute [local go_sem] Lib.run_eql_slice_nil

def Cloned (t : Nat) (l : List Int) (g : GW) (e : Ending) (w' : World) : Prop :=
  ∃ A' c', e = .returned (.slice A' l.length c') ∧ Mod (fun _ => False) g (g.to t w') ∧ Row (g.to t w') t 3 1 (.slice A' l.length c') l.length (l.map (Value.int .i64)) ∧ Ext g.w w' ∧ (∀ a, A' = some a → g.w.heap.size ≤ a.block)
theorem cloneInt (A : Option Addr) (cap : Nat) (l : List Int) (t : Nat) (g : GW) (hc : CellsAt g.w A (l.map (Value.int .i64))) (hl : l.length ≤ 1099511627776) :
    Calls Tryz.prog 198 #[.slice A l.length cap] g.w (Cloned t l g) := by
  obtain ⟨i0, hi, hz0, hz1, hz2⟩ := info_parts infoInt
  have hq := fun w => Lib.run_eql_slice_nil (P := Tryz.prog) w 62 3 A l.length cap 0 0 Tryz.underlying62
  rcases A with _ | ad
  · obtain rfl : l = [] := by
      rcases l with _ | ⟨x, l⟩
      · rfl
      · obtain ⟨b, o, h, _⟩ := hc.at_ (i := 0) (by simp)
        cases h
    go_enter Tryz.func198, Tryz.ntmps198
    go_wp2_with fail
    go_ret
    exact ⟨none, 0, rfl, Mod.ext (Ext.refl _) _, Row.nil _ _ _ _, Ext.refl _, fun a h => by cases h⟩
  · go_enter Tryz.func198, Tryz.ntmps198
    go_wp2_with (at_builtin; refine wpList_append_own _ rfl (.tmp 5) (.tmp 6) 62 rfl g.w.heap.size 3 i0 (.int .i64 0) 1 8 Tryz.underlying62 hi hz0 hz1 hz2 rfl (by decide) _ _ _ rfl (World.ownsRow_made (cap := 0) _ #[] (Nat.le_refl _) (by decide) rfl) ad l.length cap (l.map (Value.int .i64)) rfl (by simp) (cells_add (hc.alloc _)) (by intro u hu; simp at hu; obtain ⟨_, _, rfl⟩ := hu; rfl) (by unfold maxLen; omega) (by omega) (by simp) ?_; intro v' w1 hown hgrow hn)
    simp only [Nat.zero_add, List.nil_append] at hown
    obtain ⟨A', c', hv⟩ := own_form hown
    rw [hv] at hown
    have HV := Lib.hid hv
    clear hv
    go_ret
    have he : Ext g.w w1 := ext_grown (Ext.alloc (Ext.refl _) _) hgrow (fun k hk => by cases hk; exact Nat.le_refl _)
    have hf := own_fresh hown
    exact ⟨A', c', congrArg Ending.returned HV.out, Mod.ext he _, ⟨own_lower hown (Nat.zero_le _), fun k hk => GW.to_new (by
      cases A' with
      | none => cases hk
      | some a => injection hk with hk; subst hk; exact hf a rfl)⟩, he, hf⟩
def ClonedN (t n : Nat) (l : List Int) (g : GW) (e : Ending) (w' : World) : Prop :=
  ∃ A' c', e = .returned (.slice A' n c') ∧ Mod (fun _ => False) g (g.to t w') ∧ Row (g.to t w') t 3 1 (.slice A' n c') n (l.map (Value.int .i64)) ∧ Ext g.w w' ∧ (∀ a, A' = some a → g.w.heap.size ≤ a.block)
theorem cloneIntN (A : Option Addr) (cap n : Nat) (l : List Int) (t : Nat) (g : GW) (hn : l.length = n) (hc : CellsAt g.w A (l.map (Value.int .i64))) (hl : n ≤ 1099511627776) :
    Calls Tryz.prog 198 #[.slice A n cap] g.w (ClonedN t n l g) := by
  subst hn
  exact cloneInt A cap l t g hc hl
end Go.Proofs.YtcpeoflomdhidaaGreat

/-
  The states of the objects, as plain data: memory, table, pool, pile, coil, hand. No program here.
-/
namespace Go
open Go.RowKit
set_option linter.unusedVariables false

def inB (i : Int) (n : Nat) : Bool := decide (0 ≤ i ∧ i < n)
theorem inB_true {i : Int} {n : Nat} (h : inB i n = true) : ∃ k : Nat, i = k ∧ k < n := by
  unfold inB at h
  simp only [decide_eq_true_eq] at h
  exact ⟨i.toNat, by omega, by omega⟩
theorem inB_cast {k n : Nat} (h : k < n) : inB (k : Int) n = true := by unfold inB; simp; omega
theorem inB_false {i : Int} {n : Nat} (h : inB i n = false) : i < 0 ∨ (n : Int) ≤ i := by
  unfold inB at h
  simp only [decide_eq_false_iff_not] at h
  omega
theorem inB_neg {i : Int} {n : Nat} (h : i < 0) : inB i n = false := by unfold inB; simp; omega
theorem inB_big {i : Int} {n : Nat} (h : (n : Int) ≤ i) : inB i n = false := by unfold inB; simp; omega

/-! ### rows of structs, laid flat -/
theorem flat_size {α : Type} {f : α → List Value} {s : Nat} (l : List α) (hf : ∀ x, (f x).length = s) : (l.flatMap f).length = l.length * s := by
  induction l with
  | nil => simp
  | cons x l ih => rw [List.flatMap_cons, List.length_append, hf, ih, List.length_cons, Nat.succ_mul]; omega
theorem flat_at {α : Type} {f : α → List Value} {s : Nat} (hf : ∀ x, (f x).length = s) (l : List α) (k j : Nat) (x : α) (h : l[k]? = some x) (hj : j < s) : (l.flatMap f)[k * s + j]? = (f x)[j]? := by
  induction l generalizing k with
  | nil => simp at h
  | cons y l ih =>
    rw [List.flatMap_cons]
    cases k with
    | zero =>
      simp at h
      subst h
      rw [Nat.zero_mul, Nat.zero_add, List.getElem?_append_left (by rw [hf]; exact hj)]
    | succ k =>
      have := ih k (by simpa using h)
      rw [List.getElem?_append_right (by rw [hf, Nat.succ_mul]; omega), hf, ← this]
      congr 1
      rw [Nat.succ_mul]
      omega
/-! ### tint -/
structure One where
  state : Nat
  head : Bool
  sense : Bool
  deriving DecidableEq
def One.cells (o : One) : List Value := [.int .i64 o.state, .bool o.head, .bool o.sense]
theorem One.cells_len (o : One) : o.cells.length = 3 := rfl
structure TabS where
  l : List One
namespace TabS
def at_ (t : TabS) (i : Int) : Option One := if inB i t.l.length then t.l[i.toNat]? else none
def state (t : TabS) (i : Int) : Nat := ((t.at_ i).map One.state).getD 0
def head (t : TabS) (i : Int) : Bool := ((t.at_ i).map One.head).getD false
def sense (t : TabS) (i : Int) : Bool := ((t.at_ i).map One.sense).getD false
def black (t : TabS) (i : Int) (s : Bool) : Bool := t.state i == 2 && t.sense i == s
def cnt (t : TabS) (s : Nat) : Nat := t.l.countP (fun o => o.state == s)
def may (t : TabS) (i s : Int) : Bool := inB i t.l.length && decide (0 ≤ s ∧ s ≤ 2)
def set (t : TabS) (i s : Int) (head sense : Bool) : TabS := if t.may i s then ⟨t.l.set i.toNat ⟨s.toNat, head && s.toNat == 2, sense⟩⟩ else t
def mark (t : TabS) (i : Int) (s : Bool) : TabS := if t.state i == 2 && !t.black i s then ⟨t.l.modify i.toNat fun o => { o with sense := s }⟩ else t
def born (t : TabS) (i : Int) : TabS := if t.state i == 2 && !t.head i then ⟨t.l.modify i.toNat fun o => { o with head := true }⟩ else t
theorem at_in {t : TabS} {k : Nat} {o : One} (h : t.l[k]? = some o) : t.at_ k = some o := by
  unfold at_
  rw [if_pos (inB_cast (List.getElem?_eq_some_iff.1 h).1), Int.toNat_natCast, h]
theorem at_out {t : TabS} {i : Int} (h : inB i t.l.length = false) : t.at_ i = none := by unfold at_; rw [h]; rfl
end TabS

/-! ### mem -/
structure MemS where
  l : List (Nat × Nat)
  count : Int
namespace MemS
def peek (m : MemS) (a : Int) : Nat × Nat := if inB a m.l.length then m.l.getD a.toNat (0, 0) else (0, 0)
def tick (m : MemS) : MemS := { m with count := m.count + 1 }
def lay (m : MemS) (a : Int) (x : Nat × Nat) : MemS := if inB a m.l.length then { m with l := m.l.set a.toNat x } else m
end MemS

/-! ### coil -/
structure CoilS where
  size : Int
  cur : Nat
  u0 : Int
  u1 : Int
  kept : Int
namespace CoilS
def used (c : CoilS) (s : Nat) : Int := if s = 0 then c.u0 else c.u1
def room (c : CoilS) : Int := c.size - c.used c.cur - c.kept
def lays (c : CoilS) (n : Int) : CoilS := if c.cur = 0 then { c with u0 := c.u0 + n } else { c with u1 := c.u1 + n }
structure Ok (c : CoilS) : Prop where
  cur : c.cur < 2
  s0 : 0 ≤ c.size ∧ c.size ≤ 2048
  b0 : 0 ≤ c.u0 ∧ c.u0 ≤ 2048
  b1 : 0 ≤ c.u1 ∧ c.u1 ≤ 2048
  bk : 0 ≤ c.kept ∧ c.kept ≤ 2048
  fit : c.used c.cur + c.kept ≤ c.size
def takeable (c : CoilS) (n : Int) : Bool := decide (1 ≤ n ∧ n ≤ c.room)
def take (c : CoilS) (n : Int) : CoilS := if c.takeable n then c.lays n else c
def takenAt (c : CoilS) (n : Int) : Int := if c.takeable n then c.used c.cur else 0
def turnable (c : CoilS) : Bool := decide (c.used (1 - c.cur) ≤ 0)
def turn (c : CoilS) : CoilS := if c.turnable then { c with kept := c.used c.cur, cur := 1 - c.cur } else c
def skippable (c : CoilS) (n : Int) : Bool := decide (1 ≤ n ∧ n ≤ c.kept)
def skip (c : CoilS) (n : Int) : CoilS := if c.skippable n then { c with kept := c.kept - n } else c
def copy (c : CoilS) (n : Int) : CoilS := if c.skippable n then (c.skip n).lays n else c
def copiedAt (c : CoilS) (n : Int) : Int := if c.skippable n then c.used c.cur else 0
def doneable (c : CoilS) : Bool := decide (c.kept ≤ 0)
def done (c : CoilS) : CoilS := if c.doneable then (if c.cur = 0 then { c with u1 := 0 } else { c with u0 := 0 }) else c
end CoilS

/-! ### pool -/
structure PoolS where
  l : List Bool
namespace PoolS
def free (p : PoolS) : Nat := p.l.countP id
def runGo (l : List Bool) (k : Nat) : Nat → Nat → Option Nat
  | 0, _ => none
  | i + 1, n => if l.getD i false then (if n + 1 = k then some i else runGo l k i (n + 1)) else runGo l k i 0
def run (p : PoolS) (k : Int) : Option Nat := if k < 1 then none else runGo p.l k.toNat p.l.length 0
def lowGo (l : List Bool) (k : Nat) : Nat → Nat → List Int
  | 0, _ => []
  | f + 1, i => if k = 0 then [] else if l.getD i false then (i : Int) :: lowGo l (k - 1) f (i + 1) else lowGo l k f (i + 1)
def lowOnes (p : PoolS) (k : Int) : List Int := lowGo p.l k.toNat p.l.length 0
def takes (p : PoolS) (got : List Int) : PoolS := ⟨got.foldl (fun l i => l.set i.toNat false) p.l⟩
def taken (p : PoolS) (k : Int) : Option (List Int) := if k < 1 ∨ (p.free : Int) < k then none else match p.run k with
  | some a => some ((List.range k.toNat).map fun j => ((a + j : Nat) : Int))
  | none => some (p.lowOnes k)
def give (p : PoolS) (i : Int) : PoolS := if inB i p.l.length then ⟨p.l.set i.toNat true⟩ else p
end PoolS

/-! ### pile, hand -/
structure PileS where
  l : List Int
  most : Int
  lost : Bool
structure HandS where
  status : Int
  sense : Bool
  l : List Int
  count : Int
namespace HandS
def own (h : HandS) (t : Int) : Int := if inB t h.l.length then h.l.getD t.toNat 0 else -1
def tick (h : HandS) : HandS := { h with count := h.count + 1 }
end HandS
end Go

/-
  pile (New, Len), hand (New, Look, Status, Count).
-/
namespace Go.Proofs.YtcpeoflomdhidaaGreat
open Go Go.RowKit
set_option linter.unusedVariables false
set_option linter.unnecessarySimpa false
set_option linter.unusedSimpArgs false
set_option maxHeartbeats 2000000

structure PileAt (g : GW) (t b : Nat) (p : PileS) : Prop where
  ex : ∃ A c, Blk g t b 267 [.slice A p.l.length c, .int .i64 p.most, .bool p.lost] ∧ Row g t 3 1 (.slice A p.l.length c) p.l.length (p.l.map (Value.int .i64))
  most : 1 ≤ p.most ∧ p.most ≤ 256
  len : (p.l.length : Int) ≤ p.most
theorem PileAt.keep {S : Nat → Prop} {g g' : GW} {t b : Nat} {p : PileS} (h : PileAt g t b p) (d : Mod S g g') (hs : ¬ S t) : PileAt g' t b p := by
  obtain ⟨A, c, h1, h2⟩ := h.ex
  exact ⟨⟨A, c, h1.keep d hs, h2.keep d hs⟩, h.most, h.len⟩
def PileMade (n : Int) (t : Nat) (g : GW) (e : Ending) (w' : World) : Prop :=
  if 1 ≤ n ∧ n ≤ 256 then ∃ b, e = .returned (.tuple #[.pointer (some ⟨b, 0, none⟩), .int .i64 0]) ∧ Ext g.w w' ∧ PileAt (g.to t w') t b ⟨[], n, false⟩
  else e = .returned (.tuple #[.pointer none, .int .i64 1]) ∧ Ext g.w w'
theorem pile_new (n : Int) (t : Nat) (g : GW) : Calls Tryz.prog 220 #[.int .i64 n] g.w (PileMade n t g) := by
  by_cases h0 : n < 1
  · have HV := Lib.hid (show ¬ (1 ≤ n ∧ n ≤ 256) by omega)
    go_enter Tryz.func220, Tryz.ntmps220
    go_wp2_with fail
    go_ret2
    unfold PileMade
    rw [if_neg HV.out]
    exact ⟨rfl, Ext.refl _⟩
  by_cases h1 : 256 < n
  · have HV := Lib.hid (show ¬ (1 ≤ n ∧ n ≤ 256) by omega)
    go_enter Tryz.func220, Tryz.ntmps220
    go_wp2_with fail
    go_ret2
    unfold PileMade
    rw [if_neg HV.out]
    exact ⟨rfl, Ext.refl _⟩
  have HV := Lib.hid (show (1 : Int) ≤ n ∧ n ≤ 256 by omega)
  go_enter Tryz.func220, Tryz.ntmps220
  go_wp2_with fail
  go_ret2
  unfold PileMade
  rw [if_pos HV.out]
  exact ⟨_, rfl, by (repeat (first | (with_reducible (first | assumption | exact zR _ | exact zM _ _ _ _)) | apply zA | refine zS ?_ (by first | exact zL _ | exact zK _ _ | assumption) _ | apply zP | apply zD | apply zN)), ⟨none, 0, Blk.made (World.row_alloc_new _) (Nat.le_refl _), Row.nil _ _ _ _⟩, HV.out, by have := HV.out.1; show (0 : Int) ≤ n; omega⟩

structure HandAt (g : GW) (t b : Nat) (h : HandS) : Prop where
  ex : ∃ A c, Blk g t b 213 [.int .i64 h.status, .bool h.sense, .slice A h.l.length c, .int .i64 h.count] ∧ Row g t 3 1 (.slice A h.l.length c) h.l.length (h.l.map (Value.int .i64))
  len : h.l.length ≤ 16
theorem HandAt.keep {S : Nat → Prop} {g g' : GW} {t b : Nat} {h : HandS} (H : HandAt g t b h) (d : Mod S g g') (hs : ¬ S t) : HandAt g' t b h := by
  obtain ⟨A, c, h1, h2⟩ := H.ex
  exact ⟨⟨A, c, h1.keep d hs, h2.keep d hs⟩, H.len⟩
theorem hand_status (g : GW) (t b : Nat) (i : Int) (h : HandS) (H : HandAt g t b h) :
    Calls Tryz.prog 262 #[.pointer (some ⟨b, 0, none⟩), .int .i64 i] g.w (fun e w' => e = .returned (.int .i64 (h.own i)) ∧ g.w = w') := by
  cases hin : inB i h.l.length
  · have HV := Lib.hid (show h.own i = -1 by unfold HandS.own; rw [hin]; rfl)
    obtain ⟨A, c, hb, hr⟩ := H.ex
    have c0 := hb.cell (i := 2) rfl
    have hc := inB_false hin
    clear hb hr H hin
    by_cases h0 : i < 0
    · clear hc
      go_enter Tryz.func262, Tryz.ntmps262
      go_wp2_with fail
      go_ret
      exact ⟨by rw [HV.out]; try rfl, rfl⟩
    · have h1 : (h.l.length : Int) ≤ i := by omega
      clear hc
      go_enter Tryz.func262, Tryz.ntmps262
      go_wp2_with fail
      go_ret
      exact ⟨by rw [HV.out]; try rfl, rfl⟩
  · obtain ⟨k, rfl, hk⟩ := inB_true hin
    have HV := Lib.hid (show h.own k = h.l.getD k 0 by unfold HandS.own; rw [hin, if_pos rfl, Int.toNat_natCast])
    obtain ⟨A, c, hb, hr⟩ := H.ex
    obtain ⟨r, rfl, hrl, ho, hcell, hfr⟩ := hr.block (by omega)
    have k0 := hcell k (.int .i64 (h.l.getD k 0)) (by simp [List.getD_eq_getElem?_getD, hk])
    have c0 := hb.cell (i := 2) rfl
    have hlen := H.len
    generalize h.l.getD k 0 = x at *
    generalize h.l.length = n at *
    clear hb hr H hcell hfr hin
    go_enter Tryz.func262, Tryz.ntmps262
    go_wp2_with fail
    go_ret
    exact ⟨by rw [HV.out]; try rfl, rfl⟩
theorem hand_look (g : GW) (t b : Nat) (h : HandS) (H : HandAt g t b h) (hc : 0 ≤ h.count ∧ h.count ≤ 1099511627776) :
    Calls Tryz.prog 106 #[.pointer (some ⟨b, 0, none⟩)] g.w (Does (.tuple #[.int .i64 h.status, .bool h.sense]) g (fun x => x = t) (fun g' => HandAt g' t b h.tick)) := by
  obtain ⟨A, c, hb, hr⟩ := H.ex
  obtain ⟨hc0, hc1⟩ := hc
  have c0 := hb.cell (i := 0) rfl
  have c1 := hb.cell (i := 1) rfl
  have c3 := hb.cell (i := 3) rfl
  have f3 := hb.live 3
  have hbl := hb.lt
  have HB := Lib.hid hb
  have HR := Lib.hid hr
  have HL := Lib.hid H.len
  clear hb hr H
  go_enter Tryz.func106, Tryz.ntmps106
  go_wp2_with fail
  refine wp_region_mixed [true, true, true, true, true, true, true, true, true, true] 0 10 (by kernel_rfl) (by kernel_rfl) (by kernel_rfl) ?_ (by decide) (by decide) (by decide) (by kernel_rfl) ?_
  · intro c a d v w h; cases d <;> exact h
  intro X00
  simp only [pickOps]
  repeat (go_big_quiet_step (fail))
  refine wpQuiet_nil (fun X0 => ?_)
  clear X00
  refine wpAnyM_done (by kernel_rfl) (fun X0' => ?_) _
  go_wp2_with fail
  go_ret2
  exact Does.ext ⟨g.own, g.w.setCell ⟨b, 3, none⟩ (.int .i64 (h.count + 1))⟩ (by (repeat (first | (with_reducible (first | assumption | exact zR _ | exact zM _ _ _ _)) | apply zA | refine zS ?_ (by first | exact zL _ | exact zK _ _ | assumption) _ | apply zP | apply zD | apply zN))) rfl (Mod.st Mod.self HB.out.own) (fun g2 m => HandAt.keep ⟨⟨A, c, HB.out.set 3 _, HR.out.setOther 3 _ (fun x hx => HR.out.ne_type HB.out (by decide) hx)⟩, HL.out⟩ m id)
def HandMade (n : Int) (t : Nat) (g : GW) (e : Ending) (w' : World) : Prop :=
  if 1 ≤ n ∧ n ≤ 16 then ∃ own' b, e = .returned (.tuple #[.pointer (some ⟨b, 0, none⟩), .int .i64 0]) ∧ Mod (fun _ => False) g ⟨own', w'⟩ ∧ HandAt ⟨own', w'⟩ t b ⟨0, false, List.replicate n.toNat (-1), 0⟩
  else e = .returned (.tuple #[.pointer none, .int .i64 1]) ∧ Ext g.w w'
theorem fill_int {n k : Nat} (h : k < n) : (List.replicate k (-1 : Int) ++ List.replicate (n - k) 0).set k (-1) = List.replicate (k + 1) (-1) ++ List.replicate (n - (k + 1)) 0 := by
  rw [show n - k = (n - (k + 1)) + 1 by omega, List.replicate_succ, List.set_append_right _ _ (by simp), List.length_replicate, Nat.sub_self, List.set_cons_zero, List.replicate_succ', List.append_assoc]
  rfl
theorem hand_new (n : Int) (t : Nat) (g : GW) : Calls Tryz.prog 162 #[.int .i64 n] g.w (HandMade n t g) := by
  obtain ⟨i0, hi, hz0, hz1, hz2⟩ := info_parts infoInt
  by_cases h0 : n < 1
  · have HV := Lib.hid (show ¬ (1 ≤ n ∧ n ≤ 16) by omega)
    go_enter Tryz.func162, Tryz.ntmps162
    go_wp2_with fail
    go_ret2
    unfold HandMade
    rw [if_neg HV.out]
    exact ⟨rfl, Ext.refl _⟩
  by_cases h1 : 16 < n
  · have HV := Lib.hid (show ¬ (1 ≤ n ∧ n ≤ 16) by omega)
    go_enter Tryz.func162, Tryz.ntmps162
    go_wp2_with fail
    go_ret2
    unfold HandMade
    rw [if_neg HV.out]
    exact ⟨rfl, Ext.refl _⟩
  obtain ⟨k, rfl⟩ := Int.eq_ofNat_of_zero_le (show 0 ≤ n by omega)
  have HV := Lib.hid (show (1 : Int) ≤ k ∧ (k : Int) ≤ 16 by omega)
  have hmk := run_made (P := Tryz.prog) 62 3 i0 _ 1 8 Tryz.underlying62 hi hz0 hz1 hz2 k (by omega) (by omega)
  simp only [Value.cells, made_one] at hmk
  have hk : k ≤ 16 := by omega
  go_enter Tryz.func162, Tryz.ntmps162
  go_wp2_with fail
  obtain ⟨q1, q2⟩ := two_blocks g.w (.cells (List.replicate k (Value.int .i64 0)).toArray 3) (.cells #[.int .i64 0, .bool false, .slice (some ⟨g.w.heap.size, 0, none⟩) k k, .int .i64 0] 213)
  have HB := Lib.hid (Blk.made (g := g) (t := t) q2 (by omega))
  have HR := Lib.hid (Row.made (g := g) (t := t) (n := k) (size := 1) q1 (Nat.le_refl _) (by simp) (by omega))
  have HE := Lib.hid (Mod.ext (T := fun _ => False) (show Ext g.w ((g.w.alloc (.cells (List.replicate k (Value.int .i64 0)).toArray 3)).alloc (.cells #[.int .i64 0, .bool false, .slice (some ⟨g.w.heap.size, 0, none⟩) k k, .int .i64 0] 213)) by (repeat (first | (with_reducible (first | assumption | exact zR _ | exact zM _ _ _ _)) | apply zA | refine zS ?_ (by first | exact zL _ | exact zK _ _ | assumption) _ | apply zP | apply zD | apply zN))) t)
  clear q1 q2
  have c0 := HB.out.cell (i := 2) rfl
  simp only [GW.to] at c0
  go_loopw [21] (fun i wr => ∃ (j : Nat) (own : Nat → Nat), j ≤ k ∧ i = .int .i64 j ∧ Hid (Mod (fun _ => False) g ⟨own, wr⟩) ∧ Hid (Blk ⟨own, wr⟩ t (g.w.heap.size + 1) 213 [.int .i64 0, .bool false, .slice (some ⟨g.w.heap.size, 0, none⟩) k k, .int .i64 0]) ∧ Hid (Row ⟨own, wr⟩ t 3 1 (.slice (some ⟨g.w.heap.size, 0, none⟩) k k) k ((List.replicate j (-1) ++ List.replicate (k - j) 0).map (Value.int .i64)))) (fun i _ => k - (intOf i).toNat)
  case atStart => exact ⟨0, _, Nat.zero_le _, rfl, HE, HB, Lib.hid (HR.out.weak rfl (by simp))⟩
  case round =>
    obtain ⟨j, own, hj, rfl, M, B, R⟩ := hrel
    clear c0 HE HB HR
    by_cases hlt : j < k
    · obtain ⟨r, hr, hrl, ho, hcell, hfr⟩ := R.out.block (by omega)
      simp only [Option.some.injEq, Addr.mk.injEq, and_true] at hr
      obtain rfl := hr
      have k0 := hcell j (.int .i64 0) (by rw [List.getElem?_map, List.getElem?_append_right (by simp), List.length_replicate, Nat.sub_self, List.getElem?_replicate, if_pos (by omega)]; rfl)
      have kf := hfr j
      simp only at k0 kf hrl
      have c0 := B.out.cell (i := 2) rfl
      simp only at c0
      clear hcell hfr ho
      go_wp2_with fail
      go_roundw
      case rel => exact ⟨j + 1, own, by omega, by go_num, Lib.hid (Mod.stn M.out (Nat.le_refl _)), Lib.hid (B.out.setOther j _ (by omega)), Lib.hid ((R.out.store j (.int .i64 (-1))).weak rfl (by rw [← fill_int hlt, List.map_set]))⟩
      case measure => simp [intOf]; omega
    · obtain rfl : j = k := by omega
      go_wp2_with fail
      go_ret2
      unfold HandMade
      rw [if_pos HV.out]
      refine ⟨own, _, rfl, M.out, ⟨⟨some ⟨g.w.heap.size, 0, none⟩, j, ?_, ?_⟩, by simpa using hk⟩⟩
      · have := B.out
        simpa using this
      · have := R.out
        simpa using this
end Go.Proofs.YtcpeoflomdhidaaGreat

/-
  tint: the table of states and colours.
-/
namespace Go.Proofs.YtcpeoflomdhidaaGreat
open Go Go.RowKit
set_option linter.unusedVariables false
set_option linter.unnecessarySimpa false

structure TabAt (g : GW) (t b : Nat) (T : TabS) : Prop where
  ex : ∃ A c, Blk g t b 108 [.slice A T.l.length c, .int .i64 (T.cnt 0), .int .i64 (T.cnt 1), .int .i64 (T.cnt 2)] ∧ Row g t 134 3 (.slice A T.l.length c) T.l.length (T.l.flatMap One.cells)
  len : T.l.length ≤ 1024
  st : ∀ o ∈ T.l, o.state ≤ 2
theorem TabAt.keep {S : Nat → Prop} {g g' : GW} {t b : Nat} {T : TabS} (h : TabAt g t b T) (m : Mod S g g') (hs : ¬ S t) : TabAt g' t b T := by
  obtain ⟨A, c, h1, h2⟩ := h.ex
  exact ⟨⟨A, c, h1.keep m hs, h2.keep m hs⟩, h.len, h.st⟩

theorem tab_has (b : Nat) (i : Int) (A : Option Addr) (n c : Nat) (w : World) (h0 : w.cell? ⟨b, 0, none⟩ = some (.slice A n c)) :
    Calls Tryz.prog 81 #[.pointer (some ⟨b, 0, none⟩), .int .i64 i] w (fun e w' => e = .returned (.bool (inB i n)) ∧ w = w') := by
  by_cases hi : 0 ≤ i
  · by_cases hl : i < n
    · have HV := Lib.hid (show inB i n = true by unfold inB; simp; omega)
      go_enter Tryz.func81, Tryz.ntmps81
      go_wp2_with fail
      go_ret
      exact ⟨by rw [HV.out]; try rfl, rfl⟩
    · have HV := Lib.hid (show inB i n = false from inB_big (by omega))
      go_enter Tryz.func81, Tryz.ntmps81
      go_wp2_with fail
      go_ret
      exact ⟨by rw [HV.out]; try rfl, rfl⟩
  · have HV := Lib.hid (show inB i n = false from inB_neg (by omega))
    go_enter Tryz.func81, Tryz.ntmps81
    go_wp2_with fail
    go_ret
    exact ⟨by rw [HV.out]; try rfl, rfl⟩

theorem tab_len (g : GW) (t b : Nat) (T : TabS) (h : TabAt g t b T) :
    Calls Tryz.prog 45 #[.pointer (some ⟨b, 0, none⟩)] g.w (fun e w' => e = .returned (.int .i64 T.l.length) ∧ g.w = w') := by
  obtain ⟨A, c, hb, hr⟩ := h.ex
  have c0 := hb.cell (i := 0) rfl
  clear hb hr h
  go_enter Tryz.func45, Tryz.ntmps45
  go_wp2_with fail
  go_ret
  exact ⟨rfl, rfl⟩

theorem TabAt.one {g : GW} {t b : Nat} {T : TabS} (h : TabAt g t b T) {k : Nat} (hk : k < T.l.length) : ∃ r c o, T.l[k]? = some o ∧ o.state ≤ 2 ∧
    Blk g t b 108 [.slice (some ⟨r, 0, none⟩) T.l.length c, .int .i64 (T.cnt 0), .int .i64 (T.cnt 1), .int .i64 (T.cnt 2)] ∧ Row g t 134 3 (.slice (some ⟨r, 0, none⟩) T.l.length c) T.l.length (T.l.flatMap One.cells) ∧ r < g.w.heap.size ∧
    g.w.cell? ⟨r, k * 3, none⟩ = some (.int .i64 o.state) ∧ g.w.cell? ⟨r, k * 3 + 1, none⟩ = some (.bool o.head) ∧ g.w.cell? ⟨r, k * 3 + 2, none⟩ = some (.bool o.sense) ∧ (∀ j, g.w.frozen? ⟨r, j, none⟩ = false) ∧ b ≠ r := by
  obtain ⟨A, c, hb, hr⟩ := h.ex
  obtain ⟨r, rfl, hl, ho, hc, hf⟩ := hr.block (by omega)
  have hx := List.getElem?_eq_getElem hk
  have hm := h.st _ (List.getElem_mem hk)
  generalize T.l[k] = o at *
  refine ⟨r, c, o, hx, hm, hb, hr, hl, ?_, ?_, ?_, hf, ?_⟩
  · exact hc _ _ (flat_at One.cells_len T.l k 0 o hx (by omega))
  · exact hc _ _ (flat_at One.cells_len T.l k 1 o hx (by omega))
  · exact hc _ _ (flat_at One.cells_len T.l k 2 o hx (by omega))
  · exact hr.ne_type hb (by decide) rfl

theorem tab_state (g : GW) (t b : Nat) (i : Int) (T : TabS) (h : TabAt g t b T) :
    Calls Tryz.prog 15 #[.pointer (some ⟨b, 0, none⟩), .int .i64 i] g.w (fun e w' => e = .returned (.int .i64 (T.state i)) ∧ g.w = w') := by
  cases hin : inB i T.l.length
  · have HV := Lib.hid (show T.state i = 0 by unfold TabS.state; rw [TabS.at_out hin]; rfl)
    obtain ⟨A, c, hb, hr⟩ := h.ex
    have c0 := hb.cell (i := 0) rfl
    clear hb hr h
    go_enter Tryz.func15, Tryz.ntmps15
    go_wp2_with fail
    refine (tab_has _ _ _ _ _ _ c0).mono ?_
    rintro e w1 ⟨rfl, rfl⟩
    go_wp2_with fail
    go_ret
    exact ⟨by rw [HV.out]; try rfl, rfl⟩
  · obtain ⟨k, rfl, hk⟩ := inB_true hin
    obtain ⟨r, c, o, ho, h2, hb, -, hrl, k0, -, -, -, -⟩ := h.one hk
    have HV := Lib.hid (show T.state k = o.state by unfold TabS.state; rw [TabS.at_in ho]; rfl)
    have c0 := hb.cell (i := 0) rfl
    have hlen := h.len
    generalize T.l.length = n at *
    clear hb h ho
    go_enter Tryz.func15, Tryz.ntmps15
    go_wp2_with fail
    refine (tab_has _ _ _ _ _ _ c0).mono ?_
    rintro e w1 ⟨rfl, rfl⟩
    go_wp2_with fail
    go_ret
    exact ⟨by rw [HV.out]; try rfl, rfl⟩

theorem tab_head (g : GW) (t b : Nat) (i : Int) (T : TabS) (h : TabAt g t b T) :
    Calls Tryz.prog 17 #[.pointer (some ⟨b, 0, none⟩), .int .i64 i] g.w (fun e w' => e = .returned (.bool (T.head i)) ∧ g.w = w') := by
  cases hin : inB i T.l.length
  · have HV := Lib.hid (show T.head i = false by unfold TabS.head; rw [TabS.at_out hin]; rfl)
    obtain ⟨A, c, hb, hr⟩ := h.ex
    have c0 := hb.cell (i := 0) rfl
    clear hb hr h
    go_enter Tryz.func17, Tryz.ntmps17
    go_wp2_with fail
    refine (tab_has _ _ _ _ _ _ c0).mono ?_
    rintro e w1 ⟨rfl, rfl⟩
    go_wp2_with fail
    go_ret
    exact ⟨by rw [HV.out]; try rfl, rfl⟩
  · obtain ⟨k, rfl, hk⟩ := inB_true hin
    obtain ⟨r, c, o, ho, h2, hb, -, hrl, -, k1, -, -, -⟩ := h.one hk
    have HV := Lib.hid (show T.head k = o.head by unfold TabS.head; rw [TabS.at_in ho]; rfl)
    have c0 := hb.cell (i := 0) rfl
    have hlen := h.len
    generalize T.l.length = n at *
    clear hb h ho
    go_enter Tryz.func17, Tryz.ntmps17
    go_wp2_with fail
    refine (tab_has _ _ _ _ _ _ c0).mono ?_
    rintro e w1 ⟨rfl, rfl⟩
    go_wp2_with fail
    go_ret
    exact ⟨by rw [HV.out]; try rfl, rfl⟩

theorem tab_black (g : GW) (t b : Nat) (i : Int) (s : Bool) (T : TabS) (h : TabAt g t b T) :
    Calls Tryz.prog 19 #[.pointer (some ⟨b, 0, none⟩), .int .i64 i, .bool s] g.w (fun e w' => e = .returned (.bool (T.black i s)) ∧ g.w = w') := by
  cases hst : T.state i == 2
  · have HV := Lib.hid (show T.black i s = false by unfold TabS.black; rw [hst]; rfl)
    have hz : ((T.state i : Int) == 2) = false := by rw [show (2 : Int) = ((2 : Nat) : Int) from rfl, beq_cast]; simpa using hst
    have HS := Lib.hid (tab_state g t b i T h)
    generalize T.state i = x at *
    clear hst
    go_enter Tryz.func19, Tryz.ntmps19
    go_wp2_with fail
    refine (HS.out).mono ?_
    rintro e w1 ⟨rfl, rfl⟩
    go_wp2_with fail
    go_ret
    exact ⟨by rw [HV.out]; try rfl, rfl⟩
  · cases hin : inB i T.l.length
    · rw [show T.state i = 0 by unfold TabS.state; rw [TabS.at_out hin]; rfl] at hst
      cases hst
    obtain ⟨k, rfl, hk⟩ := inB_true hin
    obtain ⟨r, c, o, ho, h2, hb, -, hrl, -, -, k2, -, -⟩ := h.one hk
    have HV := Lib.hid (show T.black k s = (o.sense == s) by unfold TabS.black TabS.sense; rw [hst, TabS.at_in ho]; rfl)
    have HS := Lib.hid (tab_state g t b k T h)
    have e2 : T.state k = 2 := by simpa using hst
    rw [e2] at HS
    have c0 := hb.cell (i := 0) rfl
    have hlen := h.len
    generalize T.l.length = n at *
    clear hb h ho hst e2
    go_enter Tryz.func19, Tryz.ntmps19
    go_wp2_with fail
    refine (HS.out).mono ?_
    rintro e w1 ⟨rfl, rfl⟩
    go_wp2_with fail
    go_ret
    exact ⟨by rw [HV.out]; try rfl, rfl⟩

theorem TabS.cnt_set {l : List One} {k : Nat} {o o' : One} (h : l[k]? = some o) (q : Nat) : ((TabS.cnt ⟨l.set k o'⟩ q : Nat) : Int) = (TabS.cnt ⟨l⟩ q : Int) - (if o.state == q then 1 else 0) + (if o'.state == q then 1 else 0) := by
  obtain ⟨hk, hx⟩ := List.getElem?_eq_some_iff.1 h
  unfold TabS.cnt
  simp only
  rw [List.countP_set hk, hx]
  have hp : (o.state == q) = true → 0 < l.countP (fun o => o.state == q) := fun ho => List.countP_pos_iff.2 ⟨o, List.mem_of_getElem? h, ho⟩
  by_cases h1 : (o.state == q) = true
  · have := hp h1
    rw [if_pos h1, if_pos h1]
    split <;> omega
  · rw [if_neg h1, if_neg h1]
    split <;> omega
theorem tabSet {t : TabS} {k : Nat} {s : Nat} {head sense : Bool} (hk : k < t.l.length) (hs : s ≤ 2) : t.set k s head sense = ⟨t.l.set k ⟨s, head && s == 2, sense⟩⟩ := by
  unfold TabS.set TabS.may
  rw [inB_cast hk, if_pos (by simp; omega)]
  simp
theorem flat_set3 (l : List One) (k : Nat) (hk : k < l.length) (y : One) : (l.set k y).flatMap One.cells = (((l.flatMap One.cells).set (k * 3) (.int .i64 y.state)).set (k * 3 + 1) (.bool y.head)).set (k * 3 + 2) (.bool y.sense) := by
  induction l generalizing k with
  | nil => simp at hk
  | cons x l ih =>
    cases k with
    | zero => rfl
    | succ k =>
      have := ih k (by simpa using hk)
      rw [List.set_cons_succ, List.flatMap_cons, this, List.flatMap_cons]
      rw [show (k + 1) * 3 = (One.cells x).length + k * 3 from by rw [One.cells_len]; omega]
      rw [List.set_append_right _ _ (by omega), List.set_append_right _ _ (by omega), List.set_append_right _ _ (by omega)]
      congr 4 <;> omega
theorem TabAt.stored {g : GW} {t b r c k st q : Nat} {T : TabS} {o1 o2 hd sense : Bool} {y1 y2 : Int} {W : World} (h : TabAt g t b T) (hk : k < T.l.length) (ho : T.l[k]? = some ⟨st, o1, o2⟩) (h1 : st ≤ 2) (h2 : q ≤ 2)
    (hb : Blk ⟨g.own, W⟩ t b 108 (([.slice (some ⟨r, 0, none⟩) T.l.length c, .int .i64 (T.cnt 0), .int .i64 (T.cnt 1), .int .i64 (T.cnt 2)].set (1 + st) (.int .i64 y1)).set (1 + q) (.int .i64 y2)))
    (hr : Row ⟨g.own, W⟩ t 134 3 (.slice (some ⟨r, 0, none⟩) T.l.length c) T.l.length ((((T.l.flatMap One.cells).set (k * 3) (.int .i64 q)).set (k * 3 + 1) (.bool hd)).set (k * 3 + 2) (.bool sense)))
    (e1 : y1 = T.cnt st - 1) (e2 : y2 = if st = q then (T.cnt st : Int) else T.cnt q + 1) :
    TabAt ⟨g.own, W⟩ t b ⟨T.l.set k ⟨q, hd, sense⟩⟩ := by
  refine ⟨⟨some ⟨r, 0, none⟩, c, ?_, ?_⟩, by simpa using h.len, fun u hu => ?_⟩
  · simp only [List.length_set]
    rw [TabS.cnt_set ho, TabS.cnt_set ho, TabS.cnt_set ho]
    subst e1 e2
    rcases (show st = 0 ∨ st = 1 ∨ st = 2 by omega) with rfl | rfl | rfl <;> rcases (show q = 0 ∨ q = 1 ∨ q = 2 by omega) with rfl | rfl | rfl <;> simpa using hb
  · simp only [List.length_set]
    rw [flat_set3 _ _ hk]
    exact hr
  · rcases List.mem_or_eq_of_mem_set hu with hu | rfl
    · exact h.st u hu
    · exact h2
theorem TabAt.cell {g : GW} {t b r c : Nat} {T : TabS} (hb : Blk g t b 108 [.slice (some ⟨r, 0, none⟩) T.l.length c, .int .i64 (T.cnt 0), .int .i64 (T.cnt 1), .int .i64 (T.cnt 2)]) {q : Nat} (hq : q ≤ 2) :
    g.w.cell? ⟨b, 1 + q, none⟩ = some (.int .i64 (T.cnt q)) := by
  rcases (show q = 0 ∨ q = 1 ∨ q = 2 by omega) with rfl | rfl | rfl
  · exact hb.cell (i := 1) rfl
  · exact hb.cell (i := 2) rfl
  · exact hb.cell (i := 3) rfl
theorem TabAt.pt {g : GW} {t b : Nat} {T : TabS} (h : TabAt g t b T) (X : Extra) : TabAt (g.pt X) t b T := h.keep (S := fun _ => False) (Mod.pt (Mod.refl _ _) X) id

set_option maxHeartbeats 4000000 in
theorem tab_set (g : GW) (t b : Nat) (i s : Int) (hd sense : Bool) (T : TabS) (h : TabAt g t b T) :
    Calls Tryz.prog 199 #[.pointer (some ⟨b, 0, none⟩), .int .i64 i, .int .i64 s, .bool hd, .bool sense] g.w (Does (.bool (T.may i s)) g (fun x => x = t) (fun g' => TabAt g' t b (T.set i s hd sense))) := by
  cases hin : inB i T.l.length
  · have hm : T.may i s = false := by unfold TabS.may; rw [hin]; rfl
    have HV := Lib.hid hm
    have HT := Lib.hid (show T.set i s hd sense = T by unfold TabS.set; rw [hm]; rfl)
    obtain ⟨A, c, hb, hr⟩ := h.ex
    have c0 := hb.cell (i := 0) rfl
    have H := Lib.hid h
    clear hb hr h hm
    go_enter Tryz.func199, Tryz.ntmps199
    go_wp2_with fail
    refine (tab_has _ _ _ _ _ _ c0).mono ?_
    rintro e w1 ⟨rfl, rfl⟩
    go_wp2_with fail
    go_ret
    exact Does.of g rfl (by rw [HV.out]; try rfl) (Mod.refl _ _) (by rw [HT.out]; exact H.out)
  · obtain ⟨k, rfl, hk⟩ := inB_true hin
    by_cases hs : 0 ≤ s ∧ s ≤ 2
    · obtain ⟨q, rfl⟩ := Int.eq_ofNat_of_zero_le hs.1
      have hq : q ≤ 2 := by omega
      have HM := Lib.hid (show T.may k q = true by unfold TabS.may; rw [hin]; simp; omega)
      obtain ⟨r, c, o, ho, h2, hb, hr, hrl, k0, k1, k2, kf, hne⟩ := h.one hk
      have HT := Lib.hid (tabSet (head := hd) (sense := sense) hk hq)
      have HO := Lib.hid ho
      have HB := Lib.hid hb
      have HR := Lib.hid hr
      have H := Lib.hid h
      have HOB := Lib.hid hb.own
      have HOR := Lib.hid (hr.own r rfl)
      have HK := Lib.hid hk
      have hlen := h.len
      have hbl := hb.lt
      have c0 := hb.cell (i := 0) rfl
      obtain ⟨st, ho1, ho2⟩ := o
      simp only at h2 k0 k1 k2
      have cs := TabAt.cell hb h2
      have cq := TabAt.cell hb hq
      have fs := hb.live (1 + st)
      have fq := hb.live (1 + q)
      have ns : T.cnt st ≤ 1024 := Nat.le_trans List.countP_le_length hlen
      have nq : T.cnt q ≤ 1024 := Nat.le_trans List.countP_le_length hlen
      have g0 := kf (k * 3)
      have g1 := kf (k * 3 + 1)
      have g2 := kf (k * 3 + 2)
      have hne' : r ≠ b := fun e => hne e.symm
      have HN := Lib.hid hne'
      clear hb hr h ho hs kf
      obtain ⟨hd', hhd, hcase⟩ : ∃ hd', (hd && q == 2) = hd' ∧ ((hd = false ∧ hd' = false) ∨ (hd = true ∧ ((q : Int) == 2) = true ∧ hd' = true) ∨ (hd = true ∧ ((q : Int) == 2) = false ∧ hd' = false)) := by
        refine ⟨_, rfl, ?_⟩
        rw [show (2 : Int) = ((2 : Nat) : Int) from rfl, beq_cast]
        cases hd
        · simp
        · by_cases h : q = 2 <;> simp [h]
      rw [hhd] at HT
      clear hhd
      by_cases hsq : st = q
      · subst hsq
        clear cq fq nq
        rcases hcase with ⟨rfl, rfl⟩ | ⟨rfl, hq2, rfl⟩ | ⟨rfl, hq2, rfl⟩
        all_goals
          go_enter Tryz.func199, Tryz.ntmps199
          go_wp2_with fail
          refine (tab_has _ _ _ _ _ _ c0).mono ?_
          rintro e w1 ⟨rfl, rfl⟩
          go_wp2_with fail
          refine wp_region_mixed [true, true, true, true, true, true, true, true, true, true, true, true, true, true, true, true, true, false] 1 17 (by kernel_rfl) (by kernel_rfl) (by kernel_rfl) ?_ (by decide) (by decide) (by decide) (by kernel_rfl) ?_
          · intro c a d v w h; cases d <;> exact h
          intro X00
          simp only [pickOps]
          repeat (go_big_quiet_step (fail))
          refine wpQuiet_nil (fun X0 => ?_)
          clear X00
          refine wpAnyM_last 17 _ (by kernel_rfl) (by kernel_rfl) rfl rfl (fun X1 K Q' hK => ?_)
          go_simp
          refine hK _ _ (fun X2 => ?_)
          clear hK K Q'
          go_wp2_with fail
          refine wp_region_mixed [true, true, true, true, true, true, true, true, true, true, false] 1 10 (by kernel_rfl) (by kernel_rfl) (by kernel_rfl) ?_ (by decide) (by decide) (by decide) (by kernel_rfl) ?_
          · intro c a d v w h; cases d <;> exact h
          intro X00
          simp only [pickOps]
          repeat (go_big_quiet_step (fail))
          refine wpQuiet_nil (fun X0 => ?_)
          clear X00
          refine wpAnyM_last 10 _ (by kernel_rfl) (by kernel_rfl) rfl rfl (fun X1 K Q' hK => ?_)
          go_simp
          refine hK _ _ (fun X2 => ?_)
          clear hK K Q'
          go_wp2_with fail
          go_ret
          refine Does.of (GW.pt ⟨g.own, _⟩ _) rfl (by rw [HM.out]; rfl) (Mod.pt (Mod.st (Mod.st (Mod.st (Mod.st (Mod.st Mod.self HOB.out) HOB.out) HOR.out) HOR.out) HOR.out) _) ?_
          rw [HT.out]
          refine TabAt.pt (TabAt.stored (r := r) (c := c) H.out HK.out HO.out h2 hq ?hb ?hr rfl (if_pos rfl).symm) _
          case hb => exact ((((HB.out.set _ _).set _ _).setOther _ _ HN.out).setOther _ _ HN.out).setOther _ _ HN.out
          case hr => exact ((((HR.out.setOther _ _ (fun x hx e => HN.out (by injection hx with hx; exact hx.trans e.symm))).setOther _ _ (fun x hx e => HN.out (by injection hx with hx; exact hx.trans e.symm))).store _ _).store _ _).store _ _
      · have hsq' : ¬ q = st := fun e => hsq e.symm
        rcases hcase with ⟨rfl, rfl⟩ | ⟨rfl, hq2, rfl⟩ | ⟨rfl, hq2, rfl⟩
        all_goals
          go_enter Tryz.func199, Tryz.ntmps199
          go_wp2_with fail
          refine (tab_has _ _ _ _ _ _ c0).mono ?_
          rintro e w1 ⟨rfl, rfl⟩
          go_wp2_with fail
          refine wp_region_mixed [true, true, true, true, true, true, true, true, true, true, true, true, true, true, true, true, true, false] 1 17 (by kernel_rfl) (by kernel_rfl) (by kernel_rfl) ?_ (by decide) (by decide) (by decide) (by kernel_rfl) ?_
          · intro c a d v w h; cases d <;> exact h
          intro X00
          simp only [pickOps]
          repeat (go_big_quiet_step (fail))
          refine wpQuiet_nil (fun X0 => ?_)
          clear X00
          refine wpAnyM_last 17 _ (by kernel_rfl) (by kernel_rfl) rfl rfl (fun X1 K Q' hK => ?_)
          go_simp
          refine hK _ _ (fun X2 => ?_)
          clear hK K Q'
          go_wp2_with fail
          refine wp_region_mixed [true, true, true, true, true, true, true, true, true, true, false] 1 10 (by kernel_rfl) (by kernel_rfl) (by kernel_rfl) ?_ (by decide) (by decide) (by decide) (by kernel_rfl) ?_
          · intro c a d v w h; cases d <;> exact h
          intro X00
          simp only [pickOps]
          repeat (go_big_quiet_step (fail))
          refine wpQuiet_nil (fun X0 => ?_)
          clear X00
          refine wpAnyM_last 10 _ (by kernel_rfl) (by kernel_rfl) rfl rfl (fun X1 K Q' hK => ?_)
          go_simp
          refine hK _ _ (fun X2 => ?_)
          clear hK K Q'
          go_wp2_with fail
          go_ret
          refine Does.of (GW.pt ⟨g.own, _⟩ _) rfl (by rw [HM.out]; rfl) (Mod.pt (Mod.st (Mod.st (Mod.st (Mod.st (Mod.st Mod.self HOB.out) HOB.out) HOR.out) HOR.out) HOR.out) _) ?_
          rw [HT.out]
          refine TabAt.pt (TabAt.stored (r := r) (c := c) H.out HK.out HO.out h2 hq ?hb ?hr rfl (if_neg hsq).symm) _
          case hb => exact ((((HB.out.set _ _).set _ _).setOther _ _ HN.out).setOther _ _ HN.out).setOther _ _ HN.out
          case hr => exact ((((HR.out.setOther _ _ (fun x hx e => HN.out (by injection hx with hx; exact hx.trans e.symm))).setOther _ _ (fun x hx e => HN.out (by injection hx with hx; exact hx.trans e.symm))).store _ _).store _ _).store _ _
    · have hm : T.may k s = false := by unfold TabS.may; rw [hin]; simp; omega
      have HV := Lib.hid hm
      have HT := Lib.hid (show T.set k s hd sense = T by unfold TabS.set; rw [hm]; rfl)
      obtain ⟨A, c, hb, hr⟩ := h.ex
      have c0 := hb.cell (i := 0) rfl
      have H := Lib.hid h
      have hlen := h.len
      clear hb hr h hm
      by_cases h0 : s < 0
      · clear hs
        go_enter Tryz.func199, Tryz.ntmps199
        go_wp2_with fail
        refine (tab_has _ _ _ _ _ _ c0).mono ?_
        rintro e w1 ⟨rfl, rfl⟩
        go_wp2_with fail
        go_ret
        exact Does.of g rfl (by rw [HV.out]; try rfl) (Mod.refl _ _) (by rw [HT.out]; exact H.out)
      · have h2 : 2 < s := by omega
        clear hs
        go_enter Tryz.func199, Tryz.ntmps199
        go_wp2_with fail
        refine (tab_has _ _ _ _ _ _ c0).mono ?_
        rintro e w1 ⟨rfl, rfl⟩
        go_wp2_with fail
        go_ret
        exact Does.of g rfl (by rw [HV.out]; try rfl) (Mod.refl _ _) (by rw [HT.out]; exact H.out)
end Go.Proofs.YtcpeoflomdhidaaGreat

/-
  conf: which configurations may be.
-/
namespace Go.Proofs.YtcpeoflomdhidaaGreat
open Go Go.RowKit

theorem within_any (a b c : Int) (w : World) :
    Calls Tryz.prog 118 #[.int .i64 a, .int .i64 b, .int .i64 c] w (Gives (.bool (within a b c)) w) := by
  by_cases h : b ≤ a
  · go_enter Tryz.func118, Tryz.ntmps118
    go_wp2
    go_ret
    exact Gives.bool (by simp [within, h]) (.refl _)
  · go_enter Tryz.func118, Tryz.ntmps118
    go_wp2
    go_ret
    exact Gives.bool (by simp [within]; omega) (.refl _)

theorem may_any (s : Shp) (w : World) (hs : s.Ok w) : Calls Tryz.prog 121 #[s.val] w (Gives (.bool s.may) w) := by
  obtain ⟨arr, A, cap, refs⟩ := s
  have hl := hs.max
  simp only [Shp.val, Shp.may] at hl ⊢
  generalize refs.length = n at *
  clear hs
  by_cases h : n ≤ 40
  · cases arr
    · go_enter Tryz.func121, Tryz.ntmps121
      go_wp2
      go_ret
      exact Gives.bool (by simp [h]) (by (repeat (first | (with_reducible (first | assumption | exact zR _ | exact zM _ _ _ _)) | apply zA | refine zS ?_ (by first | exact zL _ | exact zK _ _ | assumption) _ | apply zP | apply zD | apply zN)))
    · go_enter Tryz.func121, Tryz.ntmps121
      go_wp2
      go_ret
      exact Gives.bool (by rw [show (1 : Int) = ((1 : Nat) : Int) from rfl, beq_cast]; simp [h]) (by (repeat (first | (with_reducible (first | assumption | exact zR _ | exact zM _ _ _ _)) | apply zA | refine zS ?_ (by first | exact zL _ | exact zK _ _ | assumption) _ | apply zP | apply zD | apply zN)))
  · go_enter Tryz.func121, Tryz.ntmps121
    go_wp2
    go_ret
    exact Gives.bool (by simp) (by (repeat (first | (with_reducible (first | assumption | exact zR _ | exact zM _ _ _ _)) | apply zA | refine zS ?_ (by first | exact zL _ | exact zK _ _ | assumption) _ | apply zP | apply zD | apply zN)))

theorem check1_any (s : Shp) (w : World) (hs : s.Ok w) : Calls Tryz.prog 120 #[s.val] w (Gives (.bool (!s.may)) w) := by
  unfold Shp.val
  go_enter Tryz.func120, Tryz.ntmps120
  go_wp2_with fail
  refine (may_any s _ (hs.ext (by (repeat (first | (with_reducible (first | assumption | exact zR _ | exact zM _ _ _ _)) | apply zA | refine zS ?_ (by first | exact zL _ | exact zK _ _ | assumption) _ | apply zP | apply zD | apply zN))))).mono ?_
  rintro e w1 ⟨rfl, X, rfl⟩
  go_wp2_with fail
  go_ret
  exact Gives.bool rfl (by (repeat (first | (with_reducible (first | assumption | exact zR _ | exact zM _ _ _ _)) | apply zA | refine zS ?_ (by first | exact zL _ | exact zK _ _ | assumption) _ | apply zP | apply zD | apply zN)))

theorem index_any (A : Option Addr) (cap : Nat) (l : List Shp) (w : World) (hc : CellsAt w A (l.flatMap Shp.cells)) (hs : ∀ s ∈ l, s.Ok w) (hl : l.length ≤ 140737488355328) :
    Calls Tryz.prog 206 #[.slice A l.length cap, .func (.func 120) #[] #[]] w
      (fun e w' => ∃ n : Int, e = .returned (.int .i64 n) ∧ decide (0 ≤ n) = badIn l ∧ ∃ X, w' = w.patch X) := by
  go_enter Tryz.func206, Tryz.ntmps206
  go_wp2_with fail
  go_loopw [8] (fun i wr => ∃ k : Nat, k ≤ l.length ∧ i = .int .i64 k ∧ (∀ s ∈ l.take k, s.may = true) ∧ Ext w wr) (fun i _ => l.length - (intOf i).toNat)
  case atStart => exact ⟨0, Nat.zero_le _, rfl, by simp, Ext.refl _⟩
  case round =>
    obtain ⟨k, hk, rfl, hm, X, rfl⟩ := hrel
    have HM := Lib.hid hm
    clear hm
    by_cases hlt : k < l.length
    · obtain ⟨b, o, rfl, hb, g0, g1⟩ := shapes_at hc hlt
      have hsk := hs l[k] (List.getElem_mem hlt)
      generalize hS : l[k] = s at *
      have HS := Lib.hid hS
      clear hS hc hs
      go_wp2_with fail
      refine (check1_any s _ (hsk.ext (by (repeat (first | (with_reducible (first | assumption | exact zR _ | exact zM _ _ _ _)) | apply zA | refine zS ?_ (by first | exact zL _ | exact zK _ _ | assumption) _ | apply zP | apply zD | apply zN))))).mono ?_
      rintro e w1 ⟨rfl, X1, rfl⟩
      have hk' : l[k]? = some s := by rw [List.getElem?_eq_getElem hlt, HS.out]
      cases hb : s.may
      · have HB := Lib.hid (badIn_yes hk' hb)
        have HK := Lib.hid hk'
        clear hk'
        go_wp2_with fail
        go_ret
        exact ⟨_, rfl, by rw [HB.out]; simp, by (repeat (first | (with_reducible (first | assumption | exact zR _ | exact zM _ _ _ _)) | apply zA | refine zS ?_ (by first | exact zL _ | exact zK _ _ | assumption) _ | apply zP | apply zD | apply zN))⟩
      · have HT := Lib.hid (take_all hk' HM.out hb)
        clear hk'
        go_wp2_with fail
        go_roundw
        case rel => exact ⟨k + 1, by omega, by go_num, HT.out, by (repeat (first | (with_reducible (first | assumption | exact zR _ | exact zM _ _ _ _)) | apply zA | refine zS ?_ (by first | exact zL _ | exact zK _ _ | assumption) _ | apply zP | apply zD | apply zN))⟩
        case measure => simp [intOf]; omega
    · have HB := Lib.hid (badIn_no (l := l) (by intro s hs; exact HM.out s (by rw [List.take_of_length_le (by omega)]; exact hs)))
      go_wp2_with fail
      go_ret
      exact ⟨_, rfl, by rw [HB.out]; simp, by (repeat (first | (with_reducible (first | assumption | exact zR _ | exact zM _ _ _ _)) | apply zA | refine zS ?_ (by first | exact zL _ | exact zK _ _ | assumption) _ | apply zP | apply zD | apply zN))⟩

theorem contains_any (A : Option Addr) (cap : Nat) (l : List Shp) (w : World) (hc : CellsAt w A (l.flatMap Shp.cells)) (hs : ∀ s ∈ l, s.Ok w) (hl : l.length ≤ 140737488355328) :
    Calls Tryz.prog 119 #[.slice A l.length cap, .func (.func 120) #[] #[]] w (Gives (.bool (badIn l)) w) := by
  go_enter Tryz.func119, Tryz.ntmps119
  go_wp2_with fail
  refine (index_any A cap l _ hc hs hl).mono ?_
  rintro e w1 ⟨n, rfl, hn, X, rfl⟩
  have HN := Lib.hid hn
  clear hn
  go_wp2_with fail
  go_ret
  exact Gives.bool HN.out (by (repeat (first | (with_reducible (first | assumption | exact zR _ | exact zM _ _ _ _)) | apply zA | refine zS ?_ (by first | exact zL _ | exact zK _ _ | assumption) _ | apply zP | apply zD | apply zN)))

set_option maxHeartbeats 3200000 in
theorem check_any (c : Cnf) (w : World) (hc : c.Ok w) : Calls Tryz.prog 44 #[c.val] w (Gives (.int .i64 c.check) w) := by
  unfold Cnf.val
  go_enter Tryz.func44, Tryz.ntmps44
  go_wp2_with fail
  refine wp_region_mixed [true, true, true, true, true, true, true, true, true, true, true, true, true, true, true, true, true, true, true, true, true, true, true, true, true, true, false, false, true] 2 29 (by kernel_rfl) (by kernel_rfl) (by kernel_rfl) ?_ (by decide) (by decide) (by decide) (by kernel_rfl) ?_
  · intro c a d v w h; cases d <;> exact h
  intro X00
  simp only [pickOps]
  repeat (go_big_quiet_step ((go_at_call 118; exact Calls.added (within_any _ _ _ _))))
  refine wpQuiet_nil (fun X0 => ?_)
  clear X00
  refine wpAnyM_one 26 _ (by kernel_rfl) rfl rfl (by decide) (fun X1 K Q' hK => ?_)
  go_simp
  refine hK _ _ ?_ ?_
  · (repeat (first | (with_reducible (first | assumption | exact zR _ | exact zM _ _ _ _)) | apply zA | refine zS ?_ (by first | exact zL _ | exact zK _ _ | assumption) _ | apply zP | apply zD | apply zN))
  clear hK K Q'
  refine wpAnyM_one 27 _ (by kernel_rfl) rfl rfl (by decide) (fun X1 K Q' hK => ?_)
  go_simp
  refine hK _ _ ?_ ?_
  · (repeat (first | (with_reducible (first | assumption | exact zR _ | exact zM _ _ _ _)) | apply zA | refine zS ?_ (by first | exact zL _ | exact zK _ _ | assumption) _ | apply zP | apply zD | apply zN))
  clear hK K Q'
  refine wpAnyM_done (by kernel_rfl) (fun X2 => ?_) _
  go_wp2_with fail
  go_loop [33] (fun i => ∃ k : Nat, k ≤ 8 ∧ i = .int .i64 k ∧ c.rangedTo k = true) (fun i => 8 - (intOf i).toNat)
  case atStart => exact ⟨0, by omega, rfl, rfl⟩
  case round =>
    obtain ⟨k, hk, rfl, hb⟩ := hrel
    have HB := Lib.hid hb
    clear hb
    by_cases hlt : k < 8
    · rcases (show k = 0 ∨ k = 1 ∨ k = 2 ∨ k = 3 ∨ k = 4 ∨ k = 5 ∨ k = 6 ∨ k = 7 by omega) with rfl | rfl | rfl | rfl | rfl | rfl | rfl | rfl
      · clear hk hlt
        go_wp2_with fail
        · have h : (!within c.frags 4 1024) = true := by assumption
          go_ret
          exact Gives.int (Eq.symm (Cnf.check_out (k := 0) (by simp only [Bool.not_eq_true'] at h; simp [Cnf.ranges, h]))) (by (repeat (first | (with_reducible (first | assumption | exact zR _ | exact zM _ _ _ _)) | apply zA | refine zS ?_ (by first | exact zL _ | exact zK _ _ | assumption) _ | apply zP | apply zD | apply zN)))
        · have h : (!within c.frags 4 1024) = false := by assumption
          have HN := Cnf.rangedTo_succ HB.out (k := 0) (b := true) (by simp only [Bool.not_eq_false'] at h; simp [Cnf.ranges, h]) rfl
          exact ⟨⟨_, _, _, ⟨1, by omega, rfl, HN⟩, rfl, rfl, rfl⟩, by simp [intOf]⟩
      · clear hk hlt
        go_wp2_with fail
        · have h : (!within c.spine 0 2048) = true := by assumption
          go_ret
          exact Gives.int (Eq.symm (Cnf.check_out (k := 1) (by simp only [Bool.not_eq_true'] at h; simp [Cnf.ranges, h]))) (by (repeat (first | (with_reducible (first | assumption | exact zR _ | exact zM _ _ _ _)) | apply zA | refine zS ?_ (by first | exact zL _ | exact zK _ _ | assumption) _ | apply zP | apply zD | apply zN)))
        · have h : (!within c.spine 0 2048) = false := by assumption
          have HN := Cnf.rangedTo_succ HB.out (k := 1) (b := true) (by simp only [Bool.not_eq_false'] at h; simp [Cnf.ranges, h]) rfl
          exact ⟨⟨_, _, _, ⟨2, by omega, rfl, HN⟩, rfl, rfl, rfl⟩, by simp [intOf]⟩
      · clear hk hlt
        go_wp2_with fail
        · have h : (!within c.globals 0 8) = true := by assumption
          go_ret
          exact Gives.int (Eq.symm (Cnf.check_out (k := 2) (by simp only [Bool.not_eq_true'] at h; simp [Cnf.ranges, h]))) (by (repeat (first | (with_reducible (first | assumption | exact zR _ | exact zM _ _ _ _)) | apply zA | refine zS ?_ (by first | exact zL _ | exact zK _ _ | assumption) _ | apply zP | apply zD | apply zN)))
        · have h : (!within c.globals 0 8) = false := by assumption
          have HN := Cnf.rangedTo_succ HB.out (k := 2) (b := true) (by simp only [Bool.not_eq_false'] at h; simp [Cnf.ranges, h]) rfl
          exact ⟨⟨_, _, _, ⟨3, by omega, rfl, HN⟩, rfl, rfl, rfl⟩, by simp [intOf]⟩
      · clear hk hlt
        go_wp2_with fail
        · have h : (!within c.threads 1 16) = true := by assumption
          go_ret
          exact Gives.int (Eq.symm (Cnf.check_out (k := 3) (by simp only [Bool.not_eq_true'] at h; simp [Cnf.ranges, h]))) (by (repeat (first | (with_reducible (first | assumption | exact zR _ | exact zM _ _ _ _)) | apply zA | refine zS ?_ (by first | exact zL _ | exact zK _ _ | assumption) _ | apply zP | apply zD | apply zN)))
        · have h : (!within c.threads 1 16) = false := by assumption
          have HN := Cnf.rangedTo_succ HB.out (k := 3) (b := true) (by simp only [Bool.not_eq_false'] at h; simp [Cnf.ranges, h]) rfl
          exact ⟨⟨_, _, _, ⟨4, by omega, rfl, HN⟩, rfl, rfl, rfl⟩, by simp [intOf]⟩
      · clear hk hlt
        go_wp2_with fail
        · have h : (!within c.locals 1 8) = true := by assumption
          go_ret
          exact Gives.int (Eq.symm (Cnf.check_out (k := 4) (by simp only [Bool.not_eq_true'] at h; simp [Cnf.ranges, h]))) (by (repeat (first | (with_reducible (first | assumption | exact zR _ | exact zM _ _ _ _)) | apply zA | refine zS ?_ (by first | exact zL _ | exact zK _ _ | assumption) _ | apply zP | apply zD | apply zN)))
        · have h : (!within c.locals 1 8) = false := by assumption
          have HN := Cnf.rangedTo_succ HB.out (k := 4) (b := true) (by simp only [Bool.not_eq_false'] at h; simp [Cnf.ranges, h]) rfl
          exact ⟨⟨_, _, _, ⟨5, by omega, rfl, HN⟩, rfl, rfl, rfl⟩, by simp [intOf]⟩
      · clear hk hlt
        go_wp2_with fail
        · have h : (!within c.cache 0 8) = true := by assumption
          go_ret
          exact Gives.int (Eq.symm (Cnf.check_out (k := 5) (by simp only [Bool.not_eq_true'] at h; simp [Cnf.ranges, h]))) (by (repeat (first | (with_reducible (first | assumption | exact zR _ | exact zM _ _ _ _)) | apply zA | refine zS ?_ (by first | exact zL _ | exact zK _ _ | assumption) _ | apply zP | apply zD | apply zN)))
        · have h : (!within c.cache 0 8) = false := by assumption
          have HN := Cnf.rangedTo_succ HB.out (k := 5) (b := true) (by simp only [Bool.not_eq_false'] at h; simp [Cnf.ranges, h]) rfl
          exact ⟨⟨_, _, _, ⟨6, by omega, rfl, HN⟩, rfl, rfl, rfl⟩, by simp [intOf]⟩
      · clear hk hlt
        go_wp2_with fail
        · have h : (!within c.stack 1 256) = true := by assumption
          go_ret
          exact Gives.int (Eq.symm (Cnf.check_out (k := 6) (by simp only [Bool.not_eq_true'] at h; simp [Cnf.ranges, h]))) (by (repeat (first | (with_reducible (first | assumption | exact zR _ | exact zM _ _ _ _)) | apply zA | refine zS ?_ (by first | exact zL _ | exact zK _ _ | assumption) _ | apply zP | apply zD | apply zN)))
        · have h : (!within c.stack 1 256) = false := by assumption
          have HN := Cnf.rangedTo_succ HB.out (k := 6) (b := true) (by simp only [Bool.not_eq_false'] at h; simp [Cnf.ranges, h]) rfl
          exact ⟨⟨_, _, _, ⟨7, by omega, rfl, HN⟩, rfl, rfl, rfl⟩, by simp [intOf]⟩
      · clear hk hlt
        go_wp2_with fail
        · have h : (!within c.low 0 c.frags) = true := by assumption
          go_ret
          exact Gives.int (Eq.symm (Cnf.check_out (k := 7) (by simp only [Bool.not_eq_true'] at h; simp [Cnf.ranges, h]))) (by (repeat (first | (with_reducible (first | assumption | exact zR _ | exact zM _ _ _ _)) | apply zA | refine zS ?_ (by first | exact zL _ | exact zK _ _ | assumption) _ | apply zP | apply zD | apply zN)))
        · have h : (!within c.low 0 c.frags) = false := by assumption
          have HN := Cnf.rangedTo_succ HB.out (k := 7) (b := true) (by simp only [Bool.not_eq_false'] at h; simp [Cnf.ranges, h]) rfl
          exact ⟨⟨_, _, _, ⟨8, by omega, rfl, HN⟩, rfl, rfl, rfl⟩, by simp [intOf]⟩
    · obtain rfl : k = 8 := by omega
      clear hk hlt
      obtain ⟨⟨_, _⟩, _, _, ⟨_, _⟩, _, ⟨_, _⟩, _, _⟩ := Cnf.ranged HB.out
      have hm1 : 0 ≤ c.threads * c.cache := Int.mul_nonneg (by omega) (by omega)
      have hm2 : c.threads * c.cache ≤ 16 * 8 := Int.mul_le_mul (by omega) (by omega) (by omega) (by omega)
      by_cases hp : c.threads * c.cache ≤ c.frags
      · cases hw : within c.shapes.length 1 8
        · have HC := Lib.hid (show c.check = 4 by simp [Cnf.check, HB.out, hp, hw])
          go_wp2_with fail
          refine (within_any _ _ _ _).mono ?_
          rw [hw]
          rintro e w1 ⟨rfl, X3, rfl⟩
          go_wp2_with fail
          go_ret
          exact Gives.int HC.out.symm (by (repeat (first | (with_reducible (first | assumption | exact zR _ | exact zM _ _ _ _)) | apply zA | refine zS ?_ (by first | exact zL _ | exact zK _ _ | assumption) _ | apply zP | apply zD | apply zN)))
        · have HC := Lib.hid (show c.check = if badIn c.shapes then 4 else 0 by simp only [Cnf.check, HB.out, hp, hw]; cases badIn c.shapes <;> simp)
          go_wp2_with fail
          refine (within_any _ _ _ _).mono ?_
          rw [hw]
          rintro e w1 ⟨rfl, X3, rfl⟩
          go_wp2_with fail
          refine (contains_any _ _ _ _ (hc.cells.ext (by (repeat (first | (with_reducible (first | assumption | exact zR _ | exact zM _ _ _ _)) | apply zA | refine zS ?_ (by first | exact zL _ | exact zK _ _ | assumption) _ | apply zP | apply zD | apply zN)))) (fun s hs => (hc.shapes s hs).ext (by (repeat (first | (with_reducible (first | assumption | exact zR _ | exact zM _ _ _ _)) | apply zA | refine zS ?_ (by first | exact zL _ | exact zK _ _ | assumption) _ | apply zP | apply zD | apply zN)))) hc.max).mono ?_
          rintro e w1 ⟨rfl, X4, rfl⟩
          cases hb : badIn c.shapes
          · rw [hb] at HC
            go_wp2_with fail
            go_ret
            exact Gives.int HC.out.symm (by (repeat (first | (with_reducible (first | assumption | exact zR _ | exact zM _ _ _ _)) | apply zA | refine zS ?_ (by first | exact zL _ | exact zK _ _ | assumption) _ | apply zP | apply zD | apply zN)))
          · rw [hb] at HC
            go_wp2_with fail
            go_ret
            exact Gives.int HC.out.symm (by (repeat (first | (with_reducible (first | assumption | exact zR _ | exact zM _ _ _ _)) | apply zA | refine zS ?_ (by first | exact zL _ | exact zK _ _ | assumption) _ | apply zP | apply zD | apply zN)))
      · have HC := Lib.hid (show c.check = 1 by simp [Cnf.check, hp])
        go_wp2_with fail
        go_ret
        exact Gives.int HC.out.symm (by (repeat (first | (with_reducible (first | assumption | exact zR _ | exact zM _ _ _ _)) | apply zA | refine zS ?_ (by first | exact zL _ | exact zK _ _ | assumption) _ | apply zP | apply zD | apply zN)))
end Go.Proofs.YtcpeoflomdhidaaGreat

