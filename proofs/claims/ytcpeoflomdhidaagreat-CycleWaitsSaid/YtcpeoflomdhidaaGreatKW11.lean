import Derived.Test.YtcpeoflomdhidaaGreatKW10
import Derived.Deep.DeepCutAuto
import Derived.Maps.OwnSet
import Derived.Maps.OwnOps
/-
  Packed: HaulS, From, Scope2, Dist, Plan1, Whole, HaulM, CyS, CyA, CyB.
-/
open Go.Ext renaming alloc → zA, patch → zP, drew → zD, drewN → zN, more → zM, refl → zR, setCell → zS
open Nat renaming le_refl → zL, le_add_right → zK
/-
  haul: the program's state, in memory; New, the readers; read, write, owner, next.
-/
namespace Go.Proofs.YtcpeoflomdhidaaGreat
open Go Go.RowKit
set_option linter.unusedVariables false
set_option linter.unnecessarySimpa false
set_option linter.unusedSimpArgs false
set_option maxHeartbeats 2000000
set_option maxRecDepth 100000
structure HaulS where
  c : Cnf
  frm : Int
  fin : Int
  sense : Bool
  pc : Int
  k : Int
  dst : Int
  head : Int
  d : Int
  j : Int
  wp : Nat
  wq : Nat
  e : Int
  moved : Int
  steps : Int
namespace HaulS
def cells (S : HaulS) : List Value := [.int .i64 S.c.frags, .int .i64 S.c.spine, .int .i64 S.c.globals, .int .i64 S.c.threads, .int .i64 S.c.locals, .int .i64 S.c.cache, .int .i64 S.c.stack, .int .i64 S.c.low, .slice S.c.A S.c.shapes.length S.c.cap,
  .int .i64 S.frm, .int .i64 S.fin, .bool S.sense, .int .i64 S.pc, .int .i64 S.k, .int .i64 S.dst, .int .i64 S.head, .int .i64 S.d, .int .i64 S.j, .complex .f64 S.wp S.wq, .int .i64 S.e, .int .i64 S.moved, .int .i64 S.steps]
def fresh (c : Cnf) (frm fin : Int) (sense : Bool) : HaulS := ⟨c, frm, fin, sense, 0, 0, 0, 0, 0, 0, 0, 0, 0, 0, 0⟩
def next (S : HaulS) : HaulS := { S with k := S.k + (S.d + 2), pc := if S.fin ≤ S.k + (S.d + 2) then 11 else 0 }
end HaulS
structure HaulAt (g : GW) (t b : Nat) (S : HaulS) : Prop where
  blk : Blk g t b 263 S.cells
  cnf : CnfAt g (t + 1) S.c
theorem HaulAt.keep {T : Nat → Prop} {g g' : GW} {t b : Nat} {S : HaulS} (h : HaulAt g t b S) (m : Mod T g g') (h1 : ¬ T t) (h2 : ¬ T (t + 1)) : HaulAt g' t b S := ⟨h.blk.keep m h1, h.cnf.keep m h2⟩
theorem HaulAt.st {g : GW} {t b : Nat} {S : HaulS} (h : HaulAt g t b S) (i : Nat) (v : Value) (S' : HaulS) (hc : S'.cells = S.cells.set i v) (hcc : S'.c = S.c) : HaulAt ⟨g.own, g.w.setCell ⟨b, i, none⟩ v⟩ t b S' := by
  refine ⟨by rw [hc]; exact h.blk.set i v, ?_⟩
  rw [hcc]
  exact h.cnf.keep (Mod.set (T := fun x => x = t) h.blk.own) (by omega)
theorem haul_errno (g : GW) (t b : Nat) (S : HaulS) (h : HaulAt g t b S) : Calls Tryz.prog 194 #[.pointer (some ⟨b, 0, none⟩)] g.w (fun e w' => e = .returned (.int .i64 S.e) ∧ g.w = w') := by
  have c0 := h.blk.cell (i := 19) rfl
  have hl := h.blk.lt
  clear h
  go_enter Tryz.func194, Tryz.ntmps194
  go_wp2_with fail
  go_ret
  exact ⟨rfl, rfl⟩
theorem haul_moved (g : GW) (t b : Nat) (S : HaulS) (h : HaulAt g t b S) : Calls Tryz.prog 195 #[.pointer (some ⟨b, 0, none⟩)] g.w (fun e w' => e = .returned (.int .i64 S.moved) ∧ g.w = w') := by
  have c0 := h.blk.cell (i := 20) rfl
  have hl := h.blk.lt
  clear h
  go_enter Tryz.func195, Tryz.ntmps195
  go_wp2_with fail
  go_ret
  exact ⟨rfl, rfl⟩
def HaulMade (c : Cnf) (frm fin : Int) (sense : Bool) (t : Nat) (g : GW) (e : Ending) (w' : World) : Prop := ∃ own' b cm, e = .returned (.pointer (some ⟨b, 0, none⟩)) ∧ Mod (fun _ => False) g ⟨own', w'⟩ ∧ HaulAt ⟨own', w'⟩ t b (HaulS.fresh cm frm fin sense) ∧ cm.Same c
theorem haul_new (c : Cnf) (frm fin : Int) (sense : Bool) (t : Nat) (g : GW) (hc : c.Ok g.w) (hmax : c.shapes.length ≤ 1000000) : Calls Tryz.prog 191 #[c.val, .int .i64 frm, .int .i64 fin, .bool sense] g.w (HaulMade c frm fin sense t g) := by
  have HC := Lib.hid (copy_any c (t + 1) (g.to 9 (g.w.alloc (.cells #[.int .i64 c.frags, .int .i64 c.spine, .int .i64 c.globals, .int .i64 c.threads, .int .i64 c.locals, .int .i64 c.cache, .int .i64 c.stack, .int .i64 c.low, .slice c.A c.shapes.length c.cap] 24))) (hc.ext (by (repeat (first | (with_reducible (first | assumption | exact zR _ | exact zM _ _ _ _)) | apply zA | refine zS ?_ (by first | exact zL _ | exact zK _ _ | assumption) _ | apply zP | apply zD | apply zN)))) hmax)
  have HE0 := Lib.hid (Mod.ext (T := fun _ => False) (g := g) (show Ext g.w (g.w.alloc (.cells #[.int .i64 c.frags, .int .i64 c.spine, .int .i64 c.globals, .int .i64 c.threads, .int .i64 c.locals, .int .i64 c.cache, .int .i64 c.stack, .int .i64 c.low, .slice c.A c.shapes.length c.cap] 24)) by (repeat (first | (with_reducible (first | assumption | exact zR _ | exact zM _ _ _ _)) | apply zA | refine zS ?_ (by first | exact zL _ | exact zK _ _ | assumption) _ | apply zP | apply zD | apply zN))) 9)
  unfold Cnf.val at HC ⊢
  clear hc
  go_enter Tryz.func191, Tryz.ntmps191
  go_wp2_with fail
  refine HC.out.mono ?_
  rintro e w1 ⟨cm, rfl, hs, hm, hE⟩
  have HS := Lib.hid hs
  have HM := Lib.hid hm
  have HE1 := Lib.hid (Mod.ext (T := fun _ => False) (g := g.to 9 (g.w.alloc (.cells #[.int .i64 c.frags, .int .i64 c.spine, .int .i64 c.globals, .int .i64 c.threads, .int .i64 c.locals, .int .i64 c.cache, .int .i64 c.stack, .int .i64 c.low, .slice c.A c.shapes.length c.cap] 24))) hE (t + 1))
  clear hs hm hE
  unfold Cnf.val
  go_wp2_with fail
  go_ret
  have m2 : Mod (fun _ => False) ((g.to 9 (g.w.alloc (.cells #[.int .i64 c.frags, .int .i64 c.spine, .int .i64 c.globals, .int .i64 c.threads, .int .i64 c.locals, .int .i64 c.cache, .int .i64 c.stack, .int .i64 c.low, .slice c.A c.shapes.length c.cap] 24))).to (t + 1) w1) _ := Mod.ext (T := fun _ => False) (show Ext w1 (w1.alloc (.cells (HaulS.fresh cm frm fin sense).cells.toArray 263)) by (repeat (first | (with_reducible (first | assumption | exact zR _ | exact zM _ _ _ _)) | apply zA | refine zS ?_ (by first | exact zL _ | exact zK _ _ | assumption) _ | apply zP | apply zD | apply zN))) t
  exact ⟨_, w1.heap.size, cm, rfl, (HE0.out.trans HE1.out).trans m2, ⟨Blk.new ((g.to 9 (g.w.alloc (.cells #[.int .i64 c.frags, .int .i64 c.spine, .int .i64 c.globals, .int .i64 c.threads, .int .i64 c.locals, .int .i64 c.cache, .int .i64 c.stack, .int .i64 c.low, .slice c.A c.shapes.length c.cap] 24))).to (t + 1) w1) t 263 (HaulS.fresh cm frm fin sense).cells, HM.out.keep m2 id⟩, HS.out⟩
def spA (c : Cnf) (s : Nat) (k : Int) : Int := k + (c.frags * 8 + (if s = 0 then 0 else c.spine))
end Go.Proofs.YtcpeoflomdhidaaGreat

/-
  A scope in which the run comes to one label and jumps back to it. No program here.
-/
namespace Go
end Go

/-
  Merged: XScope2, XVia.
-/
/-
  A scope with a label ahead (the end) and a label behind (a loop). No program here.
-/
namespace Go
def Exit.jump2 (l0 : Nat) (J0 : Act → World → Prop) (l1 : Nat) (J1 : Act → World → Prop) (Q : Exit → Act → World → Prop) : Exit → Act → World → Prop
  | .goto l, a, w => (l = l0 ∧ J0 a w) ∨ (l = l1 ∧ J1 a w)
  | e, a, w => Q e a w
section
variable {P : Program} {a : Act} {w : World} {Q : Exit → Act → World → Prop}
end
end Go
/-
  A scope with labels that are jumped to forward only, in the order of a list. No program here.
-/
namespace Go
def Exit.via (P : Program) (Q : Exit → Act → World → Prop) : List (Nat × Code) → Exit → Act → World → Prop
  | [], .goto _, _, _ => False
  | (l', r) :: L, .goto l, a, w => (l = l' ∧ r.wp P (Exit.via P Q L) a w) ∨ Exit.via P Q L (.goto l) a w
  | _, e, a, w => Q e a w
section
variable {P : Program} {a : Act} {w : World} {Q : Exit → Act → World → Prop}
theorem Exit.via_ret {L : List (Nat × Code)} : Exit.via P Q L .ret a w = Q .ret a w := by cases L <;> rfl
theorem Exit.via_normal {L : List (Nat × Code)} : Exit.via P Q L .normal a w = Q .normal a w := by cases L <;> rfl
theorem via_here {l : Nat} {r : Code} {L : List (Nat × Code)} (h : r.wp P (Exit.via P Q L) a w) : Exit.via P Q ((l, r) :: L) (.goto l) a w := Or.inl ⟨rfl, h⟩
theorem via_next {l l' : Nat} {r : Code} {L : List (Nat × Code)} (h : Exit.via P Q L (.goto l) a w) : Exit.via P Q ((l', r) :: L) (.goto l) a w := Or.inr h
theorem via_goto {l : Nat} : ∀ {L : List (Nat × Code)}, Exit.via P Q L (.goto l) a w → ∃ r L', (l, r) ∈ L ∧ L'.length < L.length ∧ (∀ x ∈ L', x ∈ L) ∧ r.wp P (Exit.via P Q L') a w
  | [], h => h.elim
  | (l', r) :: L, h => by
    rcases h with ⟨rfl, h⟩ | h
    · exact ⟨r, L, List.mem_cons_self, Nat.lt_succ_self _, fun x hx => List.mem_cons_of_mem _ hx, h⟩
    · obtain ⟨r2, L2, h1, h2, h3, h4⟩ := via_goto h
      exact ⟨r2, L2, List.mem_cons_of_mem _ h1, Nat.lt_succ_of_lt h2, fun x hx => List.mem_cons_of_mem _ (h3 x hx), h4⟩
theorem wp_scope_via {c : Code} (L : List (Nat × Code)) (hL : ∀ p ∈ L, findLabel c p.1 = some p.2) (first : c.wp P (Exit.via P Q L) a w) : (Code.scope c).wp P Q a w := by
  intro b k cs
  have key : ∀ (n : Nat) (L : List (Nat × Code)), L.length = n → (∀ p ∈ L, findLabel c p.1 = some p.2) → ∀ (r : Code) (a : Act) (w : World), r.wp P (Exit.via P Q L) a w → ∃ e a' w', Q e a' w' ∧ Arrives P (lone (b.at a (.code r :: .inScope c :: k)) cs w) b k cs e a' w' := by
    intro n
    induction n using Nat.strongRecOn with
    | _ n ih =>
      intro L hn hL r a w h
      obtain ⟨e, a₁, w₁, hq, harr⟩ := h b (.inScope c :: k) cs
      cases e with
      | normal => exact ⟨.normal, a₁, w₁, by cases L <;> exact hq, Steps.trans harr (.one step_inScope)⟩
      | exit id => exact ⟨.exit id, a₁, w₁, by cases L <;> exact hq, fun k' hk => harr k' (by simp [exitTo, hk])⟩
      | goto l' =>
        obtain ⟨r2, L2, h1, h2, h3, h4⟩ := via_goto hq
        have hg : gotoIn l' (.inScope c :: k) = some (.code r2 :: .inScope c :: k) := by simp [gotoIn, hL _ h1]
        obtain ⟨e₂, a₂, w₂, hq₂, harr₂⟩ := ih L2.length (by omega) L2 rfl (fun p hp => hL p (h3 p hp)) r2 a₁ w₁ h4
        exact ⟨e₂, a₂, w₂, hq₂, .of_steps (harr _ hg) harr₂⟩
      | ret => exact ⟨.ret, a₁, w₁, by cases L <;> exact hq, harr⟩
      | panic ch => exact ⟨.panic ch, a₁, w₁, by cases L <;> exact hq, harr⟩
      | outgrown => exact ⟨.outgrown, a₁, w₁, by cases L <;> exact hq, harr⟩
  exact let ⟨e, a', w', hq, harr⟩ := key L.length L rfl hL c a w first; ⟨e, a', w', hq, .of_steps (.one step_scope) harr⟩
end
end Go

/-
  How many different numbers a list has; maps in worlds that only grow. No program here.
-/
namespace Go
open Go.RowKit Go.Maps

def keyI (x : Int) : Lit := .int .i64 x
def addI (acc : List Int) (x : Int) : List Int := if x ∈ acc then acc else acc ++ [x]
def twiceIn (l : List Int) : Bool := decide (¬ l.Nodup)
end Go

/-
  spolaw4.Few, plan.frags.
-/
namespace Go.Proofs.YtcpeoflomdhidaaGreat
open Go Go.RowKit Go.Maps

def fewTo (l : List Shp) (k : Nat) : Bool := (l.take k).all fun s => decide (s.refs.length ≤ 1000)
def Few (c : Cnf) : Bool := fewTo c.shapes 100 && decide (c.shapes.length ≤ 100)
def fragOk (c : Cnf) (i : Int) : Bool := decide (c.check = 0 ∧ 0 ≤ i ∧ i < c.frags)
def wFrags (c : Cnf) (got : List Int) : Value := if got.all (fragOk c) then .tuple #[.bool false, .bool (twiceIn got)] else .tuple #[.bool true, .bool false]
end Go.Proofs.YtcpeoflomdhidaaGreat

/-
  plan.whole.
-/
namespace Go.Proofs.YtcpeoflomdhidaaGreat
open Go Go.RowKit

def WholeGot (w0 : World) (base : Nat) (n : Nat) (xs : List Value) (i : Int) (f : Nat → Nat × Nat) (w : World) (e : Ending) (w' : World) : Prop :=
  ∃ v', e = .returned v' ∧ w'.ownsRow base 250 2 v' (n + 8) (xs ++ writes i f 8) ∧ Ext w0 w' ∧ w.heap.size ≤ w'.heap.size

end Go.Proofs.YtcpeoflomdhidaaGreat

/-
  Merged: XHaulL, XHaulM.
-/
/-
  haul: the steps that look at a spine. shade.Black.
-/
namespace Go.Proofs.YtcpeoflomdhidaaGreat
open Go Go.RowKit
set_option linter.unusedVariables false
set_option linter.unnecessarySimpa false
set_option linter.unusedSimpArgs false
set_option maxHeartbeats 1500000
set_option maxRecDepth 100000
structure ShAt (g : GW) (t b bt tt bp : Nat) (T : TabS) (n : Int) : Prop where
  blk : Blk g t b 148 [.pointer (some ⟨bt, 0, none⟩), .pointer (some ⟨bp, 0, none⟩), .int .i64 n]
  tab : TabAt g tt bt T
theorem looks_none (g : GW) (t b bm bs : Nat) (S : HaulS) (h : HaulAt g t b S) (hpc : S.pc = 0) (hfin : S.fin = 0) :
    Calls Tryz.prog 294 #[.pointer (some ⟨b, 0, none⟩), .pointer (some ⟨bm, 0, none⟩), .pointer (some ⟨bs, 0, none⟩)] g.w (Does (.bool true) g (fun x => x = t) (fun g' => HaulAt g' t b { S with pc := 11 })) := by
  have c0 := h.blk.cell (i := 12) rfl
  have c1 := h.blk.cell (i := 10) rfl
  have f12 := h.blk.live 12
  have hl := h.blk.lt
  rw [hpc] at c0
  rw [hfin] at c1
  have HO := Lib.hid h.blk.own
  have H := Lib.hid (h.st 12 (.int .i64 11) { S with pc := 11 } rfl rfl)
  clear h hpc hfin
  go_enter Tryz.func294, Tryz.ntmps294
  go_wp2_with fail
  go_step3
  go_wp2_with fail
  rw [Exit.noGoto_ret]
  go_ret
  exact ⟨rfl, g.own, Mod.st Mod.self HO.out, H.out⟩
end Go.Proofs.YtcpeoflomdhidaaGreat
/-
  haul: black or not, told or not.
-/
namespace Go.Proofs.YtcpeoflomdhidaaGreat
open Go Go.RowKit
set_option linter.unusedVariables false
set_option linter.unnecessarySimpa false
set_option linter.unusedSimpArgs false
set_option maxHeartbeats 1500000
set_option maxRecDepth 100000
end Go.Proofs.YtcpeoflomdhidaaGreat

/-
  cycle: the collector's state, as plain data. No program here.
-/
namespace Go.Proofs.YtcpeoflomdhidaaGreat
open Go Go.RowKit
set_option linter.unusedVariables false
structure CyS where
  stage : Int
  at_ : Int
  i : Int
  head : Int
  rescan : Bool
  sense : Bool
  started : Int
  finished : Int
  freed : Int
  moved : Int
  steps : Int
  e : Int
namespace CyS
def cells (Y : CyS) (tp hp : Option Addr) : List Value := [.int .i64 Y.stage, .int .i64 Y.at_, .int .i64 Y.i, .int .i64 Y.head, .bool Y.rescan, .pointer tp, .pointer hp, .bool Y.sense, .int .i64 Y.started, .int .i64 Y.finished, .int .i64 Y.freed, .int .i64 Y.moved, .int .i64 Y.steps, .int .i64 Y.e]
def fresh : CyS := ⟨0, 0, 0, 0, false, false, 0, 0, 0, 0, 0, 0⟩
def enters (Y : CyS) (s : Int) : CyS := { Y with stage := s, at_ := 0, i := 0 }
end CyS
structure CyW where
  y : CyS
  tr : Option TraceS
  h : Option HaulS
  K : CoreS
namespace CyW
def polled (W : CyW) : Bool := W.K.hand.polled W.y.i
def nextI (W : CyW) : Int := if W.polled then W.y.i + 1 else W.y.i
def pollsB (W : CyW) : Bool := W.nextI == W.K.c.threads
def polls (W : CyW) : CyW := { W with y := { W.y with i := W.nextI }, K := { W.K with hand := W.K.hand.tick } }
def posts (W : CyW) (s : Int) (flip : Bool) : CyW := { W with K := { W.K with hand := W.K.hand.post s flip } }
def atY (W : CyW) (a : Int) : CyW := { W with y := { W.y with at_ := a } }
def ent (W : CyW) (s : Int) : CyW := { W with y := W.y.enters s }
def hands (W : CyW) (status stage : Int) : CyW := if W.y.at_ = 0 then (if W.pollsB then W.polls.atY 2 else W.polls) else (W.posts status false).ent stage
def spc (W : CyW) (S : SpaceS) : CyW := { W with K := { W.K with sp := S } }
def starts (W : CyW) : CyW := if W.y.at_ = 0 then (W.spc (beginS W.K.sp)).atY 2 else
  let V := W.posts 1 true
  CyW.ent { V with y := { V.y with started := V.y.started + 1, sense := !V.y.sense, steps := 0 } } 2
def turns (W : CyW) : CyW := if W.y.at_ = 0 then (W.spc (turnS W.K.sp)).atY 2 else if W.y.at_ = 2 then (W.posts 4 false).atY 1 else if W.pollsB then { W.polls.ent 7 with h := none } else W.polls
def settles (W : CyW) : CyW := if W.y.at_ = 0 then (if W.pollsB then W.polls.atY 7 else W.polls) else (W.spc (doneS W.K.sp)).ent 9
def swept (W : CyW) : Bool := sweeps W.K.sp W.y.i W.y.sense
def sweep1 (W : CyW) : CyW := { W.spc (sweepS W.K.sp W.y.i W.y.sense) with y := { W.y with freed := if W.swept then W.y.freed + 1 else W.y.freed, i := W.y.i + 1 } }
def sweepsY (W : CyW) : CyW := if W.y.i + 1 = W.K.c.frags then W.sweep1.ent 10 else W.sweep1
def serves (W : CyW) : CyW := if W.y.at_ = 0 then (W.spc (endS W.K.sp)).atY 7 else
  let V := W.spc (serve W.K.sp W.y.sense).2
  if (serve W.K.sp W.y.sense).1 then V else CyW.ent { V with y := { V.y with finished := V.y.finished + 1 } } 0
end CyW
end Go.Proofs.YtcpeoflomdhidaaGreat

/-
  cycle: the collector in memory; polls, enters, hands; the readers; New.
-/
namespace Go.Proofs.YtcpeoflomdhidaaGreat
open Go Go.RowKit
set_option linter.unusedVariables false
set_option linter.unnecessarySimpa false
set_option linter.unusedSimpArgs false
set_option maxHeartbeats 4000000
set_option maxRecDepth 100000
structure CyAt (g : GW) (t b : Nat) (Y : CyS) (tr : Option TraceS) (h : Option HaulS) (tp hp : Option Addr) : Prop where
  blk : Blk g t b 161 (Y.cells tp hp)
  tr : ∀ S, tr = some S → ∃ bt cm, tp = some ⟨bt, 0, none⟩ ∧ cm.Same S.c ∧ TraceAt g (t + 1) bt { S with c := cm }
  hn : h = none → hp = none
  hl : ∀ S, h = some S → ∃ bh cm, hp = some ⟨bh, 0, none⟩ ∧ cm.Same S.c ∧ HaulAt g (t + 3) bh { S with c := cm }
theorem CyAt.keep {T : Nat → Prop} {g g' : GW} {t b : Nat} {Y : CyS} {tr : Option TraceS} {h : Option HaulS} {tp hp : Option Addr} (H : CyAt g t b Y tr h tp hp) (m : Mod T g g') (hT : ∀ x, T x → x < t ∨ t + 5 ≤ x) : CyAt g' t b Y tr h tp hp := by
  have q : ∀ k, k < 5 → ¬ T (t + k) := fun k hk ht => by have := hT _ ht; omega
  refine ⟨H.blk.keep m (q 0 (by omega)), fun S hS => ?_, H.hn, fun S hS => ?_⟩
  · obtain ⟨bt, cm, h1, h2, h3⟩ := H.tr S hS
    exact ⟨bt, cm, h1, h2, h3.keep m (q 1 (by omega)) (q 2 (by omega))⟩
  · obtain ⟨bt, cm, h1, h2, h3⟩ := H.hl S hS
    exact ⟨bt, cm, h1, h2, h3.keep m (q 3 (by omega)) (q 4 (by omega))⟩
theorem CyAt.set {g : GW} {t b : Nat} {Y : CyS} {tr : Option TraceS} {h : Option HaulS} {tp hp : Option Addr} (H : CyAt g t b Y tr h tp hp) (i : Nat) (v : Value) (Y' : CyS) (hv : Y'.cells tp hp = (Y.cells tp hp).set i v) : CyAt ⟨g.own, g.w.setCell ⟨b, i, none⟩ v⟩ t b Y' tr h tp hp := by
  have m : Mod (fun x => x = t) g ⟨g.own, g.w.setCell ⟨b, i, none⟩ v⟩ := Mod.set H.blk.own
  refine ⟨by rw [hv]; exact H.blk.set i v, fun S hS => ?_, H.hn, fun S hS => ?_⟩
  · obtain ⟨bt, cm, h1, h2, h3⟩ := H.tr S hS
    exact ⟨bt, cm, h1, h2, h3.keep m (by omega) (by omega)⟩
  · obtain ⟨bt, cm, h1, h2, h3⟩ := H.hl S hS
    exact ⟨bt, cm, h1, h2, h3.keep m (by omega) (by omega)⟩
structure CyApart (t B : Nat) : Prop where
  hb : 100 ≤ B
  ht : 100 ≤ t
  apart : t + 5 ≤ B ∨ B + 70 ≤ t
def cyT (t B : Nat) (x : Nat) : Prop := (t ≤ x ∧ x < t + 5) ∨ (B ≤ x ∧ x < B + 70)
structure CyIn (g : GW) (t B b k : Nat) (W : CyW) (tp hp : Option Addr) (bm bs bt bp bsp bh : Nat) (cm : Cnf) : Prop where
  y : CyAt g t b W.y W.tr W.h tp hp
  c : CoreIn g B k W.K bm bs bt bp bsp bh cm
def CyWAt (g : GW) (t B b k : Nat) (W : CyW) : Prop := ∃ tp hp bm bs bt bp bsp bh cm, CyIn g t B b k W tp hp bm bs bt bp bsp bh cm
structure CyW.Bd (W : CyW) : Prop where
  i : 0 ≤ W.y.i ∧ W.y.i ≤ 1099511627776
  started : 0 ≤ W.y.started ∧ W.y.started ≤ 1099511627776
  finished : 0 ≤ W.y.finished ∧ W.y.finished ≤ 1099511627776
  freed : 0 ≤ W.y.freed ∧ W.y.freed ≤ 1099511627776
  moved : 0 ≤ W.y.moved ∧ W.y.moved ≤ 1099511627776
  steps : 0 ≤ W.y.steps ∧ W.y.steps ≤ 1099511627776
  hand : 0 ≤ W.K.hand.count ∧ W.K.hand.count ≤ 1099511627776
  sp : 0 ≤ W.K.sp.count ∧ W.K.sp.count ≤ 1099511627776
  mem : 0 ≤ W.K.mem.count ∧ W.K.mem.count ≤ 1099511627776
  n : 0 ≤ W.K.n ∧ W.K.n ≤ 1099511627776
section
variable {g : GW} {t B b k : Nat} {W : CyW} {tp hp : Option Addr} {bm bs bt bp bsp bh : Nat} {cm : Cnf}
theorem CyIn.set (H : CyIn g t B b k W tp hp bm bs bt bp bsp bh cm) (A : CyApart t B) (i : Nat) (v : Value) (Y' : CyS) (hv : Y'.cells tp hp = (W.y.cells tp hp).set i v) : CyIn ⟨g.own, g.w.setCell ⟨b, i, none⟩ v⟩ t B b k { W with y := Y' } tp hp bm bs bt bp bsp bh cm :=
  ⟨H.y.set i v Y' hv, H.c.keep (Mod.set (T := fun x => x = t) H.y.blk.own) (fun x (hx : x = _) => by have := A.apart; omega)⟩
theorem CyIn.hand {g' : GW} (H : CyIn g t B b k W tp hp bm bs bt bp bsp bh cm) (A : CyApart t B) {h : HandS} (m : Mod (fun x => x = B + 63) g g') (hh : HandAt g' (B + 63) bh h) : CyIn g' t B b k { W with K := { W.K with hand := h } } tp hp bm bs bt bp bsp bh cm :=
  ⟨H.y.keep m (fun x (hx : x = _) => by have := A.apart; omega), H.c.putHand m hh⟩
theorem CyIn.spc {g' : GW} (H : CyIn g t B b k W tp hp bm bs bt bp bsp bh cm) (A : CyApart t B) {S : SpaceS} (m : Mod (inst B) g g') (hs : SpaceAt g' B bsp bt S) : CyIn g' t B b k (W.spc S) tp hp bm bs bt bp bsp bh cm :=
  ⟨H.y.keep m (fun x hx => by have := A.apart; have h1 := hx.1; have h2 := hx.2; omega), H.c.putSp m hs⟩
theorem CyIn.keep {T : Nat → Prop} {g' : GW} (H : CyIn g t B b k W tp hp bm bs bt bp bsp bh cm) (m : Mod T g g') (h1 : ∀ x, T x → x < t ∨ t + 5 ≤ x) (h2 : ∀ x, T x → x < B ∨ B + 70 ≤ x) : CyIn g' t B b k W tp hp bm bs bt bp bsp bh cm :=
  ⟨H.y.keep m h1, H.c.keep m h2⟩
theorem CyIn.modY (H : CyIn g t B b k W tp hp bm bs bt bp bsp bh cm) : cyT t B (g.own b) := by rw [H.y.blk.own]; exact Or.inl ⟨Nat.le_refl _, by omega⟩
end
theorem cyT_hand {t B x : Nat} (h : x = B + 63) : cyT t B x := Or.inr (by omega)
theorem cyT_inst {t B x : Nat} (h : inst B x) : cyT t B x := Or.inr (by have h1 := h.1; have h2 := h.2; omega)
section
variable (g : GW) (t b : Nat) (Y : CyS) (tr : Option TraceS) (hh : Option HaulS) (tp hp : Option Addr)
theorem cy_stage (h : CyAt g t b Y tr hh tp hp) : Calls Tryz.prog 39 #[.pointer (some ⟨b, 0, none⟩)] g.w (fun e w' => e = .returned (.int .i64 Y.stage) ∧ g.w = w') := by
  obtain ⟨a0, a1, a2, a3, a4, a5, a6, a7, a8, a9, a10, a11, a12, a13, al⟩ := h.blk.c14
  (try simp only [GW.to] at a0 a1 a2 a3 a4 a5 a6 a7 a8 a9 a10 a11 a12 a13 al)
  clear h
  go_enter Tryz.func39, Tryz.ntmps39
  go_wp2_with fail
  go_ret
  exact ⟨rfl, rfl⟩
theorem cy_started (h : CyAt g t b Y tr hh tp hp) : Calls Tryz.prog 88 #[.pointer (some ⟨b, 0, none⟩)] g.w (fun e w' => e = .returned (.int .i64 Y.started) ∧ g.w = w') := by
  obtain ⟨a0, a1, a2, a3, a4, a5, a6, a7, a8, a9, a10, a11, a12, a13, al⟩ := h.blk.c14
  (try simp only [GW.to] at a0 a1 a2 a3 a4 a5 a6 a7 a8 a9 a10 a11 a12 a13 al)
  clear h
  go_enter Tryz.func88, Tryz.ntmps88
  go_wp2_with fail
  go_ret
  exact ⟨rfl, rfl⟩
theorem cy_finished (h : CyAt g t b Y tr hh tp hp) : Calls Tryz.prog 35 #[.pointer (some ⟨b, 0, none⟩)] g.w (fun e w' => e = .returned (.int .i64 Y.finished) ∧ g.w = w') := by
  obtain ⟨a0, a1, a2, a3, a4, a5, a6, a7, a8, a9, a10, a11, a12, a13, al⟩ := h.blk.c14
  (try simp only [GW.to] at a0 a1 a2 a3 a4 a5 a6 a7 a8 a9 a10 a11 a12 a13 al)
  clear h
  go_enter Tryz.func35, Tryz.ntmps35
  go_wp2_with fail
  go_ret
  exact ⟨rfl, rfl⟩
theorem cy_steps (h : CyAt g t b Y tr hh tp hp) : Calls Tryz.prog 89 #[.pointer (some ⟨b, 0, none⟩)] g.w (fun e w' => e = .returned (.int .i64 Y.steps) ∧ g.w = w') := by
  obtain ⟨a0, a1, a2, a3, a4, a5, a6, a7, a8, a9, a10, a11, a12, a13, al⟩ := h.blk.c14
  (try simp only [GW.to] at a0 a1 a2 a3 a4 a5 a6 a7 a8 a9 a10 a11 a12 a13 al)
  clear h
  go_enter Tryz.func89, Tryz.ntmps89
  go_wp2_with fail
  go_ret
  exact ⟨rfl, rfl⟩
theorem cy_errno (h : CyAt g t b Y tr hh tp hp) : Calls Tryz.prog 40 #[.pointer (some ⟨b, 0, none⟩)] g.w (fun e w' => e = .returned (.int .i64 Y.e) ∧ g.w = w') := by
  obtain ⟨a0, a1, a2, a3, a4, a5, a6, a7, a8, a9, a10, a11, a12, a13, al⟩ := h.blk.c14
  (try simp only [GW.to] at a0 a1 a2 a3 a4 a5 a6 a7 a8 a9 a10 a11 a12 a13 al)
  clear h
  go_enter Tryz.func40, Tryz.ntmps40
  go_wp2_with fail
  go_ret
  exact ⟨rfl, rfl⟩
end
theorem cy_new (g : GW) (t : Nat) : Calls Tryz.prog 87 #[] g.w (fun e w' => ∃ own' b, e = .returned (.pointer (some ⟨b, 0, none⟩)) ∧ Mod (fun _ => False) g ⟨own', w'⟩ ∧ CyAt ⟨own', w'⟩ t b CyS.fresh none none none none) := by
  go_enter Tryz.func87, Tryz.ntmps87
  go_wp2_with fail
  go_ret
  exact ⟨_, g.w.heap.size, rfl, Mod.ext (show Ext g.w (g.w.alloc (.cells ((CyS.fresh.cells none none).toArray) 161)) by (repeat (first | (with_reducible (first | assumption | exact zR _ | exact zM _ _ _ _)) | apply zA | refine zS ?_ (by first | exact zL _ | exact zK _ _ | assumption) _ | apply zP | apply zD | apply zN))) t, ⟨Blk.new g t 161 (CyS.fresh.cells none none), (fun S hS => by cases hS), (fun _ => rfl), (fun S hS => by cases hS)⟩⟩
section
variable {g : GW} {t B b k : Nat} {W : CyW} {tp hp : Option Addr} {bm bs bt bp bsp bh : Nat} {cm : Cnf}
theorem cy_enters (A : CyApart t B) (s : Int) (H : CyIn g t B b k W tp hp bm bs bt bp bsp bh cm) : Calls Tryz.prog 96 #[.pointer (some ⟨b, 0, none⟩), .int .i64 s] g.w (Does (.tuple #[]) g (cyT t B) (fun g' => CyIn g' t B b k (W.ent s) tp hp bm bs bt bp bsp bh cm)) := by
  have H3 := Lib.hid (((H.set A 0 (.int .i64 s) { W.y with stage := s } rfl).set A 1 (.int .i64 0) { W.y with stage := s, at_ := 0 } rfl).set A 2 (.int .i64 0) (W.y.enters s) rfl)
  have M := Lib.hid (show Mod (cyT t B) g ⟨g.own, ((g.w.setCell ⟨b, 0, none⟩ (.int .i64 s)).setCell ⟨b, 1, none⟩ (.int .i64 0)).setCell ⟨b, 2, none⟩ (.int .i64 0)⟩ from Mod.st (Mod.st (Mod.st Mod.self H.modY) H.modY) H.modY)
  obtain ⟨a0, a1, a2, a3, a4, a5, a6, a7, a8, a9, a10, a11, a12, a13, al⟩ := H.y.blk.c14
  have af0 := H.y.blk.live 0
  have af1 := H.y.blk.live 1
  have af2 := H.y.blk.live 2
  (try simp only [GW.to] at a0 a1 a2 a3 a4 a5 a6 a7 a8 a9 a10 a11 a12 a13 af0 af1 af2 al)
  clear H
  go_enter Tryz.func96, Tryz.ntmps96
  go_wp2_with fail
  exact bodyPost_end (results_none rfl _ _ _) rfl (Does.of ⟨g.own, _⟩ rfl rfl M.out H3.out)
theorem CyIn.pt (H : CyIn g t B b k W tp hp bm bs bt bp bsp bh cm) (X : Extra) : CyIn (g.pt X) t B b k W tp hp bm bs bt bp bsp bh cm := H.keep (T := fun _ => False) (Mod.pt (Mod.refl _ _) X) (fun _ => False.elim) (fun _ => False.elim)
theorem cy_polls (A : CyApart t B) (hd : W.Bd) (H : CyIn g t B b k W tp hp bm bs bt bp bsp bh cm) : Calls Tryz.prog 181 #[.pointer (some ⟨b, 0, none⟩), .pointer (some ⟨k, 0, none⟩)] g.w (Does (.bool W.pollsB) g (cyT t B) (fun g' => CyIn g' t B b k W.polls tp hp bm bs bt bp bsp bh cm)) := by
  have HH := Lib.hid H
  have HPL := Lib.hid (fun X => hand_poll (g.pt X) (B + 63) bh W.y.i W.K.hand (H.pt X).c.hand hd.hand)
  obtain ⟨hi0, hi1⟩ := hd.i
  obtain ⟨a0, a1, a2, a3, a4, a5, a6, a7, a8, a9, a10, a11, a12, a13, al⟩ := H.y.blk.c14
  (try simp only [GW.to] at a0 a1 a2 a3 a4 a5 a6 a7 a8 a9 a10 a11 a12 a13 al)
  obtain ⟨c0, c1, c2, c3, c4, c5, c6, c7, c8, c9, c10, c11, c12, cl⟩ := H.c.blk.c13
  (try simp only [GW.to] at c0 c1 c2 c3 c4 c5 c6 c7 c8 c9 c10 c11 c12 cl)
  clear H hd
  go_enter Tryz.func181, Tryz.ntmps181
  go_wp2_with fail
  refine wp_region_mixed [true, true, true, true, true, true, true, true, false] 1 8 (by kernel_rfl) (by kernel_rfl) (by kernel_rfl) ?_ (by decide) (by decide) (by decide) (by kernel_rfl) ?_
  · intro c a d v w h; cases d <;> exact h
  intro X00
  simp only [pickOps]
  repeat (go_big_quiet_step (fail))
  refine wpQuiet_nil (fun X0 => ?_)
  clear X00
  refine wpAnyM_tailL rfl (by kernel_rfl) (fun X2 => ?_)
  simp only [List.drop_succ_cons, List.drop_zero]
  go_wp2_with fail
  refine (HPL.out _).mono ?_
  rintro e w1 ⟨rfl, own1, m1, h1⟩
  have P1 := (Mod.pt (Mod.refl _ _) _).trans m1
  have M1 := Lib.hid (P1.mono (S := cyT t B) (fun x hx => cyT_hand hx))
  have H1 := Lib.hid (HH.out.hand A P1 h1)
  clear P1 m1 h1 a0 a1 a2 a3 a4 a5 a6 a7 a8 a9 a10 a11 a12 a13 al c0 c1 c2 c3 c4 c5 c6 c7 c8 c9 c10 c11 c12 cl HPL HH
  have hth := H1.out.c.same.threads
  cases hp : W.K.hand.polled W.y.i
  · have HN := Lib.hid (show W.nextI = W.y.i by unfold CyW.nextI CyW.polled; rw [hp]; rfl)
    have HE := Lib.hid (show W.polls = { W with K := { W.K with hand := W.K.hand.tick } } by unfold CyW.polls; rw [HN.out])
    have HV := Lib.hid (show W.pollsB = (W.y.i == cm.threads) by unfold CyW.pollsB; rw [HN.out, hth])
    clear hp hth
    obtain ⟨a0, a1, a2, a3, a4, a5, a6, a7, a8, a9, a10, a11, a12, a13, al⟩ := H1.out.y.blk.c14
    (try simp only [GW.to] at a0 a1 a2 a3 a4 a5 a6 a7 a8 a9 a10 a11 a12 a13 al)
    obtain ⟨c0, c1, c2, c3, c4, c5, c6, c7, c8, c9, c10, c11, c12, cl⟩ := H1.out.c.blk.c13
    (try simp only [GW.to] at c0 c1 c2 c3 c4 c5 c6 c7 c8 c9 c10 c11 c12 cl)
    go_wp2_with fail
    refine wp_region_mixed [true, true, true, true, true, true, true, true, true, true, true] 0 11 (by kernel_rfl) (by kernel_rfl) (by kernel_rfl) ?_ (by decide) (by decide) (by decide) (by kernel_rfl) ?_
    · intro c a d v w h; cases d <;> exact h
    intro X00
    simp only [pickOps]
    repeat (go_big_quiet_step (fail))
    refine wpQuiet_nil (fun X0 => ?_)
    clear X00
    refine wpAnyM_done (by kernel_rfl) (fun X0' => ?_) _
    (try go_simp)
    go_wp2_with fail
    go_ret
    exact Does.ext ⟨own1, w1⟩ (by (repeat (first | (with_reducible (first | assumption | exact zR _ | exact zM _ _ _ _)) | apply zA | refine zS ?_ (by first | exact zL _ | exact zK _ _ | assumption) _ | apply zP | apply zD | apply zN))) (by rw [HV.out]; rfl) M1.out (fun g2 m => by rw [HE.out]; exact H1.out.keep m (fun _ => False.elim) (fun _ => False.elim))
  · have HN := Lib.hid (show W.nextI = W.y.i + 1 by unfold CyW.nextI CyW.polled; rw [hp]; rfl)
    have HE := Lib.hid (show W.polls = { W with y := { W.y with i := W.y.i + 1 }, K := { W.K with hand := W.K.hand.tick } } by unfold CyW.polls; rw [HN.out])
    have HV := Lib.hid (show W.pollsB = (W.y.i + 1 == cm.threads) by unfold CyW.pollsB; rw [HN.out, hth])
    have H2 := Lib.hid (H1.out.set A 2 (.int .i64 (W.y.i + 1)) { W.y with i := W.y.i + 1 } rfl)
    have M2 := Lib.hid (show Mod (cyT t B) g ⟨own1, w1.setCell ⟨b, 2, none⟩ (.int .i64 (W.y.i + 1))⟩ from Mod.st M1.out H1.out.modY)
    clear hp hth
    obtain ⟨a0, a1, a2, a3, a4, a5, a6, a7, a8, a9, a10, a11, a12, a13, al⟩ := H1.out.y.blk.c14
    have af2 := H1.out.y.blk.live 2
    (try simp only [GW.to] at a0 a1 a2 a3 a4 a5 a6 a7 a8 a9 a10 a11 a12 a13 af2 al)
    go_upto_region 3 with fail
    generalize w1.setCell ⟨b, 2, none⟩ (.int .i64 (W.y.i + 1)) = w2 at *
    clear a0 a1 a2 a3 a4 a5 a6 a7 a8 a9 a10 a11 a12 a13 af2 al H1 M1
    obtain ⟨a0, a1, a2, a3, a4, a5, a6, a7, a8, a9, a10, a11, a12, a13, al⟩ := H2.out.y.blk.c14
    (try simp only [GW.to] at a0 a1 a2 a3 a4 a5 a6 a7 a8 a9 a10 a11 a12 a13 al)
    obtain ⟨c0, c1, c2, c3, c4, c5, c6, c7, c8, c9, c10, c11, c12, cl⟩ := H2.out.c.blk.c13
    (try simp only [GW.to] at c0 c1 c2 c3 c4 c5 c6 c7 c8 c9 c10 c11 c12 cl)
    refine wp_region_mixed [true, true, true, true, true, true, true, true, true, true, true] 0 11 (by kernel_rfl) (by kernel_rfl) (by kernel_rfl) ?_ (by decide) (by decide) (by decide) (by kernel_rfl) ?_
    · intro c a d v w h; cases d <;> exact h
    intro X00
    simp only [pickOps]
    repeat (go_big_quiet_step (fail))
    refine wpQuiet_nil (fun X0 => ?_)
    clear X00
    refine wpAnyM_done (by kernel_rfl) (fun X0' => ?_) _
    (try go_simp)
    go_wp2_with fail
    go_ret
    exact Does.ext ⟨own1, w2⟩ (by (repeat (first | (with_reducible (first | assumption | exact zR _ | exact zM _ _ _ _)) | apply zA | refine zS ?_ (by first | exact zL _ | exact zK _ _ | assumption) _ | apply zP | apply zD | apply zN))) (by rw [HV.out]; rfl) M2.out (fun g2 m => by rw [HE.out]; exact H2.out.keep m (fun _ => False.elim) (fun _ => False.elim))
end
end Go.Proofs.YtcpeoflomdhidaaGreat

/-
  cycle: hands, starts, turns, settles, sweeps, serves.
-/
namespace Go.Proofs.YtcpeoflomdhidaaGreat
open Go Go.RowKit
set_option linter.unusedVariables false
set_option linter.unnecessarySimpa false
set_option linter.unusedSimpArgs false
set_option maxHeartbeats 4000000
set_option maxRecDepth 100000
section
variable {g : GW} {t B b k : Nat} {W : CyW}
theorem CyIn.at_ {tp hp : Option Addr} {bm bs bt bp bsp bh : Nat} {cm : Cnf} (H : CyIn g t B b k W tp hp bm bs bt bp bsp bh cm) : CyWAt g t B b k W := ⟨tp, hp, bm, bs, bt, bp, bsp, bh, cm, H⟩
theorem cy_hands (A : CyApart t B) (hd : W.Bd) (status stage : Int) (H : CyWAt g t B b k W) : Calls Tryz.prog 98 #[.pointer (some ⟨b, 0, none⟩), .pointer (some ⟨k, 0, none⟩), .int .i64 status, .int .i64 stage] g.w (Does (.tuple #[]) g (cyT t B) (fun g' => CyWAt g' t B b k (W.hands status stage))) := by
  obtain ⟨tp, hp, bm, bs, bt, bp, bsp, bh, cm, H⟩ := H
  have HH := Lib.hid H
  have HD := Lib.hid hd
  by_cases h0 : W.y.at_ = 0
  · have hz : (W.y.at_ == 0) = true := beq_iff_eq.2 h0
    have HV := Lib.hid (show W.hands status stage = if W.pollsB then W.polls.atY 2 else W.polls by unfold CyW.hands; rw [if_pos h0])
    obtain ⟨a0, a1, a2, a3, a4, a5, a6, a7, a8, a9, a10, a11, a12, a13, al⟩ := H.y.blk.c14
    have af1 := H.y.blk.live 1
    (try simp only [GW.to] at a0 a1 a2 a3 a4 a5 a6 a7 a8 a9 a10 a11 a12 a13 af1 al)
    obtain ⟨c0, c1, c2, c3, c4, c5, c6, c7, c8, c9, c10, c11, c12, cl⟩ := H.c.blk.c13
    (try simp only [GW.to] at c0 c1 c2 c3 c4 c5 c6 c7 c8 c9 c10 c11 c12 cl)
    clear H hd h0
    go_enter Tryz.func98, Tryz.ntmps98
    go_wp2_with fail
    refine (cy_polls A HD.out HH.out).mono ?_
    rintro e w1 ⟨rfl, own1, m1, h1⟩
    have M1 := Lib.hid m1
    have H1 := Lib.hid h1
    clear a0 a1 a2 a3 a4 a5 a6 a7 a8 a9 a10 a11 a12 a13 af1 al c0 c1 c2 c3 c4 c5 c6 c7 c8 c9 c10 c11 c12 cl
    clear m1 h1 hz
    cases hp : W.pollsB
    · have HW := Lib.hid (show W.hands status stage = W.polls by rw [HV.out, hp]; rfl)
      go_wp2_with fail
      exact bodyPost_end (results_none rfl _ _ _) rfl (Does.of ⟨own1, w1⟩ rfl rfl M1.out (by rw [HW.out]; exact H1.out.at_))
    · have HW := Lib.hid (show W.hands status stage = W.polls.atY 2 by rw [HV.out, hp]; rfl)
      have H2 := Lib.hid (H1.out.set A 1 (.int .i64 2) { W.polls.y with at_ := 2 } rfl)
      obtain ⟨a0, a1, a2, a3, a4, a5, a6, a7, a8, a9, a10, a11, a12, a13, al⟩ := H1.out.y.blk.c14
      have af1 := H1.out.y.blk.live 1
      (try simp only [GW.to] at a0 a1 a2 a3 a4 a5 a6 a7 a8 a9 a10 a11 a12 a13 af1 al)
      go_wp2_with fail
      exact bodyPost_end (results_none rfl _ _ _) rfl (Does.of ⟨own1, w1.setCell ⟨b, 1, none⟩ (.int .i64 2)⟩ rfl rfl (Mod.st M1.out H1.out.modY) (by rw [HW.out]; exact H2.out.at_))
  · have hz : (W.y.at_ == 0) = false := beq_eq_false_iff_ne.2 h0
    have HV := Lib.hid (show W.hands status stage = (W.posts status false).ent stage by unfold CyW.hands; rw [if_neg h0])
    obtain ⟨a0, a1, a2, a3, a4, a5, a6, a7, a8, a9, a10, a11, a12, a13, al⟩ := H.y.blk.c14
    have af1 := H.y.blk.live 1
    (try simp only [GW.to] at a0 a1 a2 a3 a4 a5 a6 a7 a8 a9 a10 a11 a12 a13 af1 al)
    obtain ⟨c0, c1, c2, c3, c4, c5, c6, c7, c8, c9, c10, c11, c12, cl⟩ := H.c.blk.c13
    (try simp only [GW.to] at c0 c1 c2 c3 c4 c5 c6 c7 c8 c9 c10 c11 c12 cl)
    clear H hd h0
    go_enter Tryz.func98, Tryz.ntmps98
    go_wp2_with fail
    refine (hand_post g (B + 63) bh status false W.K.hand HH.out.c.hand HD.out.hand).mono ?_
    rintro e w1 ⟨rfl, own1, m1, h1⟩
    have M1 := Lib.hid (m1.mono (S := cyT t B) (fun x hx => cyT_hand hx))
    have H1 := Lib.hid (show CyIn ⟨own1, w1⟩ t B b k (W.posts status false) tp hp bm bs bt bp bsp bh cm from HH.out.hand A m1 h1)
    clear a0 a1 a2 a3 a4 a5 a6 a7 a8 a9 a10 a11 a12 a13 af1 al c0 c1 c2 c3 c4 c5 c6 c7 c8 c9 c10 c11 c12 cl
    clear m1 h1 hz
    go_wp2_with fail
    refine (cy_enters A stage H1.out).mono ?_
    rintro e w2 ⟨rfl, own2, m2, h2⟩
    have M2 := Lib.hid (M1.out.trans m2)
    have H2 := Lib.hid h2
    clear m2 h2
    go_wp2_with fail
    exact bodyPost_end (results_none rfl _ _ _) rfl (Does.of ⟨own2, w2⟩ rfl rfl M2.out (by rw [HV.out]; exact H2.out.at_))
theorem cy_starts (A : CyApart t B) (hd : W.Bd) (H : CyWAt g t B b k W) : Calls Tryz.prog 97 #[.pointer (some ⟨b, 0, none⟩), .pointer (some ⟨k, 0, none⟩)] g.w (Does (.tuple #[]) g (cyT t B) (fun g' => CyWAt g' t B b k W.starts)) := by
  obtain ⟨tp, hp, bm, bs, bt, bp, bsp, bh, cm, H⟩ := H
  have HH := Lib.hid H
  have HD := Lib.hid hd
  by_cases h0 : W.y.at_ = 0
  · have hz : (W.y.at_ == 0) = true := beq_iff_eq.2 h0
    have HV := Lib.hid (show W.starts = (W.spc (beginS W.K.sp)).atY 2 by unfold CyW.starts; rw [if_pos h0])
    obtain ⟨a0, a1, a2, a3, a4, a5, a6, a7, a8, a9, a10, a11, a12, a13, al⟩ := H.y.blk.c14
    have af1 := H.y.blk.live 1
    (try simp only [GW.to] at a0 a1 a2 a3 a4 a5 a6 a7 a8 a9 a10 a11 a12 a13 af1 al)
    obtain ⟨c0, c1, c2, c3, c4, c5, c6, c7, c8, c9, c10, c11, c12, cl⟩ := H.c.blk.c13
    (try simp only [GW.to] at c0 c1 c2 c3 c4 c5 c6 c7 c8 c9 c10 c11 c12 cl)
    clear H hd h0
    go_enter Tryz.func97, Tryz.ntmps97
    go_wp2_with fail
    refine (space_begin g B bsp bt W.K.sp HH.out.c.sp A.hb HD.out.sp).mono ?_
    rintro e w1 ⟨rfl, own1, m1, h1⟩
    have M1 := Lib.hid (m1.mono (S := cyT t B) (fun x hx => cyT_inst hx))
    have H1 := Lib.hid (HH.out.spc A m1 h1)
    clear a0 a1 a2 a3 a4 a5 a6 a7 a8 a9 a10 a11 a12 a13 af1 al c0 c1 c2 c3 c4 c5 c6 c7 c8 c9 c10 c11 c12 cl
    clear m1 h1 hz
    have H2 := Lib.hid (H1.out.set A 1 (.int .i64 2) { W.y with at_ := 2 } rfl)
    obtain ⟨a0, a1, a2, a3, a4, a5, a6, a7, a8, a9, a10, a11, a12, a13, al⟩ := H1.out.y.blk.c14
    have af1 := H1.out.y.blk.live 1
    (try simp only [GW.to] at a0 a1 a2 a3 a4 a5 a6 a7 a8 a9 a10 a11 a12 a13 af1 al)
    go_wp2_with fail
    exact bodyPost_end (results_none rfl _ _ _) rfl (Does.of ⟨own1, w1.setCell ⟨b, 1, none⟩ (.int .i64 2)⟩ rfl rfl (Mod.st M1.out H1.out.modY) (by rw [HV.out]; exact H2.out.at_))
  · have hz : (W.y.at_ == 0) = false := beq_eq_false_iff_ne.2 h0
    have HV := Lib.hid (show W.starts = CyW.ent { W.posts 1 true with y := { W.y with started := W.y.started + 1, sense := !W.y.sense, steps := 0 } } 2 by unfold CyW.starts; rw [if_neg h0]; rfl)
    obtain ⟨a0, a1, a2, a3, a4, a5, a6, a7, a8, a9, a10, a11, a12, a13, al⟩ := H.y.blk.c14
    have af1 := H.y.blk.live 1
    (try simp only [GW.to] at a0 a1 a2 a3 a4 a5 a6 a7 a8 a9 a10 a11 a12 a13 af1 al)
    obtain ⟨c0, c1, c2, c3, c4, c5, c6, c7, c8, c9, c10, c11, c12, cl⟩ := H.c.blk.c13
    (try simp only [GW.to] at c0 c1 c2 c3 c4 c5 c6 c7 c8 c9 c10 c11 c12 cl)
    clear H hd h0
    go_enter Tryz.func97, Tryz.ntmps97
    go_wp2_with fail
    refine (hand_post g (B + 63) bh 1 true W.K.hand HH.out.c.hand HD.out.hand).mono ?_
    rintro e w1 ⟨rfl, own1, m1, h1⟩
    have M1 := Lib.hid (m1.mono (S := cyT t B) (fun x hx => cyT_hand hx))
    have H1 := Lib.hid (show CyIn ⟨own1, w1⟩ t B b k (W.posts 1 true) tp hp bm bs bt bp bsp bh cm from HH.out.hand A m1 h1)
    clear a0 a1 a2 a3 a4 a5 a6 a7 a8 a9 a10 a11 a12 a13 af1 al c0 c1 c2 c3 c4 c5 c6 c7 c8 c9 c10 c11 c12 cl
    clear m1 h1 hz
    have H2 := Lib.hid (((H1.out.set A 8 (.int .i64 (W.y.started + 1)) { W.y with started := W.y.started + 1 } rfl).set A 7 (.bool (!W.y.sense)) { W.y with started := W.y.started + 1, sense := !W.y.sense } rfl).set A 12 (.int .i64 0) { W.y with started := W.y.started + 1, sense := !W.y.sense, steps := 0 } rfl)
    have M2 := Lib.hid (show Mod (cyT t B) g ⟨own1, ((w1.setCell ⟨b, 8, none⟩ (.int .i64 (W.y.started + 1))).setCell ⟨b, 7, none⟩ (.bool (!W.y.sense))).setCell ⟨b, 12, none⟩ (.int .i64 0)⟩ from Mod.st (Mod.st (Mod.st M1.out H1.out.modY) H1.out.modY) H1.out.modY)
    obtain ⟨a0, a1, a2, a3, a4, a5, a6, a7, a8, a9, a10, a11, a12, a13, al⟩ := H1.out.y.blk.c14
    have af7 := H1.out.y.blk.live 7
    have af8 := H1.out.y.blk.live 8
    have af12 := H1.out.y.blk.live 12
    (try simp only [GW.to] at a0 a1 a2 a3 a4 a5 a6 a7 a8 a9 a10 a11 a12 a13 af7 af8 af12 al)
    obtain ⟨hs0, hs1⟩ := HD.out.started
    have hw8 : (W.posts 1 true).y = W.y := rfl
    rw [hw8] at a0 a1 a2 a3 a4 a7 a8 a9 a10 a11 a12 a13
    go_wp2_with fail
    refine (cy_enters A 2 H2.out).mono ?_
    rintro e w2 ⟨rfl, own2, m2, h2⟩
    have M3 := Lib.hid (M2.out.trans m2)
    have H3 := Lib.hid h2
    clear m2 h2
    go_wp2_with fail
    exact bodyPost_end (results_none rfl _ _ _) rfl (Does.of ⟨own2, w2⟩ rfl rfl M3.out (by rw [HV.out]; exact H3.out.at_))
end
end Go.Proofs.YtcpeoflomdhidaaGreat

