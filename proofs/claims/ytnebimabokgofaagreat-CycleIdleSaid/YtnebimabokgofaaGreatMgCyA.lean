import Derived.Test.YtnebimabokgofaaGreatCoreW
import Derived.Test.YtnebimabokgofaaGreatHandM
import Derived.Test.YtnebimabokgofaaGreatShadeN
import Derived.Test.YtnebimabokgofaaGreatMgSpaceN
import Derived.Test.YtnebimabokgofaaGreatTraceS
import Derived.Test.YtnebimabokgofaaGreatHaulM
/-
  cycle: the collector's state, as plain data. No program here.
-/
namespace Go.Proofs.YtnebimabokgofaaGreat
open Go Go.RowKit
set_option linter.unusedVariables false
structure CyS where
  stage : Int
  at_ : Int
  i : Int
  head : Int
  rescan : Bool
  sense : Bool
  started : Int
  finished : Int
  freed : Int
  moved : Int
  steps : Int
  e : Int
namespace CyS
def cells (Y : CyS) (tp hp : Option Addr) : List Value := [.int .i64 Y.stage, .int .i64 Y.at_, .int .i64 Y.i, .int .i64 Y.head, .bool Y.rescan, .pointer tp, .pointer hp, .bool Y.sense, .int .i64 Y.started, .int .i64 Y.finished, .int .i64 Y.freed, .int .i64 Y.moved, .int .i64 Y.steps, .int .i64 Y.e]
def fresh : CyS := ⟨0, 0, 0, 0, false, false, 0, 0, 0, 0, 0, 0⟩
def enters (Y : CyS) (s : Int) : CyS := { Y with stage := s, at_ := 0, i := 0 }
end CyS
/-- The collector, its programs, and the core. -/
structure CyW where
  y : CyS
  tr : Option TraceS
  h : Option HaulS
  K : CoreS
namespace CyW
def polled (W : CyW) : Bool := W.K.hand.polled W.y.i
def nextI (W : CyW) : Int := if W.polled then W.y.i + 1 else W.y.i
def pollsB (W : CyW) : Bool := W.nextI == W.K.c.threads
def polls (W : CyW) : CyW := { W with y := { W.y with i := W.nextI }, K := { W.K with hand := W.K.hand.tick } }
def posts (W : CyW) (s : Int) (flip : Bool) : CyW := { W with K := { W.K with hand := W.K.hand.post s flip } }
def atY (W : CyW) (a : Int) : CyW := { W with y := { W.y with at_ := a } }
def ent (W : CyW) (s : Int) : CyW := { W with y := W.y.enters s }
def hands (W : CyW) (status stage : Int) : CyW := if W.y.at_ = 0 then (if W.pollsB then W.polls.atY 2 else W.polls) else (W.posts status false).ent stage
def spc (W : CyW) (S : SpaceS) : CyW := { W with K := { W.K with sp := S } }
def starts (W : CyW) : CyW := if W.y.at_ = 0 then (W.spc (beginS W.K.sp)).atY 2 else
  let V := W.posts 1 true
  CyW.ent { V with y := { V.y with started := V.y.started + 1, sense := !V.y.sense, steps := 0 } } 2
def turns (W : CyW) : CyW := if W.y.at_ = 0 then (W.spc (turnS W.K.sp)).atY 2 else if W.y.at_ = 2 then (W.posts 4 false).atY 1 else if W.pollsB then { W.polls.ent 7 with h := none } else W.polls
def settles (W : CyW) : CyW := if W.y.at_ = 0 then (if W.pollsB then W.polls.atY 7 else W.polls) else (W.spc (doneS W.K.sp)).ent 9
def swept (W : CyW) : Bool := sweeps W.K.sp W.y.i W.y.sense
def sweep1 (W : CyW) : CyW := { W.spc (sweepS W.K.sp W.y.i W.y.sense) with y := { W.y with freed := if W.swept then W.y.freed + 1 else W.y.freed, i := W.y.i + 1 } }
def sweepsY (W : CyW) : CyW := if W.y.i + 1 = W.K.c.frags then W.sweep1.ent 10 else W.sweep1
def serves (W : CyW) : CyW := if W.y.at_ = 0 then (W.spc (endS W.K.sp)).atY 7 else
  let V := W.spc (serve W.K.sp W.y.sense).2
  if (serve W.K.sp W.y.sense).1 then V else CyW.ent { V with y := { V.y with finished := V.y.finished + 1 } } 0
end CyW
end Go.Proofs.YtnebimabokgofaaGreat

/-
  cycle: the collector in memory; polls, enters, hands; the readers; New.
-/
namespace Go.Proofs.YtnebimabokgofaaGreat
open Go Go.RowKit
set_option linter.unusedVariables false
set_option linter.unnecessarySimpa false
set_option linter.unusedSimpArgs false
set_option maxHeartbeats 4000000
set_option maxRecDepth 100000
structure CyAt (g : GW) (t b : Nat) (Y : CyS) (tr : Option TraceS) (h : Option HaulS) (tp hp : Option Addr) : Prop where
  blk : Blk g t b 116 (Y.cells tp hp)
  tr : ∀ S, tr = some S → ∃ bt cm, tp = some ⟨bt, 0, none⟩ ∧ cm.Same S.c ∧ TraceAt g (t + 1) bt { S with c := cm }
  hn : h = none → hp = none
  hl : ∀ S, h = some S → ∃ bh cm, hp = some ⟨bh, 0, none⟩ ∧ cm.Same S.c ∧ HaulAt g (t + 3) bh { S with c := cm }
theorem CyAt.keep {T : Nat → Prop} {g g' : GW} {t b : Nat} {Y : CyS} {tr : Option TraceS} {h : Option HaulS} {tp hp : Option Addr} (H : CyAt g t b Y tr h tp hp) (m : Mod T g g') (hT : ∀ x, T x → x < t ∨ t + 5 ≤ x) : CyAt g' t b Y tr h tp hp := by
  have q : ∀ k, k < 5 → ¬ T (t + k) := fun k hk ht => by have := hT _ ht; omega
  refine ⟨H.blk.keep m (q 0 (by omega)), fun S hS => ?_, H.hn, fun S hS => ?_⟩
  · obtain ⟨bt, cm, h1, h2, h3⟩ := H.tr S hS
    exact ⟨bt, cm, h1, h2, h3.keep m (q 1 (by omega)) (q 2 (by omega))⟩
  · obtain ⟨bt, cm, h1, h2, h3⟩ := H.hl S hS
    exact ⟨bt, cm, h1, h2, h3.keep m (q 3 (by omega)) (q 4 (by omega))⟩
/-- A field that is a number or a flag is stored. -/
theorem CyAt.set {g : GW} {t b : Nat} {Y : CyS} {tr : Option TraceS} {h : Option HaulS} {tp hp : Option Addr} (H : CyAt g t b Y tr h tp hp) (i : Nat) (v : Value) (Y' : CyS) (hv : Y'.cells tp hp = (Y.cells tp hp).set i v) : CyAt ⟨g.own, g.w.setCell ⟨b, i, none⟩ v⟩ t b Y' tr h tp hp := by
  have m : Mod (fun x => x = t) g ⟨g.own, g.w.setCell ⟨b, i, none⟩ v⟩ := Mod.set H.blk.own
  refine ⟨by rw [hv]; exact H.blk.set i v, fun S hS => ?_, H.hn, fun S hS => ?_⟩
  · obtain ⟨bt, cm, h1, h2, h3⟩ := H.tr S hS
    exact ⟨bt, cm, h1, h2, h3.keep m (by omega) (by omega)⟩
  · obtain ⟨bt, cm, h1, h2, h3⟩ := H.hl S hS
    exact ⟨bt, cm, h1, h2, h3.keep m (by omega) (by omega)⟩
/-- The collector's numbers lie apart from the core's. -/
structure CyApart (t B : Nat) : Prop where
  hb : 100 ≤ B
  ht : 100 ≤ t
  apart : t + 5 ≤ B ∨ B + 70 ≤ t
def cyT (t B : Nat) (x : Nat) : Prop := (t ≤ x ∧ x < t + 5) ∨ (B ≤ x ∧ x < B + 70)
structure CyIn (g : GW) (t B b k : Nat) (W : CyW) (tp hp : Option Addr) (bm bs bt bp bsp bh : Nat) (cm : Cnf) : Prop where
  y : CyAt g t b W.y W.tr W.h tp hp
  c : CoreIn g B k W.K bm bs bt bp bsp bh cm
def CyWAt (g : GW) (t B b k : Nat) (W : CyW) : Prop := ∃ tp hp bm bs bt bp bsp bh cm, CyIn g t B b k W tp hp bm bs bt bp bsp bh cm
structure CyW.Bd (W : CyW) : Prop where
  i : 0 ≤ W.y.i ∧ W.y.i ≤ 1099511627776
  started : 0 ≤ W.y.started ∧ W.y.started ≤ 1099511627776
  finished : 0 ≤ W.y.finished ∧ W.y.finished ≤ 1099511627776
  freed : 0 ≤ W.y.freed ∧ W.y.freed ≤ 1099511627776
  moved : 0 ≤ W.y.moved ∧ W.y.moved ≤ 1099511627776
  steps : 0 ≤ W.y.steps ∧ W.y.steps ≤ 1099511627776
  hand : 0 ≤ W.K.hand.count ∧ W.K.hand.count ≤ 1099511627776
  sp : 0 ≤ W.K.sp.count ∧ W.K.sp.count ≤ 1099511627776
  mem : 0 ≤ W.K.mem.count ∧ W.K.mem.count ≤ 1099511627776
  n : 0 ≤ W.K.n ∧ W.K.n ≤ 1099511627776
section
variable {g : GW} {t B b k : Nat} {W : CyW} {tp hp : Option Addr} {bm bs bt bp bsp bh : Nat} {cm : Cnf}
theorem CyIn.set (H : CyIn g t B b k W tp hp bm bs bt bp bsp bh cm) (A : CyApart t B) (i : Nat) (v : Value) (Y' : CyS) (hv : Y'.cells tp hp = (W.y.cells tp hp).set i v) : CyIn ⟨g.own, g.w.setCell ⟨b, i, none⟩ v⟩ t B b k { W with y := Y' } tp hp bm bs bt bp bsp bh cm :=
  ⟨H.y.set i v Y' hv, H.c.keep (Mod.set (T := fun x => x = t) H.y.blk.own) (fun x (hx : x = _) => by have := A.apart; omega)⟩
theorem CyIn.hand {g' : GW} (H : CyIn g t B b k W tp hp bm bs bt bp bsp bh cm) (A : CyApart t B) {h : HandS} (m : Mod (fun x => x = B + 63) g g') (hh : HandAt g' (B + 63) bh h) : CyIn g' t B b k { W with K := { W.K with hand := h } } tp hp bm bs bt bp bsp bh cm :=
  ⟨H.y.keep m (fun x (hx : x = _) => by have := A.apart; omega), H.c.putHand m hh⟩
theorem CyIn.spc {g' : GW} (H : CyIn g t B b k W tp hp bm bs bt bp bsp bh cm) (A : CyApart t B) {S : SpaceS} (m : Mod (inst B) g g') (hs : SpaceAt g' B bsp bt S) : CyIn g' t B b k (W.spc S) tp hp bm bs bt bp bsp bh cm :=
  ⟨H.y.keep m (fun x hx => by have := A.apart; have h1 := hx.1; have h2 := hx.2; omega), H.c.putSp m hs⟩
theorem CyIn.keep {T : Nat → Prop} {g' : GW} (H : CyIn g t B b k W tp hp bm bs bt bp bsp bh cm) (m : Mod T g g') (h1 : ∀ x, T x → x < t ∨ t + 5 ≤ x) (h2 : ∀ x, T x → x < B ∨ B + 70 ≤ x) : CyIn g' t B b k W tp hp bm bs bt bp bsp bh cm :=
  ⟨H.y.keep m h1, H.c.keep m h2⟩
theorem CyIn.modY (H : CyIn g t B b k W tp hp bm bs bt bp bsp bh cm) : cyT t B (g.own b) := by rw [H.y.blk.own]; exact Or.inl ⟨Nat.le_refl _, by omega⟩
end
theorem cyT_hand {t B x : Nat} (h : x = B + 63) : cyT t B x := Or.inr (by omega)
theorem cyT_inst {t B x : Nat} (h : inst B x) : cyT t B x := Or.inr (by have h1 := h.1; have h2 := h.2; omega)
section
variable (g : GW) (t b : Nat) (Y : CyS) (tr : Option TraceS) (hh : Option HaulS) (tp hp : Option Addr)
theorem cy_stage (h : CyAt g t b Y tr hh tp hp) : Calls Tryz.prog 17 #[.pointer (some ⟨b, 0, none⟩)] g.w (fun e w' => e = .returned (.int .i64 Y.stage) ∧ g.w = w') := by
  have a0 := h.blk.cell (i := 0) rfl
  have a1 := h.blk.cell (i := 1) rfl
  have a2 := h.blk.cell (i := 2) rfl
  have a3 := h.blk.cell (i := 3) rfl
  have a4 := h.blk.cell (i := 4) rfl
  have a5 := h.blk.cell (i := 5) rfl
  have a6 := h.blk.cell (i := 6) rfl
  have a7 := h.blk.cell (i := 7) rfl
  have a8 := h.blk.cell (i := 8) rfl
  have a9 := h.blk.cell (i := 9) rfl
  have a10 := h.blk.cell (i := 10) rfl
  have a11 := h.blk.cell (i := 11) rfl
  have a12 := h.blk.cell (i := 12) rfl
  have a13 := h.blk.cell (i := 13) rfl
  have al := h.blk.lt
  (try simp only [GW.to] at a0 a1 a2 a3 a4 a5 a6 a7 a8 a9 a10 a11 a12 a13 al)
  clear h
  go_enter Tryz.func17, Tryz.ntmps17
  go_wp2_with fail
  go_ret
  exact ⟨rfl, rfl⟩
theorem cy_sense (h : CyAt g t b Y tr hh tp hp) : Calls Tryz.prog 22 #[.pointer (some ⟨b, 0, none⟩)] g.w (fun e w' => e = .returned (.bool Y.sense) ∧ g.w = w') := by
  have a0 := h.blk.cell (i := 0) rfl
  have a1 := h.blk.cell (i := 1) rfl
  have a2 := h.blk.cell (i := 2) rfl
  have a3 := h.blk.cell (i := 3) rfl
  have a4 := h.blk.cell (i := 4) rfl
  have a5 := h.blk.cell (i := 5) rfl
  have a6 := h.blk.cell (i := 6) rfl
  have a7 := h.blk.cell (i := 7) rfl
  have a8 := h.blk.cell (i := 8) rfl
  have a9 := h.blk.cell (i := 9) rfl
  have a10 := h.blk.cell (i := 10) rfl
  have a11 := h.blk.cell (i := 11) rfl
  have a12 := h.blk.cell (i := 12) rfl
  have a13 := h.blk.cell (i := 13) rfl
  have al := h.blk.lt
  (try simp only [GW.to] at a0 a1 a2 a3 a4 a5 a6 a7 a8 a9 a10 a11 a12 a13 al)
  clear h
  go_enter Tryz.func22, Tryz.ntmps22
  go_wp2_with fail
  go_ret
  exact ⟨rfl, rfl⟩
theorem cy_started (h : CyAt g t b Y tr hh tp hp) : Calls Tryz.prog 21 #[.pointer (some ⟨b, 0, none⟩)] g.w (fun e w' => e = .returned (.int .i64 Y.started) ∧ g.w = w') := by
  have a0 := h.blk.cell (i := 0) rfl
  have a1 := h.blk.cell (i := 1) rfl
  have a2 := h.blk.cell (i := 2) rfl
  have a3 := h.blk.cell (i := 3) rfl
  have a4 := h.blk.cell (i := 4) rfl
  have a5 := h.blk.cell (i := 5) rfl
  have a6 := h.blk.cell (i := 6) rfl
  have a7 := h.blk.cell (i := 7) rfl
  have a8 := h.blk.cell (i := 8) rfl
  have a9 := h.blk.cell (i := 9) rfl
  have a10 := h.blk.cell (i := 10) rfl
  have a11 := h.blk.cell (i := 11) rfl
  have a12 := h.blk.cell (i := 12) rfl
  have a13 := h.blk.cell (i := 13) rfl
  have al := h.blk.lt
  (try simp only [GW.to] at a0 a1 a2 a3 a4 a5 a6 a7 a8 a9 a10 a11 a12 a13 al)
  clear h
  go_enter Tryz.func21, Tryz.ntmps21
  go_wp2_with fail
  go_ret
  exact ⟨rfl, rfl⟩
theorem cy_finished (h : CyAt g t b Y tr hh tp hp) : Calls Tryz.prog 18 #[.pointer (some ⟨b, 0, none⟩)] g.w (fun e w' => e = .returned (.int .i64 Y.finished) ∧ g.w = w') := by
  have a0 := h.blk.cell (i := 0) rfl
  have a1 := h.blk.cell (i := 1) rfl
  have a2 := h.blk.cell (i := 2) rfl
  have a3 := h.blk.cell (i := 3) rfl
  have a4 := h.blk.cell (i := 4) rfl
  have a5 := h.blk.cell (i := 5) rfl
  have a6 := h.blk.cell (i := 6) rfl
  have a7 := h.blk.cell (i := 7) rfl
  have a8 := h.blk.cell (i := 8) rfl
  have a9 := h.blk.cell (i := 9) rfl
  have a10 := h.blk.cell (i := 10) rfl
  have a11 := h.blk.cell (i := 11) rfl
  have a12 := h.blk.cell (i := 12) rfl
  have a13 := h.blk.cell (i := 13) rfl
  have al := h.blk.lt
  (try simp only [GW.to] at a0 a1 a2 a3 a4 a5 a6 a7 a8 a9 a10 a11 a12 a13 al)
  clear h
  go_enter Tryz.func18, Tryz.ntmps18
  go_wp2_with fail
  go_ret
  exact ⟨rfl, rfl⟩
theorem cy_freed (h : CyAt g t b Y tr hh tp hp) : Calls Tryz.prog 23 #[.pointer (some ⟨b, 0, none⟩)] g.w (fun e w' => e = .returned (.int .i64 Y.freed) ∧ g.w = w') := by
  have a0 := h.blk.cell (i := 0) rfl
  have a1 := h.blk.cell (i := 1) rfl
  have a2 := h.blk.cell (i := 2) rfl
  have a3 := h.blk.cell (i := 3) rfl
  have a4 := h.blk.cell (i := 4) rfl
  have a5 := h.blk.cell (i := 5) rfl
  have a6 := h.blk.cell (i := 6) rfl
  have a7 := h.blk.cell (i := 7) rfl
  have a8 := h.blk.cell (i := 8) rfl
  have a9 := h.blk.cell (i := 9) rfl
  have a10 := h.blk.cell (i := 10) rfl
  have a11 := h.blk.cell (i := 11) rfl
  have a12 := h.blk.cell (i := 12) rfl
  have a13 := h.blk.cell (i := 13) rfl
  have al := h.blk.lt
  (try simp only [GW.to] at a0 a1 a2 a3 a4 a5 a6 a7 a8 a9 a10 a11 a12 a13 al)
  clear h
  go_enter Tryz.func23, Tryz.ntmps23
  go_wp2_with fail
  go_ret
  exact ⟨rfl, rfl⟩
theorem cy_moved (h : CyAt g t b Y tr hh tp hp) : Calls Tryz.prog 24 #[.pointer (some ⟨b, 0, none⟩)] g.w (fun e w' => e = .returned (.int .i64 Y.moved) ∧ g.w = w') := by
  have a0 := h.blk.cell (i := 0) rfl
  have a1 := h.blk.cell (i := 1) rfl
  have a2 := h.blk.cell (i := 2) rfl
  have a3 := h.blk.cell (i := 3) rfl
  have a4 := h.blk.cell (i := 4) rfl
  have a5 := h.blk.cell (i := 5) rfl
  have a6 := h.blk.cell (i := 6) rfl
  have a7 := h.blk.cell (i := 7) rfl
  have a8 := h.blk.cell (i := 8) rfl
  have a9 := h.blk.cell (i := 9) rfl
  have a10 := h.blk.cell (i := 10) rfl
  have a11 := h.blk.cell (i := 11) rfl
  have a12 := h.blk.cell (i := 12) rfl
  have a13 := h.blk.cell (i := 13) rfl
  have al := h.blk.lt
  (try simp only [GW.to] at a0 a1 a2 a3 a4 a5 a6 a7 a8 a9 a10 a11 a12 a13 al)
  clear h
  go_enter Tryz.func24, Tryz.ntmps24
  go_wp2_with fail
  go_ret
  exact ⟨rfl, rfl⟩
theorem cy_steps (h : CyAt g t b Y tr hh tp hp) : Calls Tryz.prog 47 #[.pointer (some ⟨b, 0, none⟩)] g.w (fun e w' => e = .returned (.int .i64 Y.steps) ∧ g.w = w') := by
  have a0 := h.blk.cell (i := 0) rfl
  have a1 := h.blk.cell (i := 1) rfl
  have a2 := h.blk.cell (i := 2) rfl
  have a3 := h.blk.cell (i := 3) rfl
  have a4 := h.blk.cell (i := 4) rfl
  have a5 := h.blk.cell (i := 5) rfl
  have a6 := h.blk.cell (i := 6) rfl
  have a7 := h.blk.cell (i := 7) rfl
  have a8 := h.blk.cell (i := 8) rfl
  have a9 := h.blk.cell (i := 9) rfl
  have a10 := h.blk.cell (i := 10) rfl
  have a11 := h.blk.cell (i := 11) rfl
  have a12 := h.blk.cell (i := 12) rfl
  have a13 := h.blk.cell (i := 13) rfl
  have al := h.blk.lt
  (try simp only [GW.to] at a0 a1 a2 a3 a4 a5 a6 a7 a8 a9 a10 a11 a12 a13 al)
  clear h
  go_enter Tryz.func47, Tryz.ntmps47
  go_wp2_with fail
  go_ret
  exact ⟨rfl, rfl⟩
theorem cy_errno (h : CyAt g t b Y tr hh tp hp) : Calls Tryz.prog 20 #[.pointer (some ⟨b, 0, none⟩)] g.w (fun e w' => e = .returned (.int .i64 Y.e) ∧ g.w = w') := by
  have a0 := h.blk.cell (i := 0) rfl
  have a1 := h.blk.cell (i := 1) rfl
  have a2 := h.blk.cell (i := 2) rfl
  have a3 := h.blk.cell (i := 3) rfl
  have a4 := h.blk.cell (i := 4) rfl
  have a5 := h.blk.cell (i := 5) rfl
  have a6 := h.blk.cell (i := 6) rfl
  have a7 := h.blk.cell (i := 7) rfl
  have a8 := h.blk.cell (i := 8) rfl
  have a9 := h.blk.cell (i := 9) rfl
  have a10 := h.blk.cell (i := 10) rfl
  have a11 := h.blk.cell (i := 11) rfl
  have a12 := h.blk.cell (i := 12) rfl
  have a13 := h.blk.cell (i := 13) rfl
  have al := h.blk.lt
  (try simp only [GW.to] at a0 a1 a2 a3 a4 a5 a6 a7 a8 a9 a10 a11 a12 a13 al)
  clear h
  go_enter Tryz.func20, Tryz.ntmps20
  go_wp2_with fail
  go_ret
  exact ⟨rfl, rfl⟩
end
theorem cy_new (g : GW) (t : Nat) : Calls Tryz.prog 15 #[] g.w (fun e w' => ∃ own' b, e = .returned (.pointer (some ⟨b, 0, none⟩)) ∧ Mod (fun _ => False) g ⟨own', w'⟩ ∧ CyAt ⟨own', w'⟩ t b CyS.fresh none none none none) := by
  go_enter Tryz.func15, Tryz.ntmps15
  go_wp2_with fail
  go_ret
  exact ⟨_, g.w.heap.size, rfl, Mod.ext (show Ext g.w (g.w.alloc (.cells ((CyS.fresh.cells none none).toArray) 116)) by (repeat (first | (with_reducible assumption) | (with_reducible exact Ext.refl _) | (with_reducible exact Ext.more _ _ _ _) | apply Ext.alloc | refine Ext.setCell ?_ (by first | exact Nat.le_refl _ | exact Nat.le_add_right _ _ | assumption) _ | apply Ext.patch | apply Ext.drew | apply Ext.drewN))) t, ⟨Blk.new g t 116 (CyS.fresh.cells none none), (fun S hS => by cases hS), (fun _ => rfl), (fun S hS => by cases hS)⟩⟩
section
variable {g : GW} {t B b k : Nat} {W : CyW} {tp hp : Option Addr} {bm bs bt bp bsp bh : Nat} {cm : Cnf}
theorem cy_enters (A : CyApart t B) (s : Int) (H : CyIn g t B b k W tp hp bm bs bt bp bsp bh cm) : Calls Tryz.prog 64 #[.pointer (some ⟨b, 0, none⟩), .int .i64 s] g.w (Does (.tuple #[]) g (cyT t B) (fun g' => CyIn g' t B b k (W.ent s) tp hp bm bs bt bp bsp bh cm)) := by
  have H3 := Lib.hid (((H.set A 0 (.int .i64 s) { W.y with stage := s } rfl).set A 1 (.int .i64 0) { W.y with stage := s, at_ := 0 } rfl).set A 2 (.int .i64 0) (W.y.enters s) rfl)
  have M := Lib.hid (show Mod (cyT t B) g ⟨g.own, ((g.w.setCell ⟨b, 0, none⟩ (.int .i64 s)).setCell ⟨b, 1, none⟩ (.int .i64 0)).setCell ⟨b, 2, none⟩ (.int .i64 0)⟩ from Mod.st (Mod.st (Mod.st Mod.self H.modY) H.modY) H.modY)
  have a0 := H.y.blk.cell (i := 0) rfl
  have a1 := H.y.blk.cell (i := 1) rfl
  have a2 := H.y.blk.cell (i := 2) rfl
  have a3 := H.y.blk.cell (i := 3) rfl
  have a4 := H.y.blk.cell (i := 4) rfl
  have a5 := H.y.blk.cell (i := 5) rfl
  have a6 := H.y.blk.cell (i := 6) rfl
  have a7 := H.y.blk.cell (i := 7) rfl
  have a8 := H.y.blk.cell (i := 8) rfl
  have a9 := H.y.blk.cell (i := 9) rfl
  have a10 := H.y.blk.cell (i := 10) rfl
  have a11 := H.y.blk.cell (i := 11) rfl
  have a12 := H.y.blk.cell (i := 12) rfl
  have a13 := H.y.blk.cell (i := 13) rfl
  have af0 := H.y.blk.live 0
  have af1 := H.y.blk.live 1
  have af2 := H.y.blk.live 2
  have al := H.y.blk.lt
  (try simp only [GW.to] at a0 a1 a2 a3 a4 a5 a6 a7 a8 a9 a10 a11 a12 a13 af0 af1 af2 al)
  clear H
  go_enter Tryz.func64, Tryz.ntmps64
  go_wp2_with fail
  exact bodyPost_end (results_none rfl _ _ _) rfl (Does.of ⟨g.own, _⟩ rfl rfl M.out H3.out)
theorem CyIn.pt (H : CyIn g t B b k W tp hp bm bs bt bp bsp bh cm) (X : Extra) : CyIn (g.pt X) t B b k W tp hp bm bs bt bp bsp bh cm := H.keep (T := fun _ => False) (Mod.pt (Mod.refl _ _) X) (fun _ => False.elim) (fun _ => False.elim)
theorem cy_polls (A : CyApart t B) (hd : W.Bd) (H : CyIn g t B b k W tp hp bm bs bt bp bsp bh cm) : Calls Tryz.prog 101 #[.pointer (some ⟨b, 0, none⟩), .pointer (some ⟨k, 0, none⟩)] g.w (Does (.bool W.pollsB) g (cyT t B) (fun g' => CyIn g' t B b k W.polls tp hp bm bs bt bp bsp bh cm)) := by
  have HH := Lib.hid H
  have HPL := Lib.hid (fun X => hand_poll (g.pt X) (B + 63) bh W.y.i W.K.hand (H.pt X).c.hand hd.hand)
  obtain ⟨hi0, hi1⟩ := hd.i
  have a0 := H.y.blk.cell (i := 0) rfl
  have a1 := H.y.blk.cell (i := 1) rfl
  have a2 := H.y.blk.cell (i := 2) rfl
  have a3 := H.y.blk.cell (i := 3) rfl
  have a4 := H.y.blk.cell (i := 4) rfl
  have a5 := H.y.blk.cell (i := 5) rfl
  have a6 := H.y.blk.cell (i := 6) rfl
  have a7 := H.y.blk.cell (i := 7) rfl
  have a8 := H.y.blk.cell (i := 8) rfl
  have a9 := H.y.blk.cell (i := 9) rfl
  have a10 := H.y.blk.cell (i := 10) rfl
  have a11 := H.y.blk.cell (i := 11) rfl
  have a12 := H.y.blk.cell (i := 12) rfl
  have a13 := H.y.blk.cell (i := 13) rfl
  have al := H.y.blk.lt
  (try simp only [GW.to] at a0 a1 a2 a3 a4 a5 a6 a7 a8 a9 a10 a11 a12 a13 al)
  have c0 := H.c.blk.cell (i := 0) rfl
  have c1 := H.c.blk.cell (i := 1) rfl
  have c2 := H.c.blk.cell (i := 2) rfl
  have c3 := H.c.blk.cell (i := 3) rfl
  have c4 := H.c.blk.cell (i := 4) rfl
  have c5 := H.c.blk.cell (i := 5) rfl
  have c6 := H.c.blk.cell (i := 6) rfl
  have c7 := H.c.blk.cell (i := 7) rfl
  have c8 := H.c.blk.cell (i := 8) rfl
  have c9 := H.c.blk.cell (i := 9) rfl
  have c10 := H.c.blk.cell (i := 10) rfl
  have c11 := H.c.blk.cell (i := 11) rfl
  have c12 := H.c.blk.cell (i := 12) rfl
  have cl := H.c.blk.lt
  (try simp only [GW.to] at c0 c1 c2 c3 c4 c5 c6 c7 c8 c9 c10 c11 c12 cl)
  clear H hd
  go_enter Tryz.func101, Tryz.ntmps101
  go_wp2_with fail
  refine wp_region_mixed [true, true, true, true, true, true, true, true, false] 1 8 (by kernel_rfl) (by kernel_rfl) (by kernel_rfl) ?_ (by decide) (by decide) (by decide) (by kernel_rfl) ?_
  · intro c a d v w h; cases d <;> exact h
  intro X00
  simp only [pickOps]
  repeat (go_big_quiet_step (fail))
  refine wpQuiet_nil (fun X0 => ?_)
  clear X00
  refine wpAnyM_tailL rfl (by kernel_rfl) (fun X2 => ?_)
  simp only [List.drop_succ_cons, List.drop_zero]
  go_wp2_with fail
  refine (HPL.out _).mono ?_
  rintro e w1 ⟨rfl, own1, m1, h1⟩
  have P1 := (Mod.pt (Mod.refl _ _) _).trans m1
  have M1 := Lib.hid (P1.mono (S := cyT t B) (fun x hx => cyT_hand hx))
  have H1 := Lib.hid (HH.out.hand A P1 h1)
  clear P1 m1 h1 a0 a1 a2 a3 a4 a5 a6 a7 a8 a9 a10 a11 a12 a13 al c0 c1 c2 c3 c4 c5 c6 c7 c8 c9 c10 c11 c12 cl HPL HH
  have hth := H1.out.c.same.threads
  cases hp : W.K.hand.polled W.y.i
  · have HN := Lib.hid (show W.nextI = W.y.i by unfold CyW.nextI CyW.polled; rw [hp]; rfl)
    have HE := Lib.hid (show W.polls = { W with K := { W.K with hand := W.K.hand.tick } } by unfold CyW.polls; rw [HN.out])
    have HV := Lib.hid (show W.pollsB = (W.y.i == cm.threads) by unfold CyW.pollsB; rw [HN.out, hth])
    clear hp hth
    have a0 := H1.out.y.blk.cell (i := 0) rfl
    have a1 := H1.out.y.blk.cell (i := 1) rfl
    have a2 := H1.out.y.blk.cell (i := 2) rfl
    have a3 := H1.out.y.blk.cell (i := 3) rfl
    have a4 := H1.out.y.blk.cell (i := 4) rfl
    have a5 := H1.out.y.blk.cell (i := 5) rfl
    have a6 := H1.out.y.blk.cell (i := 6) rfl
    have a7 := H1.out.y.blk.cell (i := 7) rfl
    have a8 := H1.out.y.blk.cell (i := 8) rfl
    have a9 := H1.out.y.blk.cell (i := 9) rfl
    have a10 := H1.out.y.blk.cell (i := 10) rfl
    have a11 := H1.out.y.blk.cell (i := 11) rfl
    have a12 := H1.out.y.blk.cell (i := 12) rfl
    have a13 := H1.out.y.blk.cell (i := 13) rfl
    have al := H1.out.y.blk.lt
    (try simp only [GW.to] at a0 a1 a2 a3 a4 a5 a6 a7 a8 a9 a10 a11 a12 a13 al)
    have c0 := H1.out.c.blk.cell (i := 0) rfl
    have c1 := H1.out.c.blk.cell (i := 1) rfl
    have c2 := H1.out.c.blk.cell (i := 2) rfl
    have c3 := H1.out.c.blk.cell (i := 3) rfl
    have c4 := H1.out.c.blk.cell (i := 4) rfl
    have c5 := H1.out.c.blk.cell (i := 5) rfl
    have c6 := H1.out.c.blk.cell (i := 6) rfl
    have c7 := H1.out.c.blk.cell (i := 7) rfl
    have c8 := H1.out.c.blk.cell (i := 8) rfl
    have c9 := H1.out.c.blk.cell (i := 9) rfl
    have c10 := H1.out.c.blk.cell (i := 10) rfl
    have c11 := H1.out.c.blk.cell (i := 11) rfl
    have c12 := H1.out.c.blk.cell (i := 12) rfl
    have cl := H1.out.c.blk.lt
    (try simp only [GW.to] at c0 c1 c2 c3 c4 c5 c6 c7 c8 c9 c10 c11 c12 cl)
    go_wp2_with fail
    refine wp_region_mixed [true, true, true, true, true, true, true, true, true, true, true] 0 11 (by kernel_rfl) (by kernel_rfl) (by kernel_rfl) ?_ (by decide) (by decide) (by decide) (by kernel_rfl) ?_
    · intro c a d v w h; cases d <;> exact h
    intro X00
    simp only [pickOps]
    repeat (go_big_quiet_step (fail))
    refine wpQuiet_nil (fun X0 => ?_)
    clear X00
    refine wpAnyM_done (by kernel_rfl) (fun X0' => ?_) _
    (try go_simp)
    go_wp2_with fail
    go_ret
    exact Does.ext ⟨own1, w1⟩ (by (repeat (first | (with_reducible assumption) | (with_reducible exact Ext.refl _) | (with_reducible exact Ext.more _ _ _ _) | apply Ext.alloc | refine Ext.setCell ?_ (by first | exact Nat.le_refl _ | exact Nat.le_add_right _ _ | assumption) _ | apply Ext.patch | apply Ext.drew | apply Ext.drewN))) (by rw [HV.out]; rfl) M1.out (fun g2 m => by rw [HE.out]; exact H1.out.keep m (fun _ => False.elim) (fun _ => False.elim))
  · have HN := Lib.hid (show W.nextI = W.y.i + 1 by unfold CyW.nextI CyW.polled; rw [hp]; rfl)
    have HE := Lib.hid (show W.polls = { W with y := { W.y with i := W.y.i + 1 }, K := { W.K with hand := W.K.hand.tick } } by unfold CyW.polls; rw [HN.out])
    have HV := Lib.hid (show W.pollsB = (W.y.i + 1 == cm.threads) by unfold CyW.pollsB; rw [HN.out, hth])
    have H2 := Lib.hid (H1.out.set A 2 (.int .i64 (W.y.i + 1)) { W.y with i := W.y.i + 1 } rfl)
    have M2 := Lib.hid (show Mod (cyT t B) g ⟨own1, w1.setCell ⟨b, 2, none⟩ (.int .i64 (W.y.i + 1))⟩ from Mod.st M1.out H1.out.modY)
    clear hp hth
    have a0 := H1.out.y.blk.cell (i := 0) rfl
    have a1 := H1.out.y.blk.cell (i := 1) rfl
    have a2 := H1.out.y.blk.cell (i := 2) rfl
    have a3 := H1.out.y.blk.cell (i := 3) rfl
    have a4 := H1.out.y.blk.cell (i := 4) rfl
    have a5 := H1.out.y.blk.cell (i := 5) rfl
    have a6 := H1.out.y.blk.cell (i := 6) rfl
    have a7 := H1.out.y.blk.cell (i := 7) rfl
    have a8 := H1.out.y.blk.cell (i := 8) rfl
    have a9 := H1.out.y.blk.cell (i := 9) rfl
    have a10 := H1.out.y.blk.cell (i := 10) rfl
    have a11 := H1.out.y.blk.cell (i := 11) rfl
    have a12 := H1.out.y.blk.cell (i := 12) rfl
    have a13 := H1.out.y.blk.cell (i := 13) rfl
    have af2 := H1.out.y.blk.live 2
    have al := H1.out.y.blk.lt
    (try simp only [GW.to] at a0 a1 a2 a3 a4 a5 a6 a7 a8 a9 a10 a11 a12 a13 af2 al)
    go_upto_region 3 with fail
    generalize w1.setCell ⟨b, 2, none⟩ (.int .i64 (W.y.i + 1)) = w2 at *
    clear a0 a1 a2 a3 a4 a5 a6 a7 a8 a9 a10 a11 a12 a13 af2 al H1 M1
    have a0 := H2.out.y.blk.cell (i := 0) rfl
    have a1 := H2.out.y.blk.cell (i := 1) rfl
    have a2 := H2.out.y.blk.cell (i := 2) rfl
    have a3 := H2.out.y.blk.cell (i := 3) rfl
    have a4 := H2.out.y.blk.cell (i := 4) rfl
    have a5 := H2.out.y.blk.cell (i := 5) rfl
    have a6 := H2.out.y.blk.cell (i := 6) rfl
    have a7 := H2.out.y.blk.cell (i := 7) rfl
    have a8 := H2.out.y.blk.cell (i := 8) rfl
    have a9 := H2.out.y.blk.cell (i := 9) rfl
    have a10 := H2.out.y.blk.cell (i := 10) rfl
    have a11 := H2.out.y.blk.cell (i := 11) rfl
    have a12 := H2.out.y.blk.cell (i := 12) rfl
    have a13 := H2.out.y.blk.cell (i := 13) rfl
    have al := H2.out.y.blk.lt
    (try simp only [GW.to] at a0 a1 a2 a3 a4 a5 a6 a7 a8 a9 a10 a11 a12 a13 al)
    have c0 := H2.out.c.blk.cell (i := 0) rfl
    have c1 := H2.out.c.blk.cell (i := 1) rfl
    have c2 := H2.out.c.blk.cell (i := 2) rfl
    have c3 := H2.out.c.blk.cell (i := 3) rfl
    have c4 := H2.out.c.blk.cell (i := 4) rfl
    have c5 := H2.out.c.blk.cell (i := 5) rfl
    have c6 := H2.out.c.blk.cell (i := 6) rfl
    have c7 := H2.out.c.blk.cell (i := 7) rfl
    have c8 := H2.out.c.blk.cell (i := 8) rfl
    have c9 := H2.out.c.blk.cell (i := 9) rfl
    have c10 := H2.out.c.blk.cell (i := 10) rfl
    have c11 := H2.out.c.blk.cell (i := 11) rfl
    have c12 := H2.out.c.blk.cell (i := 12) rfl
    have cl := H2.out.c.blk.lt
    (try simp only [GW.to] at c0 c1 c2 c3 c4 c5 c6 c7 c8 c9 c10 c11 c12 cl)
    refine wp_region_mixed [true, true, true, true, true, true, true, true, true, true, true] 0 11 (by kernel_rfl) (by kernel_rfl) (by kernel_rfl) ?_ (by decide) (by decide) (by decide) (by kernel_rfl) ?_
    · intro c a d v w h; cases d <;> exact h
    intro X00
    simp only [pickOps]
    repeat (go_big_quiet_step (fail))
    refine wpQuiet_nil (fun X0 => ?_)
    clear X00
    refine wpAnyM_done (by kernel_rfl) (fun X0' => ?_) _
    (try go_simp)
    go_wp2_with fail
    go_ret
    exact Does.ext ⟨own1, w2⟩ (by (repeat (first | (with_reducible assumption) | (with_reducible exact Ext.refl _) | (with_reducible exact Ext.more _ _ _ _) | apply Ext.alloc | refine Ext.setCell ?_ (by first | exact Nat.le_refl _ | exact Nat.le_add_right _ _ | assumption) _ | apply Ext.patch | apply Ext.drew | apply Ext.drewN))) (by rw [HV.out]; rfl) M2.out (fun g2 m => by rw [HE.out]; exact H2.out.keep m (fun _ => False.elim) (fun _ => False.elim))
end
end Go.Proofs.YtnebimabokgofaaGreat

