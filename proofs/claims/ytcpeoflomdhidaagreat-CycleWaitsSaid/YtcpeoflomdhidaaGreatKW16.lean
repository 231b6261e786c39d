import Derived.Test.YtcpeoflomdhidaaGreatKW15
import Derived.Deep.DeepCutAuto
import Derived.Laws.AppendOwnNone
import Derived.Laws.CopyRow
/-
  Packed: ActA, ActB, ActC, ActD, Clear.
-/
open Go.Ext renaming alloc → zA, patch → zP, drew → zD, drewN → zN, more → zM, refl → zR, setCell → zS
open Nat renaming le_refl → zL, le_add_right → zK
/-
  act: the thread in memory; what it touches.
-/
namespace Go.Proofs.YtcpeoflomdhidaaGreat
open Go Go.RowKit
set_option linter.unusedVariables false
set_option linter.unnecessarySimpa false
set_option linter.unusedSimpArgs false
set_option maxHeartbeats 2000000
set_option maxRecDepth 100000
structure AcRows (g : GW) (t : Nat) (A : AcS) (p : AcP) : Prop where
  ops : Seg g 0 p.opsA (A.ops.flatMap Opr.cells)
  opsC : A.ops.length ≤ p.opsC ∧ p.opsC ≤ 9223372036854775807
  loc : Row g (t + 1) 83 2 (.slice p.locA A.locals.length p.locC) A.locals.length (A.locals.flatMap LVal.cells)
  grey : Seg g (t + 4) p.greyA (A.grey.map (Value.int .i64))
  greyC : A.grey.length ≤ p.greyC ∧ p.greyC ≤ 9223372036854775807
  fn : A.f = none → p.fp = none
  fs : ∀ S, A.f = some S → ∃ bf cm, p.fp = some ⟨bf, 0, none⟩ ∧ cm.Same S.c ∧ FindAt g (t + 2) bf (S.withC cm)
  got : Seg g 0 p.gotA (A.got.map (Value.int .i64))
  gotC : A.got.length ≤ p.gotC ∧ p.gotC ≤ 9223372036854775807
  wr : Seg g 0 p.wrA A.writes
  wrE : A.writes.length % 2 = 0
  wrC : A.writes.length / 2 ≤ p.wrC ∧ p.wrC ≤ 9223372036854775807
structure AcAt (g : GW) (t b : Nat) (A : AcS) (p : AcP) : Prop where
  blk : Blk g t b 155 (A.cells p)
  r : AcRows g t A p
structure AcApart (t B : Nat) : Prop where
  hb : 100 ≤ B
  ht : 100 ≤ t
  apart : t + 5 ≤ B ∨ B + 70 ≤ t
def acT (t B : Nat) (x : Nat) : Prop := (t ≤ x ∧ x < t + 5) ∨ (B ≤ x ∧ x < B + 70)
section
variable {g g' : GW} {t b : Nat} {A : AcS} {p : AcP}
theorem AcRows.keep {T : Nat → Prop} (H : AcRows g t A p) (m : Mod T g g') (h0 : ¬ T 0) (h1 : ¬ T (t + 1)) (h2 : ¬ T (t + 2)) (h3 : ¬ T (t + 3)) (h4 : ¬ T (t + 4)) : AcRows g' t A p :=
  ⟨H.ops.keep m h0, H.opsC, H.loc.keep m h1, H.grey.keep m h4, H.greyC, H.fn, fun S hS => by
    obtain ⟨bf, cm, e1, e2, e3⟩ := H.fs S hS
    exact ⟨bf, cm, e1, e2, e3.keep m h2 h3⟩, H.got.keep m h0, H.gotC, H.wr.keep m h0, H.wrE, H.wrC⟩
theorem AcAt.keep {T : Nat → Prop} (H : AcAt g t b A p) (m : Mod T g g') (h0 : ¬ T 0) (hT : ∀ x, T x → x < t ∨ t + 5 ≤ x) : AcAt g' t b A p := by
  have q : ∀ k, k < 5 → ¬ T (t + k) := fun k hk ht => by have := hT _ ht; omega
  exact ⟨H.blk.keep m (q 0 (by omega)), H.r.keep m h0 (q 1 (by omega)) (q 2 (by omega)) (q 3 (by omega)) (q 4 (by omega))⟩
theorem AcAt.turn {A' : AcS} {p' : AcP} (H : AcAt g t b A p) (ht : 100 ≤ t) (m : Mod (fun x => x = t) g g') (hb : Blk g' t b 155 (A'.cells p')) (hr : AcRows g t A' p') : AcAt g' t b A' p' :=
  ⟨hb, hr.keep m (by omega) (by omega) (by omega) (by omega) (by omega)⟩
structure AcS.SameRows (A A' : AcS) : Prop where
  ops : A'.ops = A.ops
  loc : A'.locals = A.locals
  grey : A'.grey = A.grey
  f : A'.f = A.f
  got : A'.got = A.got
  wr : A'.writes = A.writes
theorem AcRows.same {A' : AcS} (H : AcRows g t A p) (h : A.SameRows A') : AcRows g t A' p := by
  obtain ⟨h1, h2, h3, h4, h5, h6⟩ := h
  obtain ⟨r1, r2, r3, r4, r5, r6, r7, r8, r9, r10, r11, r12⟩ := H
  exact ⟨by rw [h1]; exact r1, by rw [h1]; exact r2, by rw [h2]; exact r3, by rw [h3]; exact r4, by rw [h3]; exact r5, by rw [h4]; exact r6, by rw [h4]; exact r7, by rw [h5]; exact r8, by rw [h5]; exact r9, by rw [h6]; exact r10, by rw [h6]; exact r11, by rw [h6]; exact r12⟩
theorem AcAt.set (H : AcAt g t b A p) (ht : 100 ≤ t) (i : Nat) (v : Value) (A' : AcS) (hv : A'.cells p = (A.cells p).set i v) (h : A.SameRows A') : AcAt ⟨g.own, g.w.setCell ⟨b, i, none⟩ v⟩ t b A' p :=
  H.turn ht (Mod.set H.blk.own) (by rw [hv]; exact H.blk.set i v) (H.r.same h)
end
structure TbI where
  tb : Nat
abbrev TbId := Inhabited TbI
def TbId.tb [TbId] : Nat := (default : TbI).tb
structure AcIn [TbId] (g : GW) (t B b k : Nat) (W : AcW) (p : AcP) (bm bs bt bp bsp bh : Nat) (cm : Cnf) : Prop where
  a : AcAt g t b W.a p
  c : CoreIn g B k W.K bm bs bt bp bsp bh cm
  tbl : bt = TbId.tb
def AcWAt [TbId] (g : GW) (t B b k : Nat) (W : AcW) : Prop := ∃ p bm bs bt bp bsp bh cm, AcIn g t B b k W p bm bs bt bp bsp bh cm
section
variable [TbId] {g : GW} {t B b k : Nat} {W : AcW} {p : AcP} {bm bs bt bp bsp bh : Nat} {cm : Cnf}
theorem AcIn.at_ (H : AcIn g t B b k W p bm bs bt bp bsp bh cm) : AcWAt g t B b k W := ⟨p, bm, bs, bt, bp, bsp, bh, cm, H⟩
theorem AcIn.set (H : AcIn g t B b k W p bm bs bt bp bsp bh cm) (P : AcApart t B) (i : Nat) (v : Value) (A' : AcS) (hv : A'.cells p = (W.a.cells p).set i v) (h : W.a.SameRows A') : AcIn ⟨g.own, g.w.setCell ⟨b, i, none⟩ v⟩ t B b k (W.withA A') p bm bs bt bp bsp bh cm :=
  ⟨H.a.set P.ht i v A' hv h, H.c.keep (Mod.set (T := fun x => x = t) H.a.blk.own) (fun x (hx : x = _) => by have := P.apart; omega), H.tbl⟩
theorem AcIn.turn {g' : GW} {A' : AcS} {p' : AcP} (H : AcIn g t B b k W p bm bs bt bp bsp bh cm) (P : AcApart t B) (m : Mod (fun x => x = t) g g') (hb : Blk g' t b 155 (A'.cells p')) (hr : AcRows g t A' p') : AcIn g' t B b k (W.withA A') p' bm bs bt bp bsp bh cm :=
  ⟨H.a.turn P.ht m hb hr, H.c.keep m (fun x (hx : x = _) => by have := P.apart; omega), H.tbl⟩
theorem AcIn.keep {T : Nat → Prop} {g' : GW} (H : AcIn g t B b k W p bm bs bt bp bsp bh cm) (m : Mod T g g') (h0 : ¬ T 0) (h1 : ∀ x, T x → x < t ∨ t + 5 ≤ x) (h2 : ∀ x, T x → x < B ∨ B + 70 ≤ x) : AcIn g' t B b k W p bm bs bt bp bsp bh cm :=
  ⟨H.a.keep m h0 h1, H.c.keep m h2, H.tbl⟩
theorem AcIn.keep0 {g' : GW} (H : AcIn g t B b k W p bm bs bt bp bsp bh cm) (m : Mod (fun _ => False) g g') : AcIn g' t B b k W p bm bs bt bp bsp bh cm := H.keep m id (fun _ => False.elim) (fun _ => False.elim)
theorem AcIn.pt (H : AcIn g t B b k W p bm bs bt bp bsp bh cm) (X : Extra) : AcIn (g.pt X) t B b k W p bm bs bt bp bsp bh cm := H.keep0 (Mod.pt (Mod.refl _ _) X)
theorem AcIn.hand {g' : GW} (H : AcIn g t B b k W p bm bs bt bp bsp bh cm) (P : AcApart t B) {h : HandS} (m : Mod (fun x => x = B + 63) g g') (hh : HandAt g' (B + 63) bh h) : AcIn g' t B b k { W with K := { W.K with hand := h } } p bm bs bt bp bsp bh cm :=
  ⟨H.a.keep m (by omega) (fun x (hx : x = _) => by have := P.apart; omega), H.c.putHand m hh, H.tbl⟩
theorem AcIn.spc {g' : GW} (H : AcIn g t B b k W p bm bs bt bp bsp bh cm) (P : AcApart t B) {S : SpaceS} (m : Mod (inst B) g g') (hs : SpaceAt g' B bsp bt S) : AcIn g' t B b k (W.spc S) p bm bs bt bp bsp bh cm :=
  ⟨H.a.keep m (fun h => by have := h.1; have := P.hb; omega) (fun x hx => by have := P.apart; have h1 := hx.1; have h2 := hx.2; omega), H.c.putSp m hs, H.tbl⟩
theorem AcIn.greyK {g' : GW} (H : AcIn g t B b k W p bm bs bt bp bsp bh cm) (P : AcApart t B) {i : Int} (m : Mod (fun x => x = B + 60 ∨ x = B + 50 ∨ x = B + 61) g g')
    (hs : ShdAt g' (B + 60) bs bt (B + 50) bp (B + 61) (W.K.sp.tab.grey i W.a.sense) (W.K.pile.grey W.K.sp.tab i W.a.sense) (W.K.n + 1)) : AcIn g' t B b k (W.greyK i) p bm bs bt bp bsp bh cm :=
  ⟨H.a.keep m (by omega) (fun x (hx : x = _ ∨ x = _ ∨ x = _) => by have := P.apart; omega), H.c.putShd m hs, H.tbl⟩
theorem AcIn.modA (H : AcIn g t B b k W p bm bs bt bp bsp bh cm) : acT t B (g.own b) := by rw [H.a.blk.own]; exact Or.inl ⟨Nat.le_refl _, by omega⟩
end
theorem acT_hand {t B x : Nat} (h : x = B + 63) : acT t B x := Or.inr (by omega)
theorem acT_shd {t B x : Nat} (h : x = B + 60 ∨ x = B + 50 ∨ x = B + 61) : acT t B x := Or.inr (by omega)
theorem acT_inst {t B x : Nat} (h : inst B x) : acT t B x := Or.inr (by have h1 := h.1; have h2 := h.2; omega)
theorem acT_t {t B x : Nat} (h : x = t) : acT t B x := Or.inl (by omega)
end Go.Proofs.YtcpeoflomdhidaaGreat

/-
  act: what a thread is, small answers; done, lays, fails.
-/
namespace Go
open Go.RowKit
set_option linter.unusedVariables false
theorem lflat_get (l : List LVal) (k : Nat) (v : LVal) (h : l[k]? = some v) : (l.flatMap LVal.cells)[k * 2]? = some (.bool v.ref) ∧ (l.flatMap LVal.cells)[k * 2 + 1]? = some (.complex .f64 v.z.1 v.z.2) := by
  induction l generalizing k with
  | nil => simp at h
  | cons x l ih =>
    cases k with
    | zero => simp at h; subst h; exact ⟨rfl, rfl⟩
    | succ k =>
      have := ih k (by simpa using h)
      rw [show (k + 1) * 2 = k * 2 + 1 + 1 from by omega]
      simpa [List.flatMap_cons, LVal.cells] using this
theorem lflat_len (l : List LVal) : (l.flatMap LVal.cells).length = l.length * 2 := by
  induction l with
  | nil => rfl
  | cons x l ih => simp [List.flatMap_cons, LVal.cells, ih]; omega
theorem AcS_getD {l : List LVal} {k : Nat} (hk : k < l.length) : l[k]? = some (l.getD k LVal.zero) := by
  rw [List.getD_eq_getElem?_getD, List.getElem?_eq_getElem hk]; rfl
end Go
namespace Go.Proofs.YtcpeoflomdhidaaGreat
open Go Go.RowKit
set_option linter.unusedVariables false
set_option linter.unnecessarySimpa false
set_option linter.unusedSimpArgs false
set_option maxHeartbeats 2000000
set_option maxRecDepth 100000
theorem AcRows.local_ {g : GW} {t : Nat} {A : AcS} {p : AcP} (H : AcRows g t A p) {k : Nat} (hk : k < A.locals.length) : ∃ q, p.locA = some ⟨q, 0, none⟩ ∧ q < g.w.heap.size ∧ g.own q = t + 1 ∧ g.w.cell? ⟨q, k * 2, none⟩ = some (.bool (A.loc k).ref) ∧ g.w.cell? ⟨q, k * 2 + 1, none⟩ = some (.complex .f64 (A.loc k).z.1 (A.loc k).z.2) ∧ (∀ j, g.w.frozen? ⟨q, j, none⟩ = false) := by
  obtain ⟨q, hA, hq, ho, hc, hf⟩ := H.loc.block (by omega)
  have h := lflat_get A.locals k (A.loc k) (by unfold AcS.loc; rw [Int.toNat_natCast]; exact AcS_getD hk)
  exact ⟨q, hA, hq, ho, hc _ _ h.1, hc _ _ h.2, hf⟩
section
variable (g : GW) (t b : Nat) (A : AcS) (p : AcP)
theorem act_status (H : AcAt g t b A p) : Calls Tryz.prog 37 #[.pointer (some ⟨b, 0, none⟩)] g.w (fun e w' => e = .returned (.int .i64 A.status) ∧ g.w = w') := by
  obtain ⟨a0, a1, a2, a3, a4, a5, a6, a7, a8, a9, a10, a11, a12, a13, a14, a15, a16, a17, a18, al⟩ := H.blk.c19
  (try simp only [GW.to] at a0 a1 a2 a3 a4 a5 a6 a7 a8 a9 a10 a11 a12 a13 a14 a15 a16 a17 a18 al)
  clear H
  go_enter Tryz.func37, Tryz.ntmps37
  go_wp2_with fail
  go_ret
  exact ⟨rfl, rfl⟩
end
def acO (t x : Nat) : Prop := x = t ∨ x = t + 1
theorem start1 (g : GW) (T1 : TypeId) (v1 : List Value) : ∃ own0, Mod (fun _ => False) g ⟨own0, g.w.alloc (.cells v1.toArray T1)⟩ ∧ Blk ⟨own0, g.w.alloc (.cells v1.toArray T1)⟩ 9 g.w.heap.size T1 v1 :=
  ⟨_, Mod.ext (by (repeat (first | (with_reducible (first | assumption | exact zR _ | exact zM _ _ _ _)) | apply zA | refine zS ?_ (by first | exact zL _ | exact zK _ _ | assumption) _ | apply zP | apply zD | apply zN))) 9, Blk.new g 9 T1 v1⟩
theorem start2 (g : GW) (T1 T2 : TypeId) (v1 v2 : List Value) : ∃ own0, Mod (fun _ => False) g ⟨own0, (g.w.alloc (.cells v1.toArray T1)).alloc (.cells v2.toArray T2)⟩ ∧ Blk ⟨own0, (g.w.alloc (.cells v1.toArray T1)).alloc (.cells v2.toArray T2)⟩ 9 g.w.heap.size T1 v1 ∧ Blk ⟨own0, (g.w.alloc (.cells v1.toArray T1)).alloc (.cells v2.toArray T2)⟩ 9 (g.w.heap.size + 1) T2 v2 :=
  ⟨_, Mod.ext (g := g) (show Ext g.w _ by (repeat (first | (with_reducible (first | assumption | exact zR _ | exact zM _ _ _ _)) | apply zA | refine zS ?_ (by first | exact zL _ | exact zK _ _ | assumption) _ | apply zP | apply zD | apply zN))) 9, ⟨(two_blocks _ _ _).1, GW.to_new (Nat.le_refl _)⟩, ⟨(two_blocks _ _ _).2, GW.to_new (Nat.le_succ _)⟩⟩
def resZ : List Value := [.int .i64 0, .int .i64 0, .int .i64 0, .bool false, .complex .f64 0 0]
def resCells (r : ResS) : List Value := [.int .i64 r.op, .int .i64 r.own, .int .i64 r.e, .bool r.v.ref, .complex .f64 r.v.z.1 r.v.z.2]
theorem put_res {T : Nat → Prop} {g : GW} {own : Nat → Nat} {V : World} {q : Nat} (M : Mod T g ⟨own, V⟩) (R : Blk ⟨own, V⟩ 9 q 85 resZ) (hq : g.w.heap.size ≤ q) (op ow e : Int) (rf : Bool) (x y : Nat) :
    Mod T g ⟨own, ((((V.setCell ⟨q, 0, none⟩ (.int .i64 op)).setCell ⟨q, 1, none⟩ (.int .i64 ow)).setCell ⟨q, 2, none⟩ (.int .i64 e)).setCell ⟨q, 3, none⟩ (.bool rf)).setCell ⟨q, 4, none⟩ (.complex .f64 x y)⟩ ∧
    Mod (fun x => x = 9) ⟨own, V⟩ ⟨own, ((((V.setCell ⟨q, 0, none⟩ (.int .i64 op)).setCell ⟨q, 1, none⟩ (.int .i64 ow)).setCell ⟨q, 2, none⟩ (.int .i64 e)).setCell ⟨q, 3, none⟩ (.bool rf)).setCell ⟨q, 4, none⟩ (.complex .f64 x y)⟩ ∧
    Blk ⟨own, ((((V.setCell ⟨q, 0, none⟩ (.int .i64 op)).setCell ⟨q, 1, none⟩ (.int .i64 ow)).setCell ⟨q, 2, none⟩ (.int .i64 e)).setCell ⟨q, 3, none⟩ (.bool rf)).setCell ⟨q, 4, none⟩ (.complex .f64 x y)⟩ 9 q 85 [.int .i64 op, .int .i64 ow, .int .i64 e, .bool rf, .complex .f64 x y] :=
  ⟨Mod.stn (Mod.stn (Mod.stn (Mod.stn (Mod.stn M hq) hq) hq) hq) hq, Mod.st (Mod.st (Mod.st (Mod.st (Mod.st (Mod.refl _ _) R.own) R.own) R.own) R.own) R.own, ((((R.set 0 (.int .i64 op)).set 1 (.int .i64 ow)).set 2 (.int .i64 e)).set 3 (.bool rf)).set 4 (.complex .f64 x y)⟩
end Go.Proofs.YtcpeoflomdhidaaGreat

/-
  act: fails, lays.
-/
namespace Go.Proofs.YtcpeoflomdhidaaGreat
open Go Go.RowKit
set_option linter.unusedVariables false
set_option linter.unnecessarySimpa false
set_option linter.unusedSimpArgs false
set_option maxHeartbeats 2000000
set_option maxRecDepth 100000

def aggR (r : ResS) : Value := .agg #[.int .i64 r.op, .int .i64 r.own, .int .i64 r.e, .bool r.v.ref, .complex .f64 r.v.z.1 r.v.z.2]
end Go.Proofs.YtcpeoflomdhidaaGreat

/-
  act: looks.
-/
namespace Go.Proofs.YtcpeoflomdhidaaGreat
open Go Go.RowKit
set_option linter.unusedVariables false
set_option linter.unnecessarySimpa false
set_option linter.unusedSimpArgs false
set_option maxHeartbeats 2000000
set_option maxRecDepth 100000

theorem greys_take {l : List LVal} {k : Nat} (hk : k < l.length) : AcS.greys (l.take (k + 1)) = AcS.greys (l.take k) ++ (if (l.getD k LVal.zero).ref then (wIndex (l.getD k LVal.zero).z).toList else []) := by
  unfold AcS.greys
  rw [List.take_add_one, AcS_getD hk, List.filterMap_append]
  congr 1
  simp only [Option.toList, List.filterMap_cons, List.filterMap_nil]
  split
  · rename_i h
    split at h
    · rename_i h1; rw [if_pos h1, h]
    · rename_i h1; rw [if_neg h1]
  · rename_i v h
    split at h
    · rename_i h1; rw [if_pos h1, h]
    · cases h
theorem greys_len (l : List LVal) : (AcS.greys l).length ≤ l.length := List.length_filterMap_le _ _
namespace AcW
def greyA (W : AcW) (l : List Int) : AcS := { W.a with seen := 3, grey := l, pc := if l ≠ [] then 1 else 2 }
end AcW
theorem grey_grown {own4 : Nat → Nat} {w4 w5 : World} {t n n' : Nat} {v v' : Value} {xs xs' : List Value} {o : Obj} (R : Row ⟨own4, w4⟩ (t + 4) 3 1 v n xs) (he : Ext (⟨own4, w4⟩ : GW).w (w4.alloc o)) (hown : w5.ownsRow 0 3 1 v' n' xs') (hgrow : (w4.alloc o).grownBy w5 v.ownBlock) (hat : v'.ownBlock = v.ownBlock ∨ v'.ownBlock = some (w4.alloc o).heap.size) :
    ∃ own5, Mod (fun x => x = t + 4) ⟨own4, w4⟩ ⟨own5, w5⟩ ∧ Row ⟨own5, w5⟩ (t + 4) 3 1 v' n' xs' :=
  ⟨_, (Mod.ext he 0).trans (Mod.grown (g := (⟨own4, w4⟩ : GW).to 0 (w4.alloc o)) hgrow (t + 4) (fun k hk hl => (R.ext he 0).own k hk)), (R.ext he 0).grown hown hat⟩
theorem greyA_app (W : AcW) (l : List Int) (y : Int) : W.greyA (l ++ [y]) = { W.a with seen := 3, grey := l ++ [y], pc := 1 } := by
  unfold AcW.greyA
  simp
theorem grey_put [TbId] {own4 own5 : Nat → Nat} {w4 w5 : World} {t B b k : Nat} {W : AcW} {gl : List Int} {y : Int} {opsA locA fp gotA wrA gA A2 : Option Addr} {opsC locC gotC wrC gC cp2 bm bs bt bp bsp bh : Nat} {cm : Cnf} (P : AcApart t B)
    (H : AcIn ⟨own4, w4⟩ t B b k (W.tickH.withA (W.greyA gl)) ⟨opsA, opsC, locA, locC, gA, gC, fp, gotA, gotC, wrA, wrC⟩ bm bs bt bp bsp bh cm) (m : Mod (fun x => x = t + 4) ⟨own4, w4⟩ ⟨own5, w5⟩)
    (R : Row ⟨own5, w5⟩ (t + 4) 3 1 (.slice A2 (gl.length + 1) cp2) (gl.length + 1) (gl.map (Value.int .i64) ++ [.int .i64 y])) (hl : gl.length ≤ 1000) :
    AcIn ⟨own5, (w5.setCell ⟨b, 9, none⟩ (.slice A2 (gl.length + 1) cp2)).setCell ⟨b, 7, none⟩ (.int .i64 1)⟩ t B b k (W.tickH.withA (W.greyA (gl ++ [y]))) ⟨opsA, opsC, locA, locC, A2, cp2, fp, gotA, gotC, wrA, wrC⟩ bm bs bt bp bsp bh cm := by
  have hP := P.apart
  have ht := P.ht
  have B5 := H.a.blk.keep m (by omega)
  have b6 : Mod (fun x => x = t) ⟨own5, w5⟩ ⟨own5, (w5.setCell ⟨b, 9, none⟩ (.slice A2 (gl.length + 1) cp2)).setCell ⟨b, 7, none⟩ (.int .i64 1)⟩ := Mod.st (Mod.st (Mod.refl _ _) B5.own) B5.own
  obtain ⟨A', c', e1, e2, e3, -⟩ := R.form
  injection e1 with _ _ e4
  subst e4
  rw [greyA_app]
  obtain ⟨r1, r2, r3, r4, r5, r6, r7, r8, r9, r10, r11, r12⟩ := H.a.r
  refine ⟨⟨?_, ⟨(r1.keep m (by omega)).keep b6 (by omega), r2, (r3.keep m (by omega)).keep b6 (by omega), ?_, ⟨(by show (gl ++ [y]).length ≤ _; simpa using e2), e3⟩, r6, fun S hS => ?_, (r8.keep m (by omega)).keep b6 (by omega), r9, (r10.keep m (by omega)).keep b6 (by omega), r11, r12⟩⟩, (H.c.keep m (fun x hx => by omega)).keep b6 (fun x hx => by omega), H.tbl⟩
  · have h := (B5.set 9 (.slice A2 (gl.length + 1) cp2)).set 7 (.int .i64 1)
    have hc : (AcS.cells { W.a with seen := 3, grey := gl ++ [y], pc := 1 } ⟨opsA, opsC, locA, locC, A2, cp2, fp, gotA, gotC, wrA, wrC⟩) = (((AcS.cells (W.greyA gl) ⟨opsA, opsC, locA, locC, gA, gC, fp, gotA, gotC, wrA, wrC⟩).set 9 (.slice A2 (gl.length + 1) cp2)).set 7 (.int .i64 1)) := by
      unfold AcS.cells AcW.greyA
      simp
    show Blk _ t b _ (AcS.cells { W.a with seen := 3, grey := gl ++ [y], pc := 1 } _)
    rw [hc]
    exact h
  · have h := (R.seg).keep b6 (by omega)
    show Seg _ _ _ ((gl ++ [y]).map _)
    rw [List.map_append]
    exact h
  · obtain ⟨bf, cm, e1, e2, e3⟩ := r7 S hS
    exact ⟨bf, cm, e1, e2, (e3.keep m (by omega) (by omega)).keep b6 (by omega) (by omega)⟩
section
variable {g : GW} {t B b k : Nat} {W : AcW}
theorem act_looks [TbId] (P : AcApart t B) (hc : 0 ≤ W.K.hand.count ∧ W.K.hand.count ≤ 1099511627776) (hlen : W.a.locals.length ≤ 1000) (H : AcWAt g t B b k W) : Calls Tryz.prog 167 #[.pointer (some ⟨b, 0, none⟩), .pointer (some ⟨k, 0, none⟩)] g.w (Does (.bool W.looksB) g (acT t B) (fun g' => AcWAt g' t B b k W.looks)) := by
  obtain ⟨⟨opsA, opsC, locA, locC, greyA0, greyC0, fp, gotA, gotC, wrA, wrC⟩, bm, bs, bt, bp, bsp, bh, cm, H⟩ := H
  have HH := Lib.hid H
  have HK := Lib.hid (hand_look g (B + 63) bh W.K.hand H.c.hand hc)
  have HP := Lib.hid P
  obtain ⟨c0, c1, c2, c3, c4, c5, c6, c7, c8, c9, c10, c11, c12, cl⟩ := H.c.blk.c13
  (try simp only [GW.to] at c0 c1 c2 c3 c4 c5 c6 c7 c8 c9 c10 c11 c12 cl)
  clear H hc
  go_enter Tryz.func167, Tryz.ntmps167
  go_wp2_with fail
  refine HK.out.mono ?_
  rintro e w1 ⟨rfl, own1, m1, h1⟩
  have M1 := Lib.hid (m1.mono (S := acT t B) (fun x hx => acT_hand hx))
  have H1 := Lib.hid (show AcIn ⟨own1, w1⟩ t B b k W.tickH ⟨opsA, opsC, locA, locC, greyA0, greyC0, fp, gotA, gotC, wrA, wrC⟩ bm bs bt bp bsp bh cm from HH.out.hand HP.out m1 h1)
  clear m1 h1 c0 c1 c2 c3 c4 c5 c6 c7 c8 c9 c10 c11 c12 cl HK
  obtain ⟨a0, a1, a2, a3, a4, a5, a6, a7, a8, a9, a10, a11, a12, a13, a14, a15, a16, a17, a18, al⟩ := H1.out.a.blk.c19
  have af8 := H1.out.a.blk.live 8
  have af9 := H1.out.a.blk.live 9
  have af7 := H1.out.a.blk.live 7
  have af5 := H1.out.a.blk.live 5
  (try simp only [GW.to] at a0 a1 a2 a3 a4 a5 a6 a7 a8 a9 a10 a11 a12 a13 a14 a15 a16 a17 a18 af8 af9 af7 af5 al)
  rw [show W.tickH.a = W.a from rfl] at a0 a1 a2 a3 a4 a5 a6 a7 a8 a9 a10 a11 a13 a14 a15 a16 a17 a18
  have HS := Lib.hid (show W.looksB = (W.K.hand.status == W.a.status) from rfl)
  have HSA := Lib.hid (show W.looksA = { W.a with seen := W.K.hand.status, grey := if W.K.hand.status = 3 then AcS.greys W.a.locals else [], pc := if W.K.hand.status = 3 ∧ AcS.greys W.a.locals ≠ [] then 1 else 2, sense := if W.K.hand.status = 1 then W.K.hand.sense else W.a.sense } from rfl)
  have HSL := Lib.hid (show W.looks = if W.looksB then W.tickH else W.tickH.withA W.looksA from rfl)
  cases hs : (W.K.hand.status == W.a.status)
  case true =>
    rw [HS.out, hs] at HSL
    simp only [if_true] at HSL
    go_wp2_with fail
    go_ret
    exact Does.of ⟨own1, w1⟩ rfl (by rw [HS.out, hs]; rfl) M1.out (by rw [HSL.out]; exact H1.out.at_)
  rw [HS.out, hs] at HSL
  simp only [Bool.false_eq_true, if_false] at HSL
  have R0 : AcRows ⟨own1, w1⟩ t { W.a with seen := W.K.hand.status, grey := [], pc := 2 } ⟨opsA, opsC, locA, locC, none, 0, fp, gotA, gotC, wrA, wrC⟩ := by
    obtain ⟨r1, r2, r3, r4, r5, r6, r7, r8, r9, r10, r11, r12⟩ := H1.out.a.r
    exact ⟨r1, r2, r3, Seg.nil _ _ _, ⟨Nat.le_refl _, Nat.zero_le _⟩, r6, r7, r8, r9, r10, r11, r12⟩
  have H2 := Lib.hid (H1.out.turn (A' := { W.a with seen := W.K.hand.status, grey := [], pc := 2 }) (p' := ⟨opsA, opsC, locA, locC, none, 0, fp, gotA, gotC, wrA, wrC⟩) HP.out (g' := ⟨own1, ((w1.setCell ⟨b, 8, none⟩ (.int .i64 W.K.hand.status)).setCell ⟨b, 9, none⟩ (.slice none 0 0)).setCell ⟨b, 7, none⟩ (.int .i64 2)⟩) (Mod.st (Mod.st (Mod.st (Mod.refl _ _) H1.out.a.blk.own) H1.out.a.blk.own) H1.out.a.blk.own) (((H1.out.a.blk.set 8 (.int .i64 W.K.hand.status)).set 9 (.slice none 0 0)).set 7 (.int .i64 2)) R0)
  have M2 := Lib.hid (show Mod (acT t B) g ⟨own1, ((w1.setCell ⟨b, 8, none⟩ (.int .i64 W.K.hand.status)).setCell ⟨b, 9, none⟩ (.slice none 0 0)).setCell ⟨b, 7, none⟩ (.int .i64 2)⟩ from Mod.st (Mod.st (Mod.st M1.out H1.out.modA) H1.out.modA) H1.out.modA)
  clear R0
  go_upto_region 5 with fail
  generalize ((w1.setCell ⟨b, 8, none⟩ (.int .i64 W.K.hand.status)).setCell ⟨b, 9, none⟩ (.slice none 0 0)).setCell ⟨b, 7, none⟩ (.int .i64 2) = w2 at *
  clear a0 a1 a2 a3 a4 a5 a6 a7 a8 a9 a10 a11 a12 a13 a14 a15 a16 a17 a18 af8 af9 af7 af5 al M1 H1
  obtain ⟨a0, a1, a2, a3, a4, a5, a6, a7, a8, a9, a10, a11, a12, a13, a14, a15, a16, a17, a18, al⟩ := H2.out.a.blk.c19
  have af5 := H2.out.a.blk.live 5
  (try simp only [GW.to] at a0 a1 a2 a3 a4 a5 a6 a7 a8 a9 a10 a11 a12 a13 a14 a15 a16 a17 a18 af5 al)
  by_cases h1 : W.K.hand.status = 1
  · have HSA2 := Lib.hid (show W.looksA = { W.a with seen := W.K.hand.status, grey := [], pc := 2, sense := W.K.hand.sense } by rw [HSA.out, h1]; rfl)
    have H3 := Lib.hid (H2.out.set HP.out 5 (.bool W.K.hand.sense) { W.a with seen := W.K.hand.status, grey := [], pc := 2, sense := W.K.hand.sense } rfl ⟨rfl, rfl, rfl, rfl, rfl, rfl⟩)
    have M3 := Lib.hid (show Mod (acT t B) g ⟨own1, w2.setCell ⟨b, 5, none⟩ (.bool W.K.hand.sense)⟩ from Mod.st M2.out H2.out.modA)
    have hz : (W.K.hand.status == 1) = true := beq_iff_eq.2 h1
    have HSB := Lib.hid (show W.looksB = false by rw [HS.out, hs])
    clear h1 hs
    generalize W.K.hand.status = s at *
    go_wp2_with fail
    go_ret
    exact Does.of ⟨own1, _⟩ rfl (by rw [HSB.out]; rfl) M3.out (by rw [HSL.out, HSA2.out]; exact H3.out.at_)
  by_cases h3 : W.K.hand.status = 3
  case neg =>
    have HSA2 := Lib.hid (show W.looksA = { W.a with seen := W.K.hand.status, grey := [], pc := 2 } by rw [HSA.out]; simp only [if_neg h1, if_neg h3, if_neg (show ¬ (W.K.hand.status = 3 ∧ AcS.greys W.a.locals ≠ []) from fun h => h3 h.1)])
    have hz : (W.K.hand.status == 1) = false := beq_eq_false_iff_ne.2 h1
    have hz3 : (W.K.hand.status == 3) = false := beq_eq_false_iff_ne.2 h3
    have HSB := Lib.hid (show W.looksB = false by rw [HS.out, hs])
    clear h1 hs h3
    generalize W.K.hand.status = s at *
    go_wp2_with fail
    go_ret
    exact Does.of ⟨own1, _⟩ rfl (by rw [HSB.out]; rfl) M2.out (by rw [HSL.out, HSA2.out]; exact H2.out.at_)
  have hz : (W.K.hand.status == 1) = false := beq_eq_false_iff_ne.2 h1
  have hz3 : (W.K.hand.status == 3) = true := beq_iff_eq.2 h3
  have HSB := Lib.hid (show W.looksB = false by rw [HS.out, hs])
  have HSA2 := Lib.hid (show W.looksA = W.greyA (AcS.greys W.a.locals) by
    rw [HSA.out, h3]
    unfold AcW.greyA
    by_cases hg : AcS.greys W.a.locals ≠ []
    · simp [hg]
    · simp [hg])
  have H2' := Lib.hid (show AcIn ⟨own1, w2⟩ t B b k (W.tickH.withA (W.greyA [])) ⟨opsA, opsC, locA, locC, none, 0, fp, gotA, gotC, wrA, wrC⟩ bm bs bt bp bsp bh cm from by have h := H2.out; rw [h3] at h; exact h)
  have Q2 := Lib.hid (Row.nil ⟨own1, w2⟩ (t + 4) 3 1)
  clear h1 hs h3 H2 af5
  generalize W.K.hand.status = s at *
  go_wp2_with fail
  obtain ⟨i0, hi, hz0, hz1, hz2⟩ := info_parts infoInt
  have HI := Lib.hid (fun v w' => index_any_w v w')
  go_loopw [49] (fun i wr => ∃ (j : Nat) (own : Nat → Nat) (gA : Option Addr) (gC : Nat), j ≤ W.a.locals.length ∧ i = .int .i64 j ∧ Hid (Mod (acT t B) g ⟨own, wr⟩) ∧ Hid (AcIn ⟨own, wr⟩ t B b k (W.tickH.withA (W.greyA (AcS.greys (W.a.locals.take j)))) ⟨opsA, opsC, locA, locC, gA, gC, fp, gotA, gotC, wrA, wrC⟩ bm bs bt bp bsp bh cm) ∧ Hid (Row ⟨own, wr⟩ (t + 4) 3 1 (.slice gA (AcS.greys (W.a.locals.take j)).length gC) (AcS.greys (W.a.locals.take j)).length ((AcS.greys (W.a.locals.take j)).map (Value.int .i64)))) (fun i _ => W.a.locals.length - (intOf i).toNat)
  case atStart => exact ⟨0, own1, none, 0, Nat.zero_le _, rfl, M2, H2', Q2⟩
  case round =>
    obtain ⟨j, own3, gA, gC, hj, rfl, M3, H3, R3⟩ := hrel
    clear M2 H2' Q2 a0 a1 a2 a3 a4 a5 a6 a7 a8 a9 a10 a11 a12 a13 a14 a15 a16 a17 a18 al
    by_cases hlt : j < W.a.locals.length
    · obtain ⟨q, hA, hq, -, l0, l1, -⟩ := H3.out.a.r.local_ (k := j) hlt
      simp only at hA hq
      rw [show (W.tickH.withA (W.greyA (AcS.greys (W.a.locals.take j)))).a.loc j = W.a.loc j from rfl] at l0 l1
      have HG := Lib.hid (show AcS.greys (W.a.locals.take (j + 1)) = AcS.greys (W.a.locals.take j) ++ (if (W.a.loc j).ref then (wIndex (W.a.loc j).z).toList else []) from greys_take hlt)
      have HLN := Lib.hid (show (AcS.greys (W.a.locals.take j)).length ≤ 1000 from Nat.le_trans (greys_len _) (by rw [List.length_take]; omega))
      have HB3 := Lib.hid H3.out.a.blk.lt
      subst hA
      generalize W.a.loc j = v at *
      have HIV := Lib.hid (fun w' => HI.out v.z w')
      unfold optV at HIV
      cases hx : wIndex v.z with
      | none =>
        rw [hx] at HG HIV
        have HG2 := Lib.hid (show AcS.greys (W.a.locals.take (j + 1)) = AcS.greys (W.a.locals.take j) by rw [HG.out]; cases v.ref <;> simp)
        clear hx
        generalize v.ref = rf at *
        cases rf
        · go_wp2_with fail
          refine (HIV.out _).mono ?_
          rintro e wx ⟨rfl, hE⟩
          obtain ⟨X1, rfl⟩ := (show Ext _ wx from hE)
          clear hE
          go_wp2_with fail
          go_roundw
          case rel =>
            obtain ⟨own4, m4⟩ := Mod.ofExt (w := wr) (w' := (wr.alloc _).patch X1) (by (repeat (first | (with_reducible (first | assumption | exact zR _ | exact zM _ _ _ _)) | apply zA | refine zS ?_ (by first | exact zL _ | exact zK _ _ | assumption) _ | apply zP | apply zD | apply zN))) own3
            refine ⟨j + 1, own4, gA, gC, by omega, by go_num, M3.out.trans (m4.mono (fun _ => False.elim)), ?_, ?_⟩
            · rw [HG2.out]; exact H3.out.keep0 m4
            · rw [HG2.out]; exact R3.out.keep m4 id
          case measure => simp [intOf]; omega
        · go_wp2_with fail
          refine (HIV.out _).mono ?_
          rintro e wx ⟨rfl, hE⟩
          obtain ⟨X1, rfl⟩ := (show Ext _ wx from hE)
          clear hE
          go_wp2_with fail
          go_roundw
          case rel =>
            obtain ⟨own4, m4⟩ := Mod.ofExt (w := wr) (w' := (wr.alloc _).patch X1) (by (repeat (first | (with_reducible (first | assumption | exact zR _ | exact zM _ _ _ _)) | apply zA | refine zS ?_ (by first | exact zL _ | exact zK _ _ | assumption) _ | apply zP | apply zD | apply zN))) own3
            refine ⟨j + 1, own4, gA, gC, by omega, by go_num, M3.out.trans (m4.mono (fun _ => False.elim)), ?_, ?_⟩
            · rw [HG2.out]; exact H3.out.keep0 m4
            · rw [HG2.out]; exact R3.out.keep m4 id
          case measure => simp [intOf]; omega
      | some y =>
        rw [hx] at HG HIV
        clear hx
        generalize v.ref = rf at *
        cases rf
        · have HG2 := Lib.hid (show AcS.greys (W.a.locals.take (j + 1)) = AcS.greys (W.a.locals.take j) by rw [HG.out]; simp)
          go_wp2_with fail
          refine (HIV.out _).mono ?_
          rintro e wx ⟨rfl, hE⟩
          obtain ⟨X1, rfl⟩ := (show Ext _ wx from hE)
          clear hE
          go_wp2_with fail
          go_roundw
          case rel =>
            obtain ⟨own4, m4⟩ := Mod.ofExt (w := wr) (w' := (wr.alloc _).patch X1) (by (repeat (first | (with_reducible (first | assumption | exact zR _ | exact zM _ _ _ _)) | apply zA | refine zS ?_ (by first | exact zL _ | exact zK _ _ | assumption) _ | apply zP | apply zD | apply zN))) own3
            refine ⟨j + 1, own4, gA, gC, by omega, by go_num, M3.out.trans (m4.mono (fun _ => False.elim)), ?_, ?_⟩
            · rw [HG2.out]; exact H3.out.keep0 m4
            · rw [HG2.out]; exact R3.out.keep m4 id
          case measure => simp [intOf]; omega
        · have HG2 := Lib.hid (show AcS.greys (W.a.locals.take (j + 1)) = AcS.greys (W.a.locals.take j) ++ [y] by rw [HG.out]; simp)
          go_wp2_with fail
          refine (HIV.out _).mono ?_
          rintro e wx ⟨rfl, hE⟩
          obtain ⟨X1, rfl⟩ := (show Ext _ wx from hE)
          clear hE
          go_upto_region 14 with fail
          obtain ⟨own4, m4⟩ := Mod.ofExt (w := wr) (w' := (wr.alloc (.cells #[.bool true, .complex .f64 v.z.1 v.z.2] 83)).patch X1) (by (repeat (first | (with_reducible (first | assumption | exact zR _ | exact zM _ _ _ _)) | apply zA | refine zS ?_ (by first | exact zL _ | exact zK _ _ | assumption) _ | apply zP | apply zD | apply zN))) own3
          have M4 := Lib.hid (M3.out.trans (m4.mono (fun _ => False.elim)))
          have H4 := Lib.hid (H3.out.keep0 m4)
          have R4 := Lib.hid (R3.out.keep m4 id)
          clear m4 M3 H3 R3 l0 l1 hq HIV HI HB3
          generalize (wr.alloc (.cells #[.bool true, .complex .f64 v.z.1 v.z.2] 83)).patch X1 = w4 at *
          obtain ⟨a0, a1, a2, a3, a4, a5, a6, a7, a8, a9, a10, a11, a12, a13, a14, a15, a16, a17, a18, al⟩ := H4.out.a.blk.c19
          have af9 := H4.out.a.blk.live 9
          have af7 := H4.out.a.blk.live 7
          (try simp only [GW.to] at a0 a1 a2 a3 a4 a5 a6 a7 a8 a9 a10 a11 a12 a13 a14 a15 a16 a17 a18 af9 af7 al)
          have hln := HLN.out
          simp only [AcW.withA, AcW.greyA] at a9
          have HEX := Lib.hid (show Ext (⟨own4, w4⟩ : GW).w (w4.alloc (.cells #[.int .i64 y] 3)) from Ext.alloc (Ext.refl _) _)
          generalize AcS.greys (W.a.locals.take j) = gl at *
          go_wp2_with (at_builtin; refine wpList_append_own_at _ rfl (.tmp 68) (.tmp 70) 62 rfl 0 3 i0 (.int .i64 0) 1 8 Tryz.underlying62 hi hz0 hz1 hz2 rfl (by decide) _ _ _ rfl (R4.out.row.alloc _) ⟨w4.heap.size, 0, none⟩ 1 1 [.int .i64 y] rfl rfl (cell_one_new _ _ _) (by intro u hu; simp at hu; subst hu; rfl) (by unfold maxLen; omega) (by omega) (Nat.zero_le _) ?_; intro v2 w5 hown hgrow hnil hat; obtain ⟨A2, cp2, rfl⟩ := own_form hown; obtain ⟨own5, m5, r5⟩ := grey_grown R4.out HEX.out hown hgrow hat; clear hown hgrow hnil hat; have B5 := Lib.hid (H4.out.a.blk.keep m5 (by omega)); have R5 := Lib.hid r5; have N5 := Lib.hid m5; have d7 := B5.out.cell (i := 7) rfl; have d9 := B5.out.cell (i := 9) rfl; have e9 := B5.out.live 9; have e7 := B5.out.live 7; have dl := B5.out.lt; simp only at d7 d9 e9 e7 dl; clear m5 r5 a0 a1 a2 a3 a4 a5 a6 a7 a8 a9 a10 a11 a12 a13 a14 a15 a16 a17 a18 af9 af7 al)
          go_roundw
          case rel =>
            have b6 : Mod (fun x => x = t) ⟨own5, w5⟩ ⟨own5, (w5.setCell ⟨b, 9, none⟩ (.slice A2 (gl.length + 1) cp2)).setCell ⟨b, 7, none⟩ (.int .i64 1)⟩ := Mod.st (Mod.st (Mod.refl _ _) B5.out.own) B5.out.own
            refine ⟨j + 1, own5, A2, cp2, by omega, by go_num, ?_, ?_, ?_⟩
            · exact Lib.hid ((M4.out.trans (N5.out.mono (fun x hx => Or.inl (by omega)))).trans (b6.mono (fun x hx => acT_t hx)))
            · rw [HG2.out]
              exact Lib.hid (grey_put HP.out H4.out N5.out R5.out (by omega))
            · rw [HG2.out]
              have := R5.out.keep b6 (by omega)
              simpa using Lib.hid this
          case measure => simp [intOf]; omega
    · obtain rfl : j = W.a.locals.length := by omega
      rw [List.take_of_length_le (Nat.le_refl _)] at H3
      go_wp2_with fail
      go_ret
      exact Does.of ⟨own3, _⟩ rfl (by rw [HSB.out]; rfl) M3.out (by rw [HSL.out, HSA2.out]; exact H3.out.at_)
end
end Go.Proofs.YtcpeoflomdhidaaGreat

/-
  clear of a row of values.
-/
namespace Go
open Go.RowKit
set_option linter.unusedVariables false
set_option linter.unusedSimpArgs false
def lzeroC : Array Value := #[.bool false, .complex .f64 0 0]
theorem lzero_cells (n : Nat) : (madeCells lzeroC (n * 2)).toList = (List.replicate n LVal.zero).flatMap LVal.cells := by
  induction n with
  | zero => simp [madeCells]
  | succ n ih =>
    have e : (madeCells lzeroC ((n + 1) * 2)).toList = (madeCells lzeroC (n * 2)).toList ++ LVal.zero.cells := by
      unfold madeCells at *
      rw [show (n + 1) * 2 = n * 2 + 1 + 1 by omega]
      simp only [Array.toList_map, Array.toList_range, List.range_succ, List.map_append, List.map_cons, List.map_nil, List.append_assoc]
      congr 1
      have h0 : n * 2 % lzeroC.size = 0 := by show n * 2 % 2 = 0; omega
      have h1 : (n * 2 + 1) % lzeroC.size = 1 := by show (n * 2 + 1) % 2 = 1; omega
      rw [h0, h1]
      rfl
    rw [e, ih, List.replicate_succ', List.flatMap_append]
    simp
end Go
namespace Go.Proofs.YtcpeoflomdhidaaGreat
open Go Go.RowKit
set_option linter.unusedVariables false
set_option linter.unusedSimpArgs false
theorem infoVal : (Tryz.prog.info? 83).map (fun i => (i.zero, i.size, i.bytes)) = some (some (.agg #[.bool false, .complex .f64 0 0]), 2, 24) := by kernel_rfl
theorem row_clear {g : GW} {t n c : Nat} {A : Option Addr} {xs : List Value} (h : Row g t 83 2 (.slice A n c) n xs) : ∃ w3, (Builtin.clear_ #[149] 0 #[.slice A n c]).run Tryz.prog g.w = .ok (.tuple #[]) w3 ∧ Mod (fun x => x = t) g ⟨g.own, w3⟩ ∧ Row ⟨g.own, w3⟩ t 83 2 (.slice A n c) n ((List.replicate n LVal.zero).flatMap LVal.cells) := by
  obtain ⟨i0, hi, hz0, hz1, hz2⟩ := info_parts infoVal
  have hund := run_underlying (P := Tryz.prog) (t := 149) Tryz.underlying149 g.w
  by_cases hn : n = 0
  · subst hn
    have hx : xs = [] := by have := h.len; simpa using this
    subst hx
    refine ⟨g.w, ?_, Mod.refl _ _, h⟩
    cases A with
    | none => simp [Builtin.clear_, hund]
    | some a => simp [Builtin.clear_, hund]
  · rcases h.row.2 with ⟨hv, hn0⟩ | ⟨b, cap, cur, hv, hb, hr, h1, h2, h3, h4⟩
    · exact absurd hn0 hn
    · simp only [Value.slice.injEq] at hv
      obtain ⟨rfl, -, rfl⟩ := hv
      have hlen : (List.replicate n LVal.zero).flatMap LVal.cells = (madeCells lzeroC (n * 2)).toList := (lzero_cells n).symm
      have hl2 : (madeCells lzeroC (n * 2)).toList.length = n * 2 := by simp [madeCells]
      have hst := run_storeCells_at (P := Tryz.prog) b 0 83 (madeCells lzeroC (n * 2)).toList 0 cur g.w hr (by rw [hl2, h3]; omega) (by
        rw [← hlen]
        intro v hv
        obtain ⟨x, hx, hxv⟩ := List.mem_flatMap.1 hv
        rw [List.eq_of_mem_replicate hx] at hxv
        simp [LVal.cells, LVal.zero] at hxv
        rcases hxv with rfl | rfl <;> rfl)
      have ho : g.own b = t := h.own b rfl
      have hz : (zeroValue 83).run Tryz.prog g.w = .ok (.agg lzeroC) g.w := by
        simp [zeroValue, typeInfo, hi, hz0]
        rfl
      obtain ⟨m, rfl⟩ : ∃ m, n = m + 1 := ⟨n - 1, by omega⟩
      have hzc : (Builtin.zeroCells lzeroC (m + 1)).toList = (madeCells lzeroC ((m + 1) * 2)).toList := rfl
      refine ⟨g.w.setRow b (cur.toList.take (0 + 0) ++ (madeCells lzeroC ((m + 1) * 2)).toList ++ cur.toList.drop (0 + 0 + (madeCells lzeroC ((m + 1) * 2)).toList.length)).toArray, ?_, ?_, ?_⟩
      · simp only [Builtin.clear_, hund, hz, Value.cells]
        simp [hund, hz, Value.cells, hzc, hst, Result.andThen]
      · rw [setRow_putBlk hr]
        exact Mod.put ho
      · rw [setRow_putBlk hr, hlen]
        refine ⟨⟨hl2, Or.inr ⟨b, c, _, rfl, hb, World.row_put _ (Array.getElem?_eq_some_iff.1 hr).1, h1, h2, ?_, ?_⟩⟩, fun k hk => ?_⟩
        · simp [madeCells]; omega
        · show List.take ((m + 1) * 2) (List.take (0 + 0) cur.toList ++ (madeCells lzeroC ((m + 1) * 2)).toList ++ List.drop _ cur.toList) = _
          simp only [Nat.add_zero, List.take_zero, List.nil_append]
          rw [List.take_append_of_le_length (by omega), List.take_of_length_le (by omega)]
        · have hk2 : b = k := by simpa only [Value.ownBlock, Option.some.injEq] using hk
          subst hk2
          exact ho
end Go.Proofs.YtcpeoflomdhidaaGreat

