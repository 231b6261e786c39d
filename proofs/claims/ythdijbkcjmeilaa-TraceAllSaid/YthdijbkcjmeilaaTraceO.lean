/-
  Merged: XTraceO, XTraceQ, XTBase, XFirst16, XTStepsP, XTPlace.
-/
import Derived.Test.YthdijbkcjmeilaaTraceY
import Derived.Test.YthdijbkcjmeilaaWr
import Derived.Test.YthdijbkcjmeilaaTabNew
import Derived.Test.YthdijbkcjmeilaaSmall
/-
  trace: Step of any state, with all that it touches; what a step keeps.
-/
namespace Go.Proofs.Ythdijbkcjmeilaa
open Go Go.RowKit
set_option linter.unusedVariables false
set_option linter.unnecessarySimpa false
set_option linter.unusedSimpArgs false
set_option maxHeartbeats 2000000
set_option maxRecDepth 100000
structure TraceS.Ok (S : TraceS) : Prop where
  pc : 0 ≤ S.pc ∧ S.pc ≤ 9
  rng : S.pc ≠ 9 → (0 ≤ S.j ∧ S.j ≤ 64) ∧ (0 ≤ S.n ∧ S.n ≤ 512) ∧ (0 ≤ S.base ∧ S.base ≤ 100000)
  chk : S.pc ≠ 0 → S.pc ≠ 9 → S.c.check = 0 ∧ S.shp.may = true
  wd : S.pc = 1 → S.words ≠ []
  j3 : S.pc = 3 → S.j + 1 ≤ 64
  md : S.pc = 7 → S.mode = 1 ∨ S.mode = 2
theorem TraceS.Ok.bd {S : TraceS} (h : S.Ok) (h0 : S.pc ≠ 0) (h9 : S.pc ≠ 9) : S.Bd :=
  ⟨by have := (h.rng h9).1; omega, (h.rng h9).2.1, (h.rng h9).2.2, (h.chk h0 h9).1, (h.chk h0 h9).2⟩
theorem frs_le {S : TraceS} (h : S.shp.may = true) : S.frs ≤ 64 := by
  unfold TraceS.frs
  split
  · exact (sData_bd S.n).2
  · have h1 : S.refs.length ≤ 40 := (of_decide_eq_true h).1
    unfold Shp.size Shp.len TraceS.shp
    simp only
    repeat (first | split | omega)
theorem TraceS.fresh_ok (c : Cnf) (head : Int) (sense : Bool) : (TraceS.fresh c head sense).Ok := ⟨by show (0 : Int) ≤ 0 ∧ (0 : Int) ≤ 9; decide, fun _ => by show ((0 : Int) ≤ 0 ∧ (0 : Int) ≤ 64) ∧ ((0 : Int) ≤ 0 ∧ (0 : Int) ≤ 512) ∧ ((0 : Int) ≤ 0 ∧ (0 : Int) ≤ 100000); decide, fun h => absurd rfl h, fun h => absurd h (by show ¬ (0 : Int) = 1; decide), fun h => absurd h (by show ¬ (0 : Int) = 3; decide), fun h => absurd h (by show ¬ (0 : Int) = 7; decide)⟩
theorem TraceS.ended_ok {S : TraceS} : ({ S with pc := 9, e := 10 } : TraceS).Ok := ⟨by show (0 : Int) ≤ 9 ∧ (9 : Int) ≤ 9; decide, fun h => absurd rfl h, fun _ h => absurd rfl h, fun h => absurd h (by show ¬ (9 : Int) = 1; decide), fun h => absurd h (by show ¬ (9 : Int) = 3; decide), fun h => absurd h (by show ¬ (9 : Int) = 7; decide)⟩
theorem TraceS.pc9_ok {S : TraceS} (h : S.pc = 9) : S.Ok := ⟨by omega, fun e => absurd h e, fun _ e => absurd h e, fun e => by omega, fun e => by omega, fun e => by omega⟩
theorem TraceS.gone_ok {S : TraceS} (hr : (0 ≤ S.j ∧ S.j ≤ 64) ∧ (0 ≤ S.n ∧ S.n ≤ 512) ∧ (0 ≤ S.base ∧ S.base ≤ 100000)) (hc : S.c.check = 0 ∧ S.shp.may = true) : S.gone.Ok := by
  have hf := frs_le hc.2
  unfold TraceS.gone TraceS.goes TraceS.goesPc
  by_cases hw : S.words ≠ []
  · rw [if_pos hw, if_pos hw]
    exact ⟨by show (0 : Int) ≤ 1 ∧ (1 : Int) ≤ 9; decide, fun _ => hr, fun _ _ => hc, fun _ => hw, fun h => absurd h (by show ¬ (1 : Int) = 3; decide), fun h => absurd h (by show ¬ (1 : Int) = 7; decide)⟩
  · rw [if_neg hw, if_neg hw]
    by_cases h1 : S.frs ≤ S.j + 1
    · rw [if_pos h1, if_pos h1]
      exact TraceS.pc9_ok rfl
    · rw [if_neg h1, if_neg h1]
      by_cases ha : S.arr = false
      · rw [if_pos ha, if_pos ha]
        exact ⟨by show (0 : Int) ≤ 3 ∧ (3 : Int) ≤ 9; decide, fun _ => hr, fun _ _ => hc, fun h => absurd h (by show ¬ (3 : Int) = 1; decide), fun _ => by show S.j + 1 ≤ 64; omega, fun h => absurd h (by show ¬ (3 : Int) = 7; decide)⟩
      · rw [if_neg ha, if_neg ha]
        have hr' : (0 ≤ S.j + 1 ∧ S.j + 1 ≤ 64) ∧ (0 ≤ S.n ∧ S.n ≤ 512) ∧ (0 ≤ S.base ∧ S.base ≤ 100000) := by omega
        unfold TraceS.enters TraceS.entersPc
        simp only
        by_cases hm : S.mode = 2
        · rw [if_pos hm, if_pos hm]
          exact ⟨by show (0 : Int) ≤ 4 ∧ (4 : Int) ≤ 9; decide, fun _ => hr', fun _ _ => hc, fun h => absurd h (by show ¬ (4 : Int) = 1; decide), fun h => absurd h (by show ¬ (4 : Int) = 3; decide), fun h => absurd h (by show ¬ (4 : Int) = 7; decide)⟩
        · rw [if_neg hm, if_neg hm]
          exact ⟨by show (0 : Int) ≤ 8 ∧ (8 : Int) ≤ 9; decide, fun _ => hr', fun _ _ => hc, fun h => absurd h (by show ¬ (8 : Int) = 1; decide), fun h => absurd h (by show ¬ (8 : Int) = 3; decide), fun h => absurd h (by show ¬ (8 : Int) = 7; decide)⟩
/-- Whose they are: all apart. -/
structure TrApart (t tm ts tt tp : Nat) : Prop where
  a : t ≠ tm ∧ t + 1 ≠ tm ∧ t ≠ ts ∧ t + 1 ≠ ts ∧ t ≠ tt ∧ t + 1 ≠ tt ∧ t ≠ tp ∧ t + 1 ≠ tp ∧ tm ≠ ts ∧ tm ≠ tt ∧ tm ≠ tp ∧ ts ≠ tt ∧ ts ≠ tp ∧ tt ≠ tp
def trT (t tm ts tt tp : Nat) : Nat → Prop := fun x => x = t ∨ x = tm ∨ x = ts ∨ x = tt ∨ x = tp
/-- All that a step touches, in memory. -/
structure TrAt (g : GW) (t tm ts tt tp b bm bs bt bp : Nat) (w : TrW) : Prop where
  tr : TraceAt g t b w.s
  mem : MemAt g tm bm w.m
  shd : ShdAt g ts bs bt tt bp tp w.T w.p w.k
theorem TrAt.keep {U : Nat → Prop} {g g' : GW} {t tm ts tt tp b bm bs bt bp : Nat} {w : TrW} (h : TrAt g t tm ts tt tp b bm bs bt bp w) (m : Mod U g g') (h1 : ¬ U t) (h2 : ¬ U (t + 1)) (h3 : ¬ U tm) (h4 : ¬ U ts) (h5 : ¬ U tt) (h6 : ¬ U tp) : TrAt g' t tm ts tt tp b bm bs bt bp w := ⟨h.tr.keep m h1 h2, h.mem.keep m h3, h.shd.keep m h4 h5 h6⟩
namespace TrW
theorem head_eq (w : TrW) : w.head = (⟨w.head.1.s, w.s.rdM w.m w.s.head 1, w.T, w.p, w.k⟩, w.head.2) := by unfold head; split <;> rfl
theorem field_eq (w : TrW) : w.field = (⟨w.field.1.s, w.s.rdM w.m w.s.frag (w.s.words.headD 0), w.T, w.p, w.k⟩, w.field.2) := by unfold field; (repeat' split) <;> rfl
theorem link_eq (w : TrW) : w.link = (⟨w.link.1.s, w.s.rdM w.m w.s.frag 0, w.T, w.p, w.k⟩, w.link.2) := by unfold link; (repeat' split) <;> rfl
theorem length_eq (w : TrW) : w.length = (⟨w.length.1.s, w.s.rdM w.m w.s.head 2, w.T, w.p, w.k⟩, w.length.2) := by unfold length; (repeat' split) <;> rfl
theorem mode_eq (w : TrW) : w.mode = (⟨w.mode.1.s, w.s.rdM w.m w.s.head 3, w.T, w.p, w.k⟩, w.mode.2) := by unfold mode; (repeat' split) <;> rfl
theorem base_eq (w : TrW) : w.base = (⟨w.base.1.s, w.s.rdM w.m w.s.head 4, w.T, w.p, w.k⟩, w.base.2) := by unfold base; (repeat' split) <;> rfl
theorem slot_eq (w : TrW) : w.slot = (⟨w.slot.1.s, w.slotM, w.T, w.p, w.k⟩, w.slot.2) := by unfold slot; split <;> rfl
end TrW
section
variable {t tm ts tt tp b bm bs bt bp : Nat}
theorem trace_does (g : GW) (A : TrApart t tm ts tt tp) (w : TrW) (H : TrAt g t tm ts tt tp b bm bs bt bp w) (hok : w.s.Ok) (h9 : w.s.pc ≠ 9) (hc : 0 ≤ w.m.count ∧ w.m.count ≤ 1099511627776) (hk : 0 ≤ w.k ∧ w.k ≤ 1099511627776) :
    Calls Try.prog 68 #[.pointer (some ⟨b, 0, none⟩), .pointer (some ⟨bm, 0, none⟩), .pointer (some ⟨bs, 0, none⟩)] g.w (Does (.bool w.does.2) g (trT t tm ts tt tp) (fun g' => TrAt g' t tm ts tt tp b bm bs bt bp w.does.1)) := by
  have hA := A.a
  obtain ⟨P, hP⟩ := H.tr
  have keepS : ∀ g', Mod (fun x => x = t ∨ x = tm) g g' → ShdAt g' ts bs bt tt bp tp w.T w.p w.k := fun g' m => H.shd.keep m (by omega) (by omega) (by omega)
  have keepM : ∀ g', Mod (fun x => x = t ∨ x = ts ∨ x = tt ∨ x = tp) g g' → MemAt g' tm bm w.m := fun g' m => H.mem.keep m (by omega)
  have sub1 : ∀ x, (x = t ∨ x = tm) → trT t tm ts tt tp x := fun x hx => by unfold trT; omega
  have sub2 : ∀ x, (x = t ∨ x = ts ∨ x = tt ∨ x = tp) → trT t tm ts tt tp x := fun x hx => by unfold trT; omega
  obtain ⟨S, m, T, p, k⟩ := w
  simp only at *
  have hpc := hok.pc
  rcases (show S.pc = 0 ∨ S.pc = 1 ∨ S.pc = 2 ∨ S.pc = 3 ∨ S.pc = 4 ∨ S.pc = 5 ∨ S.pc = 6 ∨ S.pc = 7 ∨ S.pc = 8 by omega) with e | e | e | e | e | e | e | e | e
  · have hr := hok.rng h9
    have hd : TrW.does ⟨S, m, T, p, k⟩ = TrW.head ⟨S, m, T, p, k⟩ := by unfold TrW.does; simp only; rw [if_pos e]
    rw [hd, TrW.head_eq]
    exact (does_head g t b tm bm bs S m ⟨P, hP⟩ H.mem hc (by omega) (by omega) e (by omega) (by omega) (by omega) T p k).mono (fun e w' h => Does.impT h sub1 (fun g' m r => ⟨r.1, r.2, keepS g' m⟩))
  all_goals have hb := hok.bd (by omega) h9
  · have hd : TrW.does ⟨S, m, T, p, k⟩ = TrW.field ⟨S, m, T, p, k⟩ := by unfold TrW.does; simp only [e]; rfl
    have hw := hok.wd e
    obtain ⟨x, l, hxl⟩ := List.exists_cons_of_ne_nil hw
    have hq := TrW.field_eq ⟨S, m, T, p, k⟩
    simp only [hxl, List.headD_cons] at hq
    rw [hd, hq]
    refine does_walks g t b bm bs S ⟨P, hP⟩ (by omega) (by omega) _ _ _ ?_
    exact (walks_field g t b tm bm bs S P m x l hP H.mem hc (by omega) (by omega) e hxl hb _ _ T p k hq).mono (fun e w' h => Does.impT h sub1 (fun g' m r => ⟨r.1, r.2, keepS g' m⟩))
  · have hd : TrW.does ⟨S, m, T, p, k⟩ = TrW.grey ⟨S, m, T, p, k⟩ := by unfold TrW.does; simp only [e]; rfl
    rw [hd]
    refine does_walks g t b bm bs S ⟨P, hP⟩ (by omega) (by omega) _ _ _ ?_
    exact (walks_grey g t b bm ts bs bt tt bp tp S P T p k hP H.shd hk e hb (by omega) (by omega) (by omega) (by omega) (by omega) (by omega) (by omega) (by omega) (by omega)).mono (fun e w' h => Does.impT h sub2 (fun g' m r => ⟨r.1, keepM g' m, r.2⟩))
  · have hd : TrW.does ⟨S, m, T, p, k⟩ = TrW.link ⟨S, m, T, p, k⟩ := by unfold TrW.does; simp only [e]; rfl
    have hq := TrW.link_eq ⟨S, m, T, p, k⟩
    rw [hd, hq]
    refine does_walks g t b bm bs S ⟨P, hP⟩ (by omega) (by omega) _ _ _ ?_
    exact (walks_link g t b tm bm bs S P m hP H.mem hc (by omega) (by omega) e hb _ _ T p k hq).mono (fun e w' h => Does.impT h sub1 (fun g' m r => ⟨r.1, r.2, keepS g' m⟩))
  · have hd : TrW.does ⟨S, m, T, p, k⟩ = TrW.part ⟨S, m, T, p, k⟩ := by unfold TrW.does; simp only [e]; rfl
    rw [hd]
    refine does_walks g t b bm bs S ⟨P, hP⟩ (by omega) (by omega) _ _ _ ?_
    exact (walks_part g t b bm ts bs bt tt bp tp S P T p k hP H.shd hk e hb (by omega) (by omega) (by omega) (by omega) (by omega) (by omega) (by omega) (by omega) (by omega)).mono (fun e w' h => Does.impT h sub2 (fun g' m r => ⟨r.1, keepM g' m, r.2⟩))
  · have hd : TrW.does ⟨S, m, T, p, k⟩ = TrW.length ⟨S, m, T, p, k⟩ := by unfold TrW.does; simp only [e]; rfl
    have hq := TrW.length_eq ⟨S, m, T, p, k⟩
    rw [hd, hq]
    refine does_array g t b bm bs S ⟨P, hP⟩ (by omega) _ _ _ ?_
    exact (array_length g t b tm bm S P m hP H.mem hc (by omega) (by omega) e hb _ _ T p k hq).mono (fun e w' h => Does.impT h sub1 (fun g' m r => ⟨r.1, r.2, keepS g' m⟩))
  · have hd : TrW.does ⟨S, m, T, p, k⟩ = TrW.mode ⟨S, m, T, p, k⟩ := by unfold TrW.does; simp only [e]; rfl
    have hq := TrW.mode_eq ⟨S, m, T, p, k⟩
    rw [hd, hq]
    refine does_array g t b bm bs S ⟨P, hP⟩ (by omega) _ _ _ ?_
    exact (array_mode g t b tm bm S P m hP H.mem hc (by omega) (by omega) e hb _ _ T p k hq).mono (fun e w' h => Does.impT h sub1 (fun g' m r => ⟨r.1, r.2, keepS g' m⟩))
  · have hd : TrW.does ⟨S, m, T, p, k⟩ = TrW.base ⟨S, m, T, p, k⟩ := by unfold TrW.does; simp only [e]; rfl
    have hq := TrW.base_eq ⟨S, m, T, p, k⟩
    rw [hd, hq]
    refine does_array g t b bm bs S ⟨P, hP⟩ (by omega) _ _ _ ?_
    exact (array_base g t b tm bm S P m hP H.mem hc (by omega) (by omega) e (hok.md e) hb _ _ T p k hq).mono (fun e w' h => Does.impT h sub1 (fun g' m r => ⟨r.1, r.2, keepS g' m⟩))
  · have hd : TrW.does ⟨S, m, T, p, k⟩ = TrW.slot ⟨S, m, T, p, k⟩ := by unfold TrW.does; simp only [e]; rfl
    have hq := TrW.slot_eq ⟨S, m, T, p, k⟩
    rw [hd, hq]
    refine does_array g t b bm bs S ⟨P, hP⟩ (by omega) _ _ _ ?_
    exact (array_slot g t b tm bm S P m hP H.mem hc (by omega) (by omega) e hb _ _ _ T p k hq).mono (fun e w' h => Does.impT h sub1 (fun g' m r => ⟨r.1, r.2, keepS g' m⟩))
theorem ticked_ok {w : TrW} (h : w.s.Ok) : w.ticked.s.Ok := ⟨h.pc, h.rng, h.chk, h.wd, h.j3, h.md⟩
theorem trace_step (g : GW) (A : TrApart t tm ts tt tp) (w : TrW) (H : TrAt g t tm ts tt tp b bm bs bt bp w) (hok : w.s.Ok) (hs : 0 ≤ w.s.steps ∧ w.s.steps ≤ 1099511627776) (hc : 0 ≤ w.m.count ∧ w.m.count ≤ 1099511627776) (hk : 0 ≤ w.k ∧ w.k ≤ 1099511627776) :
    Calls Try.prog 23 #[.pointer (some ⟨b, 0, none⟩), .pointer (some ⟨bm, 0, none⟩), .pointer (some ⟨bs, 0, none⟩)] g.w (Does (.bool (w.step.s.pc == 9)) g (trT t tm ts tt tp) (fun g' => TrAt g' t tm ts tt tp b bm bs bt bp w.step)) := by
  have hA := A.a
  by_cases h9 : w.s.pc = 9
  · have hst : w.step = w := by unfold TrW.step; rw [if_pos h9]
    rw [hst, h9]
    exact (step_end g t b bm bs w.s H.tr h9).mono (fun e w' h => by
      obtain ⟨rfl, rfl⟩ := h
      exact ⟨rfl, g.own, Mod.refl _ _, H⟩)
  · obtain ⟨P, hP⟩ := H.tr
    have m1 : Mod (fun x => x = t) g ⟨g.own, g.w.setCell ⟨b, 22, none⟩ (.int .i64 (w.s.steps + 1))⟩ := Mod.st Mod.self hP.blk.own
    have H1 : TrAt ⟨g.own, g.w.setCell ⟨b, 22, none⟩ (.int .i64 (w.s.steps + 1))⟩ t tm ts tt tp b bm bs bt bp w.ticked := ⟨H.tr.ticked, H.mem.keep m1 (by omega), H.shd.keep m1 (by omega) (by omega) (by omega)⟩
    have hd := trace_does _ A w.ticked H1 (ticked_ok hok) h9 hc hk
    have hg := step_go g t b bm bs w.s w.ticked.does.1.s w.ticked.does.2 (trT t tm ts tt tp) (fun g' => MemAt g' tm bm w.ticked.does.1.m ∧ ShdAt g' ts bs bt tt bp tp w.ticked.does.1.T w.ticked.does.1.p w.ticked.does.1.k) H.tr h9 hs (Or.inl rfl) (fun g g' m r => ⟨r.1.keep m (by omega), r.2.keep m (by omega) (by omega) (by omega)⟩) (hd.mono (fun e w' h => Does.impT h (fun _ hx => hx) (fun g' m r => ⟨r.tr, r.mem, r.shd⟩)))
    have hst : w.step = if w.ticked.does.2 then w.ticked.does.1 else w.ticked.does.1.ended := by unfold TrW.step; rw [if_neg h9]
    rw [hst]
    generalize w.ticked.does = q at *
    obtain ⟨W, ok⟩ := q
    cases ok
    · exact hg.mono (fun e w' h => Does.impT h (fun _ hx => hx) (fun g' m r => ⟨r.1, r.2.1, r.2.2⟩))
    · exact hg.mono (fun e w' h => Does.impT h (fun _ hx => hx) (fun g' m r => ⟨r.1, r.2.1, r.2.2⟩))
end
/-! ### What a step keeps -/
theorem rdM_keeps (S : TraceS) (m : MemS) (f k : Int) : (S.rdM m f k).l = m.l ∧ m.count ≤ (S.rdM m f k).count ∧ (S.rdM m f k).count ≤ m.count + 1 := by
  unfold TraceS.rdM
  split
  · exact ⟨rfl, by show m.count ≤ m.count + 1; omega, Int.le_refl _⟩
  · exact ⟨rfl, Int.le_refl _, by omega⟩
theorem rd_chk {S : TraceS} {m : MemS} {f k : Int} {v : Nat × Nat} (h : S.rd m f k = some v) : S.c.check = 0 := by
  unfold TraceS.rd at h
  split at h
  · rename_i h1
    simp only [Bool.and_eq_true] at h1
    exact (of_decide_eq_true h1.1).1
  · cases h
theorem gone_same (S : TraceS) : S.gone.c = S.c ∧ S.gone.head = S.head ∧ S.gone.sense = S.sense ∧ S.gone.steps = S.steps ∧ S.gone.e = S.e := by
  unfold TraceS.gone TraceS.goes TraceS.enters
  (repeat' split) <;> exact ⟨rfl, rfl, rfl, rfl, rfl⟩
theorem first_same (S : TraceS) (v : Nat × Nat) : (S.first v).1.c = S.c ∧ (S.first v).1.head = S.head ∧ (S.first v).1.sense = S.sense ∧ (S.first v).1.steps = S.steps ∧ (S.first v).1.e = S.e := by
  unfold TraceS.first
  (repeat' split) <;> first | exact ⟨rfl, rfl, rfl, rfl, rfl⟩ | exact gone_same _
/-- What a step does not touch. -/
structure TrW.Keeps (w w' : TrW) : Prop where
  c : w'.s.c = w.s.c
  head : w'.s.head = w.s.head
  sense : w'.s.sense = w.s.sense
  steps : w'.s.steps = w.s.steps
  ml : w'.m.l = w.m.l
  cnt : w.m.count ≤ w'.m.count ∧ w'.m.count ≤ w.m.count + 1
  k : w.k ≤ w'.k ∧ w'.k ≤ w.k + 1
theorem keeps_rd {w : TrW} {f k : Int} {S' : TraceS} (h : S'.c = w.s.c ∧ S'.head = w.s.head ∧ S'.sense = w.s.sense ∧ S'.steps = w.s.steps) : w.Keeps ⟨S', w.s.rdM w.m f k, w.T, w.p, w.k⟩ :=
  ⟨h.1, h.2.1, h.2.2.1, h.2.2.2, (rdM_keeps _ _ _ _).1, (rdM_keeps _ _ _ _).2, ⟨Int.le_refl _, by show w.k ≤ w.k + 1; omega⟩⟩
theorem does_keeps (w : TrW) : w.Keeps w.does.1 := by
  have g := gone_same
  unfold TrW.does
  split
  · rw [TrW.head_eq]
    refine keeps_rd ?_
    unfold TrW.head
    split
    · exact ⟨rfl, rfl, rfl, rfl⟩
    · rename_i v _
      exact ⟨(first_same w.s v).1, (first_same w.s v).2.1, (first_same w.s v).2.2.1, (first_same w.s v).2.2.2.1⟩
  split
  · split
    · rw [TrW.mode_eq]
      refine keeps_rd ?_
      unfold TrW.mode
      (repeat' split) <;> exact ⟨rfl, rfl, rfl, rfl⟩
    split
    · rw [TrW.base_eq]
      refine keeps_rd ?_
      unfold TrW.base
      (repeat' split) <;> exact ⟨rfl, rfl, rfl, rfl⟩
    split
    · rw [TrW.slot_eq]
      have hs : w.slot.1.s.c = w.s.c ∧ w.slot.1.s.head = w.s.head ∧ w.slot.1.s.sense = w.s.sense ∧ w.slot.1.s.steps = w.s.steps := by
        unfold TrW.slot
        split <;> exact ⟨rfl, rfl, rfl, rfl⟩
      unfold TrW.slotM
      split
      · exact keeps_rd hs
      · exact ⟨hs.1, hs.2.1, hs.2.2.1, hs.2.2.2, rfl, ⟨by show w.m.count ≤ w.m.count + 1; omega, Int.le_refl _⟩, ⟨Int.le_refl _, by show w.k ≤ w.k + 1; omega⟩⟩
    · rw [TrW.length_eq]
      refine keeps_rd ?_
      unfold TrW.length
      (repeat' split) <;> exact ⟨rfl, rfl, rfl, rfl⟩
  split
  · exact ⟨(g _).1, (g _).2.1, (g _).2.2.1, (g _).2.2.2.1, rfl, ⟨Int.le_refl _, by show w.m.count ≤ w.m.count + 1; omega⟩, ⟨by show w.k ≤ w.k + 1; omega, Int.le_refl _⟩⟩
  split
  · rw [TrW.link_eq]
    refine keeps_rd ?_
    unfold TrW.link
    (repeat' split) <;> exact ⟨rfl, rfl, rfl, rfl⟩
  split
  · exact ⟨(g _).1, (g _).2.1, (g _).2.2.1, (g _).2.2.2.1, rfl, ⟨Int.le_refl _, by show w.m.count ≤ w.m.count + 1; omega⟩, ⟨by show w.k ≤ w.k + 1; omega, Int.le_refl _⟩⟩
  · rw [TrW.field_eq]
    refine keeps_rd ?_
    unfold TrW.field
    (repeat' split) <;> first | exact ⟨rfl, rfl, rfl, rfl⟩ | exact ⟨(g _).1, (g _).2.1, (g _).2.2.1, (g _).2.2.2.1⟩
theorem does_ok {w : TrW} (h : w.s.Ok) (h9 : w.s.pc ≠ 9) (hd : w.does.2 = true) : w.does.1.s.Ok := by
  have hr := h.rng h9
  have hc := fun h0 => h.chk h0 h9
  have nine : ∀ {S : TraceS}, S.pc = 9 → S.Ok := fun h => TraceS.pc9_ok h
  revert hd
  unfold TrW.does
  split
  · unfold TrW.head
    split
    · intro hd; cases hd
    · rename_i v hv
      have hck := rd_chk hv
      unfold TraceS.first
      split
      · intro hd; cases hd
      split
      · intro hd; cases hd
      rename_i kd md ht arr refs hk
      have hmay := may_of_check hck hk none 0
      split
      · intro hd; cases hd
      split
      · intro _
        exact ⟨by show (0 : Int) ≤ 5 ∧ (5 : Int) ≤ 9; decide, fun _ => hr, fun _ _ => ⟨hck, hmay⟩, fun h => absurd h (by show ¬ (5 : Int) = 1; decide), fun h => absurd h (by show ¬ (5 : Int) = 3; decide), fun h => absurd h (by show ¬ (5 : Int) = 7; decide)⟩
      · intro _
        exact TraceS.gone_ok hr ⟨hck, hmay⟩
  rename_i h0
  have hc := hc h0
  split
  · split
    · unfold TrW.mode
      split
      · intro hd; cases hd
      split
      · intro hd; cases hd
      rename_i n hn
      split
      · intro hd; cases hd
      rename_i hcond
      intro _
      by_cases hn0 : n = 0
      · refine ⟨?_, fun _ => hr, fun _ _ => hc, fun h => ?_, fun h => ?_, fun h => ?_⟩
        · show (0 : Int) ≤ (if n = 0 then 8 else 7) ∧ (if n = 0 then (8 : Int) else 7) ≤ 9
          split <;> decide
        · have h : (if n = 0 then (8 : Int) else 7) = 1 := h
          rw [if_pos hn0] at h; omega
        · have h : (if n = 0 then (8 : Int) else 7) = 3 := h
          rw [if_pos hn0] at h; omega
        · have h : (if n = 0 then (8 : Int) else 7) = 7 := h
          rw [if_pos hn0] at h; omega
      · refine ⟨?_, fun _ => hr, fun _ _ => hc, fun h => ?_, fun h => ?_, fun h => ?_⟩
        · show (0 : Int) ≤ (if n = 0 then 8 else 7) ∧ (if n = 0 then (8 : Int) else 7) ≤ 9
          split <;> decide
        · have h : (if n = 0 then (8 : Int) else 7) = 1 := h
          rw [if_neg hn0] at h; omega
        · have h : (if n = 0 then (8 : Int) else 7) = 3 := h
          rw [if_neg hn0] at h; omega
        · show n = 1 ∨ n = 2
          have : ¬ n < 0 := fun e => hcond (Or.inl e)
          have : ¬ 2 < n := fun e => hcond (Or.inr (Or.inl e))
          omega
    split
    · have hw := cWords_le hc.1
      have hfr := (Cnf.ranged (Cnf.check_zero hc.1).1).1
      have hsd := sData_bd w.s.n
      unfold TrW.base
      split
      · intro hd; cases hd
      split
      · split
        · intro hd; cases hd
        split
        · intro hd; cases hd
        intro _
        refine ⟨by show (0 : Int) ≤ 8 ∧ (8 : Int) ≤ 9; decide, fun _ => ⟨hr.1, hr.2.1, ?_⟩, fun _ _ => hc, fun h => absurd h (by show ¬ (8 : Int) = 1; decide), fun h => absurd h (by show ¬ (8 : Int) = 3; decide), fun h => absurd h (by show ¬ (8 : Int) = 7; decide)⟩
        rename_i a _ hcond _ _
        show 0 ≤ a ∧ a ≤ 100000
        omega
      · split
        · intro hd; cases hd
        rename_i i hi
        have hib := (wIndex_some hi).1
        split
        · intro hd; cases hd
        intro _
        refine ⟨by show (0 : Int) ≤ 4 ∧ (4 : Int) ≤ 9; decide, fun _ => ⟨hr.1, hr.2.1, ?_⟩, fun _ _ => hc, fun h => absurd h (by show ¬ (4 : Int) = 1; decide), fun h => absurd h (by show ¬ (4 : Int) = 3; decide), fun h => absurd h (by show ¬ (4 : Int) = 7; decide)⟩
        show 0 ≤ i ∧ i ≤ 100000
        omega
    split
    · unfold TrW.slot
      split
      · intro hd; cases hd
      intro _
      exact ⟨by show (0 : Int) ≤ 4 ∧ (4 : Int) ≤ 9; decide, fun _ => hr, fun _ _ => hc, fun h => absurd h (by show ¬ (4 : Int) = 1; decide), fun h => absurd h (by show ¬ (4 : Int) = 3; decide), fun h => absurd h (by show ¬ (4 : Int) = 7; decide)⟩
    · unfold TrW.length
      split
      · intro hd; cases hd
      split
      · intro hd; cases hd
      rename_i n hn
      split
      · intro hd; cases hd
      rename_i hcond
      intro _
      by_cases hn0 : n = 0
      · exact nine (by show (if n = 0 then (9 : Int) else 6) = 9; rw [if_pos hn0])
      · have h6 : (if n = 0 then (9 : Int) else 6) = 6 := if_neg hn0
        refine ⟨?_, fun _ => ⟨hr.1, ?_, hr.2.2⟩, fun _ _ => hc, fun h => ?_, fun h => ?_, fun h => ?_⟩
        · show (0 : Int) ≤ (if n = 0 then 9 else 6) ∧ (if n = 0 then (9 : Int) else 6) ≤ 9
          rw [h6]; decide
        · show 0 ≤ n ∧ n ≤ 512
          omega
        · have h : (if n = 0 then (9 : Int) else 6) = 1 := h
          omega
        · have h : (if n = 0 then (9 : Int) else 6) = 3 := h
          omega
        · have h : (if n = 0 then (9 : Int) else 6) = 7 := h
          omega
  rename_i h5
  split
  · intro _
    exact TraceS.gone_ok hr hc
  split
  · rename_i h3
    have hj := h.j3 h3
    unfold TrW.link
    split
    · intro hd; cases hd
    split
    · intro hd; cases hd
    split
    · intro _
      refine ⟨by show (0 : Int) ≤ 4 ∧ (4 : Int) ≤ 9; decide, fun _ => ⟨?_, hr.2⟩, fun _ _ => hc, fun h => absurd h (by show ¬ (4 : Int) = 1; decide), fun h => absurd h (by show ¬ (4 : Int) = 3; decide), fun h => absurd h (by show ¬ (4 : Int) = 7; decide)⟩
      show 0 ≤ w.s.j + 1 ∧ w.s.j + 1 ≤ 64
      omega
    · intro hd; cases hd
  split
  · intro _
    exact TraceS.gone_ok hr hc
  · unfold TrW.field
    split
    · intro hd; cases hd
    split
    · intro hd; cases hd
    split
    · intro _
      exact ⟨by show (0 : Int) ≤ 2 ∧ (2 : Int) ≤ 9; decide, fun _ => hr, fun _ _ => hc, fun h => absurd h (by show ¬ (2 : Int) = 1; decide), fun h => absurd h (by show ¬ (2 : Int) = 3; decide), fun h => absurd h (by show ¬ (2 : Int) = 7; decide)⟩
    · intro _
      exact TraceS.gone_ok hr hc
theorem step_ok {w : TrW} (h : w.s.Ok) : w.step.s.Ok := by
  unfold TrW.step
  split
  · exact h
  · rename_i h9
    split
    · rename_i hd
      exact does_ok (w := w.ticked) (ticked_ok h) h9 hd
    · exact TraceS.ended_ok
/-- .. and of a whole step. -/
theorem step_keeps (w : TrW) : w.step.s.c = w.s.c ∧ w.step.s.head = w.s.head ∧ w.step.s.sense = w.s.sense ∧ w.step.m.l = w.m.l ∧ (w.m.count ≤ w.step.m.count ∧ w.step.m.count ≤ w.m.count + 1) ∧ (w.k ≤ w.step.k ∧ w.step.k ≤ w.k + 1) ∧ w.step.s.steps = if w.s.pc = 9 then w.s.steps else w.s.steps + 1 := by
  have h := does_keeps w.ticked
  unfold TrW.step
  by_cases h9 : w.s.pc = 9
  · rw [if_pos h9, if_pos h9]
    exact ⟨rfl, rfl, rfl, rfl, ⟨Int.le_refl _, by omega⟩, ⟨Int.le_refl _, by omega⟩, rfl⟩
  · rw [if_neg h9, if_neg h9]
    split
    · exact ⟨h.c, h.head, h.sense, h.ml, h.cnt, h.k, h.steps⟩
    · exact ⟨h.c, h.head, h.sense, h.ml, h.cnt, h.k, h.steps⟩
end Go.Proofs.Ythdijbkcjmeilaa
/-
  trace: runs of several steps, as plain data. No walk here.
-/
namespace Go.Proofs.Ythdijbkcjmeilaa
open Go Go.RowKit
set_option linter.unusedVariables false
set_option linter.unusedSimpArgs false
set_option maxRecDepth 100000
namespace TrW
/-- So many steps. -/
def go : Nat → TrW → TrW
  | 0, w => w
  | n + 1, w => (go n w).step
theorem go_add (a b : Nat) (w : TrW) : go (a + b) w = go b (go a w) := by
  induction b with
  | zero => rfl
  | succ b ih => rw [← Nat.add_assoc]; show (go (a + b) w).step = (go b (go a w)).step; rw [ih]
theorem go_ok (n : Nat) {w : TrW} (h : w.s.Ok) : (go n w).s.Ok := by
  induction n with
  | zero => exact h
  | succ n ih => exact step_ok ih
theorem go_keeps (n : Nat) (w : TrW) : (go n w).s.c = w.s.c ∧ (go n w).s.head = w.s.head ∧ (go n w).s.sense = w.s.sense ∧ (go n w).m.l = w.m.l ∧ (w.m.count ≤ (go n w).m.count ∧ (go n w).m.count ≤ w.m.count + n) ∧ (w.k ≤ (go n w).k ∧ (go n w).k ≤ w.k + n) ∧ (w.s.steps ≤ (go n w).s.steps ∧ (go n w).s.steps ≤ w.s.steps + n) := by
  induction n with
  | zero => exact ⟨rfl, rfl, rfl, rfl, ⟨Int.le_refl _, by show w.m.count ≤ w.m.count + 0; omega⟩, ⟨Int.le_refl _, by show w.k ≤ w.k + 0; omega⟩, ⟨Int.le_refl _, by show w.s.steps ≤ w.s.steps + 0; omega⟩⟩
  | succ n ih =>
    obtain ⟨a1, a2, a3, a4, a5, a6, a7⟩ := ih
    obtain ⟨b1, b2, b3, b4, b5, b6, b7⟩ := step_keeps (go n w)
    have hs : (go n w).step.s.steps ≤ (go n w).s.steps + 1 ∧ (go n w).s.steps ≤ (go n w).step.s.steps := by rw [b7]; split <;> omega
    refine ⟨b1.trans a1, b2.trans a2, b3.trans a3, b4.trans a4, ?_, ?_, ?_⟩
    · show w.m.count ≤ (go n w).step.m.count ∧ (go n w).step.m.count ≤ w.m.count + (n + 1 : Nat)
      omega
    · show w.k ≤ (go n w).step.k ∧ (go n w).step.k ≤ w.k + (n + 1 : Nat)
      omega
    · show w.s.steps ≤ (go n w).step.s.steps ∧ (go n w).step.s.steps ≤ w.s.steps + (n + 1 : Nat)
      omega
/-- If all steps counted, none was at its end. -/
theorem go_all {n : Nat} {w : TrW} (h : (go n w).s.steps = w.s.steps + n) {i : Nat} (hi : i ≤ n) : (go i w).s.steps = w.s.steps + i ∧ (i < n → (go i w).s.pc ≠ 9) := by
  obtain ⟨d, rfl⟩ := Nat.exists_eq_add_of_le hi
  have h1 := (go_keeps i w).2.2.2.2.2.2
  have h2 := (go_keeps d (go i w)).2.2.2.2.2.2
  rw [go_add] at h
  refine ⟨by omega, fun hlt h9 => ?_⟩
  obtain ⟨e, rfl⟩ : ∃ e, d = e + 1 := ⟨d - 1, by omega⟩
  have hst : (go i w).step = go i w := by unfold step; rw [if_pos h9]
  have h3 : ∀ e, go e (go i w) = go i w := fun e => by
    induction e with
    | zero => rfl
    | succ e ih => show (go e (go i w)).step = _; rw [ih, hst]
  rw [h3] at h
  omega
end TrW
section
variable {S : TraceS} {l : List (Nat × Nat)} {c k : Int} {T : TabS} {p : PileS}
theorem rdM_yes {m : MemS} {f x : Int} (h : S.okAt f x = true) : S.rdM m f x = m.tick := by unfold TraceS.rdM; rw [if_pos h]
theorem rd_yes {m : MemS} {f x : Int} (h : S.okAt f x = true) (hi : inB (f * 8 + x) m.l.length = true) : S.rd m f x = some (m.peek (f * 8 + x)) := by unfold TraceS.rd; rw [h, hi]; rfl
theorem peek_l (l : List (Nat × Nat)) (c d a : Int) : MemS.peek ⟨l, c⟩ a = MemS.peek ⟨l, d⟩ a := rfl
theorem step_does {w w' : TrW} (h9 : w.s.pc ≠ 9) (hd : w.ticked.does = (w', true)) : w.step = w' := by
  unfold TrW.step
  rw [if_neg h9, hd]
  rfl
theorem step_field_ref {x i : Int} {ws : List Int} (hpc : S.pc = 1) (hw : S.words = x :: ws) (hok : S.okAt S.frag x = true) (hin : inB (S.frag * 8 + x) l.length = true) (hi : wIndex (MemS.peek ⟨l, 0⟩ (S.frag * 8 + x)) = some i) :
    TrW.step ⟨S, ⟨l, c⟩, T, p, k⟩ = ⟨{ S with words := ws, next := i, pc := 2, steps := S.steps + 1 }, ⟨l, c + 1⟩, T, p, k⟩ := by
  refine step_does (by show S.pc ≠ 9; omega) ?_
  have hd : TrW.does (TrW.ticked ⟨S, ⟨l, c⟩, T, p, k⟩) = TrW.field (TrW.ticked ⟨S, ⟨l, c⟩, T, p, k⟩) := by unfold TrW.does TrW.ticked; simp only [hpc]; rfl
  have hr : TraceS.rd { S with steps := S.steps + 1 } ⟨l, c⟩ S.frag x = some (MemS.peek ⟨l, 0⟩ (S.frag * 8 + x)) := rd_yes (S := { S with steps := S.steps + 1 }) (m := ⟨l, c⟩) hok hin
  have hm : TraceS.rdM { S with steps := S.steps + 1 } ⟨l, c⟩ S.frag x = ⟨l, c + 1⟩ := rdM_yes (S := { S with steps := S.steps + 1 }) (m := ⟨l, c⟩) hok
  have hs : wIs (MemS.peek ⟨l, 0⟩ (S.frag * 8 + x)) = true := by unfold wIs; rw [hi]; rfl
  rw [hd]
  simp only [hw] at hr hm
  unfold TrW.field TrW.ticked
  simp only [hw, List.headD_cons, List.tail_cons, hr, hm, hs, hi, Bool.true_eq_false, if_false, Option.isSome_some, if_true, Option.getD_some]
theorem step_field_none {x : Int} {ws : List Int} (hpc : S.pc = 1) (hw : S.words = x :: ws) (hok : S.okAt S.frag x = true) (hin : inB (S.frag * 8 + x) l.length = true) (hs : wIs (MemS.peek ⟨l, 0⟩ (S.frag * 8 + x)) = true) (hi : wIndex (MemS.peek ⟨l, 0⟩ (S.frag * 8 + x)) = none) :
    TrW.step ⟨S, ⟨l, c⟩, T, p, k⟩ = ⟨TraceS.gone { S with words := ws, next := 0, steps := S.steps + 1 }, ⟨l, c + 1⟩, T, p, k⟩ := by
  refine step_does (by show S.pc ≠ 9; omega) ?_
  have hd : TrW.does (TrW.ticked ⟨S, ⟨l, c⟩, T, p, k⟩) = TrW.field (TrW.ticked ⟨S, ⟨l, c⟩, T, p, k⟩) := by unfold TrW.does TrW.ticked; simp only [hpc]; rfl
  have hr : TraceS.rd { S with steps := S.steps + 1 } ⟨l, c⟩ S.frag x = some (MemS.peek ⟨l, 0⟩ (S.frag * 8 + x)) := rd_yes (S := { S with steps := S.steps + 1 }) (m := ⟨l, c⟩) hok hin
  have hm : TraceS.rdM { S with steps := S.steps + 1 } ⟨l, c⟩ S.frag x = ⟨l, c + 1⟩ := rdM_yes (S := { S with steps := S.steps + 1 }) (m := ⟨l, c⟩) hok
  rw [hd]
  simp only [hw] at hr hm
  unfold TrW.field TrW.ticked
  simp only [hw, List.headD_cons, List.tail_cons, hr, hm, hs, hi, Bool.true_eq_false, if_false, Option.isSome_none, Bool.false_eq_true]
theorem step_grey (hpc : S.pc = 2) {m : MemS} : TrW.step ⟨S, m, T, p, k⟩ = ⟨TraceS.gone { S with steps := S.steps + 1 }, m, T.grey S.next S.sense, p.grey T S.next S.sense, k + 1⟩ := by
  refine step_does (by show S.pc ≠ 9; omega) ?_
  have hd : TrW.does (TrW.ticked ⟨S, m, T, p, k⟩) = TrW.grey (TrW.ticked ⟨S, m, T, p, k⟩) := by unfold TrW.does TrW.ticked; simp only [hpc]; rfl
  rw [hd]
  rfl
theorem step_part (hpc : S.pc = 4) {m : MemS} : TrW.step ⟨S, m, T, p, k⟩ = ⟨TraceS.gone { S with words := S.refsL, steps := S.steps + 1 }, m, T.mark S.frag S.sense, p, k + 1⟩ := by
  refine step_does (by show S.pc ≠ 9; omega) ?_
  have hd : TrW.does (TrW.ticked ⟨S, m, T, p, k⟩) = TrW.part (TrW.ticked ⟨S, m, T, p, k⟩) := by unfold TrW.does TrW.ticked; simp only [hpc]; rfl
  rw [hd]
  rfl
theorem step_link {i : Int} (hpc : S.pc = 3) (hok : S.okAt S.frag 0 = true) (hin : inB (S.frag * 8 + 0) l.length = true) (hi : wIndex (MemS.peek ⟨l, 0⟩ (S.frag * 8 + 0)) = some i) (hlt : i < S.c.frags) :
    TrW.step ⟨S, ⟨l, c⟩, T, p, k⟩ = ⟨{ S with frag := i, pc := 4, j := S.j + 1, steps := S.steps + 1 }, ⟨l, c + 1⟩, T, p, k⟩ := by
  refine step_does (by show S.pc ≠ 9; omega) ?_
  have hd : TrW.does (TrW.ticked ⟨S, ⟨l, c⟩, T, p, k⟩) = TrW.link (TrW.ticked ⟨S, ⟨l, c⟩, T, p, k⟩) := by unfold TrW.does TrW.ticked; simp only [hpc]; rfl
  have hr : TraceS.rd { S with steps := S.steps + 1 } ⟨l, c⟩ S.frag 0 = some (MemS.peek ⟨l, 0⟩ (S.frag * 8 + 0)) := rd_yes (S := { S with steps := S.steps + 1 }) (m := ⟨l, c⟩) hok hin
  have hm : TraceS.rdM { S with steps := S.steps + 1 } ⟨l, c⟩ S.frag 0 = ⟨l, c + 1⟩ := rdM_yes (S := { S with steps := S.steps + 1 }) (m := ⟨l, c⟩) hok
  rw [hd]
  unfold TrW.link TrW.ticked
  simp only [hr, hm, hi, hlt, if_true]
theorem step_head_obj {kd md : Int} {refs : List Bool} (hpc : S.pc = 0) (hok : S.okAt S.head 1 = true) (hin : inB (S.head * 8 + 1) l.length = true) (ht : wTell (MemS.peek ⟨l, 0⟩ (S.head * 8 + 1)) = some (kd, md)) (hsh : S.c.shapeAt kd = some (false, refs)) (hmd : md ≤ 1) :
    TrW.step ⟨S, ⟨l, c⟩, T, p, k⟩ = ⟨TraceS.gone { S with arr := false, refs := refs, words := fieldsL refs S.j refs.length, steps := S.steps + 1 }, ⟨l, c + 1⟩, T, p, k⟩ := by
  refine step_does (by show S.pc ≠ 9; omega) ?_
  have hd : TrW.does (TrW.ticked ⟨S, ⟨l, c⟩, T, p, k⟩) = TrW.head (TrW.ticked ⟨S, ⟨l, c⟩, T, p, k⟩) := by unfold TrW.does TrW.ticked; simp only [hpc]; rfl
  have hr : TraceS.rd { S with steps := S.steps + 1 } ⟨l, c⟩ S.head 1 = some (MemS.peek ⟨l, 0⟩ (S.head * 8 + 1)) := rd_yes (S := { S with steps := S.steps + 1 }) (m := ⟨l, c⟩) hok hin
  have hm : TraceS.rdM { S with steps := S.steps + 1 } ⟨l, c⟩ S.head 1 = ⟨l, c + 1⟩ := rdM_yes (S := { S with steps := S.steps + 1 }) (m := ⟨l, c⟩) hok
  have hrf : TraceS.refsL { S with arr := false, refs := refs, steps := S.steps + 1 } = fieldsL refs S.j refs.length := refsL_obj (S := { S with arr := false, refs := refs, steps := S.steps + 1 }) rfl
  rw [hd]
  unfold TrW.head TrW.ticked TraceS.first
  simp only [hr, hm, ht, hsh]
  rw [if_neg (by simp; omega), if_neg (by decide)]
  simp only [hrf]
theorem step_head_arr {kd md : Int} {refs : List Bool} (hpc : S.pc = 0) (hok : S.okAt S.head 1 = true) (hin : inB (S.head * 8 + 1) l.length = true) (ht : wTell (MemS.peek ⟨l, 0⟩ (S.head * 8 + 1)) = some (kd, md)) (hsh : S.c.shapeAt kd = some (true, refs)) (hmd : md ≤ 0) :
    TrW.step ⟨S, ⟨l, c⟩, T, p, k⟩ = ⟨{ S with arr := true, refs := refs, pc := 5, steps := S.steps + 1 }, ⟨l, c + 1⟩, T, p, k⟩ := by
  refine step_does (by show S.pc ≠ 9; omega) ?_
  have hd : TrW.does (TrW.ticked ⟨S, ⟨l, c⟩, T, p, k⟩) = TrW.head (TrW.ticked ⟨S, ⟨l, c⟩, T, p, k⟩) := by unfold TrW.does TrW.ticked; simp only [hpc]; rfl
  have hr : TraceS.rd { S with steps := S.steps + 1 } ⟨l, c⟩ S.head 1 = some (MemS.peek ⟨l, 0⟩ (S.head * 8 + 1)) := rd_yes (S := { S with steps := S.steps + 1 }) (m := ⟨l, c⟩) hok hin
  have hm : TraceS.rdM { S with steps := S.steps + 1 } ⟨l, c⟩ S.head 1 = ⟨l, c + 1⟩ := rdM_yes (S := { S with steps := S.steps + 1 }) (m := ⟨l, c⟩) hok
  rw [hd]
  unfold TrW.head TrW.ticked TraceS.first
  simp only [hr, hm, ht, hsh]
  rw [if_neg (by simp; omega)]
  simp only [if_true]
/-- What a word that was read does: what it refers to is shaded. -/
def eff (s : Bool) (E : TabS × PileS) (v : Nat × Nat) : TabS × PileS := match wIndex v with
  | some i => (E.1.grey i s, E.2.grey E.1 i s)
  | none => E
/-- The words of a fragment. -/
def wordsOf (l : List (Nat × Nat)) (f : Int) (ws : List Int) : List (Nat × Nat) := ws.map fun x => MemS.peek ⟨l, 0⟩ (f * 8 + x)
def cost1 (v : Nat × Nat) : Nat := if (wIndex v).isSome then 2 else 1
def costW (vs : List (Nat × Nat)) : Nat := (vs.map cost1).sum
def effs (s : Bool) (E : TabS × PileS) (vs : List (Nat × Nat)) : TabS × PileS := vs.foldl (eff s) E
theorem gone_words {S : TraceS} (h : S.words ≠ []) : S.gone = { S with pc := 1 } := by unfold TraceS.gone TraceS.goes TraceS.goesPc; rw [if_pos h, if_pos h]
theorem gone_pc (S : TraceS) (q : Int) : TraceS.gone { S with pc := q } = TraceS.gone S := by
  unfold TraceS.gone TraceS.goes TraceS.goesPc
  by_cases h1 : S.words ≠ []
  · rw [if_pos h1, if_pos h1, if_pos h1, if_pos h1]
  · rw [if_neg h1, if_neg h1, if_neg h1, if_neg h1]
    by_cases h2 : S.frs ≤ S.j + 1
    · rw [if_pos h2, if_pos h2, if_pos (show TraceS.frs { S with pc := q } ≤ S.j + 1 from h2), if_pos (show TraceS.frs { S with pc := q } ≤ S.j + 1 from h2)]
    · rw [if_neg h2, if_neg h2, if_neg (show ¬ TraceS.frs { S with pc := q } ≤ S.j + 1 from h2), if_neg (show ¬ TraceS.frs { S with pc := q } ≤ S.j + 1 from h2)]
      by_cases h3 : S.arr = false
      · rw [if_pos h3, if_pos h3, if_pos h3, if_pos h3]
      · rw [if_neg h3, if_neg h3, if_neg h3, if_neg h3]
        unfold TraceS.enters TraceS.entersPc
        simp only
        split <;> rfl
/-- The references of a fragment. -/
theorem run_words : ∀ (ws : List Int) (S : TraceS) (c k : Int) (T : TabS) (p : PileS), (∀ x ∈ ws, S.okAt S.frag x = true ∧ inB (S.frag * 8 + x) l.length = true ∧ wIs (MemS.peek ⟨l, 0⟩ (S.frag * 8 + x)) = true) →
    ∃ x k' c', TrW.go (costW (wordsOf l S.frag ws)) ⟨TraceS.gone { S with words := ws }, ⟨l, c⟩, T, p, k⟩ = ⟨TraceS.gone { S with words := [], next := x, steps := S.steps + costW (wordsOf l S.frag ws) }, ⟨l, c'⟩, (effs S.sense (T, p) (wordsOf l S.frag ws)).1, (effs S.sense (T, p) (wordsOf l S.frag ws)).2, k'⟩
  | [], S, c, k, T, p, _ => ⟨S.next, k, c, by
    show (⟨TraceS.gone { S with words := [] }, ⟨l, c⟩, T, p, k⟩ : TrW) = ⟨TraceS.gone { S with words := [], next := S.next, steps := S.steps + ((0 : Nat) : Int) }, ⟨l, c⟩, T, p, k⟩
    rw [show S.steps + ((0 : Nat) : Int) = S.steps by omega]⟩
  | x :: ws, S, c, k, T, p, h => by
    obtain ⟨h1, h2, h3⟩ := h x (List.mem_cons_self)
    have hr : ∀ y ∈ ws, S.okAt S.frag y = true ∧ inB (S.frag * 8 + y) l.length = true ∧ wIs (MemS.peek ⟨l, 0⟩ (S.frag * 8 + y)) = true := fun y hy => h y (List.mem_cons_of_mem _ hy)
    have hg : TraceS.gone { S with words := x :: ws } = { S with words := x :: ws, pc := 1 } := gone_words (by simp)
    have hw : wordsOf l S.frag (x :: ws) = MemS.peek ⟨l, 0⟩ (S.frag * 8 + x) :: wordsOf l S.frag ws := rfl
    rw [hw, hg]
    rcases hi : wIndex (MemS.peek ⟨l, 0⟩ (S.frag * 8 + x)) with _ | i
    · have hc : costW (MemS.peek ⟨l, 0⟩ (S.frag * 8 + x) :: wordsOf l S.frag ws) = 1 + costW (wordsOf l S.frag ws) := by
        unfold costW cost1; rw [List.map_cons, List.sum_cons, hi]; rfl
      have he : effs S.sense (T, p) (MemS.peek ⟨l, 0⟩ (S.frag * 8 + x) :: wordsOf l S.frag ws) = effs S.sense (T, p) (wordsOf l S.frag ws) := by
        unfold effs; rw [List.foldl_cons]; unfold eff; rw [hi]
      rw [hc, he, TrW.go_add]
      have hs := step_field_none (S := { S with words := x :: ws, pc := 1 }) (c := c) (k := k) (T := T) (p := p) (l := l) (x := x) (ws := ws) rfl rfl h1 h2 h3 hi
      have hs := hs.trans (congrArg (fun Z => (⟨Z, ⟨l, c + 1⟩, T, p, k⟩ : TrW)) (gone_pc { S with words := ws, next := 0, steps := S.steps + 1 } 1))
      rw [show TrW.go 1 ⟨{ S with words := x :: ws, pc := 1 }, ⟨l, c⟩, T, p, k⟩ = TrW.step ⟨{ S with words := x :: ws, pc := 1 }, ⟨l, c⟩, T, p, k⟩ from rfl, hs]
      obtain ⟨x', k', c', e⟩ := run_words ws { S with next := 0, steps := S.steps + 1 } (c + 1) k T p hr
      refine ⟨x', k', c', e.trans ?_⟩
      have e1 : S.steps + 1 + (costW (wordsOf l S.frag ws) : Int) = S.steps + ((1 + costW (wordsOf l S.frag ws) : Nat) : Int) := by omega
      simp only [e1]
    · have hc : costW (MemS.peek ⟨l, 0⟩ (S.frag * 8 + x) :: wordsOf l S.frag ws) = 2 + costW (wordsOf l S.frag ws) := by
        unfold costW cost1; rw [List.map_cons, List.sum_cons, hi]; rfl
      have he : effs S.sense (T, p) (MemS.peek ⟨l, 0⟩ (S.frag * 8 + x) :: wordsOf l S.frag ws) = effs S.sense (T.grey i S.sense, p.grey T i S.sense) (wordsOf l S.frag ws) := by
        unfold effs; rw [List.foldl_cons]; unfold eff; rw [hi]
      rw [hc, he, TrW.go_add]
      have hs := step_field_ref (S := { S with words := x :: ws, pc := 1 }) (c := c) (k := k) (T := T) (p := p) (l := l) (x := x) (ws := ws) rfl rfl h1 h2 hi
      rw [show TrW.go 2 ⟨{ S with words := x :: ws, pc := 1 }, ⟨l, c⟩, T, p, k⟩ = TrW.step (TrW.step ⟨{ S with words := x :: ws, pc := 1 }, ⟨l, c⟩, T, p, k⟩) from rfl, hs]
      have hs2 := (step_grey (S := { S with words := ws, next := i, pc := 2, steps := S.steps + 1 }) (T := T) (p := p) (k := k) rfl (m := ⟨l, c + 1⟩)).trans (congrArg (fun Z => (⟨Z, ⟨l, c + 1⟩, T.grey i S.sense, p.grey T i S.sense, k + 1⟩ : TrW)) (gone_pc { S with words := ws, next := i, steps := S.steps + 1 + 1 } 2))
      rw [hs2]
      obtain ⟨x', k', c', e⟩ := run_words ws { S with next := i, steps := S.steps + 1 + 1 } (c + 1) (k + 1) (T.grey i S.sense) (p.grey T i S.sense) hr
      refine ⟨x', k', c', e.trans ?_⟩
      have e1 : S.steps + 1 + 1 + (costW (wordsOf l S.frag ws) : Int) = S.steps + ((2 + costW (wordsOf l S.frag ws) : Nat) : Int) := by omega
      simp only [e1]
end
/-! ### an object -/
theorem fieldsL_mem {refs : List Bool} {j : Int} : ∀ {n : Nat} {x : Int}, x ∈ fieldsL refs j n → ∃ k : Nat, k < n ∧ refs.getD k false = true ∧ Shp.placeF k = j ∧ x = Shp.placeW k
  | 0, x, h => by cases h
  | n + 1, x, h => by
    rw [fieldsL] at h
    rcases List.mem_append.1 h with h | h
    · obtain ⟨k, h1, h2⟩ := fieldsL_mem h
      exact ⟨k, by omega, h2⟩
    · split at h
      · rename_i hc
        simp only [Bool.and_eq_true, decide_eq_true_eq] at hc
        simp only [List.mem_singleton] at h
        exact ⟨n, by omega, hc.1, hc.2, h⟩
      · cases h
/-- An object that stands in memory. -/
structure ObjIn (cm : Cnf) (l : List (Nat × Nat)) (got : List Int) (kd md : Int) (refs : List Bool) : Prop where
  one : 1 ≤ got.length
  check : cm.check = 0
  gotb : ∀ i, i < got.length → 0 ≤ got.getD i 0 ∧ got.getD i 0 < cm.frags
  shape : cm.shapeAt kd = some (false, refs)
  kdb : 0 ≤ kd ∧ kd ≤ 1000000
  mdb : 0 ≤ md ∧ md ≤ 1
  size : (got.length : Int) = Shp.size ⟨false, none, 0, refs⟩ 0
  mlen : ∀ a, 0 ≤ a → a < cm.frags * 8 → inB a l.length = true
  head : MemS.peek ⟨l, 0⟩ (got.getD 0 0 * 8 + 1) = (floatOfInt .f64 kd, floatOfInt .f64 md)
  link : ∀ i, i + 1 < got.length → MemS.peek ⟨l, 0⟩ (got.getD i 0 * 8 + 0) = (floatOfInt .f64 (got.getD (i + 1) 0 + 1), 4607182418800017408)
  fld : ∀ k : Nat, k < refs.length → refs.getD k false = true → wIs (MemS.peek ⟨l, 0⟩ (got.getD (Shp.placeF k).toNat 0 * 8 + Shp.placeW k)) = true
section
variable {cm : Cnf} {l : List (Nat × Nat)} {got : List Int} {kd md : Int} {refs : List Bool}
/-- The words of references in fragment j. -/
def objW (l : List (Nat × Nat)) (got : List Int) (refs : List Bool) (j : Nat) : List (Nat × Nat) := wordsOf l (got.getD j 0) (fieldsL refs j refs.length)
def objE (l : List (Nat × Nat)) (got : List Int) (refs : List Bool) (s : Bool) (E : TabS × PileS) : Nat → TabS × PileS
  | 0 => E
  | j + 1 => ((effs s (objE l got refs s E j) (objW l got refs j)).1.mark (got.getD (j + 1) 0) s, (effs s (objE l got refs s E j) (objW l got refs j)).2)
def objC (l : List (Nat × Nat)) (got : List Int) (refs : List Bool) : Nat → Nat
  | 0 => 1
  | j + 1 => objC l got refs j + costW (objW l got refs j) + 2
def oS (cm : Cnf) (h : Int) (sense : Bool) (refs : List Bool) (f j x st pc : Int) (ws : List Int) : TraceS := ⟨cm, h, sense, pc, false, refs, f, j, ws, x, 0, 0, 0, 0, st⟩
theorem okAt_in {S : TraceS} {cm : Cnf} (h1 : cm.check = 0) (hS : S.c = cm) {f k : Int} (hf : 0 ≤ f ∧ f < cm.frags) (hk : 0 ≤ k ∧ k < 8) : S.okAt f k = true := by
  unfold TraceS.okAt
  rw [hS]
  exact decide_eq_true ⟨h1, hf.1, hf.2, hk.1, hk.2⟩
theorem ObjIn.few (H : ObjIn cm l got kd md refs) : cm.frags ≤ 1024 := (Cnf.ranged (Cnf.check_zero H.check).1).1.2
theorem ObjIn.words (H : ObjIn cm l got kd md refs) {j : Nat} (hj : j < got.length) {S : TraceS} (hc : S.c = cm) (hf : S.frag = got.getD j 0) : ∀ x ∈ fieldsL refs j refs.length, S.okAt S.frag x = true ∧ inB (S.frag * 8 + x) l.length = true ∧ wIs (MemS.peek ⟨l, 0⟩ (S.frag * 8 + x)) = true := by
  intro x hx
  obtain ⟨k, h1, h2, h3, rfl⟩ := fieldsL_mem hx
  have hw := Shp.placeW_bd k (by omega)
  have hg := H.gotb j hj
  have h4 := H.fld k h1 h2
  rw [h3, show ((j : Int)).toNat = j by omega] at h4
  rw [hf]
  exact ⟨okAt_in H.check hc hg (by omega), H.mlen _ (by omega) (by omega), h4⟩
theorem gone_link {S : TraceS} (hw : S.words = []) (hf : S.j + 1 < S.frs) (ha : S.arr = false) : S.gone = { S with pc := 3 } := by
  unfold TraceS.gone TraceS.goes TraceS.goesPc
  rw [if_neg (by rw [hw]; simp), if_neg (by omega), if_pos ha, if_neg (by rw [hw]; simp), if_neg (by omega), if_pos ha]
theorem gone_end {S : TraceS} (hw : S.words = []) (hf : S.frs ≤ S.j + 1) : S.gone = { S with pc := 9 } := by
  unfold TraceS.gone TraceS.goes TraceS.goesPc
  rw [if_neg (by rw [hw]; simp), if_pos hf, if_neg (by rw [hw]; simp), if_pos hf]
/-- The words of fragment j are gone through. -/
theorem run_part (H : ObjIn cm l got kd md refs) (s : Bool) {j : Nat} (hj : j < got.length) (x st : Int) (c k : Int) (T : TabS) (p : PileS) :
    ∃ x2 k2 c2, TrW.go (costW (objW l got refs j)) ⟨TraceS.gone (oS cm (got.getD 0 0) s refs (got.getD j 0) j x st 0 (fieldsL refs j refs.length)), ⟨l, c⟩, T, p, k⟩ = ⟨TraceS.gone (oS cm (got.getD 0 0) s refs (got.getD j 0) j x2 (st + costW (objW l got refs j)) 0 []), ⟨l, c2⟩, (effs s (T, p) (objW l got refs j)).1, (effs s (T, p) (objW l got refs j)).2, k2⟩ :=
  run_words (l := l) (fieldsL refs j refs.length) (oS cm (got.getD 0 0) s refs (got.getD j 0) j x st 0 []) c k T p (H.words hj rfl rfl)
theorem run_obj (H : ObjIn cm l got kd md refs) (s : Bool) (c k : Int) (T : TabS) (p : PileS) : ∀ j : Nat, j < got.length →
    ∃ x k' c', TrW.go (objC l got refs j) ⟨TraceS.fresh cm (got.getD 0 0) s, ⟨l, c⟩, T, p, k⟩ = ⟨TraceS.gone (oS cm (got.getD 0 0) s refs (got.getD j 0) j x (objC l got refs j) 0 (fieldsL refs j refs.length)), ⟨l, c'⟩, (objE l got refs s (T, p) j).1, (objE l got refs s (T, p) j).2, k'⟩
  | 0, hj => by
    have hg := H.gotb 0 hj
    have hs := step_head_obj (S := TraceS.fresh cm (got.getD 0 0) s) (l := l) (c := c) (k := k) (T := T) (p := p) rfl (okAt_in H.check rfl hg (by decide)) (H.mlen _ (by show 0 ≤ got.getD 0 0 * 8 + 1; omega) (by show got.getD 0 0 * 8 + 1 < cm.frags * 8; omega)) (by
      show wTell (MemS.peek ⟨l, 0⟩ (got.getD 0 0 * 8 + 1)) = some (kd, md)
      have h1 := H.kdb
      have h2 := H.mdb
      rw [H.head]
      exact wTell_head h1.1 (by omega) h2.1 (by omega)) H.shape H.mdb.2
    exact ⟨0, k, c + 1, hs⟩
  | j + 1, hj => by
    obtain ⟨x, k', c', e⟩ := run_obj H s c k T p j (by omega)
    have hg := H.gotb j (by omega)
    have hg1 := H.gotb (j + 1) hj
    obtain ⟨x2, k2, c2, e2⟩ := run_part H s (show j < got.length by omega) x (objC l got refs j) c' k' (objE l got refs s (T, p) j).1 (objE l got refs s (T, p) j).2
    have hl : TraceS.gone (oS cm (got.getD 0 0) s refs (got.getD j 0) j x2 ((objC l got refs j : Int) + costW (objW l got refs j)) 0 []) = oS cm (got.getD 0 0) s refs (got.getD j 0) j x2 ((objC l got refs j : Int) + costW (objW l got refs j)) 3 [] :=
      gone_link rfl (by
        show (j : Int) + 1 < Shp.size ⟨false, none, 0, refs⟩ 0
        rw [← H.size]; omega) rfl
    rw [hl] at e2
    have hlk := step_link (S := oS cm (got.getD 0 0) s refs (got.getD j 0) j x2 ((objC l got refs j : Int) + costW (objW l got refs j)) 3 []) (l := l) (c := c2) (k := k2) (T := (effs s (objE l got refs s (T, p) j) (objW l got refs j)).1) (p := (effs s (objE l got refs s (T, p) j) (objW l got refs j)).2) (i := got.getD (j + 1) 0) rfl (okAt_in H.check rfl hg (by decide)) (H.mlen _ (by show 0 ≤ got.getD j 0 * 8 + 0; omega) (by show got.getD j 0 * 8 + 0 < cm.frags * 8; omega)) (by
      show wIndex (MemS.peek ⟨l, 0⟩ (got.getD j 0 * 8 + 0)) = _
      have := H.few
      rw [H.link j hj]
      exact wIndex_ref hg1.1 (by omega)) hg1.2
    have hpt := step_part (S := oS cm (got.getD 0 0) s refs (got.getD (j + 1) 0) ((j : Int) + 1) x2 ((objC l got refs j : Int) + costW (objW l got refs j) + 1) 4 []) (T := (effs s (objE l got refs s (T, p) j) (objW l got refs j)).1) (p := (effs s (objE l got refs s (T, p) j) (objW l got refs j)).2) (k := k2) rfl (m := ⟨l, c2 + 1⟩)
    have e6 : TraceS.refsL (oS cm (got.getD 0 0) s refs (got.getD (j + 1) 0) ((j : Int) + 1) x2 ((objC l got refs j : Int) + costW (objW l got refs j) + 1) 4 []) = fieldsL refs ((j + 1 : Nat) : Int) refs.length := by
      rw [refsL_obj rfl]; rfl
    have e5 : ((objC l got refs j : Int) + costW (objW l got refs j) + 1 + 1) = ((objC l got refs (j + 1) : Nat) : Int) := by rw [objC]; omega
    refine ⟨x2, k2 + 1, c2 + 1, ?_⟩
    have e7 : TrW.go (objC l got refs (j + 1)) ⟨TraceS.fresh cm (got.getD 0 0) s, ⟨l, c⟩, T, p, k⟩ = TrW.step (TrW.step (TrW.go (costW (objW l got refs j)) (TrW.go (objC l got refs j) ⟨TraceS.fresh cm (got.getD 0 0) s, ⟨l, c⟩, T, p, k⟩))) := by
      rw [← TrW.go_add]; rfl
    rw [e7, e, e2, hlk]
    refine hpt.trans ?_
    rw [e6]
    have e8 : TraceS.gone { oS cm (got.getD 0 0) s refs (got.getD (j + 1) 0) ((j : Int) + 1) x2 ((objC l got refs j : Int) + costW (objW l got refs j) + 1) 4 [] with words := fieldsL refs ((j + 1 : Nat) : Int) refs.length, steps := (objC l got refs j : Int) + costW (objW l got refs j) + 1 + 1 } = TraceS.gone (oS cm (got.getD 0 0) s refs (got.getD (j + 1) 0) ((j + 1 : Nat) : Int) x2 (objC l got refs (j + 1) : Nat) 0 (fieldsL refs ((j + 1 : Nat) : Int) refs.length)) := by
      rw [e5]
      exact gone_pc (oS cm (got.getD 0 0) s refs (got.getD (j + 1) 0) ((j + 1 : Nat) : Int) x2 (objC l got refs (j + 1) : Nat) 0 (fieldsL refs ((j + 1 : Nat) : Int) refs.length)) 4
    exact congrArg (fun Z => (⟨Z, ⟨l, c2 + 1⟩, (objE l got refs s (T, p) (j + 1)).1, (objE l got refs s (T, p) (j + 1)).2, k2 + 1⟩ : TrW)) e8
/-- So many steps in all. -/
def objN (l : List (Nat × Nat)) (got : List Int) (refs : List Bool) : Nat := objC l got refs (got.length - 1) + costW (objW l got refs (got.length - 1))
def objF (l : List (Nat × Nat)) (got : List Int) (refs : List Bool) (s : Bool) (E : TabS × PileS) : TabS × PileS := effs s (objE l got refs s E (got.length - 1)) (objW l got refs (got.length - 1))
/-- A whole object. -/
theorem run_object (H : ObjIn cm l got kd md refs) (s : Bool) (c k : Int) (T : TabS) (p : PileS) :
    ∃ S k' c', TrW.go (objN l got refs) ⟨TraceS.fresh cm (got.getD 0 0) s, ⟨l, c⟩, T, p, k⟩ = ⟨S, ⟨l, c'⟩, (objF l got refs s (T, p)).1, (objF l got refs s (T, p)).2, k'⟩ ∧ S.pc = 9 ∧ S.e = 0 ∧ S.steps = objN l got refs := by
  have h1 := H.one
  unfold objN objF
  obtain ⟨j, hj⟩ : ∃ j, got.length = j + 1 := ⟨got.length - 1, by omega⟩
  rw [show got.length - 1 = j by omega]
  obtain ⟨x, k', c', e⟩ := run_obj H s c k T p j (by omega)
  obtain ⟨x2, k2, c2, e2⟩ := run_part H s (show j < got.length by omega) x (objC l got refs j) c' k' (objE l got refs s (T, p) j).1 (objE l got refs s (T, p) j).2
  have hl : TraceS.gone (oS cm (got.getD 0 0) s refs (got.getD j 0) j x2 ((objC l got refs j : Int) + costW (objW l got refs j)) 0 []) = oS cm (got.getD 0 0) s refs (got.getD j 0) j x2 ((objC l got refs j : Int) + costW (objW l got refs j)) 9 [] :=
    gone_end rfl (by
      show Shp.size ⟨false, none, 0, refs⟩ 0 ≤ (j : Int) + 1
      rw [← H.size]; omega)
  rw [hl] at e2
  refine ⟨_, k2, c2, (TrW.go_add _ _ _).trans ((congrArg (TrW.go (costW (objW l got refs j))) e).trans e2), rfl, rfl, ?_⟩
  show (objC l got refs j : Int) + costW (objW l got refs j) = ((objC l got refs j + costW (objW l got refs j) : Nat) : Int)
  omega
end
end Go.Proofs.Ythdijbkcjmeilaa
/-
  What the laws of spolaw16 share: an object's writes, a configuration's copy; tint.New, pile.New, shade.New where there is none.
-/
namespace Go.Proofs.Ythdijbkcjmeilaa
open Go Go.RowKit
set_option linter.unusedVariables false
set_option linter.unnecessarySimpa false
set_option linter.unusedSimpArgs false
theorem cx_inj {p : Nat × Nat} {a b : Nat} (h : some (cx p) = some (Value.complex .f64 a b)) : p = (a, b) := by
  obtain ⟨x, y⟩ := p
  injection h with h
  injection h with _ h1 h2
  simp only at h1 h2
  rw [h1, h2]
theorem same_check {c d : Cnf} (h : c.Same d) : c.check = d.check := by
  have hl : c.shapes.length = d.shapes.length := by have := congrArg List.length h.shapes; simpa using this
  have e : ∀ l : List Shp, badIn l = (l.map Shp.data).any fun p => !decide (p.2.length ≤ 40 ∧ (p.1 = true → p.2.length = 1)) := fun l => by
    unfold badIn
    rw [List.any_map]
    rfl
  have hb : badIn c.shapes = badIn d.shapes := by rw [e, e, h.shapes]
  obtain ⟨h1, h2, h3, h4, h5, h6, h7, h8, _⟩ := h
  unfold Cnf.check Cnf.rangedTo Cnf.ranges
  rw [h1, h2, h3, h4, h5, h6, h7, h8, hl, hb]
theorem Cnf.Same.shapeAt {c d : Cnf} (h : c.Same d) (k : Int) : c.shapeAt k = d.shapeAt k := by
  unfold Cnf.shapeAt
  split
  · rfl
  · have e := congrArg (fun l => l[k.toNat]?) h.shapes
    simp only [List.getElem?_map] at e
    exact e
theorem putFields_one (s : Shp) (vs : List Value) (n : Nat) : (putFields s 0 vs n)[1]? = vs[1]? := by
  induction n with
  | zero => rfl
  | succ n ih =>
    by_cases h : s.hasField n = true ∧ Shp.placeF n = 0
    · have h2 : Shp.placeW n = 2 + n := by
        have h3 := h.2
        unfold Shp.placeF at h3
        unfold Shp.placeW
        split at h3
        · rw [if_pos (by assumption)]
        · omega
      rw [putFields_yes h, List.getElem?_set_ne (by omega), ih]
    · rw [putFields_no h, ih]
theorem obj_head {s : Shp} {kind : Int} {got : List Int} (hg : 0 < got.length) (hk : 0 ≤ kind ∧ kind ≤ 1000000) : objV s kind got 1 = (floatOfInt .f64 kind, floatOfInt .f64 (if isSide got = true then 1 else 0)) := by
  have h := objV_row s kind got hg (k := 1) (by decide)
  rw [Nat.zero_mul, Nat.zero_add] at h
  refine cx_inj (h.symm.trans ?_)
  unfold objRow
  rw [show ((0 : Nat) : Int) = 0 from rfl, putFields_one]
  show some (wHead kind (if isSide got = true then 1 else 0)) = _
  unfold wHead
  rw [if_neg (by split <;> omega)]
theorem later_blk (w : World) (o : Obj) : ∀ w', Ext (w.alloc o) w' → w'.heap[w.heap.size]? = some o := fun w' he => (he.heap w.heap.size (by rw [World.size_alloc]; omega)).trans (World.row_alloc_new w)
theorem nothing_of {T : Nat → Prop} {g g' : GW} (h : Mod T g g') (hn : ∀ k, k < g.w.heap.size → ¬ T (g.own k)) : Mod (fun _ => False) g g' := ⟨h.os, h.tape, h.output, h.size, h.own, fun k hk _ => h.block k hk (hn k hk)⟩
theorem kind_in {c : Cnf} {kind : Int} (h : (c.shapeAt kind).isSome = true) (hm : c.check = 0) : 0 ≤ kind ∧ kind ≤ 1000000 := by
  unfold Cnf.shapeAt at h
  split at h
  · cases h
  · have h8 : kind.toNat < c.shapes.length := by simpa using h
    have h9 := (Cnf.check_zero hm).2.2.1
    unfold within at h9
    simp only [decide_eq_true_eq] at h9
    omega
/-- The link of a fragment. -/
theorem obj_link {s : Shp} {kind : Int} {got : List Int} {i : Nat} (hi : i + 1 < got.length) (hb : 0 ≤ got.getD (i + 1) 0 ∧ got.getD (i + 1) 0 ≤ 1000000) : objV s kind got (i * 8 + 0) = (floatOfInt .f64 (got.getD (i + 1) 0 + 1), 4607182418800017408) := by
  have h := objV_row s kind got (i := i) (k := 0) (by omega) (by decide)
  refine cx_inj (h.symm.trans ?_)
  rw [objRow_link, if_pos hi]
  unfold wRef
  rw [if_neg (by omega)]
/-- What the plan laid down, behind all writes. -/
structure FarLaid (c : Cnf) (kind : Int) (got : List Int) (refs : List Bool) (w : World) (A : Option Addr) (m : Nat) (xs : List Value) (V : Nat → Nat × Nat) (words : Int) : Prop where
  one : 1 ≤ got.length
  check : c.check = 0
  gotb : ∀ i, i < got.length → 0 ≤ got.getD i 0 ∧ got.getD i 0 < c.frags
  n : m = 8 * got.length
  cells : CellsAt w A xs
  wr : Wr xs m (onceAt got (-1)) V
  once : Once got (-1) words m (onceAt got (-1))
  inb : ∀ i, i < m → inB (onceAt got (-1) i) (cWords c).toNat = true
  head : V 1 = (floatOfInt .f64 kind, floatOfInt .f64 (if isSide got = true then 1 else 0))
  link : ∀ i, i + 1 < got.length → V (i * 8 + 0) = (floatOfInt .f64 (got.getD (i + 1) 0 + 1), 4607182418800017408)
  fld : ∀ k, k < refs.length → ∀ A cap, Shp.hasField ⟨false, A, cap, refs⟩ (k : Nat) = true
  len : ∀ k : Nat, k < refs.length → Shp.placeF k < got.length
  refs40 : refs.length ≤ 40
theorem far_laid {c : Cnf} {kind : Int} {got : List Int} {s : Shp} {w : World} {A : Option Addr} {m cap base : Nat} {is : Bool} (hz : wrongE c is s 0 false got = 0) (hk : 0 ≤ kind ∧ kind ≤ 1000000)
    (hown : w.ownsRow base 48 2 (.slice A m cap) m (if wrongE c is s 0 false got = 0 then objWrites s kind got (isSide got) got.length else [])) : ∃ xs V words, FarLaid c kind got s.refs w A m xs V words := by
  rw [if_pos hz] at hown
  have hn := hown.1
  rw [objWrites_length] at hn
  obtain rfl : m = 8 * got.length := by omega
  obtain ⟨fc, fa, -, farr, fl, fs, -⟩ := wrongE_fine hz
  have hg1 : 1 ≤ got.length := by omega
  obtain ⟨o1, o2⟩ := once_object (kind := kind) (at_ := -1) (n := 0) hz
  have hgb := got_bd hz
  have hfr := (Cnf.ranged (Cnf.check_zero fc).1).1.2
  obtain ⟨arr, As, caps, refs⟩ := s
  simp only at farr
  subst farr
  have hmay : ∀ A cap, Shp.may ⟨false, A, cap, refs⟩ = true := by
    intro A cap
    cases hm : Shp.may ⟨false, As, caps, refs⟩
    · unfold Shp.size at fs; rw [if_pos (Or.inl hm)] at fs; omega
    · exact hm
  have hsz : Shp.size ⟨false, As, caps, refs⟩ 0 = if (refs.length : Int) ≤ 6 then 1 else 1 + (refs.length : Int) / 7 := by
    unfold Shp.size
    rw [if_neg (by rw [hmay]; simp), if_neg (by simp)]
    rfl
  rw [hsz] at fl
  refine ⟨_, objV ⟨false, As, caps, refs⟩ kind got, _, hg1, fc, hgb, rfl, cellsAt_of_own hown, wr_object hz, o1, once_in_obj hz, obj_head (by omega) hk, fun i hi => obj_link hi (by have := hgb (i + 1) hi; omega), fun k h A cap => ?_, fun k h => ?_, ?_⟩
  · unfold Shp.hasField Shp.len
    rw [hmay]
    simpa using h
  · simp only at h
    unfold Shp.placeF
    split <;> split at fl <;> omega
  · have := hmay none 0
    unfold Shp.may at this
    simp only [decide_eq_true_eq] at this
    exact this.1
theorem ext_of_ne {w w' : World} {own : Nat → Nat} (h : Mod (fun x => x ≠ 0) ⟨fun _ => 0, w⟩ ⟨own, w'⟩) : Ext w w' := (nothing_of h (fun k _ => by simp)).toExt
theorem tab_new_no (n : Int) (h : n < 0 ∨ 1024 < n) (w : World) : Calls Try.prog 63 #[.int .i64 n] w (fun e w' => e = .returned (.tuple #[.pointer none, .int .i64 1]) ∧ w = w') := by
  by_cases h0 : n < 0
  · clear h
    go_enter Try.func63, Try.ntmps63
    go_wp2_with fail
    go_ret2
    exact ⟨rfl, rfl⟩
  · have h1 : 1024 < n := by omega
    clear h
    go_enter Try.func63, Try.ntmps63
    go_wp2_with fail
    go_ret2
    exact ⟨rfl, rfl⟩
/-- Made, or not: an object of the owners t, tt, tp. -/
def ShdMade (n most : Int) (t tt tp : Nat) (g : GW) (e : Ending) (w' : World) : Prop :=
  if (0 ≤ n ∧ n ≤ 1024) ∧ 1 ≤ most ∧ most ≤ 256 then ∃ own' b bt bp, e = .returned (.tuple #[.pointer (some ⟨b, 0, none⟩), .int .i64 0]) ∧ Mod (fun _ => False) g ⟨own', w'⟩ ∧ ShdAt ⟨own', w'⟩ t b bt tt bp tp (TabS.fresh n.toNat) ⟨[], most, false⟩ 0
  else e = .returned (.tuple #[.pointer none, .int .i64 1]) ∧ Ext g.w w'
theorem shd_new (n most : Int) (t tt tp : Nat) (g : GW) : Calls Try.prog 17 #[.int .i64 n, .int .i64 most] g.w (ShdMade n most t tt tp g) := by
  by_cases hn : 0 ≤ n ∧ n ≤ 1024
  · obtain ⟨q, rfl⟩ := Int.eq_ofNat_of_zero_le hn.1
    have HT := Lib.hid (tab_new q tt g (by omega))
    have HP := Lib.hid (fun g' => pile_new most tp g')
    by_cases hm : 1 ≤ most ∧ most ≤ 256
    · have HG := Lib.hid (show ((0 : Int) ≤ q ∧ (q : Int) ≤ 1024) ∧ 1 ≤ most ∧ most ≤ 256 from ⟨hn, hm⟩)
      have HM := Lib.hid hm
      clear hn hm
      go_enter Try.func17, Try.ntmps17
      go_wp2_with fail
      refine HT.out.mono ?_
      rintro e w1 ⟨own1, bt, rfl, m1, t1⟩
      have M1 := Lib.hid m1
      have T1 := Lib.hid t1
      clear m1 t1 HT
      go_wp2_with fail
      refine (HP.out ⟨own1, w1⟩).mono ?_
      rintro e w2 hh
      unfold PileMade at hh
      rw [if_pos HM.out] at hh
      obtain ⟨bp, rfl, he, p2⟩ := hh
      have m2 := Mod.ext (T := fun _ => False) (g := ⟨own1, w1⟩) he tp
      have M2 := Lib.hid (M1.out.trans m2)
      have T2 := Lib.hid (T1.out.keep m2 id)
      have P2 := Lib.hid p2
      clear m2 p2 he HP
      go_wp2_with fail
      go_ret2
      unfold ShdMade
      rw [if_pos HG.out]
      have m3 := Mod.ext (T := fun _ => False) (g := (⟨own1, w1⟩ : GW).to tp w2) (show Ext w2 (w2.alloc (.cells #[.pointer (some ⟨bt, 0, none⟩), .pointer (some ⟨bp, 0, none⟩), .int .i64 0] 64)) by (repeat (first | (with_reducible assumption) | (with_reducible exact Ext.refl _) | (with_reducible exact Ext.more _ _ _ _) | apply Ext.alloc | refine Ext.setCell ?_ (by first | exact Nat.le_refl _ | exact Nat.le_add_right _ _ | assumption) _ | apply Ext.patch | apply Ext.drew | apply Ext.drewN))) t
      exact ⟨_, _, _, _, rfl, M2.out.trans m3, Blk.made (World.row_alloc_new _) (Nat.le_refl _), by rw [Int.toNat_natCast]; exact T2.out.keep m3 id, P2.out.keep m3 id⟩
    · have HG := Lib.hid (show ¬ (((0 : Int) ≤ q ∧ (q : Int) ≤ 1024) ∧ 1 ≤ most ∧ most ≤ 256) from fun h => hm h.2)
      have HM := Lib.hid hm
      clear hn hm
      go_enter Try.func17, Try.ntmps17
      go_wp2_with fail
      refine HT.out.mono ?_
      rintro e w1 ⟨own1, bt, rfl, m1, t1⟩
      have M1 := Lib.hid m1
      clear m1 t1 HT
      go_wp2_with fail
      refine (HP.out ⟨own1, w1⟩).mono ?_
      rintro e w2 hh
      unfold PileMade at hh
      rw [if_neg HM.out] at hh
      obtain ⟨rfl, he⟩ := hh
      have HE := Lib.hid (M1.out.toExt.trans he)
      clear he HP
      go_wp2_with fail
      go_ret2
      unfold ShdMade
      rw [if_neg HG.out]
      exact ⟨rfl, HE.out⟩
  · have HG := Lib.hid (show ¬ ((0 ≤ n ∧ n ≤ 1024) ∧ 1 ≤ most ∧ most ≤ 256) from fun h => hn h.1)
    have HT := Lib.hid (tab_new_no n (by omega) g.w)
    clear hn
    go_enter Try.func17, Try.ntmps17
    go_wp2_with fail
    refine HT.out.mono ?_
    rintro e w1 ⟨rfl, rfl⟩
    go_wp2_with fail
    go_ret2
    unfold ShdMade
    rw [if_neg HG.out]
    exact ⟨rfl, Ext.refl _⟩
end Go.Proofs.Ythdijbkcjmeilaa
/-
  spolaw16.first.
-/
namespace Go.Proofs.Ythdijbkcjmeilaa
open Go Go.RowKit
set_option linter.unusedVariables false
set_option linter.unnecessarySimpa false
set_option linter.unusedSimpArgs false
/-- What stands behind the writes of a new object, wherever its fields are still as they were. -/
theorem objIn_of {c cm : Cnf} {kind : Int} {got : List Int} {refs : List Bool} {w : World} {A : Option Addr} {n : Nat} {xs : List Value} {V : Nat → Nat × Nat} {words : Int} (H : FarLaid c kind got refs w A n xs V words) (hs : cm.Same c) (hat : c.shapeAt kind = some (false, refs)) (hk : 0 ≤ kind ∧ kind ≤ 1000000) (hsz : (got.length : Int) = Shp.size ⟨false, none, 0, refs⟩ 0)
    {m : MemS} (hlen : m.l.length = (cWords c).toNat) (hhead : m.peek (got.getD 0 0 * 8 + 1) = V 1) (hlink : ∀ i, i + 1 < got.length → m.peek (got.getD i 0 * 8 + 0) = V (i * 8 + 0)) (hfld : ∀ k : Nat, k < refs.length → refs.getD k false = true → wIs (m.peek (got.getD (Shp.placeF k).toNat 0 * 8 + Shp.placeW k)) = true) : ObjIn cm m.l got kind (if isSide got = true then 1 else 0) refs := by
  have hw : c.frags * 8 ≤ cWords c := by
    obtain ⟨⟨_, _⟩, ⟨_, _⟩, ⟨_, _⟩, _⟩ := Cnf.ranged (Cnf.check_zero H.check).1
    unfold cWords
    rw [if_pos H.check]
    omega
  exact ⟨H.one, (same_check hs).trans H.check, fun i hi => by rw [hs.frags]; exact H.gotb i hi, (Cnf.Same.shapeAt hs kind).trans hat, hk, by split <;> decide, hsz, fun a h0 h1 => by
    rw [hs.frags] at h1
    unfold inB
    apply decide_eq_true
    rw [hlen]
    omega, hhead.trans H.head, fun i hi => (hlink i hi).trans (H.link i hi), hfld⟩
def c16 (A : Nat) : Cnf := ⟨4, 0, 0, 1, 1, 0, 1, 0, some ⟨A, 0, none⟩, 1, [⟨false, none, 0, []⟩]⟩
theorem apart16 : TrApart 320 300 330 331 332 := ⟨by decide⟩
set_option maxRecDepth 100000 in
set_option maxHeartbeats 4000000 in
theorem first16_any (w : World) : Calls Try.prog 14 #[] w (Gives (.bool true) w) := by
  go_enter Try.func14, Try.ntmps14
  go_wp2_with fail
  have HOK := Lib.hid (show (c16 w.heap.size).Ok (((w.alloc (.cells #[.bool false, .slice none 0 0] 37)).alloc (.cells #[.int .i64 4, .int .i64 0, .int .i64 0, .int .i64 1, .int .i64 1, .int .i64 0, .int .i64 1, .int .i64 0, .slice (some ⟨w.heap.size, 0, none⟩) 1 1] 24)).alloc (.cells #[.int .i64 2] 3)) from by
    refine ⟨((cellsAt_new _ _ _ _ rfl).alloc _).alloc _, fun s hs => ?_, by simp [c16], by simp [c16]⟩
    simp only [c16, List.mem_cons, List.not_mem_nil, or_false] at hs
    subst hs
    exact ⟨CellsAt.nil _ _, by decide, by decide⟩)
  have hz2 : ((w.alloc (.cells #[.bool false, .slice none 0 0] 37)).alloc (.cells #[.int .i64 4, .int .i64 0, .int .i64 0, .int .i64 1, .int .i64 1, .int .i64 0, .int .i64 1, .int .i64 0, .slice (some ⟨w.heap.size, 0, none⟩) 1 1] 24)).heap.size = w.heap.size + 2 := by simp [World.size_alloc]
  have HGT := Lib.hid (show CellsAt (((w.alloc (.cells #[.bool false, .slice none 0 0] 37)).alloc (.cells #[.int .i64 4, .int .i64 0, .int .i64 0, .int .i64 1, .int .i64 1, .int .i64 0, .int .i64 1, .int .i64 0, .slice (some ⟨w.heap.size, 0, none⟩) 1 1] 24)).alloc (.cells #[.int .i64 2] 3)) (some ⟨w.heap.size + 2, 0, none⟩) ([2].map (Value.int .i64)) from cellsAt_new _ _ _ _ hz2.symm)
  have HBK := Lib.hid (show Blk ⟨fun _ => 0, (((w.alloc (.cells #[.bool false, .slice none 0 0] 37)).alloc (.cells #[.int .i64 4, .int .i64 0, .int .i64 0, .int .i64 1, .int .i64 1, .int .i64 0, .int .i64 1, .int .i64 0, .slice (some ⟨w.heap.size, 0, none⟩) 1 1] 24)).alloc (.cells #[.int .i64 2] 3))⟩ 0 (w.heap.size + 1) 24 [.int .i64 4, .int .i64 0, .int .i64 0, .int .i64 1, .int .i64 1, .int .i64 0, .int .i64 1, .int .i64 0, .slice (some ⟨w.heap.size, 0, none⟩) 1 1] from ⟨by
    rw [World.row_alloc_past _ (by rw [hz2]; omega), show w.heap.size + 1 = (w.alloc (.cells #[.bool false, .slice none 0 0] 37)).heap.size from by rw [World.size_alloc]]
    exact World.row_alloc_new _, rfl⟩)
  have HE0 := Lib.hid (show Ext w (((w.alloc (.cells #[.bool false, .slice none 0 0] 37)).alloc (.cells #[.int .i64 4, .int .i64 0, .int .i64 0, .int .i64 1, .int .i64 1, .int .i64 0, .int .i64 1, .int .i64 0, .slice (some ⟨w.heap.size, 0, none⟩) 1 1] 24)).alloc (.cells #[.int .i64 2] 3)) by (repeat (first | (with_reducible assumption) | (with_reducible exact Ext.refl _) | (with_reducible exact Ext.more _ _ _ _) | apply Ext.alloc | refine Ext.setCell ?_ (by first | exact Nat.le_refl _ | exact Nat.le_add_right _ _ | assumption) _ | apply Ext.patch | apply Ext.drew | apply Ext.drewN)))
  generalize hw0 : (((w.alloc (.cells #[.bool false, .slice none 0 0] 37)).alloc (.cells #[.int .i64 4, .int .i64 0, .int .i64 0, .int .i64 1, .int .i64 1, .int .i64 0, .int .i64 1, .int .i64 0, .slice (some ⟨w.heap.size, 0, none⟩) 1 1] 24)).alloc (.cells #[.int .i64 2] 3)) = w0 at *
  clear hw0 hz2
  have HCK := Lib.hid (show (c16 w.heap.size).check = 0 from rfl)
  have HAR := Lib.hid (object_any (c16 w.heap.size) 0 (some ⟨w.heap.size + 2, 0, none⟩) 1 [2] w0 HOK.out HGT.out (by decide) (by decide))
  unfold Cnf.val c16 at HAR
  refine HAR.out.mono ?_
  rintro e w1 ⟨s', l, n, rfl, hs, hown, hE⟩
  have hsh : Cnf.shapeAt (c16 w.heap.size) 0 = some (false, []) := rfl
  have HSH := Lib.hid hsh
  have hev : wrongE (c16 w.heap.size) ((c16 w.heap.size).shapeAt 0).isSome s' 0 false [2] = 0 := by
    obtain ⟨arr, A', cap', refs⟩ := s'
    rw [show (Cnf.mk 4 0 0 1 1 0 1 0 (some ⟨w.heap.size, 0, none⟩) 1 [⟨false, none, 0, []⟩]).shapeAt 0 = some (false, []) from rfl] at hs
    simp only [Option.getD_some, Prod.mk.injEq] at hs
    obtain ⟨rfl, rfl⟩ := hs
    rfl
  have hr5 : s'.refs = [] := by
    rw [show (Cnf.mk 4 0 0 1 1 0 1 0 (some ⟨w.heap.size, 0, none⟩) 1 [⟨false, none, 0, []⟩]).shapeAt 0 = some (false, []) from rfl] at hs
    exact congrArg Prod.snd hs
  obtain ⟨Al, cl, rfl⟩ := own_form hown
  obtain ⟨xs, V, words, hLD⟩ := far_laid hev (by decide) hown
  rw [hr5] at hLD
  have HLD := Lib.hid hLD
  have hn8 := hLD.n
  obtain rfl : n = 8 := by simpa using hn8
  have HEV := Lib.hid hev
  unfold c16 at hev
  rw [hev]
  have HC := Lib.hid (show Seg ⟨fun _ => 0, w1⟩ 0 Al xs from ⟨HLD.out.cells, fun _ _ _ => rfl⟩)
  have HE1 := Lib.hid (HE0.out.trans hE)
  have m01 : Mod (fun _ => False) ⟨fun _ => 0, w0⟩ ⟨fun _ => 0, w1⟩ := by
    obtain ⟨q1, q2, q3, q4, q5⟩ := hE.below
    exact ⟨q1, q2, q3, q4, fun _ _ => rfl, fun k hk _ => q5 k hk⟩
  have HB := Lib.hid (HBK.out.keep m01 id)
  have HCO := Lib.hid (HOK.out.ext hE)
  clear hown hE hev hr5 hs hsh HAR HE0 HBK HGT HOK hLD hn8 m01
  have g0 := HB.out.cell (i := 0) rfl
  have g1 := HB.out.cell (i := 1) rfl
  have g2 := HB.out.cell (i := 2) rfl
  have g3 := HB.out.cell (i := 3) rfl
  have g4 := HB.out.cell (i := 4) rfl
  have g5 := HB.out.cell (i := 5) rfl
  have g6 := HB.out.cell (i := 6) rfl
  have g7 := HB.out.cell (i := 7) rfl
  have g8 := HB.out.cell (i := 8) rfl
  have gl := HB.out.lt
  simp only [GW.to, GW.pt] at g0 g1 g2 g3 g4 g5 g6 g7 g8 gl
  go_wp2_with fail
  have HFL := Lib.hid (fill_nil (c16 w.heap.size) 300 ⟨fun _ => 0, w1⟩ HCO.out)
  unfold Cnf.val c16 at HFL
  refine HFL.out.mono ?_
  rintro e w2 ⟨own2, bm, rfl, m2, r2⟩
  have M2 := Lib.hid m2
  have R2 := Lib.hid (show MemAt ⟨own2, w2⟩ 300 bm (memPut ⟨List.replicate (cWords (c16 w.heap.size)).toNat (0, 0), 0⟩ (onceAt [2] (-1)) V 0) from r2)
  clear m2 r2 HFL g0 g1 g2 g3 g4 g5 g6 g7 g8 gl
  go_wp2_with fail
  refine (shd_new 4 1 330 331 332 ⟨own2, w2⟩).mono ?_
  rintro e w3 hh
  unfold ShdMade at hh
  rw [if_pos (by decide)] at hh
  obtain ⟨own3, bs, bt, bp, rfl, m3, s3⟩ := hh
  have M3 := Lib.hid (M2.out.trans m3)
  have R3 := Lib.hid (R2.out.keep m3 id)
  have S3 := Lib.hid s3
  have HC3 := Lib.hid (HC.out.keep M3.out id)
  have HB3 := Lib.hid (HB.out.keep M3.out id)
  clear m3 s3 M2 R2 HC HB
  have HWR := Lib.hid HLD.out.wr
  have HPK := Lib.hid (fun i k (hi : i < [2].length) (hk : k < 8) => put_frag (V := V) HLD.out.once (by decide) HLD.out.inb (i := i) (k := k) hi hk)
  have HLN := Lib.hid (fun k => (memPut_len ⟨List.replicate (cWords (c16 w.heap.size)).toNat (0, 0), 0⟩ (onceAt [2] (-1)) V k).trans (show (List.replicate (cWords (c16 w.heap.size)).toNat ((0, 0) : Nat × Nat)).length = (cWords (c16 w.heap.size)).toNat by simp))
  have HCT := Lib.hid (fun k => memPut_count ⟨List.replicate (cWords (c16 w.heap.size)).toNat (0, 0), 0⟩ (onceAt [2] (-1)) V k)
  simp only at HCT
  generalize hMP : memPut ⟨List.replicate (cWords (c16 w.heap.size)).toNat (0, 0), 0⟩ (onceAt [2] (-1)) V = MP at *
  have HMP := Lib.hid (fun k => show MP (k + 1) = (MP k).tick.lay (onceAt [2] (-1) k) (V k) by rw [← hMP]; rfl)
  clear hMP
  go_wp2_with fail
  go_loopw [7] (fun i wr => ∃ (k : Nat) (own : Nat → Nat), k ≤ 8 ∧ i = .int .i64 k ∧ Hid (Mod (fun x => x = 300) ⟨own3, w3⟩ ⟨own, wr⟩) ∧ Hid (MemAt ⟨own, wr⟩ 300 bm (MP k))) (fun i _ => 8 - (intOf i).toNat)
  case atStart => exact ⟨0, own3, Nat.zero_le _, rfl, Lib.hid (Mod.refl _ _), R3⟩
  case round =>
    obtain ⟨k, own4, hk, rfl, M4, R4⟩ := hrel
    obtain ⟨w4, rfl⟩ : ∃ w4 : World, w4 = wr := ⟨_, rfl⟩
    by_cases hlt : k < 8
    · obtain ⟨bl, ol, hA, hbl, hcl⟩ := (HC3.out.keep M4.out (by decide)).cells.cases (by rw [HWR.out.len]; decide)
      have l0 := hcl _ _ (HWR.out.at_ k hlt)
      have l1 := hcl _ _ (HWR.out.w k hlt)
      rw [← Nat.add_assoc] at l1
      have HK1 := Lib.hid (HMP.out k)
      have hcb := HCT.out k
      have HC4 := Lib.hid (show 0 ≤ (MP k).count ∧ (MP k).count ≤ 1099511627776 by rw [hcb]; omega)
      have HW := Lib.hid (fun X => mem_write (GW.pt ⟨own4, w4⟩ X) 300 bm (onceAt [2] (-1) k) (V k).1 (V k).2 (MP k) (R4.out.pt X) HC4.out)
      subst hA
      simp only at hbl l0 l1
      generalize V k = pq at *
      obtain ⟨p, q⟩ := pq
      generalize onceAt [2] (-1) k = a at *
      clear hcl hcb
      go_wp2_with fail
      refine wp_region_mixed [true, true, true, true, true, true, true, true, true, true, true, false] 1 11 (by kernel_rfl) (by kernel_rfl) (by kernel_rfl) ?_ (by decide) (by decide) (by decide) (by kernel_rfl) ?_
      · intro c a d v w h; cases d <;> exact h
      intro X00
      simp only [pickOps]
      repeat (go_big_quiet_step (fail))
      refine wpQuiet_nil (fun X0 => ?_)
      clear X00
      refine wpAnyM_tailL rfl (by kernel_rfl) (fun X2 => ?_)
      simp only [List.drop_succ_cons, List.drop_zero]
      go_wp2_with fail
      refine (HW.out _).mono ?_
      rintro e w5 ⟨rfl, own5, m5, r5⟩
      have M5 := Lib.hid m5
      have R5 := Lib.hid r5
      clear m5 r5
      go_wp2_with fail
      go_roundw
      case rel => exact ⟨k + 1, own5, by omega, by go_num, Lib.hid ((M4.out.trans (Mod.pt (Mod.refl _ _) _)).trans M5.out), Lib.hid (by rw [HK1.out]; exact R5.out)⟩
      case measure => simp [intOf]; omega
    · obtain rfl : k = 8 := by omega
      have HB4 := Lib.hid (HB3.out.keep M4.out (by decide))
      have S4 := Lib.hid (S3.out.keep M4.out (by decide) (by decide) (by decide))
      have M34 := Lib.hid ((M3.out.mono (S := fun x => x ≠ 0) (fun _ => False.elim)).trans (M4.out.mono (fun x hx => by omega)))
      have HE4 := Lib.hid (ext_of_ne M34.out)
      have hcb := HCT.out 8
      have HCB := Lib.hid (show 0 ≤ (MP 8).count ∧ (MP 8).count ≤ 1099511627776 by rw [hcb]; omega)
      have HO := Lib.hid (fun (cm : Cnf) (hs : cm.Same (c16 w.heap.size)) => objIn_of HLD.out hs HSH.out (by decide) (by decide) (m := MP 8) (HLN.out 8) (HPK.out 0 1 (by decide) (by decide)) (fun i hi => HPK.out i 0 (by omega) (by decide)) (fun k hk => by simp at hk))
      have HTN := Lib.hid (trace_new (c16 w.heap.size) 2 true 320 ⟨own4, w4⟩ (HCO.out.ext HE4.out) (by simp [c16]))
      unfold Cnf.val c16 at HTN
      have g0 := HB4.out.cell (i := 0) rfl
      have g1 := HB4.out.cell (i := 1) rfl
      have g2 := HB4.out.cell (i := 2) rfl
      have g3 := HB4.out.cell (i := 3) rfl
      have g4 := HB4.out.cell (i := 4) rfl
      have g5 := HB4.out.cell (i := 5) rfl
      have g6 := HB4.out.cell (i := 6) rfl
      have g7 := HB4.out.cell (i := 7) rfl
      have g8 := HB4.out.cell (i := 8) rfl
      have gl := HB4.out.lt
      simp only [GW.to, GW.pt] at g0 g1 g2 g3 g4 g5 g6 g7 g8 gl
      clear hcb HPK HLN HCT HMP HC3 HWR R3 S3 HB3
      go_wp2_with fail
      refine HTN.out.mono ?_
      rintro e w5 ⟨own5, b, cm, rfl, m5, t5, hs5⟩
      have HRUN := Lib.hid (run_object (HO.out cm hs5) true (MP 8).count 0 (TabS.fresh 4) ⟨[], 1, false⟩)
      have A5 := Lib.hid (show TrAt ⟨own5, w5⟩ 320 300 330 331 332 b bm bs bt bp ⟨TraceS.fresh cm 2 true, MP 8, TabS.fresh 4, ⟨[], 1, false⟩, 0⟩ from ⟨t5, R4.out.keep m5 id, S4.out.keep m5 id id id⟩)
      have M5 := Lib.hid (M34.out.trans (m5.mono (S := fun x => x ≠ 0) (fun _ => False.elim)))
      have HST := Lib.hid (trace_step ⟨own5, w5⟩ apart16 ⟨TraceS.fresh cm 2 true, MP 8, TabS.fresh 4, ⟨[], 1, false⟩, 0⟩ A5.out (TraceS.fresh_ok _ _ _) (by show (0 : Int) ≤ 0 ∧ (0 : Int) ≤ 1099511627776; decide) HCB.out (by show (0 : Int) ≤ 0 ∧ (0 : Int) ≤ 1099511627776; decide))
      obtain ⟨S, k', c', hr, h1, h2, h3⟩ := HRUN.out
      have hone : objN (MP 8).l [2] [] = 1 := rfl
      rw [hone] at hr h3
      have hstep : TrW.step ⟨TraceS.fresh cm 2 true, MP 8, TabS.fresh 4, ⟨[], 1, false⟩, 0⟩ = ⟨S, ⟨(MP 8).l, c'⟩, (objF (MP 8).l [2] [] true (TabS.fresh 4, ⟨[], 1, false⟩)).1, (objF (MP 8).l [2] [] true (TabS.fresh 4, ⟨[], 1, false⟩)).2, k'⟩ := hr
      rw [hstep] at HST
      generalize (objF (MP 8).l [2] [] true (TabS.fresh 4, ⟨[], 1, false⟩)).1 = T' at *
      generalize (objF (MP 8).l [2] [] true (TabS.fresh 4, ⟨[], 1, false⟩)).2 = p' at *
      have H123 := Lib.hid (And.intro h1 (And.intro h2 h3))
      simp only [h1] at HST
      clear hr h1 h2 h3 hone hstep HRUN m5 t5 hs5 HTN HO g0 g1 g2 g3 g4 g5 g6 g7 g8 gl
      go_wp2_with fail
      refine HST.out.mono ?_
      rintro e w6 ⟨rfl, own6, m6, a6⟩
      have M6 := Lib.hid (M5.out.trans (m6.mono (S := fun x => x ≠ 0) (fun x hx => by unfold trT at hx; omega)))
      have A6 := Lib.hid a6
      clear m6 a6
      rw [show ((9 : Int) == 9) = true from rfl]
      go_wp2_with fail
      refine (trace_done ⟨own6, w6⟩ 320 b S A6.out.tr).mono ?_
      rintro e w7 ⟨rfl, rfl⟩
      rw [H123.out.1, show ((9 : Int) == 9) = true from rfl]
      go_wp2_with fail
      refine (trace_errno ⟨own6, w6⟩ 320 b S A6.out.tr).mono ?_
      rintro e w7 ⟨rfl, rfl⟩
      rw [H123.out.2.1]
      go_wp2_with fail
      refine (trace_steps ⟨own6, w6⟩ 320 b S A6.out.tr).mono ?_
      rintro e w7 ⟨rfl, rfl⟩
      rw [H123.out.2.2]
      go_wp2_with fail
      go_ret
      exact Gives.bool rfl (HE1.out.trans (ext_of_ne M6.out))
end Go.Proofs.Ythdijbkcjmeilaa
/-
  TraceSteps: references written into an object's fields; how many steps. No walk here.
-/
namespace Go.Proofs.Ythdijbkcjmeilaa
open Go Go.RowKit
set_option linter.unusedVariables false
set_option linter.unusedSimpArgs false
/-! ### sums -/
def sumN (f : Nat → Nat) : Nat → Nat
  | 0 => 0
  | n + 1 => sumN f n + f n
theorem sumN_add (f g : Nat → Nat) (n : Nat) : sumN (fun j => f j + g j) n = sumN f n + sumN g n := by
  induction n with
  | zero => rfl
  | succ n ih => simp only [sumN, ih]; omega
theorem sumN_one (a c n : Nat) : sumN (fun j => if j = a then c else 0) n = if a < n then c else 0 := by
  induction n with
  | zero => rfl
  | succ n ih =>
    simp only [sumN, ih]
    by_cases h1 : a < n
    · rw [if_pos h1, if_neg (by omega), if_pos (by omega)]; rfl
    · by_cases h2 : n = a
      · rw [if_neg h1, if_pos h2, if_pos (by omega)]; omega
      · rw [if_neg h1, if_neg h2, if_neg (by omega)]
theorem sumN_congr {f g : Nat → Nat} {n : Nat} (h : ∀ j, j < n → f j = g j) : sumN f n = sumN g n := by
  induction n with
  | zero => rfl
  | succ n ih => simp only [sumN]; rw [ih (fun j hj => h j (by omega)), h n (by omega)]
/-! ### fields -/
/-- The address of a field. -/
def fAddr (got : List Int) (k : Nat) : Int := got.getD (Shp.placeF k).toNat 0 * 8 + Shp.placeW k
theorem place_inj {a b : Nat} (h1 : Shp.placeF a = Shp.placeF b) (h2 : Shp.placeW a = Shp.placeW b) : a = b := by
  unfold Shp.placeF at h1
  unfold Shp.placeW at h2
  by_cases ha : (a : Int) < 6 <;> by_cases hb : (b : Int) < 6
  · rw [if_pos ha, if_pos hb] at h1 h2; omega
  · rw [if_pos ha, if_neg hb] at h1; omega
  · rw [if_neg ha, if_pos hb] at h1; omega
  · rw [if_neg ha, if_neg hb] at h1 h2; omega
theorem placeF_nonneg (k : Nat) : 0 ≤ Shp.placeF k := by unfold Shp.placeF; split <;> omega
theorem placeW_in (k : Nat) : 1 ≤ Shp.placeW k ∧ Shp.placeW k ≤ 7 ∧ (Shp.placeF k = 0 → 2 ≤ Shp.placeW k) := by
  unfold Shp.placeW Shp.placeF
  split <;> omega
/-- All apart. -/
def Diff (got : List Int) : Prop := ∀ i j, i < got.length → j < got.length → got.getD i 0 = got.getD j 0 → i = j
section
variable {got : List Int} {refs giv : List Bool}
theorem fAddr_inj (hd : Diff got) {a b : Nat} (ha : Shp.placeF a < got.length) (hb : Shp.placeF b < got.length) (h : fAddr got a = fAddr got b) : a = b := by
  have h1 := placeW_in a
  have h2 := placeW_in b
  have h3 := placeF_nonneg a
  have h4 := placeF_nonneg b
  unfold fAddr at h
  have h5 := hd (Shp.placeF a).toNat (Shp.placeF b).toNat (by omega) (by omega) (by omega)
  refine place_inj (by omega) ?_
  rw [h5] at h
  omega
theorem fAddr_head (hd : Diff got) {a : Nat} (ha : Shp.placeF a < got.length) (h0 : 0 < got.length) : fAddr got a ≠ got.getD 0 0 * 8 + 1 := fun h => by
  have h1 := placeW_in a
  have h3 := placeF_nonneg a
  unfold fAddr at h
  have h5 := hd (Shp.placeF a).toNat 0 (by omega) h0 (by omega)
  have h6 := h1.2.2 (by omega)
  rw [h5] at h
  omega
theorem fAddr_link (hd : Diff got) {a i : Nat} (ha : Shp.placeF a < got.length) (hi : i < got.length) : fAddr got a ≠ got.getD i 0 * 8 + 0 := fun h => by
  have h1 := placeW_in a
  have h3 := placeF_nonneg a
  unfold fAddr at h
  have h5 := hd (Shp.placeF a).toNat i (by omega) hi (by omega)
  rw [h5] at h
  omega
/-- Behind the writes into the fields below k. -/
def fldPut (got : List Int) (refs giv : List Bool) (V : Nat → Nat × Nat) (m : MemS) : Nat → MemS
  | 0 => m
  | k + 1 => if refs.getD k false && giv.getD k false then (fldPut got refs giv V m k).tick.lay (fAddr got k) (V k) else fldPut got refs giv V m k
theorem fldPut_len (V : Nat → Nat × Nat) (m : MemS) (k : Nat) : (fldPut got refs giv V m k).l.length = m.l.length := by
  induction k with
  | zero => rfl
  | succ k ih =>
    rw [fldPut]
    split
    · rw [lay_len]; exact ih
    · exact ih
theorem fldPut_count (V : Nat → Nat × Nat) (m : MemS) (k : Nat) : m.count ≤ (fldPut got refs giv V m k).count ∧ (fldPut got refs giv V m k).count ≤ m.count + k := by
  induction k with
  | zero => exact ⟨Int.le_refl _, by show m.count ≤ m.count + 0; omega⟩
  | succ k ih =>
    rw [fldPut]
    split
    · rw [lay_count]
      show m.count ≤ (fldPut got refs giv V m k).count + 1 ∧ (fldPut got refs giv V m k).count + 1 ≤ m.count + (k + 1 : Nat)
      omega
    · omega
theorem fldPut_other (V : Nat → Nat × Nat) (m : MemS) (k : Nat) {a : Int} (h : ∀ j, j < k → fAddr got j ≠ a) : (fldPut got refs giv V m k).peek a = m.peek a := by
  induction k with
  | zero => rfl
  | succ k ih =>
    have := ih (fun j hj => h j (by omega))
    rw [fldPut]
    split
    · exact (peek_lay_other (h k (by omega))).trans this
    · exact this
theorem fldPut_field (hd : Diff got) (V : Nat → Nat × Nat) (m : MemS) {n k : Nat} (hf : ∀ j, j < n → Shp.placeF j < got.length) (hin : ∀ j, j < n → inB (fAddr got j) m.l.length = true) (hk : k < n) : (fldPut got refs giv V m n).peek (fAddr got k) = if refs.getD k false && giv.getD k false then V k else m.peek (fAddr got k) := by
  induction n with
  | zero => omega
  | succ n ih =>
    rw [fldPut]
    by_cases hkn : k = n
    · subst hkn
      have ho := fldPut_other (refs := refs) (giv := giv) V m k (a := fAddr got k) (fun j hj e => by have := fAddr_inj hd (hf j (by omega)) (hf k (by omega)) e; omega)
      split
      · exact peek_lay_self (by show inB (fAddr got k) (fldPut got refs giv V m k).l.length = true; rw [fldPut_len]; exact hin k (by omega))
      · exact ho
    · have h1 := ih (fun j hj => hf j (by omega)) (fun j hj => hin j (by omega)) (by omega)
      split
      · exact (peek_lay_other (fun e => by have := fAddr_inj hd (hf n (by omega)) (hf k (by omega)) e; omega)).trans h1
      · exact h1
/-- So many steps of the fields. -/
def wantN (refs giv : List Bool) : Nat → Nat
  | 0 => 0
  | k + 1 => wantN refs giv k + if refs.getD k false then (1 + if giv.getD k false then 1 else 0) else 0
theorem costW_append (a b : List (Nat × Nat)) : costW (a ++ b) = costW a + costW b := by unfold costW; rw [List.map_append, List.sum_append]
theorem wantN_le (k : Nat) : wantN refs giv k ≤ 2 * k := by
  induction k with
  | zero => exact Nat.le_refl _
  | succ k ih => rw [wantN]; (repeat' split) <;> omega
theorem objC_sum (l : List (Nat × Nat)) (j : Nat) : objC l got refs j = 1 + 2 * j + sumN (fun i => costW (objW l got refs i)) j := by
  induction j with
  | zero => rfl
  | succ j ih => rw [objC, ih]; simp only [sumN]; omega
theorem words_sum {l : List (Nat × Nat)} {len : Nat} (hf : ∀ k : Nat, k < refs.length → Shp.placeF k < len) (hv : ∀ k : Nat, k < refs.length → refs.getD k false = true → cost1 (MemS.peek ⟨l, 0⟩ (fAddr got k)) = 1 + if giv.getD k false then 1 else 0) :
    ∀ n : Nat, n ≤ refs.length → sumN (fun j => costW (wordsOf l (got.getD j 0) (fieldsL refs j n))) len = wantN refs giv n := by
  intro n
  induction n with
  | zero =>
    intro _
    have : ∀ q, sumN (fun j => costW (wordsOf l (got.getD j 0) (fieldsL refs j 0))) q = 0 := fun q => by
      induction q with
      | zero => rfl
      | succ q ih => simp only [sumN, ih]; rfl
    exact this _
  | succ n ih =>
    intro hn
    have h1 := ih (by omega)
    have hpf := hf n (by omega)
    have hp0 := placeF_nonneg n
    have e : ∀ j : Nat, costW (wordsOf l (got.getD j 0) (fieldsL refs j (n + 1))) = costW (wordsOf l (got.getD j 0) (fieldsL refs j n)) + (if j = (Shp.placeF n).toNat then (if refs.getD n false then (1 + if giv.getD n false then 1 else 0) else 0) else 0) := fun j => by
      rw [fieldsL]
      unfold wordsOf
      rw [List.map_append, costW_append]
      congr 1
      cases hr : refs.getD n false
      · simp [costW]
      · by_cases hj : Shp.placeF n = j
        · have hj' : j = (Shp.placeF n).toNat := by omega
          rw [decide_eq_true hj, Bool.and_true, if_pos rfl, if_pos hj', if_pos rfl]
          have h2 := hv n (by omega) hr
          unfold fAddr at h2
          rw [← hj'] at h2
          unfold costW
          simp only [List.map_cons, List.map_nil, List.sum_cons, List.sum_nil, Nat.add_zero]
          exact h2
        · rw [decide_eq_false hj, Bool.and_false, if_neg (by decide), if_neg (by omega)]
          rfl
    rw [sumN_congr (fun j _ => e j), sumN_add, h1, sumN_one, if_pos (by omega)]
    rfl
theorem obj_cost {l : List (Nat × Nat)} (h1 : 1 ≤ got.length) (hf : ∀ k : Nat, k < refs.length → Shp.placeF k < got.length) (hv : ∀ k : Nat, k < refs.length → refs.getD k false = true → cost1 (MemS.peek ⟨l, 0⟩ (fAddr got k)) = 1 + if giv.getD k false then 1 else 0) :
    objN l got refs = 1 + 2 * (got.length - 1) + wantN refs giv refs.length := by
  unfold objN
  rw [objC_sum]
  have h2 := words_sum (l := l) (len := got.length) hf hv refs.length (Nat.le_refl _)
  obtain ⟨j, hj⟩ : ∃ j, got.length = j + 1 := ⟨got.length - 1, by omega⟩
  rw [hj] at h2 ⊢
  rw [show j + 1 - 1 = j by omega]
  simp only [sumN] at h2
  rw [← h2]
  unfold objW
  omega
end
theorem cost_none : cost1 (0, 4607182418800017408) = 1 := by unfold cost1; rw [wIndex_none_word]; rfl
theorem cost_ref {i : Int} (h0 : 0 ≤ i) (h1 : i ≤ 1099511627776) : cost1 (floatOfInt .f64 (i + 1), 4607182418800017408) = 2 := by unfold cost1; rw [wIndex_ref h0 h1]; rfl
theorem is_none : wIs (0, 4607182418800017408) = true := by unfold wIs; simp
theorem is_ref {i : Int} (h0 : 0 ≤ i) (h1 : i ≤ 1099511627776) : wIs (floatOfInt .f64 (i + 1), 4607182418800017408) = true := by unfold wIs; rw [wIndex_ref h0 h1]; rfl
/-- A new object's field that is a reference: none. -/
theorem objV_none {s : Shp} {kind : Int} {got : List Int} {k : Nat} (hk : s.hasField k = true) (hf : Shp.placeF k < got.length) (hr : s.refs.getD k false = true) : objV s kind got ((Shp.placeF k).toNat * 8 + (Shp.placeW k).toNat) = (0, 4607182418800017408) := by
  have h0 := placeF_nonneg k
  have hw := placeW_in k
  have h1 := objV_row s kind got (i := (Shp.placeF k).toNat) (k := (Shp.placeW k).toNat) (by omega) (by omega)
  have h2 := objRow_field s kind got (isSide got) (i := (Shp.placeF k).toNat) hk (by omega)
  rw [h2] at h1
  rw [hr] at h1
  exact cx_inj h1.symm
/-- The runs of steps that a loop does: the state behind i steps. -/
theorem go_pc_end {w : TrW} {n : Nat} {i : Nat} (h9 : (TrW.go n w).s.pc = 9) (hs : (TrW.go n w).s.steps = w.s.steps + n) (hi : i ≤ n) : ((TrW.go i w).s.pc == 9) = decide (i = n) := by
  by_cases h : i = n
  · subst h; rw [h9, decide_eq_true rfl]; rfl
  · have := (TrW.go_all hs hi).2 (by omega)
    rw [decide_eq_false h]
    exact beq_eq_false_iff_ne.2 this
end Go.Proofs.Ythdijbkcjmeilaa
/-
  sporef1.Place of an object's field; sporef1.Ref.
-/
namespace Go.Proofs.Ythdijbkcjmeilaa
open Go Go.RowKit
set_option linter.unusedVariables false
set_option linter.unnecessarySimpa false
set_option linter.unusedSimpArgs false
set_option maxRecDepth 100000
set_option maxHeartbeats 1000000
theorem rplace_yes (A : Option Addr) (cap : Nat) (refs : List Bool) (k : Nat) (w : World) (hs : Shp.Ok w ⟨false, A, cap, refs⟩) (hm : Shp.may ⟨false, A, cap, refs⟩ = true) (hk : k < refs.length) : Calls Try.prog 19 #[.agg #[.bool false, .slice A refs.length cap], .int .i64 k] w (Gives (.tuple #[.int .i64 (Shp.placeF k), .int .i64 (Shp.placeW k), .bool true]) w) := by
  have HM := Lib.hid (fun w' (he : Ext w w') => show Calls Try.prog 66 #[.agg #[.bool false, .slice A refs.length cap]] w' (Gives (.bool true) w') from by
    have h1 := rmay_any ⟨false, A, cap, refs⟩ w' (hs.ext he)
    rw [hm] at h1
    exact h1)
  have hl : refs.length ≤ 40 := (of_decide_eq_true hm).1
  clear hs hm
  by_cases h6 : (k : Int) < 6
  · have HV := Lib.hid (And.intro (show Shp.placeF k = 0 by unfold Shp.placeF; rw [if_pos h6]) (show Shp.placeW k = 2 + k by unfold Shp.placeW; rw [if_pos h6]))
    rw [HV.out.1, HV.out.2]
    go_enter Try.func19, Try.ntmps19
    go_wp2_with fail
    refine (HM.out _ (by (repeat (first | (with_reducible assumption) | (with_reducible exact Ext.refl _) | (with_reducible exact Ext.more _ _ _ _) | apply Ext.alloc | refine Ext.setCell ?_ (by first | exact Nat.le_refl _ | exact Nat.le_add_right _ _ | assumption) _ | apply Ext.patch | apply Ext.drew | apply Ext.drewN)))).mono ?_
    rintro e w1 ⟨rfl, X1, rfl⟩
    go_wp2_with fail
    go_ret3
    exact Gives.mk rfl (by (repeat (first | (with_reducible assumption) | (with_reducible exact Ext.refl _) | (with_reducible exact Ext.more _ _ _ _) | apply Ext.alloc | refine Ext.setCell ?_ (by first | exact Nat.le_refl _ | exact Nat.le_add_right _ _ | assumption) _ | apply Ext.patch | apply Ext.drew | apply Ext.drewN)))
  · have HV := Lib.hid (And.intro (show Shp.placeF k = 1 + (k - 6) / 7 by unfold Shp.placeF; rw [if_neg h6]) (show Shp.placeW k = 1 + (k - 6) % 7 by unfold Shp.placeW; rw [if_neg h6]))
    rw [HV.out.1, HV.out.2]
    go_enter Try.func19, Try.ntmps19
    go_wp2_with fail
    refine (HM.out _ (by (repeat (first | (with_reducible assumption) | (with_reducible exact Ext.refl _) | (with_reducible exact Ext.more _ _ _ _) | apply Ext.alloc | refine Ext.setCell ?_ (by first | exact Nat.le_refl _ | exact Nat.le_add_right _ _ | assumption) _ | apply Ext.patch | apply Ext.drew | apply Ext.drewN)))).mono ?_
    rintro e w1 ⟨rfl, X1, rfl⟩
    go_wp2_with fail
    go_ret3
    exact Gives.mk rfl (by (repeat (first | (with_reducible assumption) | (with_reducible exact Ext.refl _) | (with_reducible exact Ext.more _ _ _ _) | apply Ext.alloc | refine Ext.setCell ?_ (by first | exact Nat.le_refl _ | exact Nat.le_add_right _ _ | assumption) _ | apply Ext.patch | apply Ext.drew | apply Ext.drewN)))
theorem rref_in (n : Int) (w : World) (h0 : 0 ≤ n) (h1 : n ≤ 1099511627776) : Calls Try.prog 20 #[.int .i64 n] w (Gives (.complex .f64 (floatOfInt .f64 (n + 1)) 4607182418800017408) w) := by
  go_enter Try.func20, Try.ntmps20
  go_wp2_with fail
  go_ret
  exact Gives.of_ext (by (repeat (first | (with_reducible assumption) | (with_reducible exact Ext.refl _) | (with_reducible exact Ext.more _ _ _ _) | apply Ext.alloc | refine Ext.setCell ?_ (by first | exact Nat.le_refl _ | exact Nat.le_add_right _ _ | assumption) _ | apply Ext.patch | apply Ext.drew | apply Ext.drewN)))
theorem far_laid2 {c : Cnf} {kind : Int} {got : List Int} {s : Shp} {w : World} {A : Option Addr} {m cap base : Nat} {is : Bool} (hz : wrongE c is s 0 false got = 0) (hk : 0 ≤ kind ∧ kind ≤ 1000000)
    (hown : w.ownsRow base 48 2 (.slice A m cap) m (if wrongE c is s 0 false got = 0 then objWrites s kind got (isSide got) got.length else [])) : ∃ xs V words, FarLaid c kind got s.refs w A m xs V words ∧ ∀ k : Nat, k < s.refs.length → s.refs.getD k false = true → V ((Shp.placeF k).toNat * 8 + (Shp.placeW k).toNat) = (0, 4607182418800017408) := by
  rw [if_pos hz] at hown
  have hn := hown.1
  rw [objWrites_length] at hn
  obtain rfl : m = 8 * got.length := by omega
  obtain ⟨fc, fa, -, farr, fl, fs, -⟩ := wrongE_fine hz
  have hg1 : 1 ≤ got.length := by omega
  obtain ⟨o1, o2⟩ := once_object (kind := kind) (at_ := -1) (n := 0) hz
  have hgb := got_bd hz
  have hfr := (Cnf.ranged (Cnf.check_zero fc).1).1.2
  obtain ⟨arr, As, caps, refs⟩ := s
  simp only at farr
  subst farr
  have hmay : ∀ A cap, Shp.may ⟨false, A, cap, refs⟩ = true := by
    intro A cap
    cases hm : Shp.may ⟨false, As, caps, refs⟩
    · unfold Shp.size at fs; rw [if_pos (Or.inl hm)] at fs; omega
    · exact hm
  have hsz : Shp.size ⟨false, As, caps, refs⟩ 0 = if (refs.length : Int) ≤ 6 then 1 else 1 + (refs.length : Int) / 7 := by
    unfold Shp.size
    rw [if_neg (by rw [hmay]; simp), if_neg (by simp)]
    rfl
  rw [hsz] at fl
  have hfld : ∀ k : Nat, k < refs.length → ∀ A cap, Shp.hasField ⟨false, A, cap, refs⟩ (k : Nat) = true := fun k h A cap => by
    unfold Shp.hasField Shp.len
    rw [hmay]
    simpa using h
  have hlen : ∀ k : Nat, k < refs.length → Shp.placeF k < got.length := fun k h => by
    unfold Shp.placeF
    split <;> split at fl <;> omega
  refine ⟨_, objV ⟨false, As, caps, refs⟩ kind got, _, ⟨hg1, fc, hgb, rfl, cellsAt_of_own hown, wr_object hz, o1, once_in_obj hz, obj_head (by omega) hk, fun i hi => obj_link hi (by have := hgb (i + 1) hi; omega), hfld, hlen, ?_⟩, fun k hk2 hr => objV_none (s := ⟨false, As, caps, refs⟩) (hfld k hk2 As caps) (hlen k hk2) hr⟩
  have := hmay none 0
  unfold Shp.may at this
  simp only [decide_eq_true_eq] at this
  exact this.1
theorem diff_of {c : Cnf} {kind : Int} {got : List Int} {refs : List Bool} {w : World} {A : Option Addr} {n : Nat} {xs : List Value} {V : Nat → Nat × Nat} {words : Int} (H : FarLaid c kind got refs w A n xs V words) : Diff got := by
  have key : ∀ i j, i < j → j < got.length → got.getD i 0 ≠ got.getD j 0 := fun i j hij hj e => by
    have h1 := H.once.diff (j * 8) (by have := H.n; omega) (i * 8) (by omega)
    unfold onceAt at h1
    rw [if_pos (by omega), if_pos (by omega), show i * 8 / 8 = i by omega, show j * 8 / 8 = j by omega, e, show i * 8 % 8 = 0 by omega, show j * 8 % 8 = 0 by omega] at h1
    exact h1 rfl
  intro i j hi hj e
  rcases Nat.lt_trichotomy i j with h | h | h
  · exact absurd e (key i j h hj)
  · exact h
  · exact absurd e.symm (key j i h hi)
end Go.Proofs.Ythdijbkcjmeilaa
