/-
  Merged: XTAllP, XTAll.
-/
import Derived.Test.YthdijbkcjmeilaaTraceO
import Derived.Test.YthdijbkcjmeilaaShade
/-
  Merged: XTAllP, XTAllQ, XTAllR, XTAllS, XTAllT.
-/
/-
  TraceAll: an array that stands in memory is gone through: plain data. No walk here.
-/
namespace Go.Proofs.Ythdijbkcjmeilaa
open Go Go.RowKit
set_option linter.unusedVariables false
set_option linter.unusedSimpArgs false
set_option maxRecDepth 100000
section
variable {S : TraceS} {l : List (Nat × Nat)} {c k : Int} {T : TabS} {p : PileS}
theorem step_length {n : Int} (hpc : S.pc = 5) (hok : S.okAt S.head 2 = true) (hin : inB (S.head * 8 + 2) l.length = true) (hv : wInt (MemS.peek ⟨l, 0⟩ (S.head * 8 + 2)) = some n) (hb : 0 ≤ n ∧ n ≤ 512) :
    TrW.step ⟨S, ⟨l, c⟩, T, p, k⟩ = ⟨{ S with n := n, pc := if n = 0 then 9 else 6, steps := S.steps + 1 }, ⟨l, c + 1⟩, T, p, k⟩ := by
  refine step_does (by show S.pc ≠ 9; omega) ?_
  have hd : TrW.does (TrW.ticked ⟨S, ⟨l, c⟩, T, p, k⟩) = TrW.length (TrW.ticked ⟨S, ⟨l, c⟩, T, p, k⟩) := by unfold TrW.does TrW.ticked; simp only [hpc]; rfl
  have hr : TraceS.rd { S with steps := S.steps + 1 } ⟨l, c⟩ S.head 2 = some (MemS.peek ⟨l, 0⟩ (S.head * 8 + 2)) := rd_yes (S := { S with steps := S.steps + 1 }) (m := ⟨l, c⟩) hok hin
  have hm : TraceS.rdM { S with steps := S.steps + 1 } ⟨l, c⟩ S.head 2 = ⟨l, c + 1⟩ := rdM_yes (S := { S with steps := S.steps + 1 }) (m := ⟨l, c⟩) hok
  rw [hd]
  unfold TrW.length TrW.ticked
  simp only [hr, hm, hv]
  rw [if_neg (by omega)]
theorem step_mode {md : Int} (hpc : S.pc = 6) (hok : S.okAt S.head 3 = true) (hin : inB (S.head * 8 + 3) l.length = true) (hv : wInt (MemS.peek ⟨l, 0⟩ (S.head * 8 + 3)) = some md) (hb : 0 ≤ md ∧ md ≤ 2) (hd4 : decide (md = 0) = decide (sData S.n ≤ 4)) :
    TrW.step ⟨S, ⟨l, c⟩, T, p, k⟩ = ⟨{ S with mode := md, pc := if md = 0 then 8 else 7, steps := S.steps + 1 }, ⟨l, c + 1⟩, T, p, k⟩ := by
  refine step_does (by show S.pc ≠ 9; omega) ?_
  have hd : TrW.does (TrW.ticked ⟨S, ⟨l, c⟩, T, p, k⟩) = TrW.mode (TrW.ticked ⟨S, ⟨l, c⟩, T, p, k⟩) := by unfold TrW.does TrW.ticked; simp only [hpc]; rfl
  have hr : TraceS.rd { S with steps := S.steps + 1 } ⟨l, c⟩ S.head 3 = some (MemS.peek ⟨l, 0⟩ (S.head * 8 + 3)) := rd_yes (S := { S with steps := S.steps + 1 }) (m := ⟨l, c⟩) hok hin
  have hm : TraceS.rdM { S with steps := S.steps + 1 } ⟨l, c⟩ S.head 3 = ⟨l, c + 1⟩ := rdM_yes (S := { S with steps := S.steps + 1 }) (m := ⟨l, c⟩) hok
  rw [hd]
  unfold TrW.mode TrW.ticked
  simp only [hr, hm, hv]
  rw [if_neg (by rintro (h | h | h) <;> first | omega | exact h hd4)]
theorem step_base1 {a : Int} (hpc : S.pc = 7) (hmd : S.mode = 1) (hok : S.okAt S.head 4 = true) (hin : inB (S.head * 8 + 4) l.length = true) (hv : wInt (MemS.peek ⟨l, 0⟩ (S.head * 8 + 4)) = some a) (hb : 0 ≤ a ∧ a < cWords S.c) :
    TrW.step ⟨S, ⟨l, c⟩, T, p, k⟩ = ⟨{ S with base := a, pc := 8, steps := S.steps + 1 }, ⟨l, c + 1⟩, T, p, k⟩ := by
  refine step_does (by show S.pc ≠ 9; omega) ?_
  have hd : TrW.does (TrW.ticked ⟨S, ⟨l, c⟩, T, p, k⟩) = TrW.base (TrW.ticked ⟨S, ⟨l, c⟩, T, p, k⟩) := by unfold TrW.does TrW.ticked; simp only [hpc]; rfl
  have hr : TraceS.rd { S with steps := S.steps + 1 } ⟨l, c⟩ S.head 4 = some (MemS.peek ⟨l, 0⟩ (S.head * 8 + 4)) := rd_yes (S := { S with steps := S.steps + 1 }) (m := ⟨l, c⟩) hok hin
  have hm : TraceS.rdM { S with steps := S.steps + 1 } ⟨l, c⟩ S.head 4 = ⟨l, c + 1⟩ := rdM_yes (S := { S with steps := S.steps + 1 }) (m := ⟨l, c⟩) hok
  rw [hd]
  simp only [hmd] at hr hm
  unfold TrW.base TrW.ticked
  simp only [hmd, hr, hm, hv, if_true]
  rw [if_neg (by omega)]
theorem step_base2 {i : Int} (hpc : S.pc = 7) (hmd : S.mode = 2) (hok : S.okAt S.head 4 = true) (hin : inB (S.head * 8 + 4) l.length = true) (hv : wIndex (MemS.peek ⟨l, 0⟩ (S.head * 8 + 4)) = some i) (hb : i + sData S.n ≤ S.c.frags) :
    TrW.step ⟨S, ⟨l, c⟩, T, p, k⟩ = ⟨{ S with base := i, frag := i + S.j, pc := 4, steps := S.steps + 1 }, ⟨l, c + 1⟩, T, p, k⟩ := by
  refine step_does (by show S.pc ≠ 9; omega) ?_
  have hd : TrW.does (TrW.ticked ⟨S, ⟨l, c⟩, T, p, k⟩) = TrW.base (TrW.ticked ⟨S, ⟨l, c⟩, T, p, k⟩) := by unfold TrW.does TrW.ticked; simp only [hpc]; rfl
  have hr : TraceS.rd { S with steps := S.steps + 1 } ⟨l, c⟩ S.head 4 = some (MemS.peek ⟨l, 0⟩ (S.head * 8 + 4)) := rd_yes (S := { S with steps := S.steps + 1 }) (m := ⟨l, c⟩) hok hin
  have hm : TraceS.rdM { S with steps := S.steps + 1 } ⟨l, c⟩ S.head 4 = ⟨l, c + 1⟩ := rdM_yes (S := { S with steps := S.steps + 1 }) (m := ⟨l, c⟩) hok
  rw [hd]
  simp only [hmd] at hr hm
  unfold TrW.base TrW.ticked
  simp only [hmd, hr, hm, hv, show ¬ ((2 : Int) = 1) by decide, if_false]
  rw [if_neg (by omega)]
theorem step_slot {i : Int} (hpc : S.pc = 8) (hv : TrW.slotRd ⟨{ S with steps := S.steps + 1 }, ⟨l, c⟩, T, p, k⟩ = some (floatOfInt .f64 (i + 1), 4607182418800017408)) (hm : TrW.slotM ⟨{ S with steps := S.steps + 1 }, ⟨l, c⟩, T, p, k⟩ = ⟨l, c + 1⟩) (h0 : 0 ≤ i) (h1 : i ≤ 1099511627776) (hlt : i < S.c.frags) :
    TrW.step ⟨S, ⟨l, c⟩, T, p, k⟩ = ⟨{ S with frag := i, pc := 4, steps := S.steps + 1 }, ⟨l, c + 1⟩, T, p, k⟩ := by
  refine step_does (by show S.pc ≠ 9; omega) ?_
  have hd : TrW.does (TrW.ticked ⟨S, ⟨l, c⟩, T, p, k⟩) = TrW.slot (TrW.ticked ⟨S, ⟨l, c⟩, T, p, k⟩) := by unfold TrW.does TrW.ticked; simp only [hpc]; rfl
  rw [hd]
  unfold TrW.slot TrW.ticked
  simp only [hv, hm, wIndex_ref h0 h1, Option.getD_some, Option.isSome_some, Bool.true_and]
  rw [decide_eq_true hlt]
theorem slot_in {v : Nat × Nat} (hmd : S.mode = 0) (hok : S.okAt S.head (4 + S.j) = true) (hin : inB (S.head * 8 + (4 + S.j)) l.length = true) (hv : MemS.peek ⟨l, 0⟩ (S.head * 8 + (4 + S.j)) = v) :
    TrW.slotRd ⟨{ S with steps := S.steps + 1 }, ⟨l, c⟩, T, p, k⟩ = some v ∧ TrW.slotM ⟨{ S with steps := S.steps + 1 }, ⟨l, c⟩, T, p, k⟩ = ⟨l, c + 1⟩ := by
  unfold TrW.slotRd TrW.slotM
  simp only
  rw [if_pos hmd, if_pos hmd]
  exact ⟨(rd_yes (S := { S with steps := S.steps + 1 }) (m := ⟨l, c⟩) hok hin).trans (congrArg some hv), rdM_yes (S := { S with steps := S.steps + 1 }) (m := ⟨l, c⟩) hok⟩
theorem slot_sp {v : Nat × Nat} (hmd : S.mode ≠ 0) (hin : inB (S.base + 2 + S.j) l.length = true) (hv : MemS.peek ⟨l, 0⟩ (S.base + 2 + S.j) = v) :
    TrW.slotRd ⟨{ S with steps := S.steps + 1 }, ⟨l, c⟩, T, p, k⟩ = some v ∧ TrW.slotM ⟨{ S with steps := S.steps + 1 }, ⟨l, c⟩, T, p, k⟩ = ⟨l, c + 1⟩ := by
  unfold TrW.slotRd TrW.slotM
  simp only
  rw [if_neg hmd, if_neg hmd, if_pos hin]
  exact ⟨congrArg some hv, rfl⟩
theorem gone_next {S : TraceS} (hw : S.words = []) (hf : S.j + 1 < S.frs) (ha : S.arr = true) : S.gone = { S with j := S.j + 1, frag := if S.mode = 2 then S.base + (S.j + 1) else S.frag, pc := if S.mode = 2 then 4 else 8 } := by
  unfold TraceS.gone TraceS.goes TraceS.goesPc
  rw [if_neg (by rw [hw]; simp), if_neg (by omega), if_neg (by rw [ha]; decide), if_neg (by rw [hw]; simp), if_neg (by omega), if_neg (by rw [ha]; decide)]
  unfold TraceS.enters TraceS.entersPc
  simp only
  by_cases hm : S.mode = 2
  · simp only [if_pos hm]
  · simp only [if_neg hm]
end
/-! ### an array -/
def rW (i : Int) : Nat × Nat := (floatOfInt .f64 (i + 1), 4607182418800017408)
/-- An array that stands in memory. -/
structure ArrIn (cm : Cnf) (l : List (Nat × Nat)) (got : List Int) (kd n md at_ : Int) (refs : List Bool) : Prop where
  one : 1 ≤ got.length
  check : cm.check = 0
  gotb : ∀ i, i < got.length → 0 ≤ got.getD i 0 ∧ got.getD i 0 < cm.frags
  shape : cm.shapeAt kd = some (true, refs)
  kdb : 0 ≤ kd ∧ kd ≤ 1000000
  nb : 0 ≤ n ∧ n ≤ 512
  len : (got.length : Int) = 1 + sData n
  mlen : ∀ a, 0 ≤ a → a < cm.frags * 8 → inB a l.length = true
  head : MemS.peek ⟨l, 0⟩ (got.getD 0 0 * 8 + 1) = (floatOfInt .f64 kd, floatOfInt .f64 0)
  lenw : MemS.peek ⟨l, 0⟩ (got.getD 0 0 * 8 + 2) = (floatOfInt .f64 n, 0)
  modew : MemS.peek ⟨l, 0⟩ (got.getD 0 0 * 8 + 3) = (floatOfInt .f64 md, 0)
  mode : md = 0 ∧ sData n ≤ 4 ∧ (∀ j : Nat, j < 4 → j + 1 < got.length → MemS.peek ⟨l, 0⟩ (got.getD 0 0 * 8 + (4 + j)) = rW (got.getD (j + 1) 0)) ∨
    md = 2 ∧ 4 < sData n ∧ MemS.peek ⟨l, 0⟩ (got.getD 0 0 * 8 + 4) = rW (got.getD 1 0) ∧ (∀ j, j < got.length → got.getD j 0 = got.getD 0 0 + j) ∨
    md = 1 ∧ 4 < sData n ∧ MemS.peek ⟨l, 0⟩ (got.getD 0 0 * 8 + 4) = (floatOfInt .f64 at_, 0) ∧ 0 ≤ at_ ∧ at_ < cWords cm ∧ at_ ≤ 1000000 ∧ ∀ j : Nat, j + 1 < got.length → inB (at_ + 2 + j) l.length = true ∧ MemS.peek ⟨l, 0⟩ (at_ + 2 + j) = rW (got.getD (j + 1) 0)
  fld : refs.getD 0 false = true → ∀ j x : Nat, x < 8 → (j : Int) * 8 + x < n → wIs (MemS.peek ⟨l, 0⟩ (got.getD (j + 1) 0 * 8 + x)) = true
section
variable {cm : Cnf} {l : List (Nat × Nat)} {got : List Int} {kd n md at_ : Int} {refs : List Bool}
def aS (cm : Cnf) (h : Int) (sense : Bool) (refs : List Bool) (n md bs f j x st pc : Int) (ws : List Int) : TraceS := ⟨cm, h, sense, pc, true, refs, f, j, ws, x, n, md, bs, 0, st⟩
/-- The words of data fragment j. -/
def arrL (refs : List Bool) (n : Int) (j : Nat) : List Int := if refs.getD 0 false then numsL (min n (((j : Int) + 1) * 8) - (j : Int) * 8).toNat else []
def arrW (l : List (Nat × Nat)) (got : List Int) (refs : List Bool) (n : Int) (j : Nat) : List (Nat × Nat) := wordsOf l (got.getD (j + 1) 0) (arrL refs n j)
def arrFx (l : List (Nat × Nat)) (got : List Int) (refs : List Bool) (n : Int) (s : Bool) (E : TabS × PileS) : Nat → TabS × PileS
  | 0 => (E.1.mark (got.getD 1 0) s, E.2)
  | j + 1 => ((effs s (arrFx l got refs n s E j) (arrW l got refs n j)).1.mark (got.getD (j + 2) 0) s, (effs s (arrFx l got refs n s E j) (arrW l got refs n j)).2)
def arrQ (md : Int) : Nat := if md = 2 then 1 else 2
def arrC (l : List (Nat × Nat)) (got : List Int) (refs : List Bool) (n md : Int) : Nat → Nat
  | 0 => 3 + (if md = 0 then 0 else 1) + arrQ md
  | j + 1 => arrC l got refs n md j + costW (arrW l got refs n j) + arrQ md
/-- Where its fragments are looked for. -/
def arrB (got : List Int) (md at_ : Int) : Int := if md = 0 then 0 else if md = 1 then at_ else got.getD 1 0
theorem arrL_len (refs : List Bool) (n : Int) (j : Nat) : (arrL refs n j).length ≤ 8 := by
  unfold arrL
  split
  · rw [numsL_len]; omega
  · exact Nat.zero_le _
theorem arrL_mem {j : Nat} {x : Int} (h : x ∈ arrL refs n j) : refs.getD 0 false = true ∧ ∃ q : Nat, x = q ∧ q < 8 ∧ (j : Int) * 8 + q < n := by
  unfold arrL at h
  split at h
  · rename_i hr
    unfold numsL at h
    obtain ⟨q, hq, rfl⟩ := List.mem_map.1 h
    have := List.mem_range.1 hq
    exact ⟨hr, q, rfl, by omega, by omega⟩
  · cases h
theorem ArrIn.few (H : ArrIn cm l got kd n md at_ refs) : cm.frags ≤ 1024 := (Cnf.ranged (Cnf.check_zero H.check).1).1.2
theorem ArrIn.mdb (H : ArrIn cm l got kd n md at_ refs) : (0 ≤ md ∧ md ≤ 2) ∧ decide (md = 0) = decide (sData n ≤ 4) := by
  rcases H.mode with ⟨h, h2, _⟩ | ⟨h, h2, _⟩ | ⟨h, h2, _⟩
  · subst h; exact ⟨by decide, by rw [decide_eq_true h2]; rfl⟩
  · subst h; exact ⟨by decide, by rw [decide_eq_false (by omega : ¬ sData n ≤ 4)]; rfl⟩
  · subst h; exact ⟨by decide, by rw [decide_eq_false (by omega : ¬ sData n ≤ 4)]; rfl⟩
theorem ArrIn.words (H : ArrIn cm l got kd n md at_ refs) {j : Nat} (hj : j + 1 < got.length) {S : TraceS} (hc : S.c = cm) (hf : S.frag = got.getD (j + 1) 0) : ∀ x ∈ arrL refs n j, S.okAt S.frag x = true ∧ inB (S.frag * 8 + x) l.length = true ∧ wIs (MemS.peek ⟨l, 0⟩ (S.frag * 8 + x)) = true := by
  intro x hx
  obtain ⟨h1, q, rfl, h2, h3⟩ := arrL_mem hx
  have hg := H.gotb (j + 1) hj
  rw [hf]
  exact ⟨okAt_in H.check hc hg (by omega), H.mlen _ (by omega) (by omega), H.fld h1 j q h2 h3⟩
/-- Into data fragment j. -/
theorem run_enter (H : ArrIn cm l got kd n md at_ refs) (s : Bool) {j : Nat} (hj : j + 1 < got.length) (f x st : Int) (hf : md = 2 → f = got.getD (j + 1) 0) (c k : Int) (T : TabS) (p : PileS) :
    ∃ k2 c2, TrW.go (arrQ md) ⟨aS cm (got.getD 0 0) s refs n md (arrB got md at_) f j x st (if md = 2 then 4 else 8) [], ⟨l, c⟩, T, p, k⟩ = ⟨TraceS.gone (aS cm (got.getD 0 0) s refs n md (arrB got md at_) (got.getD (j + 1) 0) j x (st + arrQ md) 0 (arrL refs n j)), ⟨l, c2⟩, T.mark (got.getD (j + 1) 0) s, p, k2⟩ := by
  have hg := H.gotb 0 (by have := H.one; omega)
  have hg1 := H.gotb (j + 1) hj
  have hfew := H.few
  have pt : ∀ (f st c k : Int), f = got.getD (j + 1) 0 → TrW.step ⟨aS cm (got.getD 0 0) s refs n md (arrB got md at_) f j x st 4 [], ⟨l, c⟩, T, p, k⟩ = ⟨TraceS.gone (aS cm (got.getD 0 0) s refs n md (arrB got md at_) (got.getD (j + 1) 0) j x (st + 1) 0 (arrL refs n j)), ⟨l, c⟩, T.mark (got.getD (j + 1) 0) s, p, k + 1⟩ := by
    intro f st c k hf
    subst hf
    refine (step_part (S := aS cm (got.getD 0 0) s refs n md (arrB got md at_) (got.getD (j + 1) 0) j x st 4 []) (T := T) (p := p) (k := k) rfl (m := ⟨l, c⟩)).trans ?_
    have e : TraceS.refsL (aS cm (got.getD 0 0) s refs n md (arrB got md at_) (got.getD (j + 1) 0) j x st 4 []) = arrL refs n j := (refsL_arr rfl).trans rfl
    rw [e]
    exact congrArg (fun Z => (⟨Z, ⟨l, c⟩, T.mark (got.getD (j + 1) 0) s, p, k + 1⟩ : TrW)) (gone_pc (aS cm (got.getD 0 0) s refs n md (arrB got md at_) (got.getD (j + 1) 0) j x (st + 1) 0 (arrL refs n j)) 4)
  by_cases h2 : md = 2
  · have hq : arrQ md = 1 := by unfold arrQ; rw [if_pos h2]
    rw [hq, if_pos h2]
    exact ⟨k + 1, c, pt f st c k (hf h2)⟩
  · have hq : arrQ md = 2 := by unfold arrQ; rw [if_neg h2]
    rw [hq, if_neg h2]
    have hs : TrW.slotRd ⟨{ (aS cm (got.getD 0 0) s refs n md (arrB got md at_) f j x st 8 []) with steps := st + 1 }, ⟨l, c⟩, T, p, k⟩ = some (rW (got.getD (j + 1) 0)) ∧ TrW.slotM ⟨{ (aS cm (got.getD 0 0) s refs n md (arrB got md at_) f j x st 8 []) with steps := st + 1 }, ⟨l, c⟩, T, p, k⟩ = ⟨l, c + 1⟩ := by
      rcases H.mode with ⟨h, h4, hp⟩ | ⟨h, _⟩ | ⟨h, h4, _, a0, a1, a2, hp⟩
      · have hlen := H.len
        have hj4 : j < 4 := by omega
        exact slot_in (S := aS cm (got.getD 0 0) s refs n md (arrB got md at_) f j x st 8 []) h (okAt_in H.check rfl hg (by show 0 ≤ 4 + (j : Int) ∧ 4 + (j : Int) < 8; omega)) (H.mlen _ (by show 0 ≤ got.getD 0 0 * 8 + (4 + (j : Int)); omega) (by show got.getD 0 0 * 8 + (4 + (j : Int)) < cm.frags * 8; omega)) (hp j hj4 hj)
      · exact absurd h h2
      · have hb : arrB got md at_ = at_ := by unfold arrB; rw [if_neg (by omega), if_pos h]
        exact slot_sp (S := aS cm (got.getD 0 0) s refs n md (arrB got md at_) f j x st 8 []) (show md ≠ 0 by omega) (by show inB (arrB got md at_ + 2 + j) l.length = true; rw [hb]; exact (hp j hj).1) (by show MemS.peek ⟨l, 0⟩ (arrB got md at_ + 2 + j) = _; rw [hb]; exact (hp j hj).2)
    have h1 := step_slot (S := aS cm (got.getD 0 0) s refs n md (arrB got md at_) f j x st 8 []) (l := l) (c := c) (k := k) (T := T) (p := p) (i := got.getD (j + 1) 0) rfl hs.1 hs.2 hg1.1 (by omega) hg1.2
    refine ⟨k + 1, c + 1, ?_⟩
    refine (congrArg TrW.step h1).trans ?_
    refine (pt (got.getD (j + 1) 0) (st + 1) (c + 1) k rfl).trans ?_
    rw [show st + 1 + 1 = st + ((2 : Nat) : Int) by omega]
/-- To the first data fragment's words. -/
theorem run_arr0 (H : ArrIn cm l got kd n md at_ refs) (h1 : 1 < got.length) (s : Bool) (c k : Int) (T : TabS) (p : PileS) :
    ∃ k' c', TrW.go (arrC l got refs n md 0) ⟨TraceS.fresh cm (got.getD 0 0) s, ⟨l, c⟩, T, p, k⟩ = ⟨TraceS.gone (aS cm (got.getD 0 0) s refs n md (arrB got md at_) (got.getD 1 0) ((0 : Nat) : Int) 0 (arrC l got refs n md 0) 0 (arrL refs n 0)), ⟨l, c'⟩, (arrFx l got refs n s (T, p) 0).1, (arrFx l got refs n s (T, p) 0).2, k'⟩ := by
  have hg := H.gotb 0 (by omega)
  have hg1 := H.gotb 1 h1
  have hfew := H.few
  have hkd := H.kdb
  have hnb := H.nb
  have hlen := H.len
  have hmd := H.mdb
  have hin : ∀ x : Int, 0 ≤ x → x < 8 → inB (got.getD 0 0 * 8 + x) l.length = true := fun x h0 h1 => H.mlen _ (by omega) (by omega)
  have hn0 : n ≠ 0 := by
    intro h
    subst h
    have : sData 0 = 0 := rfl
    omega
  have s1 := step_head_arr (S := TraceS.fresh cm (got.getD 0 0) s) (l := l) (c := c) (k := k) (T := T) (p := p) rfl (okAt_in H.check rfl hg (by decide)) (hin 1 (by decide) (by decide)) (by
    show wTell (MemS.peek ⟨l, 0⟩ (got.getD 0 0 * 8 + 1)) = some (kd, 0)
    rw [H.head]
    exact wTell_head hkd.1 (by omega) (by decide) (by decide)) H.shape (Int.le_refl 0)
  have s2 := step_length (S := aS cm (got.getD 0 0) s refs 0 0 0 (got.getD 0 0) 0 0 1 5 []) (l := l) (c := c + 1) (k := k) (T := T) (p := p) (n := n) rfl (okAt_in H.check rfl hg (by decide)) (hin 2 (by decide) (by decide)) (by
    show wInt (MemS.peek ⟨l, 0⟩ (got.getD 0 0 * 8 + 2)) = some n
    rw [H.lenw]
    exact wInt_fits ⟨by omega, by omega⟩) hnb
  have s3 := step_mode (S := aS cm (got.getD 0 0) s refs n 0 0 (got.getD 0 0) 0 0 2 6 []) (l := l) (c := c + 1 + 1) (k := k) (T := T) (p := p) (md := md) rfl (okAt_in H.check rfl hg (by decide)) (hin 3 (by decide) (by decide)) (by
    show wInt (MemS.peek ⟨l, 0⟩ (got.getD 0 0 * 8 + 3)) = some md
    rw [H.modew]
    exact wInt_fits ⟨by omega, by omega⟩) hmd.1 hmd.2
  have e1 : TrW.go 3 ⟨TraceS.fresh cm (got.getD 0 0) s, ⟨l, c⟩, T, p, k⟩ = ⟨aS cm (got.getD 0 0) s refs n md 0 (got.getD 0 0) 0 0 3 (if md = 0 then 8 else 7) [], ⟨l, c + 1 + 1 + 1⟩, T, p, k⟩ := by
    have s2' : TrW.step ⟨aS cm (got.getD 0 0) s refs 0 0 0 (got.getD 0 0) 0 0 1 5 [], ⟨l, c + 1⟩, T, p, k⟩ = ⟨aS cm (got.getD 0 0) s refs n 0 0 (got.getD 0 0) 0 0 2 6 [], ⟨l, c + 1 + 1⟩, T, p, k⟩ := s2.trans (by rw [if_neg hn0]; rfl)
    exact (congrArg (fun W => TrW.step (TrW.step W)) s1).trans ((congrArg TrW.step s2').trans s3)
  have key : ∃ f c' , (md = 2 → f = got.getD 1 0) ∧ TrW.go (3 + (if md = 0 then 0 else 1)) ⟨TraceS.fresh cm (got.getD 0 0) s, ⟨l, c⟩, T, p, k⟩ = ⟨aS cm (got.getD 0 0) s refs n md (arrB got md at_) f ((0 : Nat) : Int) 0 ((3 + (if md = 0 then 0 else 1) : Nat) : Int) (if md = 2 then 4 else 8) [], ⟨l, c'⟩, T, p, k⟩ := by
    rcases H.mode with ⟨h, h4, hp⟩ | ⟨h, h4, hp, hr⟩ | ⟨h, h4, hp, a0, a1, a2, _⟩
    · subst h
      exact ⟨got.getD 0 0, c + 1 + 1 + 1, fun h => absurd h (by decide), e1⟩
    · subst h
      have s4 := step_base2 (S := aS cm (got.getD 0 0) s refs n 2 0 (got.getD 0 0) 0 0 3 7 []) (l := l) (c := c + 1 + 1 + 1) (k := k) (T := T) (p := p) (i := got.getD 1 0) rfl rfl (okAt_in H.check rfl hg (by decide)) (hin 4 (by decide) (by decide)) (by
        show wIndex (MemS.peek ⟨l, 0⟩ (got.getD 0 0 * 8 + 4)) = some (got.getD 1 0)
        rw [hp]
        exact wIndex_ref hg1.1 (by omega)) (by
        show got.getD 1 0 + sData n ≤ cm.frags
        have h5 := hr 1 h1
        have h6 := hr (got.length - 1) (by omega)
        have h7 := H.gotb (got.length - 1) (by omega)
        omega)
      refine ⟨got.getD 1 0, c + 1 + 1 + 1 + 1, fun _ => rfl, ?_⟩
      refine (congrArg TrW.step e1).trans (s4.trans ?_)
      show (⟨aS cm (got.getD 0 0) s refs n 2 (got.getD 1 0) (got.getD 1 0 + 0) 0 0 (3 + 1) 4 [], _, T, p, k⟩ : TrW) = _
      rw [Int.add_zero]
      rfl
    · subst h
      have s4 := step_base1 (S := aS cm (got.getD 0 0) s refs n 1 0 (got.getD 0 0) 0 0 3 7 []) (l := l) (c := c + 1 + 1 + 1) (k := k) (T := T) (p := p) (a := at_) rfl rfl (okAt_in H.check rfl hg (by decide)) (hin 4 (by decide) (by decide)) (by
        show wInt (MemS.peek ⟨l, 0⟩ (got.getD 0 0 * 8 + 4)) = some at_
        rw [hp]
        exact wInt_fits ⟨by omega, by omega⟩) ⟨a0, a1⟩
      refine ⟨got.getD 0 0, c + 1 + 1 + 1 + 1, fun h => absurd h (by decide), ?_⟩
      exact (congrArg TrW.step e1).trans s4
  obtain ⟨f, c', hf, e2⟩ := key
  obtain ⟨k2, c2, e3⟩ := run_enter H s (j := 0) h1 f 0 ((3 + (if md = 0 then 0 else 1) : Nat) : Int) hf c' k T p
  refine ⟨k2, c2, ?_⟩
  rw [arrC, TrW.go_add, e2]
  refine e3.trans ?_
  rw [show ((3 + (if md = 0 then 0 else 1) : Nat) : Int) + (arrQ md : Int) = ((3 + (if md = 0 then 0 else 1) + arrQ md : Nat) : Int) by omega]
  rfl
theorem run_aw (H : ArrIn cm l got kd n md at_ refs) (s : Bool) {j : Nat} (hj : j + 1 < got.length) (x st : Int) (c k : Int) (T : TabS) (p : PileS) :
    ∃ x2 k2 c2, TrW.go (costW (arrW l got refs n j)) ⟨TraceS.gone (aS cm (got.getD 0 0) s refs n md (arrB got md at_) (got.getD (j + 1) 0) j x st 0 (arrL refs n j)), ⟨l, c⟩, T, p, k⟩ = ⟨TraceS.gone (aS cm (got.getD 0 0) s refs n md (arrB got md at_) (got.getD (j + 1) 0) j x2 (st + costW (arrW l got refs n j)) 0 []), ⟨l, c2⟩, (effs s (T, p) (arrW l got refs n j)).1, (effs s (T, p) (arrW l got refs n j)).2, k2⟩ :=
  run_words (l := l) (arrL refs n j) (aS cm (got.getD 0 0) s refs n md (arrB got md at_) (got.getD (j + 1) 0) j x st 0 []) c k T p (H.words hj rfl rfl)
theorem run_arr (H : ArrIn cm l got kd n md at_ refs) (s : Bool) (c k : Int) (T : TabS) (p : PileS) : ∀ j : Nat, j + 1 < got.length →
    ∃ x k' c', TrW.go (arrC l got refs n md j) ⟨TraceS.fresh cm (got.getD 0 0) s, ⟨l, c⟩, T, p, k⟩ = ⟨TraceS.gone (aS cm (got.getD 0 0) s refs n md (arrB got md at_) (got.getD (j + 1) 0) j x (arrC l got refs n md j) 0 (arrL refs n j)), ⟨l, c'⟩, (arrFx l got refs n s (T, p) j).1, (arrFx l got refs n s (T, p) j).2, k'⟩
  | 0, hj => by
    obtain ⟨k', c', e⟩ := run_arr0 H hj s c k T p
    exact ⟨0, k', c', e⟩
  | j + 1, hj => by
    obtain ⟨x, k', c', e⟩ := run_arr H s c k T p j (by omega)
    obtain ⟨x2, k2, c2, e2⟩ := run_aw H s (j := j) (by omega) x (arrC l got refs n md j) c' k' (arrFx l got refs n s (T, p) j).1 (arrFx l got refs n s (T, p) j).2
    have hlen := H.len
    have hl : TraceS.gone (aS cm (got.getD 0 0) s refs n md (arrB got md at_) (got.getD (j + 1) 0) j x2 ((arrC l got refs n md j : Int) + costW (arrW l got refs n j)) 0 []) = aS cm (got.getD 0 0) s refs n md (arrB got md at_) (if md = 2 then arrB got md at_ + ((j : Int) + 1) else got.getD (j + 1) 0) ((j + 1 : Nat) : Int) x2 ((arrC l got refs n md j : Int) + costW (arrW l got refs n j)) (if md = 2 then 4 else 8) [] :=
      gone_next rfl (by
        show (j : Int) + 1 < sData n
        omega) rfl
    rw [hl] at e2
    obtain ⟨k3, c3, e3⟩ := run_enter H s (j := j + 1) hj (if md = 2 then arrB got md at_ + ((j : Int) + 1) else got.getD (j + 1) 0) x2 ((arrC l got refs n md j : Int) + costW (arrW l got refs n j)) (fun h => by
      rw [if_pos h]
      rcases H.mode with ⟨h', _⟩ | ⟨h', h4, hp, hr⟩ | ⟨h', _⟩
      · omega
      · have h5 := hr 1 (by omega)
        have h6 := hr (j + 1 + 1) hj
        have hb : arrB got md at_ = got.getD 1 0 := by unfold arrB; rw [if_neg (by omega), if_neg (by omega)]
        rw [hb]
        omega
      · omega) c2 k2 (effs s (arrFx l got refs n s (T, p) j) (arrW l got refs n j)).1 (effs s (arrFx l got refs n s (T, p) j) (arrW l got refs n j)).2
    refine ⟨x2, k3, c3, ?_⟩
    rw [show arrC l got refs n md (j + 1) = arrC l got refs n md j + costW (arrW l got refs n j) + arrQ md from rfl, TrW.go_add, TrW.go_add, e, e2]
    refine e3.trans ?_
    rw [show (arrC l got refs n md j : Int) + costW (arrW l got refs n j) + (arrQ md : Int) = ((arrC l got refs n md j + costW (arrW l got refs n j) + arrQ md : Nat) : Int) by omega]
    rfl
def arrN (l : List (Nat × Nat)) (got : List Int) (refs : List Bool) (n md : Int) : Nat := if got.length = 1 then 2 else arrC l got refs n md (got.length - 2) + costW (arrW l got refs n (got.length - 2))
def arrF (l : List (Nat × Nat)) (got : List Int) (refs : List Bool) (n : Int) (s : Bool) (E : TabS × PileS) : TabS × PileS := if got.length = 1 then E else effs s (arrFx l got refs n s E (got.length - 2)) (arrW l got refs n (got.length - 2))
/-- A whole array. -/
theorem run_array (H : ArrIn cm l got kd n md at_ refs) (s : Bool) (c k : Int) (T : TabS) (p : PileS) :
    ∃ S k' c', TrW.go (arrN l got refs n md) ⟨TraceS.fresh cm (got.getD 0 0) s, ⟨l, c⟩, T, p, k⟩ = ⟨S, ⟨l, c'⟩, (arrF l got refs n s (T, p)).1, (arrF l got refs n s (T, p)).2, k'⟩ ∧ S.pc = 9 ∧ S.e = 0 ∧ S.steps = arrN l got refs n md := by
  have h1 := H.one
  have hlen := H.len
  unfold arrN arrF
  by_cases hl : got.length = 1
  · rw [if_pos hl, if_pos hl]
    have hn0 : n = 0 := by
      have hb := H.nb
      have : sData n = 0 := by omega
      unfold sData at this
      split at this <;> omega
    have hg := H.gotb 0 (by omega)
    have hkd := H.kdb
    have hin : ∀ x : Int, 0 ≤ x → x < 8 → inB (got.getD 0 0 * 8 + x) l.length = true := fun x h0 h1 => H.mlen _ (by omega) (by omega)
    have s1 := step_head_arr (S := TraceS.fresh cm (got.getD 0 0) s) (l := l) (c := c) (k := k) (T := T) (p := p) rfl (okAt_in H.check rfl hg (by decide)) (hin 1 (by decide) (by decide)) (by
      show wTell (MemS.peek ⟨l, 0⟩ (got.getD 0 0 * 8 + 1)) = some (kd, 0)
      rw [H.head]
      exact wTell_head hkd.1 (by omega) (by decide) (by decide)) H.shape (Int.le_refl 0)
    have s2 := step_length (S := aS cm (got.getD 0 0) s refs 0 0 0 (got.getD 0 0) 0 0 1 5 []) (l := l) (c := c + 1) (k := k) (T := T) (p := p) (n := n) rfl (okAt_in H.check rfl hg (by decide)) (hin 2 (by decide) (by decide)) (by
      show wInt (MemS.peek ⟨l, 0⟩ (got.getD 0 0 * 8 + 2)) = some n
      rw [H.lenw]
      exact wInt_fits ⟨by omega, by omega⟩) H.nb
    refine ⟨_, k, c + 1 + 1, (show TrW.step (TrW.step _) = _ from (congrArg TrW.step s1).trans s2), ?_, rfl, rfl⟩
    show (if n = 0 then (9 : Int) else 6) = 9
    rw [if_pos hn0]
  · rw [if_neg hl, if_neg hl]
    obtain ⟨j, hj⟩ : ∃ j, got.length = j + 2 := ⟨got.length - 2, by omega⟩
    rw [show got.length - 2 = j by omega]
    obtain ⟨x, k', c', e⟩ := run_arr H s c k T p j (by omega)
    obtain ⟨x2, k2, c2, e2⟩ := run_aw H s (j := j) (by omega) x (arrC l got refs n md j) c' k' (arrFx l got refs n s (T, p) j).1 (arrFx l got refs n s (T, p) j).2
    have hl : TraceS.gone (aS cm (got.getD 0 0) s refs n md (arrB got md at_) (got.getD (j + 1) 0) j x2 ((arrC l got refs n md j : Int) + costW (arrW l got refs n j)) 0 []) = aS cm (got.getD 0 0) s refs n md (arrB got md at_) (got.getD (j + 1) 0) j x2 ((arrC l got refs n md j : Int) + costW (arrW l got refs n j)) 9 [] :=
      gone_end rfl (by
        show sData n ≤ (j : Int) + 1
        omega)
    rw [hl] at e2
    refine ⟨_, k2, c2, (TrW.go_add _ _ _).trans ((congrArg (TrW.go (costW (arrW l got refs n j))) e).trans e2), rfl, rfl, ?_⟩
    show (arrC l got refs n md j : Int) + costW (arrW l got refs n j) = ((arrC l got refs n md j + costW (arrW l got refs n j) : Nat) : Int)
    omega
theorem costW_le : ∀ vs : List (Nat × Nat), costW vs ≤ 2 * vs.length
  | [] => Nat.le_refl _
  | v :: vs => by
    have h := costW_le vs
    have h1 : cost1 v ≤ 2 := by unfold cost1; split <;> omega
    have h2 : costW (v :: vs) = cost1 v + costW vs := by unfold costW; rw [List.map_cons, List.sum_cons]
    rw [h2, List.length_cons]
    omega
theorem arrC_le (l : List (Nat × Nat)) (got : List Int) (refs : List Bool) (n md : Int) : ∀ j, arrC l got refs n md j ≤ 6 + 18 * j
  | 0 => by unfold arrC arrQ; split <;> split <;> omega
  | j + 1 => by
    have h := arrC_le l got refs n md j
    have h1 := costW_le (arrW l got refs n j)
    have h2 : (arrW l got refs n j).length ≤ 8 := by unfold arrW wordsOf; rw [List.length_map]; exact arrL_len refs n j
    have h3 : arrQ md ≤ 2 := by unfold arrQ; split <;> omega
    rw [arrC]
    omega
theorem arrN_le (l : List (Nat × Nat)) (got : List Int) (refs : List Bool) (n md : Int) (h1 : 1 ≤ got.length) : arrN l got refs n md < 18 * got.length + 3 := by
  unfold arrN
  split
  · omega
  · have h := arrC_le l got refs n md (got.length - 2)
    have h1 := costW_le (arrW l got refs n (got.length - 2))
    have h2 : (arrW l got refs n (got.length - 2)).length ≤ 8 := by unfold arrW wordsOf; rw [List.length_map]; exact arrL_len refs n _
    omega
end
end Go.Proofs.Ythdijbkcjmeilaa
/-
  TraceAll: the table of colours behind all steps: plain data. No walk here.
-/
namespace Go.Proofs.Ythdijbkcjmeilaa
open Go Go.RowKit
set_option linter.unusedVariables false
set_option linter.unusedSimpArgs false
set_option maxRecDepth 100000
theorem range_set {α : Type} {F i : Nat} (f : Nat → α) (y : α) : ((List.range F).map f).set i y = (List.range F).map (fun k => if k = i then y else f k) := by
  apply List.ext_getElem?
  intro k
  rw [List.getElem?_set, List.getElem?_map, List.getElem?_map, List.length_map, List.length_range]
  by_cases hk : k < F
  · rw [List.getElem?_range hk]
    by_cases h : i = k
    · subst h; rw [if_pos rfl, if_pos hk]; simp
    · rw [if_neg h]; simp [Ne.symm h]
  · rw [List.getElem?_eq_none (by simpa using hk)]
    split
    · split
      · omega
      · rfl
    · rfl
theorem range_congr {α : Type} {F : Nat} {f g : Nat → α} (h : ∀ k, k < F → f k = g k) : (List.range F).map f = (List.range F).map g := List.map_congr_left fun k hk => h k (List.mem_range.1 hk)
/-- All in use: which are heads, which are black. -/
def tabOf (F : Nat) (hd bl : Nat → Bool) : TabS := ⟨(List.range F).map fun k => ⟨2, hd k, bl k⟩⟩
theorem tabOf_congr {F : Nat} {hd hd' bl bl' : Nat → Bool} (h : ∀ k, k < F → hd k = hd' k ∧ bl k = bl' k) : tabOf F hd bl = tabOf F hd' bl' := by
  unfold tabOf
  congr 1
  exact range_congr fun k hk => by rw [(h k hk).1, (h k hk).2]
section
variable {F : Nat} {hd bl : Nat → Bool}
theorem tabOf_len : (tabOf F hd bl).l.length = F := by simp [tabOf]
theorem tabOf_get {k : Nat} (hk : k < F) : (tabOf F hd bl).l[k]? = some ⟨2, hd k, bl k⟩ := by
  unfold tabOf
  rw [List.getElem?_map, List.getElem?_range hk]
  rfl
theorem tabOf_state {k : Nat} (hk : k < F) : (tabOf F hd bl).state k = 2 := by unfold TabS.state; rw [TabS.at_in (tabOf_get hk)]; rfl
theorem tabOf_head {k : Nat} (hk : k < F) : (tabOf F hd bl).head k = hd k := by unfold TabS.head; rw [TabS.at_in (tabOf_get hk)]; rfl
theorem tabOf_black {k : Nat} (hk : k < F) : (tabOf F hd bl).black k true = bl k := by
  unfold TabS.black
  rw [tabOf_state hk]
  unfold TabS.sense
  rw [TabS.at_in (tabOf_get hk)]
  show (2 == 2 && bl k == true) = bl k
  cases bl k <;> rfl
theorem tabOf_mark {i : Nat} (hi : i < F) : (tabOf F hd bl).mark i true = tabOf F hd (fun k => bl k || k == i) := by
  cases hb : bl i
  · rw [TabS.mark_yes (tabOf_get hi) (tabOf_state hi) ((tabOf_black hi).trans hb)]
    unfold tabOf
    congr 1
    rw [range_set]
    refine range_congr fun k hk => ?_
    by_cases h : k = i
    · subst h; rw [if_pos rfl]; simp
    · rw [if_neg h]; simp [h]
  · rw [TabS.mark_no (by rw [tabOf_black hi, hb]; simp)]
    refine tabOf_congr fun k hk => ⟨rfl, ?_⟩
    by_cases h : k = i
    · subst h; rw [hb]; rfl
    · simp [h]
theorem tabOf_grey {i : Nat} (hi : i < F) : (tabOf F hd bl).grey i true = tabOf F hd (fun k => bl k || (hd k && k == i)) := by
  unfold TabS.grey TabS.white
  rw [tabOf_head hi, tabOf_black hi]
  have hk : ∀ k, k ≠ i → (k == i) = false := fun k h => beq_eq_false_iff_ne.2 h
  cases hh : hd i
  · rw [Bool.false_and, if_neg (by decide)]
    refine tabOf_congr fun k _ => ⟨rfl, ?_⟩
    by_cases h : k = i
    · rw [h, hh, Bool.false_and, Bool.or_false]
    · rw [hk k h, Bool.and_false, Bool.or_false]
  · cases hb : bl i
    · rw [if_pos (by decide), tabOf_mark hi]
      refine tabOf_congr fun k _ => ⟨rfl, ?_⟩
      by_cases h : k = i
      · rw [h, hh, Bool.true_and]
      · rw [hk k h, Bool.and_false]
    · rw [if_neg (by decide)]
      refine tabOf_congr fun k _ => ⟨rfl, ?_⟩
      by_cases h : k = i
      · rw [h, hb, Bool.true_or]
      · rw [hk k h, Bool.and_false, Bool.or_false]
/-- Some word refers to it. -/
def refTo (vs : List (Nat × Nat)) (k : Nat) : Bool := vs.any fun v => wIndex v == some (k : Int)
theorem effs_tab : ∀ (vs : List (Nat × Nat)) (bl : Nat → Bool) (p : PileS), (∀ v ∈ vs, ∀ i, wIndex v = some i → 0 ≤ i ∧ i < F) → (effs true (tabOf F hd bl, p) vs).1 = tabOf F hd (fun k => bl k || (hd k && refTo vs k))
  | [], bl, p, _ => tabOf_congr fun k _ => ⟨rfl, by simp [refTo]⟩
  | v :: vs, bl, p, h => by
    have hr : ∀ v ∈ vs, ∀ i, wIndex v = some i → 0 ≤ i ∧ i < F := fun y hy => h y (List.mem_cons_of_mem _ hy)
    have e : effs true (tabOf F hd bl, p) (v :: vs) = effs true (eff true (tabOf F hd bl, p) v) vs := rfl
    rw [e]
    unfold eff
    rcases hv : wIndex v with _ | i
    · simp only
      rw [effs_tab vs bl p hr]
      refine tabOf_congr fun k hk => ⟨rfl, ?_⟩
      unfold refTo
      rw [List.any_cons, hv]
      simp
    · simp only
      obtain ⟨h0, h1⟩ := h v List.mem_cons_self i hv
      obtain ⟨q, rfl⟩ := Int.eq_ofNat_of_zero_le h0
      rw [tabOf_grey (by omega), effs_tab vs _ _ hr]
      refine tabOf_congr fun k hk => ⟨rfl, ?_⟩
      unfold refTo
      rw [List.any_cons, hv]
      have hq : (some ((q : Nat) : Int) == some ((k : Nat) : Int)) = (k == q) := by
        rw [Bool.eq_iff_iff]
        simp only [beq_iff_eq, Option.some.injEq]
        omega
      rw [hq]
      cases bl k <;> cases hd k <;> simp
end
/-- A fragment of got behind the first. -/
def partTo (got : List Int) (j k : Nat) : Bool := (List.range j).any fun i => decide (0 < i) && ((got.getD i 0).toNat == k)
theorem partTo_succ (got : List Int) (j k : Nat) : partTo got (j + 1) k = (partTo got j k || (decide (0 < j) && ((got.getD j 0).toNat == k))) := by
  unfold partTo; rw [List.range_succ, List.any_append]; simp
def refsTo (W : Nat → List (Nat × Nat)) (j k : Nat) : Bool := (List.range j).any fun i => refTo (W i) k
theorem refsTo_succ (W : Nat → List (Nat × Nat)) (j k : Nat) : refsTo W (j + 1) k = (refsTo W j k || refTo (W j) k) := by
  unfold refsTo; rw [List.range_succ, List.any_append]; simp
/-- Every word that is read refers to a fragment, or to none. -/
def WordsIn (F : Nat) (W : Nat → List (Nat × Nat)) (d : Nat) : Prop := ∀ j, j < d → ∀ v ∈ W j, ∀ i, wIndex v = some i → 0 ≤ i ∧ i < F
theorem objE_tab {l : List (Nat × Nat)} {got : List Int} {refs : List Bool} {F : Nat} {hd : Nat → Bool} {p : PileS} (hg : ∀ i, i < got.length → 0 ≤ got.getD i 0 ∧ got.getD i 0 < F) (hW : WordsIn F (objW l got refs) got.length) : ∀ j, j < got.length → (objE l got refs true (tabOf F hd (fun _ => false), p) j).1 = tabOf F hd (fun k => partTo got (j + 1) k || (hd k && refsTo (objW l got refs) j k))
  | 0, h => tabOf_congr fun k _ => ⟨rfl, by rw [partTo_succ]; simp [partTo, refsTo]⟩
  | j + 1, h => by
    have ih := objE_tab (hd := hd) (p := p) hg hW j (by omega)
    have hb := hg (j + 1) h
    rw [objE]
    have e : objE l got refs true (tabOf F hd (fun _ => false), p) j = (tabOf F hd (fun k => partTo got (j + 1) k || (hd k && refsTo (objW l got refs) j k)), (objE l got refs true (tabOf F hd (fun _ => false), p) j).2) := by rw [← ih]
    rw [e]
    simp only
    rw [effs_tab _ _ _ (hW j (by omega)), show got.getD (j + 1) 0 = (((got.getD (j + 1) 0).toNat : Nat) : Int) by omega, tabOf_mark (by omega)]
    refine tabOf_congr fun k hk => ⟨rfl, ?_⟩
    rw [partTo_succ got (j + 1), refsTo_succ]
    have h1 : ((((got.getD (j + 1) 0).toNat : Nat) : Int)).toNat = (got.getD (j + 1) 0).toNat := by omega
    have h2 : decide (0 < j + 1) = true := by simp
    rw [h2]
    have h3 : (k == (got.getD (j + 1) 0).toNat) = ((got.getD (j + 1) 0).toNat == k) := by rw [Bool.eq_iff_iff, beq_iff_eq, beq_iff_eq]; exact eq_comm
    rw [h3]
    generalize partTo got (j + 1) k = x1
    generalize hd k = x2
    generalize refsTo (objW l got refs) j k = x3
    generalize refTo (objW l got refs j) k = x4
    generalize ((got.getD (j + 1) 0).toNat == k) = x5
    clear e ih hb h h1 h2 h3 hW hg
    revert x1 x2 x3 x4 x5
    decide
theorem objF_tab {l : List (Nat × Nat)} {got : List Int} {refs : List Bool} {F : Nat} {hd : Nat → Bool} {p : PileS} (h1 : 1 ≤ got.length) (hg : ∀ i, i < got.length → 0 ≤ got.getD i 0 ∧ got.getD i 0 < F) (hW : WordsIn F (objW l got refs) got.length) : (objF l got refs true (tabOf F hd (fun _ => false), p)).1 = tabOf F hd (fun k => partTo got got.length k || (hd k && refsTo (objW l got refs) got.length k)) := by
  obtain ⟨j, hj⟩ : ∃ j, got.length = j + 1 := ⟨got.length - 1, by omega⟩
  unfold objF
  rw [show got.length - 1 = j by omega]
  have ih := objE_tab (hd := hd) (p := p) hg hW j (by omega)
  have e : objE l got refs true (tabOf F hd (fun _ => false), p) j = (tabOf F hd (fun k => partTo got (j + 1) k || (hd k && refsTo (objW l got refs) j k)), (objE l got refs true (tabOf F hd (fun _ => false), p) j).2) := by rw [← ih]
  rw [e, effs_tab _ _ _ (hW j (by omega)), hj]
  refine tabOf_congr fun k hk => ⟨rfl, ?_⟩
  rw [refsTo_succ]
  generalize partTo got (j + 1) k = x1
  generalize hd k = x2
  generalize refsTo (objW l got refs) j k = x3
  generalize refTo (objW l got refs j) k = x4
  clear e ih hW hg
  revert x1 x2 x3 x4
  decide
theorem arrFx_tab {l : List (Nat × Nat)} {got : List Int} {refs : List Bool} {n : Int} {F : Nat} {hd : Nat → Bool} {p : PileS} (hg : ∀ i, i < got.length → 0 ≤ got.getD i 0 ∧ got.getD i 0 < F) (hW : WordsIn F (arrW l got refs n) (got.length - 1)) : ∀ j, j + 1 < got.length → (arrFx l got refs n true (tabOf F hd (fun _ => false), p) j).1 = tabOf F hd (fun k => partTo got (j + 2) k || (hd k && refsTo (arrW l got refs n) j k))
  | 0, h => by
    have hb := hg 1 h
    rw [arrFx]
    simp only
    rw [show got.getD 1 0 = (((got.getD 1 0).toNat : Nat) : Int) by omega, tabOf_mark (by omega)]
    refine tabOf_congr fun k hk => ⟨rfl, ?_⟩
    have h3 : (k == (got.getD 1 0).toNat) = ((got.getD 1 0).toNat == k) := by rw [Bool.eq_iff_iff, beq_iff_eq, beq_iff_eq]; exact eq_comm
    rw [h3, partTo_succ, partTo_succ]
    simp [partTo, refsTo]
  | j + 1, h => by
    have ih := arrFx_tab (hd := hd) (p := p) hg hW j (by omega)
    have hb := hg (j + 2) h
    rw [arrFx]
    have e : arrFx l got refs n true (tabOf F hd (fun _ => false), p) j = (tabOf F hd (fun k => partTo got (j + 2) k || (hd k && refsTo (arrW l got refs n) j k)), (arrFx l got refs n true (tabOf F hd (fun _ => false), p) j).2) := by rw [← ih]
    rw [e]
    simp only
    rw [effs_tab _ _ _ (hW j (by omega)), show got.getD (j + 2) 0 = (((got.getD (j + 2) 0).toNat : Nat) : Int) by omega, tabOf_mark (by omega)]
    refine tabOf_congr fun k hk => ⟨rfl, ?_⟩
    have h2 : decide (0 < j + 2) = true := by simp
    have h3 : (k == (got.getD (j + 2) 0).toNat) = ((got.getD (j + 2) 0).toNat == k) := by rw [Bool.eq_iff_iff, beq_iff_eq, beq_iff_eq]; exact eq_comm
    rw [h3, partTo_succ got (j + 2), refsTo_succ, h2]
    generalize partTo got (j + 2) k = x1
    generalize hd k = x2
    generalize refsTo (arrW l got refs n) j k = x3
    generalize refTo (arrW l got refs n j) k = x4
    generalize ((got.getD (j + 2) 0).toNat == k) = x5
    clear e ih hb h h2 h3 hW hg
    revert x1 x2 x3 x4 x5
    decide
theorem arrF_tab {l : List (Nat × Nat)} {got : List Int} {refs : List Bool} {n : Int} {F : Nat} {hd : Nat → Bool} {p : PileS} (h1 : 1 ≤ got.length) (hg : ∀ i, i < got.length → 0 ≤ got.getD i 0 ∧ got.getD i 0 < F) (hW : WordsIn F (arrW l got refs n) (got.length - 1)) : (arrF l got refs n true (tabOf F hd (fun _ => false), p)).1 = tabOf F hd (fun k => partTo got got.length k || (hd k && refsTo (arrW l got refs n) (got.length - 1) k)) := by
  unfold arrF
  by_cases hl : got.length = 1
  · rw [if_pos hl, hl]
    exact tabOf_congr fun k _ => ⟨rfl, by rw [partTo_succ]; simp [partTo, refsTo]⟩
  · rw [if_neg hl]
    obtain ⟨j, hj⟩ : ∃ j, got.length = j + 2 := ⟨got.length - 2, by omega⟩
    rw [show got.length - 2 = j by omega, show got.length - 1 = j + 1 by omega]
    have ih := arrFx_tab (hd := hd) (p := p) hg hW j (by omega)
    have e : arrFx l got refs n true (tabOf F hd (fun _ => false), p) j = (tabOf F hd (fun k => partTo got (j + 2) k || (hd k && refsTo (arrW l got refs n) j k)), (arrFx l got refs n true (tabOf F hd (fun _ => false), p) j).2) := by rw [← ih]
    rw [e, effs_tab _ _ _ (hW j (by omega)), hj]
    refine tabOf_congr fun k hk => ⟨rfl, ?_⟩
    rw [refsTo_succ]
    generalize partTo got (j + 2) k = x1
    generalize hd k = x2
    generalize refsTo (arrW l got refs n) j k = x3
    generalize refTo (arrW l got refs n j) k = x4
    clear e ih hW hg
    revert x1 x2 x3 x4
    decide
/-! ### the table as it is laid -/
def tabTo (F j : Nat) : TabS := ⟨(List.range F).map fun k => if k < j then ⟨2, true, false⟩ else One.zero⟩
theorem tabTo_zero (F : Nat) : tabTo F 0 = TabS.fresh F := by
  unfold tabTo TabS.fresh
  congr 1
  apply List.ext_getElem?
  intro k
  rw [List.getElem?_map, List.getElem?_replicate]
  by_cases hk : k < F
  · rw [List.getElem?_range hk, if_pos hk]; simp
  · rw [List.getElem?_eq_none (by simpa using hk), if_neg hk]; rfl
theorem tabTo_all (F : Nat) : tabTo F F = tabOf F (fun _ => true) (fun _ => false) := by
  unfold tabTo tabOf
  congr 1
  exact range_congr fun k hk => by rw [if_pos hk]
theorem tabTo_set {F j : Nat} (hj : j < F) : (tabTo F j).set (j : Int) 2 true false = tabTo F (j + 1) := by
  have h := tabSet (t := tabTo F j) (k := j) (s := 2) (head := true) (sense := false) (by simp [tabTo]; exact hj) (by decide)
  refine (show (tabTo F j).set (j : Int) ((2 : Nat) : Int) true false = _ from h).trans ?_
  unfold tabTo
  congr 1
  simp only
  rw [range_set]
  refine range_congr fun k hk => ?_
  by_cases h1 : k = j
  · subst h1; rw [if_pos rfl, if_pos (by omega)]; rfl
  · rw [if_neg h1]
    by_cases h2 : k < j
    · rw [if_pos h2, if_pos (by omega)]
    · rw [if_neg h2, if_neg (by omega)]
theorem tabOf_unhead {F i : Nat} {hd : Nat → Bool} (hi : i < F) : (tabOf F hd (fun _ => false)).set (i : Int) 2 false false = tabOf F (fun k => hd k && !(i == k)) (fun _ => false) := by
  have h := tabSet (t := tabOf F hd (fun _ => false)) (k := i) (s := 2) (head := false) (sense := false) (by rw [tabOf_len]; exact hi) (by decide)
  refine (show (tabOf F hd (fun _ => false)).set (i : Int) ((2 : Nat) : Int) false false = _ from h).trans ?_
  unfold tabOf
  congr 1
  simp only
  rw [range_set]
  refine range_congr fun k hk => ?_
  by_cases h1 : k = i
  · subst h1; rw [if_pos rfl]; simp
  · rw [if_neg h1]
    have : (i == k) = false := by simp; exact fun h => h1 h.symm
    rw [this]
    simp
end Go.Proofs.Ythdijbkcjmeilaa
/-
  TraceAll: what stands behind a new object or array and references written into it: plain data. No walk here.
-/
namespace Go.Proofs.Ythdijbkcjmeilaa
open Go Go.RowKit
set_option linter.unusedVariables false
set_option linter.unusedSimpArgs false
set_option maxRecDepth 100000
/-- The words of a new array's first fragment. -/
theorem arrV_sent (s : Shp) (kind n at_ : Int) (got : List Int) (hg : 0 < got.length) {k : Nat} (hk : k < 8) : some (cx (arrV s kind n at_ got k)) = (sentWords kind n (arrMode n got) got at_)[k]? := by
  have := arrV_frag s kind n at_ got hg hk
  rw [Nat.zero_mul, Nat.zero_add, if_pos rfl] at this
  rw [this]
  exact sentF_get kind n at_ got hk
theorem arr_head {s : Shp} {kind n at_ : Int} {got : List Int} (hg : 0 < got.length) (hk : 0 ≤ kind ∧ kind ≤ 1000000) : arrV s kind n at_ got 1 = (floatOfInt .f64 kind, floatOfInt .f64 0) := by
  refine cx_inj ((arrV_sent s kind n at_ got hg (by decide)).trans ?_)
  show some (wHead kind 0) = _
  unfold wHead
  rw [if_neg (by omega)]
theorem arr_len {s : Shp} {kind n at_ : Int} {got : List Int} (hg : 0 < got.length) (hn : 0 ≤ n ∧ n ≤ 512) : arrV s kind n at_ got 2 = (floatOfInt .f64 n, 0) := by
  refine cx_inj ((arrV_sent s kind n at_ got hg (by decide)).trans ?_)
  show some (wWhole n) = _
  unfold wWhole
  rw [if_neg (by omega)]
theorem arr_mode {s : Shp} {kind n at_ : Int} {got : List Int} (hg : 0 < got.length) : arrV s kind n at_ got 3 = (floatOfInt .f64 (arrMode n got), 0) := by
  refine cx_inj ((arrV_sent s kind n at_ got hg (by decide)).trans ?_)
  show some (wWhole (arrMode n got)) = _
  have := arrMode_bd n got
  unfold wWhole
  rw [if_neg (by omega)]
theorem arr_inline {s : Shp} {kind n at_ : Int} {got : List Int} (hm : arrMode n got = 0) {j : Nat} (hj : j < 4) (hg : j + 1 < got.length) (hb : 0 ≤ got.getD (j + 1) 0 ∧ got.getD (j + 1) 0 ≤ 1000000) : arrV s kind n at_ got (4 + j) = (floatOfInt .f64 (got.getD (j + 1) 0 + 1), 4607182418800017408) := by
  refine cx_inj ((arrV_sent s kind n at_ got (by omega) (by omega)).trans ?_)
  rw [hm]
  have e : (sentWords kind n 0 got at_)[4 + j]? = some (sentIn got j) := by
    rcases (show j = 0 ∨ j = 1 ∨ j = 2 ∨ j = 3 by omega) with rfl | rfl | rfl | rfl <;> rfl
  rw [e]
  unfold sentIn wRef
  rw [if_pos hg, if_neg (by omega)]
/-- A reference's word. -/
def wR (i : Int) : Nat × Nat := (floatOfInt .f64 (i + 1), 4607182418800017408)
theorem cx_eq {p q : Nat × Nat} (h : cx p = cx q) : p = q := by
  obtain ⟨a, b⟩ := p
  obtain ⟨x, y⟩ := q
  unfold cx at h
  injection h with _ h1 h2
  simp only at h1 h2
  rw [h1, h2]
theorem cWords_same {c d : Cnf} (h : c.Same d) : cWords c = cWords d := by
  unfold cWords
  rw [same_check h, h.frags, h.spine, h.globals]
theorem side_run {got : List Int} (hb : ∀ i, i < got.length → got.getD i 0 < 1024) (hs : isSide got = true) : ∀ j, j < got.length → got.getD j 0 = got.getD 0 0 + j := by
  intro j hj
  have h := run_side hb (by omega)
  rw [hs] at h
  exact runTo_get h j (by omega)
theorem inB_bd {a : Int} {n : Nat} (h : inB a n = true) : 0 ≤ a ∧ a < n := by
  unfold inB at h
  simpa using h
theorem onceAt_frag {got : List Int} {at_ : Int} {i k : Nat} (hi : i < got.length) (hk : k < 8) : onceAt got at_ (i * 8 + k) = got.getD i 0 * 8 + k := by
  unfold onceAt
  rw [if_pos (by omega), show (i * 8 + k) / 8 = i by omega, show (i * 8 + k) % 8 = k by omega]
theorem onceAt_spine {got : List Int} {at_ : Int} {k : Nat} : onceAt got at_ (8 * got.length + k) = at_ + k := by
  unfold onceAt
  rw [if_neg (by omega), show 8 * got.length + k - 8 * got.length = k by omega]
theorem diff_inj {m : Nat} {AT : Nat → Int} (h : ∀ i, i < m → ∀ k, k < i → AT k ≠ AT i) {i j : Nat} (hi : i < m) (hj : j < m) (e : AT i = AT j) : i = j := by
  rcases Nat.lt_trichotomy i j with h1 | h1 | h1
  · exact absurd e (h j hj i h1)
  · exact h1
  · exact absurd e.symm (h i hi j h1)
theorem modeOf_cases (n : Int) (got : List Int) : (arrMode n got = 0 ∧ sData n ≤ 4) ∨ (arrMode n got = 2 ∧ 4 < sData n ∧ isSide got = true) ∨ (arrMode n got = 1 ∧ 4 < sData n) := by
  unfold arrMode modeOf
  split
  · exact Or.inl ⟨rfl, by omega⟩
  · split
    · exact Or.inr (Or.inl ⟨rfl, by omega, by assumption⟩)
    · exact Or.inr (Or.inr ⟨rfl, by omega⟩)
theorem wRef_cx2 {i : Int} (h : 0 ≤ i ∧ i ≤ 1000000) : wRef i = cx (wR i) := by
  unfold wRef
  rw [if_neg (by omega)]
  rfl
/-- Writes that are done or not. -/
def putIf (A : Nat → Int) (B : Nat → Bool) (V : Nat → Nat × Nat) (m : MemS) : Nat → MemS
  | 0 => m
  | k + 1 => if B k then (putIf A B V m k).tick.lay (A k) (V k) else putIf A B V m k
section
variable {A : Nat → Int} {B : Nat → Bool} {V : Nat → Nat × Nat} {m : MemS}
theorem putIf_len (k : Nat) : (putIf A B V m k).l.length = m.l.length := by
  induction k with
  | zero => rfl
  | succ k ih =>
    rw [putIf]
    split
    · exact (lay_len _ _ _).trans ih
    · exact ih
theorem putIf_count (k : Nat) : m.count ≤ (putIf A B V m k).count ∧ (putIf A B V m k).count ≤ m.count + k := by
  induction k with
  | zero => exact ⟨Int.le_refl _, by show m.count ≤ m.count + ((0 : Nat) : Int); omega⟩
  | succ k ih =>
    rw [putIf]
    split
    · rw [lay_count]
      show m.count ≤ (putIf A B V m k).count + 1 ∧ (putIf A B V m k).count + 1 ≤ m.count + ((k + 1 : Nat) : Int)
      omega
    · omega
theorem putIf_other {a : Int} : ∀ k, (∀ j, j < k → A j ≠ a) → (putIf A B V m k).peek a = m.peek a
  | 0, _ => rfl
  | k + 1, h => by
    have ih := putIf_other k (fun j hj => h j (by omega))
    rw [putIf]
    split
    · exact (peek_lay_other (h k (by omega))).trans ih
    · exact ih
theorem putIf_at {n : Nat} (hi : ∀ i j, i < n → j < n → A i = A j → i = j) (hb : ∀ i, i < n → inB (A i) m.l.length = true) : ∀ k, k ≤ n → ∀ i, i < n → (putIf A B V m k).peek (A i) = if decide (i < k) && B i then V i else m.peek (A i)
  | 0, _, i, hin => by simp [putIf]
  | k + 1, hk, i, hin => by
    have ih := putIf_at hi hb k (by omega) i hin
    rw [putIf]
    by_cases he : i = k
    · subst he
      cases hB : B i
      · rw [if_neg (by simp), ih, hB]; simp
      · rw [if_pos rfl]
        have := peek_lay_self (m := (putIf A B V m i).tick) (a := A i) (x := V i) (by show inB (A i) (putIf A B V m i).l.length = true; rw [putIf_len]; exact hb i hin)
        rw [this]; simp
    · have hd : decide (i < k + 1) = decide (i < k) := by
        rw [decide_eq_decide]; omega
      rw [hd, ← ih]
      split
      · exact (peek_lay_other (fun e => he (hi k i (by omega) hin e).symm)).trans rfl
      · rfl
end
/-- Where element or field k stands; whether it is a reference; whether a reference is given. -/
def aAddr (arr : Bool) (got : List Int) (k : Nat) : Int := if arr then got.getD (1 + k / 8) 0 * 8 + (k % 8 : Nat) else fAddr got k
def aRef (arr : Bool) (refs : List Bool) (k : Nat) : Bool := if arr then refs.getD 0 false else refs.getD k false
def aB (F : Nat) (arr : Bool) (refs : List Bool) (rs : List Int) (k : Nat) : Bool := decide (0 ≤ rs.getD k 0 ∧ rs.getD k 0 < F) && aRef arr refs k
def aV (rs : List Int) (k : Nat) : Nat × Nat := rW (rs.getD k 0)
def aMem (F : Nat) (arr : Bool) (got : List Int) (refs : List Bool) (rs : List Int) (m : MemS) (k : Nat) : MemS := putIf (aAddr arr got) (aB F arr refs rs) (aV rs) m k
/-- Some reference that is given refers to it. -/
def refd (F : Nat) (arr : Bool) (refs : List Bool) (rs : List Int) (k x : Nat) : Bool := (List.range k).any fun i => aB F arr refs rs i && ((rs.getD i 0).toNat == x)
theorem refd_succ (F : Nat) (arr : Bool) (refs : List Bool) (rs : List Int) (k x : Nat) : refd F arr refs rs (k + 1) x = (refd F arr refs rs k x || (aB F arr refs rs k && ((rs.getD k 0).toNat == x))) := by
  unfold refd; rw [List.range_succ, List.any_append]; simp
/-- The run of a trace over what stands there. -/
def Runs (cm : Cnf) (F : Nat) (got : List Int) (l : List (Nat × Nat)) (hd rd : Nat → Bool) : Prop :=
  ∃ N : Nat, 1 ≤ N ∧ N < 18 * got.length + 3 ∧ ∀ (cnt k : Int) (p : PileS), ∃ S k' c' p', TrW.go N ⟨TraceS.fresh cm (got.getD 0 0) true, ⟨l, cnt⟩, tabOf F hd (fun _ => false), p, k⟩ = ⟨S, ⟨l, c'⟩, tabOf F hd (fun x => partTo got got.length x || (hd x && rd x)), p', k'⟩ ∧ S.pc = 9 ∧ S.e = 0 ∧ S.steps = N
/-- All that the law's walk asks of a plan. -/
structure AllOk (c : Cnf) (at_ : Int) (got : List Int) (arr : Bool) (refs : List Bool) (w : World) (A : Option Addr) (m : Nat) (mn : Int) (xs : List Value) (V : Nat → Nat × Nat) : Prop where
  one : 1 ≤ got.length
  check : c.check = 0
  m4 : m ≤ 10000
  cells : CellsAt w A xs
  wr : Wr xs m (onceAt got at_) V
  diff : ∀ i, i < m → ∀ k, k < i → onceAt got at_ k ≠ onceAt got at_ i
  inb : ∀ i, i < m → inB (onceAt got at_ i) (cWords c).toNat = true
  gotb : ∀ i, i < got.length → 0 ≤ got.getD i 0 ∧ got.getD i 0 < c.frags
  top : 0 ≤ mn ∧ mn ≤ 512
  frag : ∀ k : Nat, (k : Int) < mn → (if arr then 1 + k / 8 else (Shp.placeF k).toNat) < got.length
  shape : if arr then refs.length = 1 else mn = refs.length ∧ ∀ A cap, Shp.may ⟨false, A, cap, refs⟩ = true
  run : ∀ (mm : MemS) (rs : List Int) (K : Nat), mm.l.length = (cWords c).toNat → (∀ i, i < m → mm.peek (onceAt got at_ i) = V i) → (K : Int) ≤ mn → ∀ (cm : Cnf) (hd : Nat → Bool), cm.Same c → Runs cm c.frags.toNat got (aMem c.frags.toNat arr got refs rs mm K).l hd (refd c.frags.toNat arr refs rs K)
theorem rW_index {i : Int} (h0 : 0 ≤ i) (h1 : i ≤ 1099511627776) : wIndex (rW i) = some i := wIndex_ref h0 h1
theorem fieldsL_has {refs : List Bool} {k : Nat} (hr : refs.getD k false = true) : ∀ n, k < n → Shp.placeW k ∈ fieldsL refs (Shp.placeF k) n
  | n + 1, h => by
    rw [fieldsL]
    by_cases hk : k = n
    · subst hk
      rw [hr, decide_eq_true rfl]
      simp
    · exact List.mem_append.2 (Or.inl (fieldsL_has hr n (by omega)))
end Go.Proofs.Ythdijbkcjmeilaa
/-
  TraceAll: a new object: what its trace does, whatever references are written into it. No walk here.
-/
namespace Go.Proofs.Ythdijbkcjmeilaa
open Go Go.RowKit
set_option linter.unusedVariables false
set_option linter.unusedSimpArgs false
set_option maxRecDepth 100000
theorem all_obj {c : Cnf} {kind at_ : Int} {got : List Int} {s : Shp} {w : World} {A : Option Addr} {m cap base : Nat} {is : Bool} (hz : wrongE c is s 0 false got = 0) (hk : 0 ≤ kind ∧ kind ≤ 1000000) (hat : c.shapeAt kind = some (false, s.refs)) (hl : got.length ≤ 1000)
    (hown : w.ownsRow base 48 2 (.slice A m cap) m (if wrongE c is s 0 false got = 0 then objWrites s kind got (isSide got) got.length else [])) : ∃ xs V, AllOk c at_ got false s.refs w A m s.refs.length xs V := by
  obtain ⟨xs0, V0, words0, HFL, -⟩ := far_laid2 hz hk hown
  have hdiff := diff_of HFL
  rw [if_pos hz] at hown
  have hn := hown.1
  rw [objWrites_length] at hn
  obtain rfl : m = 8 * got.length := by omega
  obtain ⟨fc, fa, -, farr, fl, fs, -⟩ := wrongE_fine hz
  have hg1 : 1 ≤ got.length := by omega
  obtain ⟨o1, o2⟩ := once_object (kind := kind) (at_ := at_) (n := 0) hz
  have hgb := got_bd hz
  have hfr := (Cnf.ranged (Cnf.check_zero fc).1).1.2
  have hfr0 := (Cnf.ranged (Cnf.check_zero fc).1).1.1
  obtain ⟨arr, As, caps, refs⟩ := s
  simp only at farr hat
  subst farr
  have hmay : ∀ A cap, Shp.may ⟨false, A, cap, refs⟩ = true := by
    intro A cap
    cases hm : Shp.may ⟨false, As, caps, refs⟩
    · unfold Shp.size at fs; rw [if_pos (Or.inl hm)] at fs; omega
    · exact hm
  have hsz : ∀ A cap, Shp.size ⟨false, A, cap, refs⟩ 0 = if (refs.length : Int) ≤ 6 then 1 else 1 + (refs.length : Int) / 7 := by
    intro A cap
    unfold Shp.size
    rw [if_neg (by rw [hmay]; simp), if_neg (by simp)]
    rfl
  have hsz0 := fl
  rw [hsz] at fl
  have hfld : ∀ k : Nat, k < refs.length → ∀ A cap, Shp.hasField ⟨false, A, cap, refs⟩ (k : Nat) = true := fun k h A cap => by
    unfold Shp.hasField Shp.len
    rw [hmay]
    simpa using h
  have hlen : ∀ k : Nat, k < refs.length → Shp.placeF k < got.length := fun k h => by
    unfold Shp.placeF
    split <;> split at fl <;> omega
  have hr40 : refs.length ≤ 40 ∧ refs.length ≤ 7 * got.length := by
    have := hmay none 0
    unfold Shp.may at this
    simp only [decide_eq_true_eq] at this
    exact ⟨this.1, by split at fl <;> omega⟩
  have hF0 : ∀ k : Nat, 0 ≤ Shp.placeF k := fun k => placeF_nonneg k
  have hib := once_in_obj (at_ := at_) hz
  have hw : cWords c = c.frags * 8 + c.spine + c.spine + c.globals ∧ 0 ≤ c.spine ∧ 0 ≤ c.globals := by
    obtain ⟨⟨_, _⟩, ⟨_, _⟩, ⟨_, _⟩, _⟩ := Cnf.ranged (Cnf.check_zero fc).1
    exact ⟨by unfold cWords; rw [if_pos fc], by omega, by omega⟩
  show ∃ xs V, AllOk c at_ got false refs w A (8 * got.length) refs.length xs V
  refine ⟨_, objV ⟨false, As, caps, refs⟩ kind got, hg1, fc, by omega, cellsAt_of_own hown, wr_object hz, o1.diff, hib, hgb, ⟨by omega, by omega⟩, fun k hk1 => ?_, ?_, fun mm rs K hmm hpk hK cm hd hs => ?_⟩
  · show (Shp.placeF k).toNat < got.length
    have := hlen k (by omega)
    have := hF0 k
    omega
  · exact ⟨rfl, hmay⟩
  have hKr : K ≤ refs.length := by
    have : (K : Int) ≤ (refs.length : Nat) := hK
    omega
  have hF : c.frags = ((c.frags.toNat : Nat) : Int) := by omega
  have hp : ∀ i k : Nat, i < got.length → k < 8 → mm.peek (got.getD i 0 * 8 + k) = objV ⟨false, As, caps, refs⟩ kind got (i * 8 + k) := fun i k hi hk8 => by
    have := hpk (i * 8 + k) (by omega)
    rw [onceAt_frag hi hk8] at this
    exact this
  have hinj : ∀ i j, i < refs.length → j < refs.length → aAddr false got i = aAddr false got j → i = j := fun i j hi hj e => fAddr_inj hdiff (hlen i hi) (hlen j hj) e
  have hinb : ∀ i, i < refs.length → inB (aAddr false got i) mm.l.length = true := fun i hi => by
    have h1 := hlen i hi
    have h2 := hF0 i
    have h3 := placeW_in i
    have h4 := hgb (Shp.placeF i).toNat (by omega)
    show inB (fAddr got i) mm.l.length = true
    unfold fAddr inB
    apply decide_eq_true
    rw [hmm]
    omega
  have hat2 := fun k (h : k < refs.length) => putIf_at (A := aAddr false got) (B := aB c.frags.toNat false refs rs) (V := aV rs) (m := mm) hinj hinb K hKr k h
  have hfl : ∀ k : Nat, k < refs.length → refs.getD k false = true → mm.peek (fAddr got k) = (0, 4607182418800017408) := fun k h hr => by
    have h1 := hlen k h
    have h2 := hF0 k
    have h3 := placeW_in k
    have h4 := hp (Shp.placeF k).toNat (Shp.placeW k).toNat (by omega) (by omega)
    unfold fAddr
    rw [show Shp.placeW (k : Int) = ((Shp.placeW k).toNat : Int) by omega, h4]
    exact objV_none (s := ⟨false, As, caps, refs⟩) (hfld k h As caps) h1 hr
  have hwv : ∀ k : Nat, k < refs.length → refs.getD k false = true → (aMem c.frags.toNat false got refs rs mm K).peek (fAddr got k) = if decide (k < K) && aB c.frags.toNat false refs rs k then rW (rs.getD k 0) else (0, 4607182418800017408) := fun k h hr => by
    rw [← hfl k h hr]
    exact hat2 k h
  have hwi : ∀ k : Nat, k < refs.length → refs.getD k false = true → wIndex ((aMem c.frags.toNat false got refs rs mm K).peek (fAddr got k)) = if decide (k < K) && aB c.frags.toNat false refs rs k then some (rs.getD k 0) else none := fun k h hr => by
    rw [hwv k h hr]
    split
    · rename_i hb
      rw [Bool.and_eq_true] at hb
      have h2 := hb.2
      unfold aB at h2
      simp only [Bool.and_eq_true, decide_eq_true_eq] at h2
      exact rW_index h2.1.1 (by omega)
    · exact wIndex_none_word
  obtain ⟨M, hM⟩ : ∃ M, M = aMem c.frags.toNat false got refs rs mm K := ⟨_, rfl⟩
  rw [← hM] at hwv hwi ⊢
  have HO : ObjIn cm M.l got kind (if isSide got = true then 1 else 0) refs := by
    refine ⟨hg1, (same_check hs).trans fc, fun i hi => by rw [hs.frags]; exact hgb i hi, (Cnf.Same.shapeAt hs kind).trans hat, hk, by split <;> decide, by rw [hsz]; exact fl, fun a h0 h1 => ?_, ?_, fun i hi => ?_, fun k h hr => ?_⟩
    · rw [hs.frags] at h1
      unfold inB
      apply decide_eq_true
      rw [hM, show (aMem c.frags.toNat false got refs rs mm K).l.length = mm.l.length from putIf_len K, hmm]
      omega
    · rw [hM]
      exact (putIf_other K (fun j hj => fAddr_head hdiff (hlen j (by omega)) (by omega))).trans ((hp 0 1 hg1 (by decide)).trans (by rw [Nat.zero_mul, Nat.zero_add]; exact obj_head (by omega) hk))
    · rw [hM]
      exact (putIf_other K (fun j hj => fAddr_link hdiff (hlen j (by omega)) (show i < got.length by omega))).trans ((hp i 0 (by omega) (by decide)).trans (obj_link hi (by have := hgb (i + 1) hi; omega)))
    · show wIs (M.peek (fAddr got k)) = true
      unfold wIs
      rw [hwi k h hr, hwv k h hr]
      split
      · rfl
      · simp
  have hmem : ∀ j v, v ∈ objW M.l got refs j → ∃ k : Nat, k < refs.length ∧ refs.getD k false = true ∧ Shp.placeF k = j ∧ v = M.peek (fAddr got k) := fun j v hv => by
    unfold objW wordsOf at hv
    obtain ⟨y, hy, rfl⟩ := List.mem_map.1 hv
    obtain ⟨k, h1, h2, h3, rfl⟩ := fieldsL_mem hy
    refine ⟨k, h1, h2, h3, ?_⟩
    unfold fAddr
    rw [h3, Int.toNat_natCast]
    rfl
  have hWI : WordsIn c.frags.toNat (objW M.l got refs) got.length := fun j hj v hv i hi => by
    obtain ⟨k, h1, h2, h3, rfl⟩ := hmem j v hv
    rw [hwi k h1 h2] at hi
    split at hi
    · rename_i hb
      injection hi with hi
      rw [Bool.and_eq_true] at hb
      have h2 := hb.2
      unfold aB at h2
      simp only [Bool.and_eq_true, decide_eq_true_eq] at h2
      omega
    · cases hi
  have href : ∀ x, refsTo (objW M.l got refs) got.length x = refd c.frags.toNat false refs rs K x := fun x => by
    rw [Bool.eq_iff_iff]
    unfold refsTo refTo refd
    simp only [List.any_eq_true, List.mem_range, Bool.and_eq_true, beq_iff_eq]
    constructor
    · rintro ⟨j, hj, v, hv, hx⟩
      obtain ⟨k, h1, h2, h3, rfl⟩ := hmem j v hv
      rw [hwi k h1 h2] at hx
      split at hx
      · rename_i hb
        injection hx with hx
        rw [Bool.and_eq_true, decide_eq_true_eq] at hb
        exact ⟨k, hb.1, hb.2, by omega⟩
      · cases hx
    · rintro ⟨k, h1, h2, h3⟩
      have h4 : refs.getD k false = true := by
        unfold aB at h2
        rw [Bool.and_eq_true] at h2
        exact h2.2
      have h5 := hlen k (by omega)
      have h6 := hF0 k
      refine ⟨(Shp.placeF k).toNat, by omega, M.peek (fAddr got k), ?_, ?_⟩
      · unfold objW wordsOf
        have h7 := fieldsL_has h4 refs.length (by omega)
        rw [show (((Shp.placeF (k : Int)).toNat : Nat) : Int) = Shp.placeF k by omega]
        exact List.mem_map.2 ⟨Shp.placeW k, h7, rfl⟩
      · rw [hwi k (by omega) h4, if_pos (by rw [Bool.and_eq_true, decide_eq_true_eq]; exact ⟨h1, h2⟩)]
        have h8 := h2
        unfold aB at h8
        simp only [Bool.and_eq_true, decide_eq_true_eq] at h8
        congr 1
        omega
  have hcost := obj_cost (l := M.l) (got := got) (refs := refs) (giv := (List.range refs.length).map (fun k => decide (k < K) && aB c.frags.toNat false refs rs k)) hg1 hlen (fun k h hr => by
    have hgv : ((List.range refs.length).map (fun k => decide (k < K) && aB c.frags.toNat false refs rs k)).getD k false = (decide (k < K) && aB c.frags.toNat false refs rs k) := by
      rw [List.getD_eq_getElem?_getD, List.getElem?_map, List.getElem?_range h]
      rfl
    rw [hgv]
    show cost1 (M.peek (fAddr got k)) = _
    unfold cost1
    rw [hwi k h hr]
    split <;> rfl)
  have hwn := wantN_le (refs := refs) (giv := (List.range refs.length).map (fun k => decide (k < K) && aB c.frags.toNat false refs rs k)) refs.length
  refine ⟨objN M.l got refs, by omega, by omega, fun cnt k p => ?_⟩
  obtain ⟨S, k', c', hrun, h9, he, hst⟩ := run_object HO true cnt k (tabOf c.frags.toNat hd (fun _ => false)) p
  have htab := (objF_tab (l := M.l) (refs := refs) (hd := hd) (p := p) hg1 (fun i hi => by have := hgb i hi; omega) hWI).trans (tabOf_congr (hd' := hd) (bl' := fun x => partTo got got.length x || (hd x && refd c.frags.toNat false refs rs K x)) (fun x hx => ⟨rfl, by rw [href x]⟩))
  rw [htab] at hrun
  exact ⟨S, k', c', (objF M.l got refs true (tabOf c.frags.toNat hd (fun _ => false), p)).2, hrun, h9, he, hst⟩
end Go.Proofs.Ythdijbkcjmeilaa
/-
  TraceAll: a new array: what its trace does, whatever references are written into it. No walk here.
-/
namespace Go.Proofs.Ythdijbkcjmeilaa
open Go Go.RowKit
set_option linter.unusedVariables false
set_option linter.unusedSimpArgs false
set_option maxRecDepth 100000
theorem sData_up {n k : Int} (h0 : 0 ≤ k) (h1 : k < n) (h2 : n ≤ 512) : k / 8 < sData n := by unfold sData; rw [if_neg (by omega)]; omega
theorem all_arr {c : Cnf} {kind n at_ : Int} {got : List Int} {s : Shp} {w : World} {A : Option Addr} {m cap base : Nat} {is : Bool} (hz : arrE c is s n got at_ = 0) (hk : 0 ≤ kind ∧ kind ≤ 1000000) (hat : c.shapeAt kind = some (true, s.refs)) (hl : got.length ≤ 1000)
    (hown : w.ownsRow base 48 2 (.slice A m cap) m (if arrE c is s n got at_ = 0 then arrWrites s kind n at_ got else [])) : ∃ xs V, AllOk c at_ got true s.refs w A m n xs V := by
  rw [if_pos hz] at hown
  have hn := hown.1
  obtain ⟨h0, hbeg⟩ := arrE_fine hz
  obtain ⟨z1, z2, z3, z4⟩ := arr_size h0
  have hd := sData_bd n
  rw [arrWrites_length _ _ _ _ _ (by omega)] at hn
  obtain rfl : m = arrLen n got := by omega
  obtain ⟨fc, fa, -, farr, fl, fs, -⟩ := wrongE_fine h0
  have hg1 : 1 ≤ got.length := by omega
  have hnb : 0 ≤ n ∧ n ≤ 512 := by
    unfold Shp.size at fs
    split at fs
    · omega
    · omega
  have hgb := got_bd h0
  have hfr := (Cnf.ranged (Cnf.check_zero fc).1).1.2
  have hfr0 := (Cnf.ranged (Cnf.check_zero fc).1).1.1
  have o1 := (once_array (kind := kind) hz).1
  have hib := once_in hz
  have hm8 : 8 * got.length ≤ arrLen n got ∧ arrLen n got ≤ 10000 := by unfold arrLen; split <;> omega
  have hfrag : ∀ k : Nat, (k : Int) < n → 1 + k / 8 < got.length := fun k hk1 => by
    have := sData_up (k := (k : Int)) (by omega) hk1 hnb.2
    omega
  have hgd : ∀ i j, i < got.length → j < got.length → got.getD i 0 = got.getD j 0 → i = j := fun i j hi hj e => by
    have h1 := diff_inj o1.diff (i := i * 8 + 0) (j := j * 8 + 0) (by omega) (by omega) (by rw [onceAt_frag hi (by decide), onceAt_frag hj (by decide), e])
    omega
  refine ⟨_, arrV s kind n at_ got, hg1, fc, hm8.2, cellsAt_of_own hown, wr_array hz, o1.diff, hib, hgb, hnb, fun k hk1 => hfrag k hk1, z1, fun mm rs K hmm hpk hK cm hd2 hs => ?_⟩
  have hF : c.frags = ((c.frags.toNat : Nat) : Int) := by omega
  have hw : cWords c = c.frags * 8 + c.spine + c.spine + c.globals ∧ 0 ≤ c.spine ∧ c.spine ≤ 8192 ∧ 0 ≤ c.globals ∧ c.globals ≤ 100000 := by
    obtain ⟨⟨_, _⟩, ⟨_, _⟩, ⟨_, _⟩, _⟩ := Cnf.ranged (Cnf.check_zero fc).1
    exact ⟨by unfold cWords; rw [if_pos fc], by omega, by omega, by omega, by omega⟩
  have hp : ∀ i k : Nat, i < got.length → k < 8 → mm.peek (got.getD i 0 * 8 + k) = arrV s kind n at_ got (i * 8 + k) := fun i k hi hk8 => by
    have := hpk (i * 8 + k) (by omega)
    rw [onceAt_frag hi hk8] at this
    exact this
  have hAd : ∀ k : Nat, aAddr true got k = got.getD (1 + k / 8) 0 * 8 + ((k % 8 : Nat) : Int) := fun k => rfl
  obtain ⟨d, hd0⟩ := Int.eq_ofNat_of_zero_le hnb.1
  have hinj : ∀ i j, i < d → j < d → aAddr true got i = aAddr true got j → i = j := fun i j hi hj e => by
    rw [hAd, hAd] at e
    have h1 := hfrag i (by omega)
    have h2 := hfrag j (by omega)
    have h3 := hgd (1 + i / 8) (1 + j / 8) h1 h2 (by omega)
    have h4 : ((i % 8 : Nat) : Int) = ((j % 8 : Nat) : Int) := by rw [h3] at e; omega
    omega
  have hinb : ∀ i, i < d → inB (aAddr true got i) mm.l.length = true := fun i hi => by
    have h1 := hfrag i (by omega)
    have h4 := hgb (1 + i / 8) h1
    rw [hAd]
    unfold inB
    apply decide_eq_true
    rw [hmm]
    omega
  have hKr : K ≤ d := by omega
  have hat2 := fun k (h : k < d) => putIf_at (A := aAddr true got) (B := aB c.frags.toNat true s.refs rs) (V := aV rs) (m := mm) hinj hinb K hKr k h
  have hfl : ∀ k : Nat, k < d → s.refs.getD 0 false = true → mm.peek (aAddr true got k) = (0, 4607182418800017408) := fun k h hr => by
    have h1 := hfrag k (by omega)
    rw [hAd, hp (1 + k / 8) (k % 8) h1 (by omega), arrV_frag s kind n at_ got h1 (by omega), if_neg (by omega)]
    unfold dataF
    rw [hr]
    rfl
  have hout : ∀ a : Int, (∀ k : Nat, k < d → aAddr true got k ≠ a) → (aMem c.frags.toNat true got s.refs rs mm K).peek a = mm.peek a := fun a h => putIf_other K (fun j hj => h j (by omega))
  have hh : ∀ x : Nat, x < 8 → (aMem c.frags.toNat true got s.refs rs mm K).peek (got.getD 0 0 * 8 + x) = arrV s kind n at_ got x := fun x hx => by
    rw [hout _ (fun k hk1 e => by
      rw [hAd] at e
      have h1 := hfrag k (by omega)
      have h2 := hgd (1 + k / 8) 0 h1 (by omega) (by omega)
      omega)]
    have := hp 0 x hg1 hx
    rw [Nat.zero_mul, Nat.zero_add] at this
    exact this
  have hwv : ∀ k : Nat, k < d → s.refs.getD 0 false = true → (aMem c.frags.toNat true got s.refs rs mm K).peek (aAddr true got k) = if decide (k < K) && aB c.frags.toNat true s.refs rs k then rW (rs.getD k 0) else (0, 4607182418800017408) := fun k h hr => by
    rw [← hfl k h hr]
    exact hat2 k h
  have hwi : ∀ k : Nat, k < d → s.refs.getD 0 false = true → wIndex ((aMem c.frags.toNat true got s.refs rs mm K).peek (aAddr true got k)) = if decide (k < K) && aB c.frags.toNat true s.refs rs k then some (rs.getD k 0) else none := fun k h hr => by
    rw [hwv k h hr]
    split
    · rename_i hb
      rw [Bool.and_eq_true] at hb
      have h2 := hb.2
      unfold aB at h2
      simp only [Bool.and_eq_true, decide_eq_true_eq] at h2
      exact rW_index h2.1.1 (by omega)
    · exact wIndex_none_word
  have hsp : ∀ k : Nat, k < got.length + 1 → arrMode n got = 1 → (aMem c.frags.toNat true got s.refs rs mm K).peek (at_ + k) = arrV s kind n at_ got (8 * got.length + k) := fun k hk1 h1 => by
    have hm2 : arrLen n got = 8 * got.length + (got.length + 1) := by unfold arrLen; rw [if_pos h1]
    have hb := begins_in (hbeg h1)
    rw [hout _ (fun q hq e => by
      rw [hAd] at e
      have h1 := hfrag q (by omega)
      have h2 := hgb (1 + q / 8) h1
      omega)]
    have h5 := hpk (8 * got.length + k) (by omega)
    rw [onceAt_spine] at h5
    exact h5
  obtain ⟨M, hM⟩ : ∃ M, M = aMem c.frags.toNat true got s.refs rs mm K := ⟨_, rfl⟩
  have hMl : M.l.length = (cWords c).toNat := by rw [hM]; exact (putIf_len K).trans hmm
  rw [← hM] at hwv hwi hh hsp ⊢
  clear hout hat2 hM
  have hsent : ∀ k : Nat, k < 8 → some (cx (M.peek (got.getD 0 0 * 8 + k))) = (sentWords kind n (arrMode n got) got at_)[k]? := fun k hk8 => by
    rw [hh k hk8]
    exact arrV_sent s kind n at_ got (by omega) hk8
  have HA : ArrIn cm M.l got kind n (arrMode n got) at_ s.refs := by
    refine ⟨hg1, (same_check hs).trans fc, fun i hi => by rw [hs.frags]; exact hgb i hi, (Cnf.Same.shapeAt hs kind).trans hat, hk, hnb, z2, fun a h0 h1 => ?_, (hh 1 (by decide)).trans (arr_head (by omega) hk), (hh 2 (by decide)).trans (arr_len (by omega) hnb), (hh 3 (by decide)).trans (arr_mode (by omega)), ?_, fun hr j x hx hjn => ?_⟩
    · rw [hs.frags] at h1
      unfold inB
      apply decide_eq_true
      rw [hMl]
      omega
    · rcases modeOf_cases n got with ⟨h1, h2⟩ | ⟨h1, h2, h3⟩ | ⟨h1, h2⟩
      · refine Or.inl ⟨h1, h2, fun j hj hj1 => ?_⟩
        have := hgb (j + 1) hj1
        have h5 := hh (4 + j) (by omega)
        rw [arr_inline h1 hj hj1 (by omega)] at h5
        rw [show got.getD 0 0 * 8 + ((4 : Int) + (j : Int)) = got.getD 0 0 * 8 + ((4 + j : Nat) : Int) by omega]
        exact h5
      · refine Or.inr (Or.inl ⟨h1, h2, ?_, side_run (fun i hi => by have := hgb i hi; omega) h3⟩)
        have h5 := hsent 4 (by decide)
        rw [h1] at h5
        have h6 : some (cx (M.peek (got.getD 0 0 * 8 + 4))) = some (wRef (got.getD 1 0)) := h5
        injection h6 with h6
        have := hgb 1 (by omega)
        rw [wRef_cx2 (by omega)] at h6
        exact cx_eq h6
      · have hb := begins_in (hbeg h1)
        have hspn : s.spine n = sData n + 2 := by unfold Shp.spine; rw [z3, z4]; simp; omega
        refine Or.inr (Or.inr ⟨h1, h2, ?_, by omega, by rw [cWords_same hs]; omega, by omega, fun j hj => ?_⟩)
        · have h5 := hsent 4 (by decide)
          rw [h1] at h5
          have h6 : some (cx (M.peek (got.getD 0 0 * 8 + 4))) = some (wWhole at_) := h5
          injection h6 with h6
          unfold wWhole at h6
          rw [if_neg (by omega)] at h6
          exact cx_eq h6
        · have hm2 : arrLen n got = 8 * got.length + (got.length + 1) := by unfold arrLen; rw [if_pos h1]
          have h5 := hsp (j + 2) (by omega) h1
          have h7 := hib (8 * got.length + (j + 2)) (by omega)
          rw [onceAt_spine] at h7
          rw [show at_ + 2 + (j : Int) = at_ + ((j + 2 : Nat) : Int) by omega, hMl]
          refine ⟨h7, ?_⟩
          show M.peek (at_ + ((j + 2 : Nat) : Int)) = _
          rw [h5]
          have e := (arrWrites_spine s kind n at_ got h1 hg1 (k := j + 2) (by omega)).2
          have h8 := (wr_array (kind := kind) hz).w (8 * got.length + (j + 2)) (by omega)
          rw [e] at h8
          injection h8 with h8
          have h9 : spineV got (j + 2) = wRef (got.getD (j + 1) 0) := by unfold spineV; rw [if_neg (by omega), if_neg (by omega)]; rfl
          rw [h9] at h8
          have := hgb (j + 1) hj
          rw [wRef_cx2 (by omega)] at h8
          exact (cx_eq h8).symm
    · have hkd : j * 8 + x < d := by omega
      have ha : aAddr true got (j * 8 + x) = got.getD (j + 1) 0 * 8 + x := by
        rw [hAd, show 1 + (j * 8 + x) / 8 = j + 1 by omega, show (j * 8 + x) % 8 = x by omega]
      show wIs (M.peek (got.getD (j + 1) 0 * 8 + x)) = true
      rw [← ha]
      unfold wIs
      rw [hwi _ hkd hr, hwv _ hkd hr]
      split
      · rfl
      · simp
  have hmem : ∀ j v, v ∈ arrW M.l got s.refs n j → ∃ k : Nat, k < d ∧ s.refs.getD 0 false = true ∧ v = M.peek (aAddr true got k) := fun j v hv => by
    unfold arrW wordsOf at hv
    obtain ⟨y, hy, rfl⟩ := List.mem_map.1 hv
    obtain ⟨h1, x, rfl, h2, h3⟩ := arrL_mem hy
    refine ⟨j * 8 + x, by omega, h1, ?_⟩
    rw [hAd, show 1 + (j * 8 + x) / 8 = j + 1 by omega, show (j * 8 + x) % 8 = x by omega]
    rfl
  have hWI : WordsIn c.frags.toNat (arrW M.l got s.refs n) (got.length - 1) := fun j hj v hv i hi => by
    obtain ⟨k, h1, h2, rfl⟩ := hmem j v hv
    rw [hwi k h1 h2] at hi
    split at hi
    · rename_i hb
      injection hi with hi
      rw [Bool.and_eq_true] at hb
      have h2 := hb.2
      unfold aB at h2
      simp only [Bool.and_eq_true, decide_eq_true_eq] at h2
      omega
    · cases hi
  have href : ∀ x, refsTo (arrW M.l got s.refs n) (got.length - 1) x = refd c.frags.toNat true s.refs rs K x := fun x => by
    rw [Bool.eq_iff_iff]
    unfold refsTo refTo refd
    simp only [List.any_eq_true, List.mem_range, Bool.and_eq_true, beq_iff_eq]
    constructor
    · rintro ⟨j, hj, v, hv, hx⟩
      obtain ⟨k, h1, h2, rfl⟩ := hmem j v hv
      rw [hwi k h1 h2] at hx
      split at hx
      · rename_i hb
        injection hx with hx
        rw [Bool.and_eq_true, decide_eq_true_eq] at hb
        exact ⟨k, hb.1, hb.2, by omega⟩
      · cases hx
    · rintro ⟨k, h1, h2, h3⟩
      have h4 : s.refs.getD 0 false = true := by
        unfold aB at h2
        rw [Bool.and_eq_true] at h2
        exact h2.2
      have h5 := hfrag k (by omega)
      refine ⟨k / 8, by omega, M.peek (aAddr true got k), ?_, ?_⟩
      · unfold arrW wordsOf
        refine List.mem_map.2 ⟨((k % 8 : Nat) : Int), ?_, ?_⟩
        · unfold arrL
          rw [if_pos h4]
          unfold numsL
          exact List.mem_map.2 ⟨k % 8, List.mem_range.2 (by omega), rfl⟩
        · rw [hAd, Nat.add_comm 1 (k / 8)]
          rfl
      · rw [hwi k (by omega) h4, if_pos (by rw [Bool.and_eq_true, decide_eq_true_eq]; exact ⟨h1, h2⟩)]
        have h8 := h2
        unfold aB at h8
        simp only [Bool.and_eq_true, decide_eq_true_eq] at h8
        congr 1
        omega
  refine ⟨arrN M.l got s.refs n (arrMode n got), ?_, arrN_le _ _ _ _ _ hg1, fun cnt k p => ?_⟩
  · unfold arrN
    split
    · omega
    · have : 3 ≤ arrC M.l got s.refs n (arrMode n got) 0 := by rw [arrC]; omega
      have hmono : ∀ j, 3 ≤ arrC M.l got s.refs n (arrMode n got) j := fun j => by
        induction j with
        | zero => exact this
        | succ j ih => rw [arrC]; omega
      have := hmono (got.length - 2)
      omega
  obtain ⟨S, k', c', hrun, h9, he, hst⟩ := run_array HA true cnt k (tabOf c.frags.toNat hd2 (fun _ => false)) p
  have htab := (arrF_tab (l := M.l) (refs := s.refs) (n := n) (hd := hd2) (p := p) hg1 (fun i hi => by have := hgb i hi; omega) hWI).trans (tabOf_congr (hd' := hd2) (bl' := fun x => partTo got got.length x || (hd2 x && refd c.frags.toNat true s.refs rs K x)) (fun x hx => ⟨rfl, by rw [href x]⟩))
  rw [htab] at hrun
  exact ⟨S, k', c', (arrF M.l got s.refs n true (tabOf c.frags.toNat hd2 (fun _ => false), p)).2, hrun, h9, he, hst⟩
end Go.Proofs.Ythdijbkcjmeilaa
/-
  spolaw16.TraceAll.
-/
namespace Go.Proofs.Ythdijbkcjmeilaa
open Go Go.RowKit
set_option linter.unusedVariables false
set_option linter.unnecessarySimpa false
set_option linter.unusedSimpArgs false
theorem int_at {w : World} {b o : Nat} {l : List Int} {k : Nat} (h : CellsAt w (some ⟨b, o, none⟩) (l.map (Value.int .i64))) (hk : k < l.length) : w.cell? ⟨b, o + k, none⟩ = some (.int .i64 (l.getD k 0)) ∧ b < w.heap.size := by
  obtain ⟨b2, o2, h2, hb2, hc2⟩ := ints_at h hk
  simp only [Option.some.injEq, Addr.mk.injEq] at h2
  obtain ⟨rfl, rfl, -⟩ := h2
  exact ⟨hc2 k hk, hb2⟩
theorem bool_at {w : World} {A : Option Addr} {l : List Bool} (h : CellsAt w A (l.map Value.bool)) {k : Nat} (hk : k < l.length) : ∃ b o, A = some ⟨b, o, none⟩ ∧ b < w.heap.size ∧ w.cell? ⟨b, o + k, none⟩ = some (.bool (l.getD k false)) := by
  obtain ⟨b, o, hA, hb, hc⟩ := h.cases (by simp; omega)
  exact ⟨b, o, hA, hb, hc k _ (by simp [List.getD, List.getElem?_eq_getElem hk])⟩
theorem i64_and7 (n : Int) : bits .and .i64 n 7 = n % 8 := by
  have h7 : (BitVec.ofInt 64 7).toNat = 2 ^ 3 - 1 := by decide
  have key : (BitVec.ofInt 64 n &&& BitVec.ofInt 64 7).toNat = (n % ((2 ^ 64 : Nat) : Int)).toNat % 2 ^ 3 := by
    rw [BitVec.toNat_and, BitVec.toNat_ofInt, h7, Nat.and_two_pow_sub_one_eq_mod]
  show IntKind.i64.wrap ((BitVec.ofInt 64 n &&& BitVec.ofInt 64 7).toNat : Nat) = n % 8
  rw [key, IntKind.wrap_i64]
  omega
theorem infoBoolT : (Try.prog.info? 4).map (fun i => (i.zero, i.size, i.bytes)) = some (some (.bool false), 1, 1) := by kernel_rfl
theorem made_metT {k : Nat} (hk : k ≤ 1048576) : ∀ w, (Instr.makeSlice 35 (.int .i64 (k : Int)) (.int .i64 (k : Int))).run Try.prog w = .ok (.slice (some ⟨w.heap.size, 0, none⟩) k k) (w.alloc (.cells (Array.replicate k (Value.bool false)) 4)) := by
  have hz := infoBoolT
  cases hi : Try.prog.info? 4 with
  | none => rw [hi] at hz; cases hz
  | some i0 =>
    rw [hi] at hz
    simp only [Option.map_some, Option.some.injEq, Prod.mk.injEq] at hz
    obtain ⟨hz0, hz1, hz2⟩ := hz
    intro w
    have hmk := run_made (P := Try.prog) 35 4 i0 _ 1 1 Try.underlying35 hi hz0 hz1 hz2 k (by omega) (by omega) w
    rw [hmk]
    rw [show (Value.bool false).cells = #[Value.bool false] from rfl, made_one, List.toArray_replicate]
/-- The law's own row: whether each is to be black. -/
def wantV (F : Nat) (f : Nat → Bool) : List Value := (List.range F).map fun k => Value.bool (f k)
theorem wantV_zero (F : Nat) : wantV F (fun _ => false) = List.replicate F (Value.bool false) := by
  unfold wantV
  rw [List.map_const', List.length_range]
theorem wantV_get {F k : Nat} {f : Nat → Bool} (hk : k < F) : (wantV F f)[k]? = some (.bool (f k)) := by
  unfold wantV
  rw [List.getElem?_map, List.getElem?_range hk]
  rfl
theorem wantV_set (F i : Nat) (f : Nat → Bool) : (wantV F f).set i (.bool true) = wantV F (fun k => f k || i == k) := by
  unfold wantV
  rw [range_set]
  refine range_congr fun k hk => ?_
  by_cases h : k = i
  · subst h; rw [if_pos rfl]; simp
  · rw [if_neg h]
    show Value.bool (f k) = Value.bool (f k || i == k)
    rw [beq_eq_false_iff_ne.2 (Ne.symm h), Bool.or_false]
theorem wantV_new (g : GW) (F : Nat) : Blk (g.to 340 (g.w.alloc (.cells (Array.replicate F (Value.bool false)) 4))) 340 g.w.heap.size 4 (wantV F (fun _ => false)) := by
  have h := Blk.new g 340 4 (wantV F (fun _ => false))
  rw [wantV_zero] at h ⊢
  rw [List.toArray_replicate] at h
  exact h
theorem wantV_congr {F : Nat} {f f' : Nat → Bool} (h : ∀ k, k < F → f k = f' k) : wantV F f = wantV F f' := range_congr fun k hk => by rw [h k hk]
set_option maxRecDepth 100000 in
set_option maxHeartbeats 4000000 in
theorem tall_any (c : Cnf) (kind n at_ : Int) (A : Option Addr) (cap : Nat) (got : List Int) (E : Option Addr) (capr : Nat) (rs : List Int) (w : World) (hc : c.Ok w) (hg : CellsAt w A (got.map (Value.int .i64))) (hcap : got.length ≤ cap) (hcm : cap ≤ 9223372036854775807) (hw : ∀ x ∈ got, -9223372036854775808 ≤ x ∧ x ≤ 9223372036854775807) (hr : CellsAt w E (rs.map (Value.int .i64))) (hcr : rs.length ≤ capr) (hcrm : capr ≤ 9223372036854775807) (hwr : ∀ x ∈ rs, -9223372036854775808 ≤ x ∧ x ≤ 9223372036854775807) (hn0 : -9223372036854775808 ≤ n ∧ n ≤ 9223372036854775807) (ha0 : -9223372036854775808 ≤ at_ ∧ at_ ≤ 9223372036854775807) :
    Calls Try.prog 6 #[c.val, .int .i64 kind, .int .i64 n, .slice A got.length cap, .int .i64 at_, .slice E rs.length capr] w (Gives (.bool true) w) := by
  have H := Lib.hid (fun w' => first16_any w')
  have HSH := Lib.hid (fun w' (he : Ext w w') => shape_any c kind w' (hc.ext he))
  have HFW := Lib.hid (fun w' (he : Ext w w') => few_any c w' (hc.ext he))
  have HRC := Lib.hid (fun w' (he : Ext w w') => rcheck_any c w' (hc.ext he))
  have HOB := Lib.hid (fun (h : got.length ≤ 200) w' (he : Ext w w') => object_any c kind A cap got w' (hc.ext he) (hg.ext he) (by omega) hw)
  have HAR := Lib.hid (fun (h : got.length ≤ 200) w' (he : Ext w w') => array_any c kind n at_ A cap got w' (hc.ext he) (hg.ext he) (by omega) hcap hcm hw ha0.1 ha0.2)
  have HG := Lib.hid hg
  have HCO := Lib.hid hc
  have HRS := Lib.hid hr
  have HWR := Lib.hid hwr
  clear hc hg hw hr hwr
  unfold Cnf.val at HSH HFW HRC HOB HAR ⊢
  go_enter Try.func6, Try.ntmps6
  go_wp2_with fail
  have HB := Lib.hid (later_blk w (.cells #[.int .i64 c.frags, .int .i64 c.spine, .int .i64 c.globals, .int .i64 c.threads, .int .i64 c.locals, .int .i64 c.cache, .int .i64 c.stack, .int .i64 c.low, .slice c.A c.shapes.length c.cap] 24))
  have HW0 := Lib.hid (show Ext w (w.alloc (.cells #[.int .i64 c.frags, .int .i64 c.spine, .int .i64 c.globals, .int .i64 c.threads, .int .i64 c.locals, .int .i64 c.cache, .int .i64 c.stack, .int .i64 c.low, .slice c.A c.shapes.length c.cap] 24)) by (repeat (first | (with_reducible assumption) | (with_reducible exact Ext.refl _) | (with_reducible exact Ext.more _ _ _ _) | (with_reducible apply Ext.alloc) | (with_reducible apply Ext.patch) | (with_reducible apply Ext.drew) | (with_reducible apply Ext.drewN) | (with_reducible refine Ext.setCell ?_ (by first | assumption | exact Nat.le_refl _ | exact Nat.le_add_right _ _) _))))
  refine (H.out _).mono ?_
  rintro e w1 ⟨rfl, hE⟩
  have HE1 := Lib.hid (show Ext (w.alloc (.cells #[.int .i64 c.frags, .int .i64 c.spine, .int .i64 c.globals, .int .i64 c.threads, .int .i64 c.locals, .int .i64 c.cache, .int .i64 c.stack, .int .i64 c.low, .slice c.A c.shapes.length c.cap] 24)) w1 from hE)
  clear hE
  have g0 : w1.cell? ⟨w.heap.size, 0, none⟩ = some (.int .i64 c.frags) := (by simp only [World.cell?, (HB.out _ HE1.out)]; rfl)
  have g1 : w1.cell? ⟨w.heap.size, 1, none⟩ = some (.int .i64 c.spine) := (by simp only [World.cell?, (HB.out _ HE1.out)]; rfl)
  have g2 : w1.cell? ⟨w.heap.size, 2, none⟩ = some (.int .i64 c.globals) := (by simp only [World.cell?, (HB.out _ HE1.out)]; rfl)
  have g3 : w1.cell? ⟨w.heap.size, 3, none⟩ = some (.int .i64 c.threads) := (by simp only [World.cell?, (HB.out _ HE1.out)]; rfl)
  have g4 : w1.cell? ⟨w.heap.size, 4, none⟩ = some (.int .i64 c.locals) := (by simp only [World.cell?, (HB.out _ HE1.out)]; rfl)
  have g5 : w1.cell? ⟨w.heap.size, 5, none⟩ = some (.int .i64 c.cache) := (by simp only [World.cell?, (HB.out _ HE1.out)]; rfl)
  have g6 : w1.cell? ⟨w.heap.size, 6, none⟩ = some (.int .i64 c.stack) := (by simp only [World.cell?, (HB.out _ HE1.out)]; rfl)
  have g7 : w1.cell? ⟨w.heap.size, 7, none⟩ = some (.int .i64 c.low) := (by simp only [World.cell?, (HB.out _ HE1.out)]; rfl)
  have g8 : w1.cell? ⟨w.heap.size, 8, none⟩ = some (.slice c.A c.shapes.length c.cap) := (by simp only [World.cell?, (HB.out _ HE1.out)]; rfl)
  have gl : w.heap.size < w1.heap.size := (Array.getElem?_eq_some_iff.1 (HB.out _ HE1.out)).1
  go_wp2_with fail
  refine (HSH.out _ (HW0.out.trans HE1.out)).mono ?_
  rintro e w2 ⟨s', rfl, hs, hfr, hok, hE⟩
  have HE2 := Lib.hid (HE1.out.trans (show Ext w1 w2 from hE))
  have HS := Lib.hid hs
  have HOK := Lib.hid hok
  clear hE hfr hs hok HE1 HSH
  clear g0 g1 g2 g3 g4 g5 g6 g7 g8 gl
  generalize hI : (c.shapeAt kind).isSome = is
  have HI := Lib.hid hI
  clear hI
  obtain ⟨arr', A', cap', refs'⟩ := s'
  unfold Shp.val
  have g0 : w2.cell? ⟨w.heap.size, 0, none⟩ = some (.int .i64 c.frags) := (by simp only [World.cell?, (HB.out _ HE2.out)]; rfl)
  have g1 : w2.cell? ⟨w.heap.size, 1, none⟩ = some (.int .i64 c.spine) := (by simp only [World.cell?, (HB.out _ HE2.out)]; rfl)
  have g2 : w2.cell? ⟨w.heap.size, 2, none⟩ = some (.int .i64 c.globals) := (by simp only [World.cell?, (HB.out _ HE2.out)]; rfl)
  have g3 : w2.cell? ⟨w.heap.size, 3, none⟩ = some (.int .i64 c.threads) := (by simp only [World.cell?, (HB.out _ HE2.out)]; rfl)
  have g4 : w2.cell? ⟨w.heap.size, 4, none⟩ = some (.int .i64 c.locals) := (by simp only [World.cell?, (HB.out _ HE2.out)]; rfl)
  have g5 : w2.cell? ⟨w.heap.size, 5, none⟩ = some (.int .i64 c.cache) := (by simp only [World.cell?, (HB.out _ HE2.out)]; rfl)
  have g6 : w2.cell? ⟨w.heap.size, 6, none⟩ = some (.int .i64 c.stack) := (by simp only [World.cell?, (HB.out _ HE2.out)]; rfl)
  have g7 : w2.cell? ⟨w.heap.size, 7, none⟩ = some (.int .i64 c.low) := (by simp only [World.cell?, (HB.out _ HE2.out)]; rfl)
  have g8 : w2.cell? ⟨w.heap.size, 8, none⟩ = some (.slice c.A c.shapes.length c.cap) := (by simp only [World.cell?, (HB.out _ HE2.out)]; rfl)
  have gl : w.heap.size < w2.heap.size := (Array.getElem?_eq_some_iff.1 (HB.out _ HE2.out)).1
  have HBS := Lib.hid (later_blk w2 (.cells #[.bool arr', .slice A' refs'.length cap'] 37))
  go_wp2_with fail
  refine (HRC.out _ (HW0.out.trans (HE2.out.alloc _))).mono ?_
  rintro e w3 ⟨rfl, hE⟩
  have HX3 := Lib.hid (show Ext (w2.alloc (.cells #[.bool arr', .slice A' refs'.length cap'] 37)) w3 from hE)
  have HE3 := Lib.hid ((HE2.out.alloc _).trans HX3.out)
  clear hE HRC HE2
  clear g0 g1 g2 g3 g4 g5 g6 g7 g8 gl
  by_cases hck : c.check = 0
  case neg =>
    have hckb : (c.check != 0) = true := by simp [hck]
    as_aux_lemma =>
      go_wp2_with fail
      refine (H.out _).mono ?_
      rintro e w9 ⟨rfl, hE9⟩
      have HE9 := Lib.hid (HE3.out.trans (show Ext w3 w9 from hE9))
      clear hE9
      go_wp2_with fail
      go_ret
      exact Gives.bool rfl (HW0.out.trans HE9.out)
  have HCK := Lib.hid hck
  rw [hck]
  have g0 : w3.cell? ⟨w.heap.size, 0, none⟩ = some (.int .i64 c.frags) := (by simp only [World.cell?, (HB.out _ HE3.out)]; rfl)
  have g1 : w3.cell? ⟨w.heap.size, 1, none⟩ = some (.int .i64 c.spine) := (by simp only [World.cell?, (HB.out _ HE3.out)]; rfl)
  have g2 : w3.cell? ⟨w.heap.size, 2, none⟩ = some (.int .i64 c.globals) := (by simp only [World.cell?, (HB.out _ HE3.out)]; rfl)
  have g3 : w3.cell? ⟨w.heap.size, 3, none⟩ = some (.int .i64 c.threads) := (by simp only [World.cell?, (HB.out _ HE3.out)]; rfl)
  have g4 : w3.cell? ⟨w.heap.size, 4, none⟩ = some (.int .i64 c.locals) := (by simp only [World.cell?, (HB.out _ HE3.out)]; rfl)
  have g5 : w3.cell? ⟨w.heap.size, 5, none⟩ = some (.int .i64 c.cache) := (by simp only [World.cell?, (HB.out _ HE3.out)]; rfl)
  have g6 : w3.cell? ⟨w.heap.size, 6, none⟩ = some (.int .i64 c.stack) := (by simp only [World.cell?, (HB.out _ HE3.out)]; rfl)
  have g7 : w3.cell? ⟨w.heap.size, 7, none⟩ = some (.int .i64 c.low) := (by simp only [World.cell?, (HB.out _ HE3.out)]; rfl)
  have g8 : w3.cell? ⟨w.heap.size, 8, none⟩ = some (.slice c.A c.shapes.length c.cap) := (by simp only [World.cell?, (HB.out _ HE3.out)]; rfl)
  have gl : w.heap.size < w3.heap.size := (Array.getElem?_eq_some_iff.1 (HB.out _ HE3.out)).1
  go_wp2_with fail
  refine (HFW.out _ (HW0.out.trans HE3.out)).mono ?_
  rintro e w4 ⟨rfl, hE⟩
  have HX4 := Lib.hid (HX3.out.trans (show Ext w3 w4 from hE))
  have HE4 := Lib.hid (HE3.out.trans (show Ext w3 w4 from hE))
  clear hE HFW HE3 HX3
  clear g0 g1 g2 g3 g4 g5 g6 g7 g8 gl
  cases Few c
  · as_aux_lemma =>
      go_wp2_with fail
      refine (H.out _).mono ?_
      rintro e w9 ⟨rfl, hE9⟩
      have HE9 := Lib.hid (HE4.out.trans (show Ext w4 w9 from hE9))
      clear hE9
      go_wp2_with fail
      go_ret
      exact Gives.bool rfl (HW0.out.trans HE9.out)
  cases is
  · as_aux_lemma =>
      go_wp2_with fail
      refine (H.out _).mono ?_
      rintro e w9 ⟨rfl, hE9⟩
      have HE9 := Lib.hid (HE4.out.trans (show Ext w4 w9 from hE9))
      clear hE9
      go_wp2_with fail
      go_ret
      exact Gives.bool rfl (HW0.out.trans HE9.out)
  by_cases hl : 200 < got.length
  · as_aux_lemma =>
      have hl' : decide ((200 : Int) < got.length) = true := decide_eq_true (by omega)
      go_wp2_with fail
      refine (H.out _).mono ?_
      rintro e w9 ⟨rfl, hE9⟩
      have HE9 := Lib.hid (HE4.out.trans (show Ext w4 w9 from hE9))
      clear hE9
      go_wp2_with fail
      go_ret
      exact Gives.bool rfl (HW0.out.trans HE9.out)
  have hl' : decide ((200 : Int) < got.length) = false := decide_eq_false (by omega)
  by_cases hlr : 600 < rs.length
  · as_aux_lemma =>
      have hlr' : decide ((600 : Int) < rs.length) = true := decide_eq_true (by omega)
      go_wp2_with fail
      refine (H.out _).mono ?_
      rintro e w9 ⟨rfl, hE9⟩
      have HE9 := Lib.hid (HE4.out.trans (show Ext w4 w9 from hE9))
      clear hE9
      go_wp2_with fail
      go_ret
      exact Gives.bool rfl (HW0.out.trans HE9.out)
  have hlr' : decide ((600 : Int) < rs.length) = false := decide_eq_false (by omega)
  have g0 : w4.cell? ⟨w.heap.size, 0, none⟩ = some (.int .i64 c.frags) := (by simp only [World.cell?, (HB.out _ HE4.out)]; rfl)
  have g1 : w4.cell? ⟨w.heap.size, 1, none⟩ = some (.int .i64 c.spine) := (by simp only [World.cell?, (HB.out _ HE4.out)]; rfl)
  have g2 : w4.cell? ⟨w.heap.size, 2, none⟩ = some (.int .i64 c.globals) := (by simp only [World.cell?, (HB.out _ HE4.out)]; rfl)
  have g3 : w4.cell? ⟨w.heap.size, 3, none⟩ = some (.int .i64 c.threads) := (by simp only [World.cell?, (HB.out _ HE4.out)]; rfl)
  have g4 : w4.cell? ⟨w.heap.size, 4, none⟩ = some (.int .i64 c.locals) := (by simp only [World.cell?, (HB.out _ HE4.out)]; rfl)
  have g5 : w4.cell? ⟨w.heap.size, 5, none⟩ = some (.int .i64 c.cache) := (by simp only [World.cell?, (HB.out _ HE4.out)]; rfl)
  have g6 : w4.cell? ⟨w.heap.size, 6, none⟩ = some (.int .i64 c.stack) := (by simp only [World.cell?, (HB.out _ HE4.out)]; rfl)
  have g7 : w4.cell? ⟨w.heap.size, 7, none⟩ = some (.int .i64 c.low) := (by simp only [World.cell?, (HB.out _ HE4.out)]; rfl)
  have g8 : w4.cell? ⟨w.heap.size, 8, none⟩ = some (.slice c.A c.shapes.length c.cap) := (by simp only [World.cell?, (HB.out _ HE4.out)]; rfl)
  have gl : w.heap.size < w4.heap.size := (Array.getElem?_eq_some_iff.1 (HB.out _ HE4.out)).1
  have m0 : w4.cell? ⟨w2.heap.size, 0, none⟩ = some (.bool arr') := by simp only [World.cell?, HBS.out _ HX4.out]; rfl
  have hz3 : w2.heap.size < w4.heap.size := (Array.getElem?_eq_some_iff.1 (HBS.out _ HX4.out)).1
  go_wp2_with fail
  refine (HOB.out (by omega) _ (HW0.out.trans HE4.out)).mono ?_
  rintro e w5 ⟨s5, l, nl, rfl, hs5, hown, hE⟩
  have HX5 := Lib.hid (HX4.out.trans (show Ext w4 w5 from hE))
  have HE5 := Lib.hid (HE4.out.trans (show Ext w4 w5 from hE))
  clear hE HOB HE4 m0 hz3 HX4
  clear g0 g1 g2 g3 g4 g5 g6 g7 g8 gl
  have hz5 : w2.heap.size < w5.heap.size := (Array.getElem?_eq_some_iff.1 (HBS.out _ HX5.out)).1
  have HKI := Lib.hid (fun (h : c.check = 0) => kind_in HI.out h)
  have m0 : w5.cell? ⟨w2.heap.size, 0, none⟩ = some (.bool arr') := by simp only [World.cell?, HBS.out _ HX5.out]; rfl
  have m1 : w5.cell? ⟨w2.heap.size, 1, none⟩ = some (.slice A' refs'.length cap') := by simp only [World.cell?, HBS.out _ HX5.out]; rfl
  have HATC := Lib.hid (show c.shapeAt kind = some (arr', refs') from by
    have h1 := HI.out
    have h2 := HS.out
    cases h3 : c.shapeAt kind with
    | none => rw [h3] at h1; cases h1
    | some p => rw [h3] at h2; rw [h2]; rfl)
  have hmx : c.shapes.length ≤ 1000000 := by
    have h9 := (Cnf.check_zero HCK.out).2.2.1
    unfold within at h9
    simp only [decide_eq_true_eq] at h9
    omega
  have hl5 : s5.refs = refs' := by
    have h1 := HS.out
    rw [← hs5] at h1
    exact (congrArg Prod.snd h1).symm
  rw [HI.out] at hown
  rw [HI.out]
  cases arr'
  · obtain ⟨Al, cl, rfl⟩ := own_form hown
    by_cases hev : wrongE c true s5 0 false got = 0
    case neg =>
      as_aux_lemma =>
        generalize (wrongE c true s5 0 false got) = e5 at *
        have g0 : w5.cell? ⟨w.heap.size, 0, none⟩ = some (.int .i64 c.frags) := (by simp only [World.cell?, (HB.out _ HE5.out)]; rfl)
        have g1 : w5.cell? ⟨w.heap.size, 1, none⟩ = some (.int .i64 c.spine) := (by simp only [World.cell?, (HB.out _ HE5.out)]; rfl)
        have g2 : w5.cell? ⟨w.heap.size, 2, none⟩ = some (.int .i64 c.globals) := (by simp only [World.cell?, (HB.out _ HE5.out)]; rfl)
        have g3 : w5.cell? ⟨w.heap.size, 3, none⟩ = some (.int .i64 c.threads) := (by simp only [World.cell?, (HB.out _ HE5.out)]; rfl)
        have g4 : w5.cell? ⟨w.heap.size, 4, none⟩ = some (.int .i64 c.locals) := (by simp only [World.cell?, (HB.out _ HE5.out)]; rfl)
        have g5 : w5.cell? ⟨w.heap.size, 5, none⟩ = some (.int .i64 c.cache) := (by simp only [World.cell?, (HB.out _ HE5.out)]; rfl)
        have g6 : w5.cell? ⟨w.heap.size, 6, none⟩ = some (.int .i64 c.stack) := (by simp only [World.cell?, (HB.out _ HE5.out)]; rfl)
        have g7 : w5.cell? ⟨w.heap.size, 7, none⟩ = some (.int .i64 c.low) := (by simp only [World.cell?, (HB.out _ HE5.out)]; rfl)
        have g8 : w5.cell? ⟨w.heap.size, 8, none⟩ = some (.slice c.A c.shapes.length c.cap) := (by simp only [World.cell?, (HB.out _ HE5.out)]; rfl)
        have gl : w.heap.size < w5.heap.size := (Array.getElem?_eq_some_iff.1 (HB.out _ HE5.out)).1
        go_wp2_with fail
        have HFL := Lib.hid (fill_nil c 300 ⟨fun _ => 0, w5⟩ (HCO.out.ext (HW0.out.trans HE5.out)))
        unfold Cnf.val at HFL
        refine HFL.out.mono ?_
        rintro e w6 ⟨own6, bm, rfl, m6, r6⟩
        have M6 := Lib.hid m6
        clear m6 r6 HFL
        clear g0 g1 g2 g3 g4 g5 g6 g7 g8 gl
        have hevb : (e5 != 0) = true := by simp [hev]
        have HE6 := Lib.hid (HE5.out.trans M6.out.toExt)
        have g0 : w6.cell? ⟨w.heap.size, 0, none⟩ = some (.int .i64 c.frags) := (by simp only [World.cell?, (HB.out _ HE6.out)]; rfl)
        have g1 : w6.cell? ⟨w.heap.size, 1, none⟩ = some (.int .i64 c.spine) := (by simp only [World.cell?, (HB.out _ HE6.out)]; rfl)
        have g2 : w6.cell? ⟨w.heap.size, 2, none⟩ = some (.int .i64 c.globals) := (by simp only [World.cell?, (HB.out _ HE6.out)]; rfl)
        have g3 : w6.cell? ⟨w.heap.size, 3, none⟩ = some (.int .i64 c.threads) := (by simp only [World.cell?, (HB.out _ HE6.out)]; rfl)
        have g4 : w6.cell? ⟨w.heap.size, 4, none⟩ = some (.int .i64 c.locals) := (by simp only [World.cell?, (HB.out _ HE6.out)]; rfl)
        have g5 : w6.cell? ⟨w.heap.size, 5, none⟩ = some (.int .i64 c.cache) := (by simp only [World.cell?, (HB.out _ HE6.out)]; rfl)
        have g6 : w6.cell? ⟨w.heap.size, 6, none⟩ = some (.int .i64 c.stack) := (by simp only [World.cell?, (HB.out _ HE6.out)]; rfl)
        have g7 : w6.cell? ⟨w.heap.size, 7, none⟩ = some (.int .i64 c.low) := (by simp only [World.cell?, (HB.out _ HE6.out)]; rfl)
        have g8 : w6.cell? ⟨w.heap.size, 8, none⟩ = some (.slice c.A c.shapes.length c.cap) := (by simp only [World.cell?, (HB.out _ HE6.out)]; rfl)
        have gl : w.heap.size < w6.heap.size := (Array.getElem?_eq_some_iff.1 (HB.out _ HE6.out)).1
        have HSN := Lib.hid (show ∀ w', Ext w6 w' → Calls Try.prog 17 #[.int .i64 c.frags, .int .i64 c.stack] w' (fun e w'' => ∃ A, (∃ k, e = .returned (.tuple #[.pointer A, .int .i64 k])) ∧ Ext w' w'') from fun w' _ => (shd_new c.frags c.stack 330 331 332 ⟨own6, w'⟩).mono (fun e w'' hh => by
          unfold ShdMade at hh
          split at hh
          · obtain ⟨own', b, bt, bp, rfl, m, _⟩ := hh
            exact ⟨_, ⟨_, rfl⟩, m.toExt⟩
          · obtain ⟨rfl, he⟩ := hh
            exact ⟨_, ⟨_, rfl⟩, he⟩))
        go_wp2_with fail
        refine (HSN.out _ (by (repeat (first | (with_reducible assumption) | (with_reducible exact Ext.refl _) | (with_reducible exact Ext.more _ _ _ _) | apply Ext.alloc | refine Ext.setCell ?_ (by first | exact Nat.le_refl _ | exact Nat.le_add_right _ _ | assumption) _ | apply Ext.patch | apply Ext.drew | apply Ext.drewN)))).mono ?_
        rintro e w7 ⟨Ax, ⟨kx, rfl⟩, hX⟩
        have HE7 := Lib.hid (HE6.out.trans (show Ext w6 w7 from hX))
        clear hX
        go_wp2_with fail
        refine (H.out _).mono ?_
        rintro e w9 ⟨rfl, hE9⟩
        have HE9 := Lib.hid (HE7.out.trans (show Ext w7 w9 from hE9))
        clear hE9
        go_wp2_with fail
        go_ret
        exact Gives.bool rfl (HW0.out.trans HE9.out)
    case pos =>
      obtain ⟨xs, V, hLD⟩ := all_obj (at_ := at_) hev (HKI.out HCK.out) (by rw [hl5]; exact HATC.out) (by omega) hown
      rw [hl5] at hLD
      have HLD := Lib.hid hLD
      rw [hev]
      clear hown hs5 hl5 hev hLD
      as_aux_lemma =>
        have hg1 := HLD.out.one
        have hnl := HLD.out.m4
        have HRG := Lib.hid (show ((4 ≤ c.frags ∧ c.frags ≤ 1024) ∧ 1 ≤ c.stack ∧ c.stack ≤ 256) from by
          obtain ⟨h1, h2, h3, h4, h5, h6, h7, h8⟩ := Cnf.ranged (Cnf.check_zero HCK.out).1
          omega)
        have g0 : w5.cell? ⟨w.heap.size, 0, none⟩ = some (.int .i64 c.frags) := (by simp only [World.cell?, (HB.out _ HE5.out)]; rfl)
        have g1 : w5.cell? ⟨w.heap.size, 1, none⟩ = some (.int .i64 c.spine) := (by simp only [World.cell?, (HB.out _ HE5.out)]; rfl)
        have g2 : w5.cell? ⟨w.heap.size, 2, none⟩ = some (.int .i64 c.globals) := (by simp only [World.cell?, (HB.out _ HE5.out)]; rfl)
        have g3 : w5.cell? ⟨w.heap.size, 3, none⟩ = some (.int .i64 c.threads) := (by simp only [World.cell?, (HB.out _ HE5.out)]; rfl)
        have g4 : w5.cell? ⟨w.heap.size, 4, none⟩ = some (.int .i64 c.locals) := (by simp only [World.cell?, (HB.out _ HE5.out)]; rfl)
        have g5 : w5.cell? ⟨w.heap.size, 5, none⟩ = some (.int .i64 c.cache) := (by simp only [World.cell?, (HB.out _ HE5.out)]; rfl)
        have g6 : w5.cell? ⟨w.heap.size, 6, none⟩ = some (.int .i64 c.stack) := (by simp only [World.cell?, (HB.out _ HE5.out)]; rfl)
        have g7 : w5.cell? ⟨w.heap.size, 7, none⟩ = some (.int .i64 c.low) := (by simp only [World.cell?, (HB.out _ HE5.out)]; rfl)
        have g8 : w5.cell? ⟨w.heap.size, 8, none⟩ = some (.slice c.A c.shapes.length c.cap) := (by simp only [World.cell?, (HB.out _ HE5.out)]; rfl)
        have gl : w.heap.size < w5.heap.size := (Array.getElem?_eq_some_iff.1 (HB.out _ HE5.out)).1
        go_wp2_with fail
        have HFL := Lib.hid (fill_nil c 300 ⟨fun _ => 0, w5⟩ (HCO.out.ext (HW0.out.trans HE5.out)))
        unfold Cnf.val at HFL
        refine HFL.out.mono ?_
        rintro e w6 ⟨own6, bm, rfl, m6, r6⟩
        have M6 := Lib.hid (m6.mono (S := fun x => x ≠ 0) (fun _ => False.elim))
        have HC6 := Lib.hid ((show Seg ⟨fun _ => 0, w5⟩ 0 Al xs from ⟨HLD.out.cells, fun _ _ _ => rfl⟩).keep m6 id)
        have R6 := Lib.hid (show MemAt ⟨own6, w6⟩ 300 bm (memPut ⟨List.replicate (cWords c).toNat (0, 0), 0⟩ (onceAt got at_) V 0) from r6)
        clear m6 r6 HFL m0 m1 hz5
        clear g0 g1 g2 g3 g4 g5 g6 g7 g8 gl
        have HE6 := Lib.hid (HE5.out.trans (ext_of_ne M6.out))
        have g0 : w6.cell? ⟨w.heap.size, 0, none⟩ = some (.int .i64 c.frags) := (by simp only [World.cell?, (HB.out _ HE6.out)]; rfl)
        have g1 : w6.cell? ⟨w.heap.size, 1, none⟩ = some (.int .i64 c.spine) := (by simp only [World.cell?, (HB.out _ HE6.out)]; rfl)
        have g2 : w6.cell? ⟨w.heap.size, 2, none⟩ = some (.int .i64 c.globals) := (by simp only [World.cell?, (HB.out _ HE6.out)]; rfl)
        have g3 : w6.cell? ⟨w.heap.size, 3, none⟩ = some (.int .i64 c.threads) := (by simp only [World.cell?, (HB.out _ HE6.out)]; rfl)
        have g4 : w6.cell? ⟨w.heap.size, 4, none⟩ = some (.int .i64 c.locals) := (by simp only [World.cell?, (HB.out _ HE6.out)]; rfl)
        have g5 : w6.cell? ⟨w.heap.size, 5, none⟩ = some (.int .i64 c.cache) := (by simp only [World.cell?, (HB.out _ HE6.out)]; rfl)
        have g6 : w6.cell? ⟨w.heap.size, 6, none⟩ = some (.int .i64 c.stack) := (by simp only [World.cell?, (HB.out _ HE6.out)]; rfl)
        have g7 : w6.cell? ⟨w.heap.size, 7, none⟩ = some (.int .i64 c.low) := (by simp only [World.cell?, (HB.out _ HE6.out)]; rfl)
        have g8 : w6.cell? ⟨w.heap.size, 8, none⟩ = some (.slice c.A c.shapes.length c.cap) := (by simp only [World.cell?, (HB.out _ HE6.out)]; rfl)
        have gl : w.heap.size < w6.heap.size := (Array.getElem?_eq_some_iff.1 (HB.out _ HE6.out)).1
        go_wp2_with fail
        refine (shd_new c.frags c.stack 330 331 332 ⟨own6, w6⟩).mono ?_
        rintro e w7 hh
        unfold ShdMade at hh
        rw [if_pos (by have := HRG.out; omega)] at hh
        obtain ⟨own7, bs, bt, bp, rfl, m7, s7⟩ := hh
        have M7 := Lib.hid (M6.out.trans (m7.mono (S := fun x => x ≠ 0) (fun _ => False.elim)))
        have HC7 := Lib.hid (HC6.out.keep m7 id)
        have R7 := Lib.hid (R6.out.keep m7 id)
        have S7 := Lib.hid (show ShdAt ⟨own7, w7⟩ 330 bs bt 331 bp 332 (tabTo c.frags.toNat 0) ⟨[], c.stack, false⟩ 0 from by rw [tabTo_zero]; exact s7)
        clear m7 s7 M6 HC6 R6 HE6
        clear g0 g1 g2 g3 g4 g5 g6 g7 g8 gl
        have hgz : ((got.length : Int) == 0) = false := beq_eq_false_iff_ne.2 (by omega)
        have s0 := S7.out.blk.cell (i := 0) rfl
        have sl := S7.out.blk.lt
        go_wp2_with fail
        refine (shade_table bt _).mono ?_
        rintro e w8 ⟨rfl, hE8⟩
        obtain ⟨own8, m8⟩ := Mod.ofExtT (show Ext w7 w8 from hE8) own7
        have S8 := Lib.hid (S7.out.keep m8 id id id)
        have R8 := Lib.hid (R7.out.keep m8 id)
        have HC8 := Lib.hid (HC7.out.keep m8 id)
        have M8 := Lib.hid (M7.out.trans (m8.mono (S := fun x => x ≠ 0) (fun _ => False.elim)))
        clear hE8 m8 s0 sl S7 R7 HC7 M7
        have HWT := Lib.hid HLD.out.wr
        have HPK := Lib.hid (fun i (hi : i < nl) => memPut_peek (m := ⟨List.replicate (cWords c).toNat (0, 0), 0⟩) (AT := onceAt got at_) (V := V) (n := nl) (fun i hi => by simpa using HLD.out.inb i hi) HLD.out.diff nl (Nat.le_refl _) i hi)
        have HLN := Lib.hid (fun k => (memPut_len ⟨List.replicate (cWords c).toNat (0, 0), 0⟩ (onceAt got at_) V k).trans (show (List.replicate (cWords c).toNat ((0, 0) : Nat × Nat)).length = (cWords c).toNat by simp))
        have HCT := Lib.hid (fun k => memPut_count ⟨List.replicate (cWords c).toNat (0, 0), 0⟩ (onceAt got at_) V k)
        simp only at HCT
        generalize hMP : memPut ⟨List.replicate (cWords c).toNat (0, 0), 0⟩ (onceAt got at_) V = MP at *
        have HMP := Lib.hid (fun k => show MP (k + 1) = (MP k).tick.lay (onceAt got at_ k) (V k) by rw [← hMP]; rfl)
        clear hMP HKI
        go_wp2_with fail
        go_loopw [21] (fun i wr => ∃ (j : Nat) (own : Nat → Nat), j ≤ nl ∧ i = .int .i64 j ∧ Hid (Mod (fun x => x = 300) ⟨own8, w8⟩ ⟨own, wr⟩) ∧ Hid (MemAt ⟨own, wr⟩ 300 bm (MP j))) (fun i _ => nl - (intOf i).toNat)
        case atStart => exact ⟨0, own8, Nat.zero_le _, rfl, Lib.hid (Mod.refl _ _), R8⟩
        case round =>
          obtain ⟨j, own3, hj, rfl, M3, R3⟩ := hrel
          obtain ⟨w3, rfl⟩ : ∃ w3 : World, w3 = wr := ⟨_, rfl⟩
          by_cases hlt : j < nl
          · as_aux_lemma =>
              obtain ⟨bl, ol, hA, hbl, hcl⟩ := (HC8.out.keep M3.out (by decide)).cells.cases (by rw [HWT.out.len]; omega)
              have l0 := hcl _ _ (HWT.out.at_ j hlt)
              have l1 := hcl _ _ (HWT.out.w j hlt)
              rw [← Nat.add_assoc] at l1
              have HK1 := Lib.hid (HMP.out j)
              have hcb := HCT.out j
              have HC3 := Lib.hid (show 0 ≤ (MP j).count ∧ (MP j).count ≤ 1099511627776 by rw [hcb]; omega)
              have HW := Lib.hid (fun X => mem_write (GW.pt ⟨own3, w3⟩ X) 300 bm (onceAt got at_ j) (V j).1 (V j).2 (MP j) (R3.out.pt X) HC3.out)
              subst hA
              simp only at hbl l0 l1
              generalize V j = pq at *
              obtain ⟨p, q⟩ := pq
              generalize onceAt got at_ j = a at *
              clear hcl hcb
              go_wp2_with fail
              refine wp_region_mixed [true, true, true, true, true, true, true, true, true, true, true, false] 1 11 (by kernel_rfl) (by kernel_rfl) (by kernel_rfl) ?_ (by decide) (by decide) (by decide) (by kernel_rfl) ?_
              · intro c a d v w h; cases d <;> exact h
              intro X00
              simp only [pickOps]
              repeat (go_big_quiet_step (fail))
              refine wpQuiet_nil (fun X0 => ?_)
              clear X00
              refine wpAnyM_tailL rfl (by kernel_rfl) (fun X2 => ?_)
              simp only [List.drop_succ_cons, List.drop_zero]
              go_wp2_with fail
              refine (HW.out _).mono ?_
              rintro e w4b ⟨rfl, own4, m4, r4⟩
              have M4 := Lib.hid m4
              have R4 := Lib.hid r4
              clear m4 r4
              go_wp2_with fail
              go_roundw
              case rel => exact ⟨j + 1, own4, by omega, by go_num, Lib.hid ((M3.out.trans (Mod.pt (Mod.refl _ _) _)).trans M4.out), Lib.hid (by rw [HK1.out]; exact R4.out)⟩
              case measure => simp [intOf]; omega
          · as_aux_lemma =>
              obtain rfl : j = nl := by omega
              have S3 := Lib.hid (S8.out.keep M3.out (by decide) (by decide) (by decide))
              have MN3 := Lib.hid (M8.out.trans (M3.out.mono (S := fun x => x ≠ 0) (fun x hx => by omega)))
              have HMF := Lib.hid (show (MP j).l.length = (cWords c).toNat ∧ (∀ i, i < j → (MP j).peek (onceAt got at_ i) = V i) ∧ 0 ≤ (MP j).count ∧ (MP j).count ≤ 10000 from ⟨HLN.out j, HPK.out, by have := HCT.out j; omega, by have := HCT.out j; omega⟩)
              clear S8 M8 M3 HC8 HWT HPK HLN HCT HMP
              generalize MP j = MZ at *
              obtain ⟨F, hF⟩ : ∃ F : Nat, F = c.frags.toNat := ⟨_, rfl⟩
              have HFQ := Lib.hid (show c.frags = (F : Int) ∧ 4 ≤ F ∧ F ≤ 1024 from by have := HRG.out; omega)
              have HFT := Lib.hid hF
              rw [← hF] at S3
              clear hF
              have HBX := Lib.hid (fun (own : Nat → Nat) (wr : World) (m : Mod (fun x => x ≠ 0) ⟨fun _ => 0, w5⟩ ⟨own, wr⟩) => HB.out wr (HE5.out.trans (ext_of_ne m)))
              have HGX := Lib.hid (fun (own : Nat → Nat) (wr : World) (m : Mod (fun x => x ≠ 0) ⟨fun _ => 0, w5⟩ ⟨own, wr⟩) => HG.out.ext (HW0.out.trans (HE5.out.trans (ext_of_ne m))))
              have HRX := Lib.hid (fun (own : Nat → Nat) (wr : World) (m : Mod (fun x => x ≠ 0) ⟨fun _ => 0, w5⟩ ⟨own, wr⟩) => HRS.out.ext (HW0.out.trans (HE5.out.trans (ext_of_ne m))))
              go_wp2_with fail
              go_loopw [22] (fun i wr => ∃ (q : Nat) (own : Nat → Nat), q ≤ F ∧ i = .int .i64 q ∧ Hid (Mod (fun x => x ≠ 0) ⟨fun _ => 0, w5⟩ ⟨own, wr⟩) ∧ Hid (MemAt ⟨own, wr⟩ 300 bm MZ) ∧ Hid (ShdAt ⟨own, wr⟩ 330 bs bt 331 bp 332 (tabTo F q) ⟨[], c.stack, false⟩ 0)) (fun i _ => F - (intOf i).toNat)
              case atStart => exact ⟨0, own3, Nat.zero_le _, rfl, MN3, R3, S3⟩
              case round =>
                obtain ⟨q, own14, hq, rfl, M14, R14, S14⟩ := hrel
                obtain ⟨w14, rfl⟩ : ∃ w14 : World, w14 = wr := ⟨_, rfl⟩
                have hfq := HFQ.out
                have hfn := HFQ.out.2.2
                clear MN3 R3 S3
                have g0 : w14.cell? ⟨w.heap.size, 0, none⟩ = some (.int .i64 c.frags) := (by simp only [World.cell?, (HBX.out _ _ M14.out)]; rfl)
                have g1 : w14.cell? ⟨w.heap.size, 1, none⟩ = some (.int .i64 c.spine) := (by simp only [World.cell?, (HBX.out _ _ M14.out)]; rfl)
                have g2 : w14.cell? ⟨w.heap.size, 2, none⟩ = some (.int .i64 c.globals) := (by simp only [World.cell?, (HBX.out _ _ M14.out)]; rfl)
                have g3 : w14.cell? ⟨w.heap.size, 3, none⟩ = some (.int .i64 c.threads) := (by simp only [World.cell?, (HBX.out _ _ M14.out)]; rfl)
                have g4 : w14.cell? ⟨w.heap.size, 4, none⟩ = some (.int .i64 c.locals) := (by simp only [World.cell?, (HBX.out _ _ M14.out)]; rfl)
                have g5 : w14.cell? ⟨w.heap.size, 5, none⟩ = some (.int .i64 c.cache) := (by simp only [World.cell?, (HBX.out _ _ M14.out)]; rfl)
                have g6 : w14.cell? ⟨w.heap.size, 6, none⟩ = some (.int .i64 c.stack) := (by simp only [World.cell?, (HBX.out _ _ M14.out)]; rfl)
                have g7 : w14.cell? ⟨w.heap.size, 7, none⟩ = some (.int .i64 c.low) := (by simp only [World.cell?, (HBX.out _ _ M14.out)]; rfl)
                have g8 : w14.cell? ⟨w.heap.size, 8, none⟩ = some (.slice c.A c.shapes.length c.cap) := (by simp only [World.cell?, (HBX.out _ _ M14.out)]; rfl)
                have gl : w.heap.size < w14.heap.size := (Array.getElem?_eq_some_iff.1 (HBX.out _ _ M14.out)).1
                by_cases hlq : q < F
                · as_aux_lemma =>
                    have dq : decide ((q : Int) < c.frags) = true := decide_eq_true (by omega)
                    have s0 := S14.out.blk.cell (i := 0) rfl
                    have sl := S14.out.blk.lt
                    clear hfq
                    go_wp2_with fail
                    refine (shade_table bt _).mono ?_
                    rintro e w15 ⟨rfl, hE15⟩
                    obtain ⟨own15, m15⟩ := Mod.ofExtT (show Ext w14 w15 from hE15) own14
                    have S15 := Lib.hid (S14.out.keep m15 id id id)
                    have R15 := Lib.hid (R14.out.keep m15 id)
                    have M15 := Lib.hid (M14.out.trans (m15.mono (S := fun x => x ≠ 0) (fun _ => False.elim)))
                    clear hE15 m15 s0 sl S14 R14 M14
                    clear g0 g1 g2 g3 g4 g5 g6 g7 g8 gl
                    go_wp2_with fail
                    refine (tab_set ⟨own15, w15⟩ 331 bt q 2 true false (tabTo F q) S15.out.tab).mono ?_
                    rintro e w16 ⟨rfl, own16, m16, t16⟩
                    have S16 := Lib.hid (show ShdAt ⟨own16, w16⟩ 330 bs bt 331 bp 332 (tabTo F (q + 1)) ⟨[], c.stack, false⟩ 0 from ⟨S15.out.blk.keep m16 (by decide), by rw [← tabTo_set hlq]; exact t16, S15.out.pile.keep m16 (by decide)⟩)
                    have R16 := Lib.hid (R15.out.keep m16 (by decide))
                    have M16 := Lib.hid (M15.out.trans (m16.mono (S := fun x => x ≠ 0) (fun x hx => by omega)))
                    clear m16 t16 S15 R15 M15
                    go_wp2_with fail
                    go_roundw
                    case rel => exact ⟨q + 1, own16, by omega, by go_num, M16, R16, S16⟩
                    case measure => simp [intOf]; omega
                · as_aux_lemma =>
                    obtain rfl : q = F := by omega
                    have dq : decide ((q : Int) < c.frags) = false := decide_eq_false (by omega)
                    have hmk := made_metT (k := q) (by omega)
                    rw [← HFQ.out.1] at hmk
                    have S17 := Lib.hid (show ShdAt ⟨own14, w14⟩ 330 bs bt 331 bp 332 (tabOf q (fun k => !partTo got 0 k) (fun _ => false)) ⟨[], c.stack, false⟩ 0 from by
                      have h := S14.out
                      rw [tabTo_all] at h
                      exact h)
                    clear hfq S14
                    go_wp2_with fail
                    obtain ⟨own17, m17, b17⟩ : ∃ own17, Mod (fun _ => False) ⟨own14, w14⟩ ⟨own17, w14.alloc (.cells (Array.replicate q (Value.bool false)) 4)⟩ ∧ Blk ⟨own17, w14.alloc (.cells (Array.replicate q (Value.bool false)) 4)⟩ 340 w14.heap.size 4 (wantV q (partTo got 0)) := ⟨_, Mod.ext (g := ⟨own14, w14⟩) (show Ext w14 (w14.alloc (.cells (Array.replicate q (Value.bool false)) 4)) by (repeat (first | (with_reducible assumption) | (with_reducible exact Ext.refl _) | (with_reducible exact Ext.more _ _ _ _) | apply Ext.alloc | refine Ext.setCell ?_ (by first | exact Nat.le_refl _ | exact Nat.le_add_right _ _ | assumption) _ | apply Ext.patch | apply Ext.drew | apply Ext.drewN))) 340, wantV_new ⟨own14, w14⟩ q⟩
                    have B17 := Lib.hid b17
                    have M17 := Lib.hid (M14.out.trans (m17.mono (S := fun x => x ≠ 0) (fun _ => False.elim)))
                    have R17 := Lib.hid (R14.out.keep m17 id)
                    have S17b := Lib.hid (S17.out.keep m17 id id id)
                    generalize w14.alloc (.cells (Array.replicate q (Value.bool false)) 4) = w17 at *
                    generalize w14.heap.size = bw at *
                    clear b17 m17 M14 R14 S17 hmk dq
                    clear g0 g1 g2 g3 g4 g5 g6 g7 g8 gl
                    go_loopw [24] (fun i wr => ∃ (x : Nat) (own : Nat → Nat), x ≤ got.length ∧ i = .int .i64 x ∧ Hid (Mod (fun x => x ≠ 0) ⟨fun _ => 0, w5⟩ ⟨own, wr⟩) ∧ Hid (MemAt ⟨own, wr⟩ 300 bm MZ) ∧ Hid (ShdAt ⟨own, wr⟩ 330 bs bt 331 bp 332 (tabOf q (fun k => !partTo got x k) (fun _ => false)) ⟨[], c.stack, false⟩ 0) ∧ Hid (Blk ⟨own, wr⟩ 340 bw 4 (wantV q (partTo got x)))) (fun i _ => got.length - (intOf i).toNat)
                    case atStart => exact ⟨0, own17, Nat.zero_le _, rfl, M17, R17, S17b, B17⟩
                    case round =>
                      obtain ⟨x, own18, hx, rfl, M18, R18, S18, B18⟩ := hrel
                      obtain ⟨w18, rfl⟩ : ∃ w18 : World, w18 = wr := ⟨_, rfl⟩
                      clear M17 R17 S17b B17
                      by_cases hlx : x < got.length
                      · rcases Nat.eq_zero_or_pos x with hx0 | hx0
                        · as_aux_lemma =>
                            subst hx0
                            have hp1 : partTo got 1 = partTo got 0 := by funext k; rw [partTo_succ]; simp
                            have HP1 := Lib.hid hp1
                            clear hp1
                            go_wp2_with fail
                            go_roundw
                            case rel => exact ⟨1, own18, by omega, by go_num, M18, R18, by rw [HP1.out]; exact S18, by rw [HP1.out]; exact B18⟩
                            case measure => simp [intOf]; omega
                        · as_aux_lemma =>
                            have dx : decide ((0 : Int) < (x : Int)) = true := decide_eq_true (by omega)
                            obtain ⟨bg, og, hAg, hgq, hcg⟩ := ints_at (HGX.out _ _ M18.out) hlx
                            have z0 := hcg x hlx
                            subst hAg
                            have hy := HLD.out.gotb x hlx
                            obtain ⟨y, hy2⟩ := Int.eq_ofNat_of_zero_le hy.1
                            rw [hy2] at z0
                            have hyq : y < q := by have := HFQ.out.1; omega
                            have HTN := Lib.hid (show (tabOf q (fun k => !partTo got x k) (fun _ => false)).set (y : Int) 2 false false = tabOf q (fun k => !partTo got (x + 1) k) (fun _ => false) from (tabOf_unhead hyq).trans (tabOf_congr fun k hk => ⟨by rw [partTo_succ, hy2, decide_eq_true hx0, Int.toNat_natCast]; cases partTo got x k <;> cases (y == k) <;> rfl, rfl⟩))
                            have HWN := Lib.hid (show (wantV q (partTo got x)).set y (.bool true) = wantV q (partTo got (x + 1)) from (wantV_set q y _).trans (wantV_congr fun k hk => by rw [partTo_succ, hy2, decide_eq_true hx0, Int.toNat_natCast, Bool.true_and]))
                            have m19 : Mod (fun x => x = 340) ⟨own18, w18⟩ ⟨own18, w18.setCell ⟨bw, y, none⟩ (.bool true)⟩ := Mod.st Mod.self B18.out.own
                            have M19 := Lib.hid (M18.out.trans (m19.mono (S := fun x => x ≠ 0) (fun x hx => by omega)))
                            have R19 := Lib.hid (R18.out.keep m19 (by decide))
                            have S19 := Lib.hid (S18.out.keep m19 (by decide) (by decide) (by decide))
                            have B19 := Lib.hid (B18.out.set y (.bool true))
                            have cy := B18.out.cell (i := y) (wantV_get hyq)
                            have fy := B18.out.live y
                            have ly := B18.out.lt
                            have HY2 := Lib.hid hy2
                            clear hy hy2 hcg m19 R18 S18 B18 M18
                            have e1 := IntWalk.i64_in (y : Int) (by omega)
                            go_wp2_with fail
                            generalize w18.setCell ⟨bw, y, none⟩ (.bool true) = w19 at *
                            clear z0 hgq cy fy ly
                            obtain ⟨z1, hg9⟩ := int_at (HGX.out _ _ M19.out) hlx
                            rw [HY2.out] at z1
                            have s0 := S19.out.blk.cell (i := 0) rfl
                            have sl := S19.out.blk.lt
                            have HTS := Lib.hid (fun X => tab_set (GW.pt ⟨own18, w19⟩ X) 331 bt y 2 false false _ (S19.out.tab.pt X))
                            refine wp_region_mixed [true, true, true, true, true, true, true, true, true, false] 1 9 (by kernel_rfl) (by kernel_rfl) (by kernel_rfl) ?_ (by decide) (by decide) (by decide) (by kernel_rfl) ?_
                            · intro c a d v w h; cases d <;> exact h
                            intro X00
                            simp only [pickOps]
                            repeat (go_big_quiet_step (exact Calls.added (shade_table bt _)))
                            refine wpQuiet_nil (fun X0 => ?_)
                            clear X00
                            refine wpAnyM_tailL rfl (by kernel_rfl) (fun X2 => ?_)
                            simp only [List.drop_succ_cons, List.drop_zero]
                            go_wp2_with fail
                            refine (HTS.out _).mono ?_
                            rintro e w20 ⟨rfl, own20, m20, t20⟩
                            have P20 := (Mod.pt (Mod.refl _ _) _).trans m20
                            have S20 := Lib.hid (show ShdAt ⟨own20, w20⟩ 330 bs bt 331 bp 332 (tabOf q (fun k => !partTo got (x + 1) k) (fun _ => false)) ⟨[], c.stack, false⟩ 0 from ⟨S19.out.blk.keep P20 (by decide), by rw [← HTN.out]; exact t20, S19.out.pile.keep P20 (by decide)⟩)
                            have R20 := Lib.hid (R19.out.keep P20 (by decide))
                            have B20 := Lib.hid (show Blk ⟨own20, w20⟩ 340 bw 4 (wantV q (partTo got (x + 1))) from by rw [← HWN.out]; exact B19.out.keep P20 (by decide))
                            have M20 := Lib.hid (M19.out.trans (P20.mono (S := fun x => x ≠ 0) (fun x hx => by omega)))
                            clear P20 m20 t20 S19 R19 B19 M19 HTS
                            go_wp2_with fail
                            go_roundw
                            case rel => exact ⟨x + 1, own20, by omega, by go_num, M20, R20, S20, B20⟩
                            case measure => simp [intOf]; omega
                      · as_aux_lemma =>
                          obtain rfl : x = got.length := by omega
                          obtain ⟨hdF, hhd⟩ : ∃ f : Nat → Bool, f = fun k => !partTo got got.length k := ⟨_, rfl⟩
                          have S21 := Lib.hid (show ShdAt ⟨own18, w18⟩ 330 bs bt 331 bp 332 (tabOf q hdF (fun _ => false)) ⟨[], c.stack, false⟩ 0 from by rw [hhd]; exact S18.out)
                          have B21 := Lib.hid (show Blk ⟨own18, w18⟩ 340 bw 4 (wantV q (fun k => partTo got got.length k || (hdF k && refd q false refs' rs 0 k))) from by rw [wantV_congr (f' := partTo got got.length) (fun k _ => by simp [refd])]; exact B18.out)
                          clear hhd
                          obtain ⟨MN, hMN⟩ := Int.eq_ofNat_of_zero_le HLD.out.top.1
                          have HMN := Lib.hid hMN
                          obtain ⟨K, hK⟩ : ∃ K, K = min MN rs.length := ⟨_, rfl⟩
                          have hK6 : K ≤ 512 := by have := HLD.out.top.2; omega
                          have HK := Lib.hid hK
                          clear hK hMN
                          go_wp2_with fail
                          go_loopw [25] (fun i wr => ∃ (x : Nat) (own : Nat → Nat), x ≤ K ∧ i = .int .i64 x ∧ Hid (Mod (fun x => x ≠ 0) ⟨fun _ => 0, w5⟩ ⟨own, wr⟩) ∧ Hid (MemAt ⟨own, wr⟩ 300 bm (aMem q false got refs' rs MZ x)) ∧ Hid (ShdAt ⟨own, wr⟩ 330 bs bt 331 bp 332 (tabOf q hdF (fun _ => false)) ⟨[], c.stack, false⟩ 0) ∧ Hid (Blk ⟨own, wr⟩ 340 bw 4 (wantV q (fun k => partTo got got.length k || (hdF k && refd q false refs' rs x k))))) (fun i _ => K - (intOf i).toNat)
                          case atStart => exact ⟨0, own18, Nat.zero_le _, rfl, M18, R18, S21, B21⟩
                          case round =>
                            obtain ⟨x, own22, hx, rfl, M22, R22, S22, B22⟩ := hrel
                            obtain ⟨w22, rfl⟩ : ∃ w22 : World, w22 = wr := ⟨_, rfl⟩
                            clear M18 R18 S18 B18 S21 B21
                            by_cases hlx : x < K
                            · have d1 : decide ((x : Int) < (refs'.length : Int)) = true := decide_eq_true (by have := HMN.out; have := HK.out; omega)
                              have d2 : decide ((x : Int) < (rs.length : Int)) = true := decide_eq_true (by have := HK.out; omega)
                              have hxr : x < rs.length := by have := HK.out; omega
                              have d1m : x < refs'.length := by have := HMN.out; have := HK.out; omega
                              obtain ⟨be, oe, hAe, hge, hce⟩ := ints_at (HRX.out _ _ M22.out) hxr
                              have z0 := hce x hxr
                              subst hAe
                              have hrb := HWR.out (rs.getD x 0) (by rw [List.getD_eq_getElem?_getD, List.getElem?_eq_getElem hxr]; exact List.getElem_mem hxr)
                              have HNO := Lib.hid (fun (hB : aB q false refs' rs x = false) => show aMem q false got refs' rs MZ (x + 1) = aMem q false got refs' rs MZ x ∧ wantV q (fun k => partTo got got.length k || (hdF k && refd q false refs' rs (x + 1) k)) = wantV q (fun k => partTo got got.length k || (hdF k && refd q false refs' rs x k)) from ⟨by show (if aB q false refs' rs x = true then _ else _) = _; rw [hB]; rfl, wantV_congr fun k _ => by rw [refd_succ, hB, Bool.false_and, Bool.or_false]⟩)
                              obtain ⟨r, hr⟩ : ∃ r, r = rs.getD x 0 := ⟨_, rfl⟩
                              rw [← hr] at z0 hrb
                              have HR := Lib.hid hr
                              clear hr hce
                              have g0 : w22.cell? ⟨w.heap.size, 0, none⟩ = some (.int .i64 c.frags) := (by simp only [World.cell?, (HBX.out _ _ M22.out)]; rfl)
                              have g1 : w22.cell? ⟨w.heap.size, 1, none⟩ = some (.int .i64 c.spine) := (by simp only [World.cell?, (HBX.out _ _ M22.out)]; rfl)
                              have g2 : w22.cell? ⟨w.heap.size, 2, none⟩ = some (.int .i64 c.globals) := (by simp only [World.cell?, (HBX.out _ _ M22.out)]; rfl)
                              have g3 : w22.cell? ⟨w.heap.size, 3, none⟩ = some (.int .i64 c.threads) := (by simp only [World.cell?, (HBX.out _ _ M22.out)]; rfl)
                              have g4 : w22.cell? ⟨w.heap.size, 4, none⟩ = some (.int .i64 c.locals) := (by simp only [World.cell?, (HBX.out _ _ M22.out)]; rfl)
                              have g5 : w22.cell? ⟨w.heap.size, 5, none⟩ = some (.int .i64 c.cache) := (by simp only [World.cell?, (HBX.out _ _ M22.out)]; rfl)
                              have g6 : w22.cell? ⟨w.heap.size, 6, none⟩ = some (.int .i64 c.stack) := (by simp only [World.cell?, (HBX.out _ _ M22.out)]; rfl)
                              have g7 : w22.cell? ⟨w.heap.size, 7, none⟩ = some (.int .i64 c.low) := (by simp only [World.cell?, (HBX.out _ _ M22.out)]; rfl)
                              have g8 : w22.cell? ⟨w.heap.size, 8, none⟩ = some (.slice c.A c.shapes.length c.cap) := (by simp only [World.cell?, (HBX.out _ _ M22.out)]; rfl)
                              have gl : w.heap.size < w22.heap.size := (Array.getElem?_eq_some_iff.1 (HBX.out _ _ M22.out)).1
                              by_cases hneg : r < 0
                              · as_aux_lemma =>
                                  have d3 : decide (r < 0) = true := decide_eq_true hneg
                                  have HB0 := Lib.hid (show aB q false refs' rs x = false from by unfold aB; rw [decide_eq_false (by rw [← HR.out]; omega), Bool.false_and])
                                  go_wp2_with fail
                                  refine wp_region_mixed [true, true, true, true, true, true, true, true, true, true, true, true, true, true] 0 14 (by kernel_rfl) (by kernel_rfl) (by kernel_rfl) ?_ (by decide) (by decide) (by decide) (by kernel_rfl) ?_
                                  · intro c a d v w h; cases d <;> exact h
                                  intro X00
                                  simp only [pickOps]
                                  repeat (go_big_quiet_step (fail))
                                  refine wpQuiet_nil (fun X0 => ?_)
                                  clear X00
                                  refine wpAnyM_done (by kernel_rfl) (fun X0' => ?_) _
                                  (try go_simp)
                                  obtain ⟨own23, m23⟩ : ∃ own23, Mod (fun _ => False) ⟨own22, w22⟩ ⟨own23, w22.patch ⟨X0.blocks ++ X0'.blocks, X0'.drawn⟩⟩ := ⟨_, Mod.pt (Mod.refl _ _) _⟩
                                  generalize w22.patch ⟨X0.blocks ++ X0'.blocks, X0'.drawn⟩ = w23 at *
                                  have M23 := Lib.hid (M22.out.trans (m23.mono (S := fun x => x ≠ 0) (fun _ => False.elim)))
                                  have R23 := Lib.hid (R22.out.keep m23 id)
                                  have S23 := Lib.hid (S22.out.keep m23 id id id)
                                  have B23 := Lib.hid (B22.out.keep m23 id)
                                  clear m23 M22 R22 S22 B22 z0 hge
                                  clear g0 g1 g2 g3 g4 g5 g6 g7 g8 gl
                                  go_wp2_with fail
                                  go_roundw
                                  case rel => exact ⟨x + 1, own23, by omega, by go_num, M23, by rw [(HNO.out HB0.out).1]; exact R23, S23, by rw [(HNO.out HB0.out).2]; exact B23⟩
                                  case measure => simp [intOf]; omega
                              · have d3 : decide (r < 0) = false := decide_eq_false hneg
                                have hfq := HFQ.out.1
                                by_cases hbig : (q : Int) ≤ r
                                · as_aux_lemma =>
                                    have d4 : decide (c.frags ≤ r) = true := decide_eq_true (by omega)
                                    have HB0 := Lib.hid (show aB q false refs' rs x = false from by unfold aB; rw [decide_eq_false (by rw [← HR.out]; omega), Bool.false_and])
                                    clear hfq
                                    go_wp2_with fail
                                    refine wp_region_mixed [true, true, true, true, true, true, true, true, true, true, true, true, true, true] 0 14 (by kernel_rfl) (by kernel_rfl) (by kernel_rfl) ?_ (by decide) (by decide) (by decide) (by kernel_rfl) ?_
                                    · intro c a d v w h; cases d <;> exact h
                                    intro X00
                                    simp only [pickOps]
                                    repeat (go_big_quiet_step (fail))
                                    refine wpQuiet_nil (fun X0 => ?_)
                                    clear X00
                                    refine wpAnyM_done (by kernel_rfl) (fun X0' => ?_) _
                                    (try go_simp)
                                    obtain ⟨own23, m23⟩ : ∃ own23, Mod (fun _ => False) ⟨own22, w22⟩ ⟨own23, w22.patch ⟨X0.blocks ++ X0'.blocks, X0'.drawn⟩⟩ := ⟨_, Mod.pt (Mod.refl _ _) _⟩
                                    generalize w22.patch ⟨X0.blocks ++ X0'.blocks, X0'.drawn⟩ = w23 at *
                                    have M23 := Lib.hid (M22.out.trans (m23.mono (S := fun x => x ≠ 0) (fun _ => False.elim)))
                                    have R23 := Lib.hid (R22.out.keep m23 id)
                                    have S23 := Lib.hid (S22.out.keep m23 id id id)
                                    have B23 := Lib.hid (B22.out.keep m23 id)
                                    clear m23 M22 R22 S22 B22 z0 hge
                                    clear g0 g1 g2 g3 g4 g5 g6 g7 g8 gl
                                    go_wp2_with fail
                                    go_roundw
                                    case rel => exact ⟨x + 1, own23, by omega, by go_num, M23, by rw [(HNO.out HB0.out).1]; exact R23, S23, by rw [(HNO.out HB0.out).2]; exact B23⟩
                                    case measure => simp [intOf]; omega
                                · as_aux_lemma =>
                                    have d4 : decide (c.frags ≤ r) = false := decide_eq_false (by omega)
                                    obtain ⟨y, rfl⟩ := Int.eq_ofNat_of_zero_le (show 0 ≤ r by omega)
                                    have hyq : y < q := by omega
                                    have HBV := Lib.hid (show aB q false refs' rs x = aRef false refs' x from by unfold aB; rw [decide_eq_true (by rw [← HR.out]; omega), Bool.true_and])
                                    clear hfq
                                    go_wp2_with fail
                                    refine wp_region_mixed [true, true, true, true, true, true, true, true, true, true, true, true, true, true] 0 14 (by kernel_rfl) (by kernel_rfl) (by kernel_rfl) ?_ (by decide) (by decide) (by decide) (by kernel_rfl) ?_
                                    · intro c a d v w h; cases d <;> exact h
                                    intro X00
                                    simp only [pickOps]
                                    repeat (go_big_quiet_step (fail))
                                    refine wpQuiet_nil (fun X0 => ?_)
                                    clear X00
                                    refine wpAnyM_done (by kernel_rfl) (fun X0' => ?_) _
                                    (try go_simp)
                                    obtain ⟨own23, m23⟩ : ∃ own23, Mod (fun _ => False) ⟨own22, w22⟩ ⟨own23, w22.patch ⟨X0.blocks ++ X0'.blocks, X0'.drawn⟩⟩ := ⟨_, Mod.pt (Mod.refl _ _) _⟩
                                    generalize w22.patch ⟨X0.blocks ++ X0'.blocks, X0'.drawn⟩ = w23 at *
                                    have M23 := Lib.hid (M22.out.trans (m23.mono (S := fun x => x ≠ 0) (fun _ => False.elim)))
                                    have R23 := Lib.hid (R22.out.keep m23 id)
                                    have S23 := Lib.hid (S22.out.keep m23 id id id)
                                    have B23 := Lib.hid (B22.out.keep m23 id)
                                    clear m23 M22 R22 S22 B22 z0 hge
                                    clear g0 g1 g2 g3 g4 g5 g6 g7 g8 gl
                                    have HSX := Lib.hid (fun (own : Nat → Nat) (wr : World) (m : Mod (fun x => x ≠ 0) ⟨fun _ => 0, w5⟩ ⟨own, wr⟩) => HBS.out wr (HX5.out.trans (ext_of_ne m)))
                                    have m0 : w23.cell? ⟨w2.heap.size, 0, none⟩ = some (.bool false) := by simp only [World.cell?, HSX.out _ _ M23.out]; rfl
                                    have m1 : w23.cell? ⟨w2.heap.size, 1, none⟩ = some (.slice A' refs'.length cap') := by simp only [World.cell?, HSX.out _ _ M23.out]; rfl
                                    have ml : w2.heap.size < w23.heap.size := (Array.getElem?_eq_some_iff.1 (HSX.out _ _ M23.out)).1
                                    have HE2X := Lib.hid (fun (own : Nat → Nat) (wr : World) (m : Mod (fun x => x ≠ 0) ⟨fun _ => 0, w5⟩ ⟨own, wr⟩) => (show Ext w2 (w2.alloc (.cells #[.bool false, .slice A' refs'.length cap'] 37)) by (repeat (first | (with_reducible assumption) | (with_reducible exact Ext.refl _) | (with_reducible exact Ext.more _ _ _ _) | (with_reducible apply Ext.alloc) | (with_reducible apply Ext.patch) | (with_reducible apply Ext.drew) | (with_reducible apply Ext.drewN) | (with_reducible refine Ext.setCell ?_ (by first | assumption | exact Nat.le_refl _ | exact Nat.le_add_right _ _) _)))).trans (HX5.out.trans (ext_of_ne m)))
                                    obtain ⟨pf, hpf, pw, hpw⟩ : ∃ pf : Nat, Shp.placeF x = pf ∧ ∃ pw, Shp.placeW x = pw := ⟨(Shp.placeF x).toNat, by have := placeF_nonneg x; omega, _, rfl⟩
                                    have hpfl : pf < got.length := by have := HLD.out.frag x (by omega); rw [if_neg (by decide), hpf] at this; omega
                                    have hpwb : 1 ≤ pw ∧ pw ≤ 7 := by have := placeW_in x; omega
                                    have HPL := Lib.hid (fun w' (he : Ext w2 w') => rplace_yes A' cap' refs' x w' (HOK.out.ext he) ((show _ ∧ ∀ A cap, Shp.may ⟨false, A, cap, refs'⟩ = true from HLD.out.shape).2 A' cap') d1m)
                                    rw [hpf, hpw] at HPL
                                    have HAD := Lib.hid (show aAddr false got x = got.getD pf 0 * 8 + pw from by show fAddr got x = _; unfold fAddr; rw [hpf, hpw, Int.toNat_natCast])
                                    have HRV := Lib.hid (show aRef false refs' x = refs'.getD x false from rfl)
                                    clear hpf hpw
                                    go_wp2_with fail
                                    refine (HPL.out _ (HE2X.out _ _ M23.out)).mono ?_
                                    rintro e w24 ⟨rfl, hE24⟩
                                    obtain ⟨own24, m24⟩ := Mod.ofExtT (show Ext w23 w24 from hE24) own23
                                    have M24 := Lib.hid (M23.out.trans (m24.mono (S := fun x => x ≠ 0) (fun _ => False.elim)))
                                    have R24 := Lib.hid (R23.out.keep m24 id)
                                    have S24 := Lib.hid (S23.out.keep m24 id id id)
                                    have B24 := Lib.hid (B23.out.keep m24 id)
                                    clear m24 hE24 M23 R23 S23 B23 m0 m1 ml HPL
                                    have m1 : w24.cell? ⟨w2.heap.size, 1, none⟩ = some (.slice A' refs'.length cap') := by simp only [World.cell?, HSX.out _ _ M24.out]; rfl
                                    have ml : w2.heap.size < w24.heap.size := (Array.getElem?_eq_some_iff.1 (HSX.out _ _ M24.out)).1
                                    obtain ⟨br, or, hAr, hbr, zr⟩ := bool_at (HOK.out.ext (HE2X.out _ _ M24.out)).1 d1m
                                    obtain ⟨bg, og, hAg, hgq, hcg⟩ := ints_at (HGX.out _ _ M24.out) hpfl
                                    have zg := hcg pf hpfl
                                    subst hAr hAg
                                    have hyb := HLD.out.gotb pf hpfl
                                    have hfr2 := HRG.out.1.2
                                    generalize got.getD pf 0 = y1 at *
                                    generalize refs'.getD x false = rb at *
                                    have e6 := IntWalk.i64_in (8 * y1) (by omega)
                                    have e7 := IntWalk.i64_in (8 * y1 + pw) (by omega)
                                    clear hcg
                                    cases rb
                                    · as_aux_lemma =>
                                        have HB0 := Lib.hid (HBV.out.trans HRV.out)
                                        go_wp2_with fail
                                        refine wp_region_mixed [true, true, true, true, true, true, true, true, true, true, true, true, true, true] 0 14 (by kernel_rfl) (by kernel_rfl) (by kernel_rfl) ?_ (by decide) (by decide) (by decide) (by kernel_rfl) ?_
                                        · intro c a d v w h; cases d <;> exact h
                                        intro X00
                                        simp only [pickOps]
                                        repeat (go_big_quiet_step (fail))
                                        refine wpQuiet_nil (fun X0 => ?_)
                                        clear X00
                                        refine wpAnyM_done (by kernel_rfl) (fun X0' => ?_) _
                                        (try go_simp)
                                        obtain ⟨own25, m25⟩ : ∃ own25, Mod (fun _ => False) ⟨own24, w24⟩ ⟨own25, w24.patch ⟨X0.blocks ++ X0'.blocks, X0'.drawn⟩⟩ := ⟨_, Mod.pt (Mod.refl _ _) _⟩
                                        generalize w24.patch ⟨X0.blocks ++ X0'.blocks, X0'.drawn⟩ = w25 at *
                                        have M25 := Lib.hid (M24.out.trans (m25.mono (S := fun x => x ≠ 0) (fun _ => False.elim)))
                                        have R25 := Lib.hid (R24.out.keep m25 id)
                                        have S25 := Lib.hid (S24.out.keep m25 id id id)
                                        have B25 := Lib.hid (B24.out.keep m25 id)
                                        clear m25 M24 R24 S24 B24 m1 ml zr hbr zg hgq
                                        go_wp2_with fail
                                        go_roundw
                                        case rel => exact ⟨x + 1, own25, by omega, by go_num, M25, by rw [(HNO.out HB0.out).1]; exact R25, S25, by rw [(HNO.out HB0.out).2]; exact B25⟩
                                        case measure => simp [intOf]; omega
                                    · as_aux_lemma =>
                                        have HB1 := Lib.hid (HBV.out.trans HRV.out)
                                        go_wp2_with fail
                                        refine wp_region_mixed [true, true, true, true, true, true, true, true, true, true, true, true, true, true] 0 14 (by kernel_rfl) (by kernel_rfl) (by kernel_rfl) ?_ (by decide) (by decide) (by decide) (by kernel_rfl) ?_
                                        · intro c a d v w h; cases d <;> exact h
                                        intro X00
                                        simp only [pickOps]
                                        repeat (go_big_quiet_step (fail))
                                        refine wpQuiet_nil (fun X0 => ?_)
                                        clear X00
                                        refine wpAnyM_done (by kernel_rfl) (fun X0' => ?_) _
                                        (try go_simp)
                                        obtain ⟨own25, m25⟩ : ∃ own25, Mod (fun _ => False) ⟨own24, w24⟩ ⟨own25, w24.patch ⟨X0.blocks ++ X0'.blocks, X0'.drawn⟩⟩ := ⟨_, Mod.pt (Mod.refl _ _) _⟩
                                        generalize w24.patch ⟨X0.blocks ++ X0'.blocks, X0'.drawn⟩ = w25 at *
                                        have M25 := Lib.hid (M24.out.trans (m25.mono (S := fun x => x ≠ 0) (fun _ => False.elim)))
                                        have R25 := Lib.hid (R24.out.keep m25 id)
                                        have S25 := Lib.hid (S24.out.keep m25 id id id)
                                        have B25 := Lib.hid (B24.out.keep m25 id)
                                        clear m25 M24 R24 S24 B24 m1 ml zr hbr zg hgq
                                        have HADR := Lib.hid (show aAddr false got x = 8 * y1 + pw from by rw [HAD.out]; omega)
                                        have hadb : 0 ≤ 8 * y1 + pw ∧ 8 * y1 + pw < 8 * c.frags := by omega
                                        generalize 8 * y1 + pw = adr at *
                                        obtain ⟨z5, hg5⟩ := int_at (HRX.out _ _ M25.out) hxr
                                        rw [← HR.out] at z5
                                        go_wp2_with fail
                                        refine (rref_in y _ (by omega) (by omega)).mono ?_
                                        rintro e w26 ⟨rfl, hE26⟩
                                        obtain ⟨own26, m26⟩ := Mod.ofExtT (show Ext w25 w26 from hE26) own25
                                        have M26 := Lib.hid (M25.out.trans (m26.mono (S := fun x => x ≠ 0) (fun _ => False.elim)))
                                        have R26 := Lib.hid (R25.out.keep m26 id)
                                        have S26 := Lib.hid (S25.out.keep m26 id id id)
                                        have B26 := Lib.hid (B25.out.keep m26 id)
                                        clear m26 hE26 M25 R25 S25 B25 z5 hg5
                                        have hcb := putIf_count (A := aAddr false got) (B := aB q false refs' rs) (V := aV rs) (m := MZ) x
                                        have hmc := HMF.out.2.2
                                        have HW := mem_write ⟨own26, w26⟩ 300 bm adr (floatOfInt .f64 (y + 1)) 4607182418800017408 (aMem q false got refs' rs MZ x) R26.out (by show 0 ≤ (putIf (aAddr false got) (aB q false refs' rs) (aV rs) MZ x).count ∧ (putIf (aAddr false got) (aB q false refs' rs) (aV rs) MZ x).count ≤ 1099511627776; omega)
                                        have HPN := Lib.hid (show aMem q false got refs' rs MZ (x + 1) = (aMem q false got refs' rs MZ x).tick.lay adr (floatOfInt .f64 (y + 1), 4607182418800017408) from by
                                          show (if aB q false refs' rs x = true then _ else _) = _
                                          rw [HB1.out, if_pos rfl, HADR.out]
                                          show _ = (aMem q false got refs' rs MZ x).tick.lay adr (rW y)
                                          rw [HR.out]
                                          rfl)
                                        have hcw : c.frags * 8 ≤ cWords c := by
                                          obtain ⟨⟨_, _⟩, ⟨_, _⟩, ⟨_, _⟩, _⟩ := Cnf.ranged (Cnf.check_zero HCK.out).1
                                          unfold cWords
                                          rw [if_pos HCK.out]
                                          omega
                                        have hin : inB adr (aMem q false got refs' rs MZ x).l.length = true := by
                                          unfold inB
                                          apply decide_eq_true
                                          rw [show (aMem q false got refs' rs MZ x).l.length = MZ.l.length from putIf_len x, HMF.out.1]
                                          omega
                                        rw [hin] at HW
                                        simp only [if_true] at HW
                                        clear hcb hmc hcw hin hadb
                                        replace HW := Lib.hid HW
                                        go_wp2_with fail
                                        refine HW.out.mono ?_
                                        rintro e w27 ⟨rfl, own27, m27, r27⟩
                                        have M27 := Lib.hid (M26.out.trans (m27.mono (S := fun x => x ≠ 0) (fun x hx => by omega)))
                                        have R27 := Lib.hid (show MemAt ⟨own27, w27⟩ 300 bm (aMem q false got refs' rs MZ (x + 1)) from by rw [HPN.out]; exact r27)
                                        have S27 := Lib.hid (S26.out.keep m27 (by decide) (by decide) (by decide))
                                        have B27 := Lib.hid (B26.out.keep m27 (by decide))
                                        clear m27 r27 M26 R26 S26 B26 HW HPN
                                        have s0 := S27.out.blk.cell (i := 0) rfl
                                        have sl := S27.out.blk.lt
                                        obtain ⟨z7, hg7⟩ := int_at (HRX.out _ _ M27.out) hxr
                                        rw [← HR.out] at z7
                                        go_wp2_with fail
                                        refine wp_region_mixed [true, true, true, true, true, true, true, true, true, false] 1 9 (by kernel_rfl) (by kernel_rfl) (by kernel_rfl) ?_ (by decide) (by decide) (by decide) (by kernel_rfl) ?_
                                        · intro c a d v w h; cases d <;> exact h
                                        intro X00
                                        simp only [pickOps]
                                        repeat (go_big_quiet_step (exact Calls.added (shade_table bt _)))
                                        refine wpQuiet_nil (fun X0 => ?_)
                                        clear X00
                                        refine wpAnyM_tailL rfl (by kernel_rfl) (fun X2 => ?_)
                                        simp only [List.drop_succ_cons, List.drop_zero]
                                        (try go_simp)
                                        obtain ⟨own28, m28⟩ : ∃ own28, Mod (fun _ => False) ⟨own27, w27⟩ ⟨own28, w27.patch ⟨X0.blocks ++ X2.blocks, X2.drawn⟩⟩ := ⟨_, Mod.pt (Mod.refl _ _) _⟩
                                        generalize w27.patch ⟨X0.blocks ++ X2.blocks, X2.drawn⟩ = w28 at *
                                        have M28 := Lib.hid (M27.out.trans (m28.mono (S := fun x => x ≠ 0) (fun _ => False.elim)))
                                        have R28 := Lib.hid (R27.out.keep m28 id)
                                        have S28 := Lib.hid (S27.out.keep m28 id id id)
                                        have B28 := Lib.hid (B27.out.keep m28 id)
                                        clear m28 M27 R27 S27 B27 s0 sl z7 hg7
                                        go_wp2_with fail
                                        refine (tab_head ⟨own28, w28⟩ 331 bt y _ S28.out.tab).mono ?_
                                        rintro e w29 ⟨rfl, rfl⟩
                                        rw [tabOf_head hyq]
                                        have HYN := Lib.hid (show (rs.getD x 0).toNat = y from by rw [← HR.out, Int.toNat_natCast])
                                        rcases hyd : hdF y with _ | _
                                        · as_aux_lemma =>
                                            have HWX := Lib.hid (show wantV q (fun k => partTo got got.length k || (hdF k && refd q false refs' rs (x + 1) k)) = wantV q (fun k => partTo got got.length k || (hdF k && refd q false refs' rs x k)) from wantV_congr fun k _ => by
                                              rw [refd_succ, HB1.out, HYN.out]
                                              by_cases hk : y = k
                                              · rw [← hk, hyd]; simp
                                              · rw [beq_eq_false_iff_ne.2 hk]; simp)
                                            clear hyd
                                            go_wp2_with fail
                                            go_roundw
                                            case rel => exact ⟨x + 1, own28, by omega, by go_num, M28, R28, S28, by rw [HWX.out]; exact B28⟩
                                            case measure => simp [intOf]; omega
                                        · as_aux_lemma =>
                                            have HWX := Lib.hid (show (wantV q (fun k => partTo got got.length k || (hdF k && refd q false refs' rs x k))).set y (.bool true) = wantV q (fun k => partTo got got.length k || (hdF k && refd q false refs' rs (x + 1) k)) from (wantV_set q y _).trans (wantV_congr fun k _ => by
                                              rw [refd_succ, HB1.out, HYN.out]
                                              by_cases hk : y = k
                                              · rw [← hk, hyd]; simp
                                              · rw [beq_eq_false_iff_ne.2 hk]; simp))
                                            clear hyd
                                            obtain ⟨z8, hg8⟩ := int_at (HRX.out _ _ M28.out) hxr
                                            rw [← HR.out] at z8
                                            have m29 : Mod (fun x => x = 340) ⟨own28, w28⟩ ⟨own28, w28.setCell ⟨bw, y, none⟩ (.bool true)⟩ := Mod.st Mod.self B28.out.own
                                            have M29 := Lib.hid (M28.out.trans (m29.mono (S := fun x => x ≠ 0) (fun x hx => by omega)))
                                            have R29 := Lib.hid (R28.out.keep m29 (by decide))
                                            have S29 := Lib.hid (S28.out.keep m29 (by decide) (by decide) (by decide))
                                            have B29 := Lib.hid (show Blk ⟨own28, w28.setCell ⟨bw, y, none⟩ (.bool true)⟩ 340 bw 4 (wantV q (fun k => partTo got got.length k || (hdF k && refd q false refs' rs (x + 1) k))) from by rw [← HWX.out]; exact B28.out.set y (.bool true))
                                            have cy := B28.out.cell (i := y) (wantV_get hyq)
                                            have fy := B28.out.live y
                                            have ly := B28.out.lt
                                            clear m29 M28 R28 S28 B28
                                            go_wp2_with fail
                                            go_roundw
                                            case rel => exact ⟨x + 1, own28, by omega, by go_num, M29, R29, S29, B29⟩
                                            case measure => simp [intOf]; omega
                            · obtain rfl : x = K := by omega
                              have hKM := Lib.hid (show (x : Int) ≤ (refs'.length : Int) from by have := HMN.out; have := HK.out; omega)
                              by_cases hxm : x < refs'.length
                              · as_aux_lemma =>
                                  have hxr : ¬ x < rs.length := by have := HMN.out; have := HK.out; omega
                                  obtain ⟨bg, og, hAg, hgq, hcg⟩ := ints_at (HGX.out _ _ M22.out) (k := 0) hg1
                                  have z0 := hcg 0 hg1
                                  rw [Nat.add_zero] at z0
                                  subst hAg
                                  have HTN := Lib.hid (fun X => trace_new c (got.getD 0 0) true 320 (GW.pt ⟨own22, w22⟩ X) ((HCO.out.ext (HW0.out.trans (HE5.out.trans (ext_of_ne M22.out)))).ext ⟨X, rfl⟩) hmx)
                                  unfold Cnf.val at HTN
                                  have hrn := HLD.out.run MZ rs x HMF.out.1 HMF.out.2.1 hKM.out
                                  rw [← HFT.out] at hrn
                                  have HRUN := Lib.hid hrn
                                  obtain ⟨y0, hy0⟩ : ∃ y0, y0 = got.getD 0 0 := ⟨_, rfl⟩
                                  have HY0 := Lib.hid hy0
                                  rw [← hy0] at z0 HTN
                                  have hcb := putIf_count (A := aAddr false got) (B := aB q false refs' rs) (V := aV rs) (m := MZ) x
                                  have hmc := HMF.out.2.2
                                  have HCM := Lib.hid (show 0 ≤ (aMem q false got refs' rs MZ x).count ∧ (aMem q false got refs' rs MZ x).count ≤ 100000 from by show 0 ≤ (putIf (aAddr false got) (aB q false refs' rs) (aV rs) MZ x).count ∧ (putIf (aAddr false got) (aB q false refs' rs) (aV rs) MZ x).count ≤ 100000; omega)
                                  have g0 : w22.cell? ⟨w.heap.size, 0, none⟩ = some (.int .i64 c.frags) := (by simp only [World.cell?, (HBX.out _ _ M22.out)]; rfl)
                                  have g1 : w22.cell? ⟨w.heap.size, 1, none⟩ = some (.int .i64 c.spine) := (by simp only [World.cell?, (HBX.out _ _ M22.out)]; rfl)
                                  have g2 : w22.cell? ⟨w.heap.size, 2, none⟩ = some (.int .i64 c.globals) := (by simp only [World.cell?, (HBX.out _ _ M22.out)]; rfl)
                                  have g3 : w22.cell? ⟨w.heap.size, 3, none⟩ = some (.int .i64 c.threads) := (by simp only [World.cell?, (HBX.out _ _ M22.out)]; rfl)
                                  have g4 : w22.cell? ⟨w.heap.size, 4, none⟩ = some (.int .i64 c.locals) := (by simp only [World.cell?, (HBX.out _ _ M22.out)]; rfl)
                                  have g5 : w22.cell? ⟨w.heap.size, 5, none⟩ = some (.int .i64 c.cache) := (by simp only [World.cell?, (HBX.out _ _ M22.out)]; rfl)
                                  have g6 : w22.cell? ⟨w.heap.size, 6, none⟩ = some (.int .i64 c.stack) := (by simp only [World.cell?, (HBX.out _ _ M22.out)]; rfl)
                                  have g7 : w22.cell? ⟨w.heap.size, 7, none⟩ = some (.int .i64 c.low) := (by simp only [World.cell?, (HBX.out _ _ M22.out)]; rfl)
                                  have g8 : w22.cell? ⟨w.heap.size, 8, none⟩ = some (.slice c.A c.shapes.length c.cap) := (by simp only [World.cell?, (HBX.out _ _ M22.out)]; rfl)
                                  have gl : w.heap.size < w22.heap.size := (Array.getElem?_eq_some_iff.1 (HBX.out _ _ M22.out)).1
                                  clear hrn hy0 hcg hcb hmc
                                  go_wp2_with fail
                                  refine wp_region_mixed [true, true, true, true, false, false] 2 4 (by kernel_rfl) (by kernel_rfl) (by kernel_rfl) ?_ (by decide) (by decide) (by decide) (by kernel_rfl) ?_
                                  · intro c a d v w h; cases d <;> exact h
                                  intro X00
                                  simp only [pickOps]
                                  repeat (go_big_quiet_step (fail))
                                  refine wpQuiet_nil (fun X0 => ?_)
                                  clear X00
                                  refine wpAnyM_tailL rfl (by kernel_rfl) (fun X2 => ?_)
                                  simp only [List.drop_succ_cons, List.drop_zero]
                                  go_wp2_with fail
                                  refine (HTN.out _).mono ?_
                                  rintro e w30 ⟨own30, b, cm, rfl, m30, t30, hs30⟩
                                  clear g0 g1 g2 g3 g4 g5 g6 g7 g8 gl
                                  obtain ⟨N, hN1, hN2, hrun⟩ := HRUN.out cm hdF hs30
                                  rw [← HY0.out] at hrun
                                  obtain ⟨MF, hMF⟩ : ∃ MF, MF = aMem q false got refs' rs MZ x := ⟨_, rfl⟩
                                  rw [← hMF] at hrun HCM R22
                                  obtain ⟨S, k', c', p', hr, h9, he, hst⟩ := hrun MF.count 0 ⟨[], c.stack, false⟩
                                  obtain ⟨W0, hW0⟩ : ∃ W0 : TrW, W0 = ⟨TraceS.fresh cm y0 true, MF, tabOf q hdF (fun _ => false), ⟨[], c.stack, false⟩, 0⟩ := ⟨_, rfl⟩
                                  have hrun2 : TrW.go N W0 = ⟨S, ⟨MF.l, c'⟩, tabOf q hdF (fun v => partTo got got.length v || (hdF v && refd q false refs' rs x v)), p', k'⟩ := by rw [hW0]; exact hr
                                  have P30 := (Mod.pt (Mod.refl _ _) _).trans m30
                                  have A30 := Lib.hid (show TrAt ⟨own30, w30⟩ 320 300 330 331 332 b bm bs bt bp (TrW.go 0 W0) from by rw [hW0]; exact ⟨t30, R22.out.keep P30 id, S22.out.keep P30 id id id⟩)
                                  have B30 := Lib.hid (B22.out.keep P30 id)
                                  have M30 := Lib.hid (M22.out.trans (P30.mono (S := fun x => x ≠ 0) (fun _ => False.elim)))
                                  have HP9 := Lib.hid (show (TrW.go N W0).s.pc = 9 from by rw [hrun2]; exact h9)
                                  have HPE := Lib.hid (show (TrW.go N W0).s.e = 0 from by rw [hrun2]; exact he)
                                  have HST := Lib.hid (show (TrW.go N W0).s.steps = W0.s.steps + N from by rw [hrun2, hW0]; show S.steps = 0 + (N : Int); rw [hst]; omega)
                                  have HTT := Lib.hid (show (TrW.go N W0).T = tabOf q hdF (fun v => partTo got got.length v || (hdF v && refd q false refs' rs x v)) from by rw [hrun2])
                                  have HOK0 := Lib.hid (show W0.s.Ok from by rw [hW0]; exact TraceS.fresh_ok _ _ _)
                                  have HW00 := Lib.hid (show W0.s.steps = 0 ∧ W0.k = 0 ∧ W0.m.count = MF.count from by rw [hW0]; exact ⟨rfl, rfl, rfl⟩)
                                  clear P30 hr hrun hrun2 hW0 h9 he hst m30 t30 hs30 HTN HRUN hMF M22 R22 S22 B22 z0 hgq
                                  go_wp2_with fail
                                  go_loopw [32] (fun i wr => ∃ (v : Nat) (own : Nat → Nat), v ≤ N ∧ i = .int .i64 v ∧ Hid (Mod (fun x => x ≠ 0) ⟨fun _ => 0, w5⟩ ⟨own, wr⟩) ∧ Hid (TrAt ⟨own, wr⟩ 320 300 330 331 332 b bm bs bt bp (TrW.go v W0)) ∧ Hid (Blk ⟨own, wr⟩ 340 bw 4 (wantV q (fun k => partTo got got.length k || (hdF k && refd q false refs' rs x k))))) (fun i _ => N - (intOf i).toNat)
                                  case atStart => exact ⟨0, own30, Nat.zero_le _, rfl, M30, A30, B30⟩
                                  case round =>
                                    obtain ⟨v, own31, hv, rfl, M31, A31, B31⟩ := hrel
                                    obtain ⟨w31, rfl⟩ : ∃ w31 : World, w31 = wr := ⟨_, rfl⟩
                                    clear M30 A30 B30
                                    have HK9 := Lib.hid (TrW.go_keeps v W0)
                                    have HPC := Lib.hid (go_pc_end HP9.out HST.out hv)
                                    have e8 := IntWalk.i64_in (18 * (got.length : Int)) (by omega)
                                    have e9 := IntWalk.i64_in (18 * (got.length : Int) + 3) (by omega)
                                    have d0 : decide ((v : Int) < 18 * (got.length : Int) + 3) = true := decide_eq_true (by omega)
                                    go_wp2_with fail
                                    refine (trace_done ⟨own31, w31⟩ 320 b _ A31.out.tr).mono ?_
                                    rintro e w32 ⟨rfl, rfl⟩
                                    rw [HPC.out]
                                    by_cases hvN : v = N
                                    · as_aux_lemma =>
                                        rw [decide_eq_true hvN]
                                        subst hvN
                                        go_wp2_with fail
                                        go_loopw [33] (fun i wr => ∃ (z : Nat) (own : Nat → Nat), z ≤ q ∧ i = .int .i64 z ∧ Hid (Mod (fun x => x ≠ 0) ⟨fun _ => 0, w5⟩ ⟨own, wr⟩) ∧ Hid (TrAt ⟨own, wr⟩ 320 300 330 331 332 b bm bs bt bp (TrW.go v W0)) ∧ Hid (Blk ⟨own, wr⟩ 340 bw 4 (wantV q (fun k => partTo got got.length k || (hdF k && refd q false refs' rs x k))))) (fun i _ => q - (intOf i).toNat)
                                        case atStart => exact ⟨0, own31, Nat.zero_le _, rfl, M31, A31, B31⟩
                                        case round =>
                                          obtain ⟨z, own33, hz, rfl, M33, A33, B33⟩ := hrel
                                          obtain ⟨w33, rfl⟩ : ∃ w33 : World, w33 = wr := ⟨_, rfl⟩
                                          have hfq := HFQ.out.1
                                          have hfn := HFQ.out.2.2
                                          clear M31 A31 B31 d0 e8 e9
                                          have g0 : w33.cell? ⟨w.heap.size, 0, none⟩ = some (.int .i64 c.frags) := (by simp only [World.cell?, (HBX.out _ _ M33.out)]; rfl)
                                          have g1 : w33.cell? ⟨w.heap.size, 1, none⟩ = some (.int .i64 c.spine) := (by simp only [World.cell?, (HBX.out _ _ M33.out)]; rfl)
                                          have g2 : w33.cell? ⟨w.heap.size, 2, none⟩ = some (.int .i64 c.globals) := (by simp only [World.cell?, (HBX.out _ _ M33.out)]; rfl)
                                          have g3 : w33.cell? ⟨w.heap.size, 3, none⟩ = some (.int .i64 c.threads) := (by simp only [World.cell?, (HBX.out _ _ M33.out)]; rfl)
                                          have g4 : w33.cell? ⟨w.heap.size, 4, none⟩ = some (.int .i64 c.locals) := (by simp only [World.cell?, (HBX.out _ _ M33.out)]; rfl)
                                          have g5 : w33.cell? ⟨w.heap.size, 5, none⟩ = some (.int .i64 c.cache) := (by simp only [World.cell?, (HBX.out _ _ M33.out)]; rfl)
                                          have g6 : w33.cell? ⟨w.heap.size, 6, none⟩ = some (.int .i64 c.stack) := (by simp only [World.cell?, (HBX.out _ _ M33.out)]; rfl)
                                          have g7 : w33.cell? ⟨w.heap.size, 7, none⟩ = some (.int .i64 c.low) := (by simp only [World.cell?, (HBX.out _ _ M33.out)]; rfl)
                                          have g8 : w33.cell? ⟨w.heap.size, 8, none⟩ = some (.slice c.A c.shapes.length c.cap) := (by simp only [World.cell?, (HBX.out _ _ M33.out)]; rfl)
                                          have gl : w.heap.size < w33.heap.size := (Array.getElem?_eq_some_iff.1 (HBX.out _ _ M33.out)).1
                                          by_cases hzq : z < q
                                          · as_aux_lemma =>
                                              have dz : decide ((z : Int) < c.frags) = true := decide_eq_true (by omega)
                                              have s0 := A33.out.shd.blk.cell (i := 0) rfl
                                              have sl := A33.out.shd.blk.lt
                                              have cz := B33.out.cell (i := z) (wantV_get hzq)
                                              have lz := B33.out.lt
                                              have HBLK := Lib.hid (fun X => (tab_black (GW.pt ⟨own33, w33⟩ X) 331 bt z true _ (A33.out.shd.tab.pt X)).mono (show ∀ e w', _ → Gives (.bool (partTo got got.length z || (hdF z && refd q false refs' rs x z))) (w33.patch X) e w' from fun e w' h => by
                                                obtain ⟨rfl, rfl⟩ := h
                                                rw [HTT.out, tabOf_black hzq]
                                                exact Gives.mk rfl (Ext.refl _)))
                                              simp only at cz
                                              generalize (partTo got got.length z || (hdF z && refd q false refs' rs x z)) = bz at cz HBLK
                                              have hbb : (bz != bz) = false := by simp
                                              clear hfq
                                              go_wp2_with fail
                                              refine wp_region_mixed [true, true, true, true, true, true, true, true, true, true, true, true] 0 12 (by kernel_rfl) (by kernel_rfl) (by kernel_rfl) ?_ (by decide) (by decide) (by decide) (by kernel_rfl) ?_
                                              · intro c a d v w h; cases d <;> exact h
                                              intro X00
                                              simp only [pickOps]
                                              repeat (go_big_quiet_step (first | exact Calls.added (shade_table bt _) | exact Calls.added (HBLK.out _)))
                                              refine wpQuiet_nil (fun X0 => ?_)
                                              clear X00
                                              refine wpAnyM_done (by kernel_rfl) (fun X0' => ?_) _
                                              (try go_simp)
                                              obtain ⟨own34, m34⟩ : ∃ own34, Mod (fun _ => False) ⟨own33, w33⟩ ⟨own34, w33.patch ⟨X0.blocks ++ X0'.blocks, X0'.drawn⟩⟩ := ⟨_, Mod.pt (Mod.refl _ _) _⟩
                                              generalize w33.patch ⟨X0.blocks ++ X0'.blocks, X0'.drawn⟩ = w34 at *
                                              have M34 := Lib.hid (M33.out.trans (m34.mono (S := fun x => x ≠ 0) (fun _ => False.elim)))
                                              have A34 := Lib.hid (A33.out.keep m34 id id id id id id)
                                              have B34 := Lib.hid (B33.out.keep m34 id)
                                              clear m34 M33 A33 B33 s0 sl cz lz HBLK
                                              clear g0 g1 g2 g3 g4 g5 g6 g7 g8 gl
                                              go_wp2_with fail
                                              go_roundw
                                              case rel => exact ⟨z + 1, own34, by omega, by go_num, M34, A34, B34⟩
                                              case measure => simp [intOf]; omega
                                          · as_aux_lemma =>
                                              obtain rfl : z = q := by omega
                                              have dz : decide ((z : Int) < c.frags) = false := decide_eq_false (by omega)
                                              clear hfq
                                              go_wp2_with fail
                                              refine (H.out _).mono ?_
                                              rintro e w35 ⟨rfl, hE35⟩
                                              obtain ⟨own35, m35⟩ := Mod.ofExtT (show Ext w33 w35 from hE35) own33
                                              have A35 := Lib.hid (A33.out.keep m35 id id id id id id)
                                              have M35 := Lib.hid (M33.out.trans (m35.mono (S := fun x => x ≠ 0) (fun _ => False.elim)))
                                              clear hE35 m35
                                              clear g0 g1 g2 g3 g4 g5 g6 g7 g8 gl
                                              go_wp2_with fail
                                              refine (trace_done ⟨own35, w35⟩ 320 b _ A35.out.tr).mono ?_
                                              rintro e w36 ⟨rfl, rfl⟩
                                              rw [HPC.out]
                                              simp only [decide_true]
                                              go_wp2_with fail
                                              refine (trace_errno ⟨own35, w35⟩ 320 b _ A35.out.tr).mono ?_
                                              rintro e w36 ⟨rfl, rfl⟩
                                              rw [HPE.out]
                                              go_wp2_with fail
                                              go_ret
                                              exact Gives.bool rfl ((HW0.out.trans HE5.out).trans (ext_of_ne M35.out))
                                    · as_aux_lemma =>
                                        rw [decide_eq_false hvN]
                                        have hkk := HK9.out.2.2.2.2
                                        have hw00 := HW00.out
                                        have hcm := HCM.out
                                        have HSTP := Lib.hid (trace_step ⟨own31, w31⟩ apart16 (TrW.go v W0) A31.out (TrW.go_ok v HOK0.out) (by omega) (by omega) (by omega))
                                        clear hkk hw00 hcm
                                        go_wp2_with fail
                                        refine HSTP.out.mono ?_
                                        rintro e w32 ⟨rfl, own32, m32, a32⟩
                                        have M32 := Lib.hid (M31.out.trans (m32.mono (S := fun x => x ≠ 0) (fun x hx => by unfold trT at hx; omega)))
                                        have A32 := Lib.hid a32
                                        have B32 := Lib.hid (B31.out.keep m32 (by unfold trT; omega))
                                        clear m32 a32
                                        go_wp2_with fail
                                        go_roundw
                                        case rel => exact ⟨v + 1, own32, by omega, by go_num, M32, A32, B32⟩
                                        case measure => simp [intOf]; omega
                              · as_aux_lemma =>
                                  obtain ⟨bg, og, hAg, hgq, hcg⟩ := ints_at (HGX.out _ _ M22.out) (k := 0) hg1
                                  have z0 := hcg 0 hg1
                                  rw [Nat.add_zero] at z0
                                  subst hAg
                                  have HTN := Lib.hid (fun X => trace_new c (got.getD 0 0) true 320 (GW.pt ⟨own22, w22⟩ X) ((HCO.out.ext (HW0.out.trans (HE5.out.trans (ext_of_ne M22.out)))).ext ⟨X, rfl⟩) hmx)
                                  unfold Cnf.val at HTN
                                  have hrn := HLD.out.run MZ rs x HMF.out.1 HMF.out.2.1 hKM.out
                                  rw [← HFT.out] at hrn
                                  have HRUN := Lib.hid hrn
                                  obtain ⟨y0, hy0⟩ : ∃ y0, y0 = got.getD 0 0 := ⟨_, rfl⟩
                                  have HY0 := Lib.hid hy0
                                  rw [← hy0] at z0 HTN
                                  have hcb := putIf_count (A := aAddr false got) (B := aB q false refs' rs) (V := aV rs) (m := MZ) x
                                  have hmc := HMF.out.2.2
                                  have HCM := Lib.hid (show 0 ≤ (aMem q false got refs' rs MZ x).count ∧ (aMem q false got refs' rs MZ x).count ≤ 100000 from by show 0 ≤ (putIf (aAddr false got) (aB q false refs' rs) (aV rs) MZ x).count ∧ (putIf (aAddr false got) (aB q false refs' rs) (aV rs) MZ x).count ≤ 100000; omega)
                                  have g0 : w22.cell? ⟨w.heap.size, 0, none⟩ = some (.int .i64 c.frags) := (by simp only [World.cell?, (HBX.out _ _ M22.out)]; rfl)
                                  have g1 : w22.cell? ⟨w.heap.size, 1, none⟩ = some (.int .i64 c.spine) := (by simp only [World.cell?, (HBX.out _ _ M22.out)]; rfl)
                                  have g2 : w22.cell? ⟨w.heap.size, 2, none⟩ = some (.int .i64 c.globals) := (by simp only [World.cell?, (HBX.out _ _ M22.out)]; rfl)
                                  have g3 : w22.cell? ⟨w.heap.size, 3, none⟩ = some (.int .i64 c.threads) := (by simp only [World.cell?, (HBX.out _ _ M22.out)]; rfl)
                                  have g4 : w22.cell? ⟨w.heap.size, 4, none⟩ = some (.int .i64 c.locals) := (by simp only [World.cell?, (HBX.out _ _ M22.out)]; rfl)
                                  have g5 : w22.cell? ⟨w.heap.size, 5, none⟩ = some (.int .i64 c.cache) := (by simp only [World.cell?, (HBX.out _ _ M22.out)]; rfl)
                                  have g6 : w22.cell? ⟨w.heap.size, 6, none⟩ = some (.int .i64 c.stack) := (by simp only [World.cell?, (HBX.out _ _ M22.out)]; rfl)
                                  have g7 : w22.cell? ⟨w.heap.size, 7, none⟩ = some (.int .i64 c.low) := (by simp only [World.cell?, (HBX.out _ _ M22.out)]; rfl)
                                  have g8 : w22.cell? ⟨w.heap.size, 8, none⟩ = some (.slice c.A c.shapes.length c.cap) := (by simp only [World.cell?, (HBX.out _ _ M22.out)]; rfl)
                                  have gl : w.heap.size < w22.heap.size := (Array.getElem?_eq_some_iff.1 (HBX.out _ _ M22.out)).1
                                  clear hrn hy0 hcg hcb hmc
                                  go_wp2_with fail
                                  refine wp_region_mixed [true, true, true, true, false, false] 2 4 (by kernel_rfl) (by kernel_rfl) (by kernel_rfl) ?_ (by decide) (by decide) (by decide) (by kernel_rfl) ?_
                                  · intro c a d v w h; cases d <;> exact h
                                  intro X00
                                  simp only [pickOps]
                                  repeat (go_big_quiet_step (fail))
                                  refine wpQuiet_nil (fun X0 => ?_)
                                  clear X00
                                  refine wpAnyM_tailL rfl (by kernel_rfl) (fun X2 => ?_)
                                  simp only [List.drop_succ_cons, List.drop_zero]
                                  go_wp2_with fail
                                  refine (HTN.out _).mono ?_
                                  rintro e w30 ⟨own30, b, cm, rfl, m30, t30, hs30⟩
                                  clear g0 g1 g2 g3 g4 g5 g6 g7 g8 gl
                                  obtain ⟨N, hN1, hN2, hrun⟩ := HRUN.out cm hdF hs30
                                  rw [← HY0.out] at hrun
                                  obtain ⟨MF, hMF⟩ : ∃ MF, MF = aMem q false got refs' rs MZ x := ⟨_, rfl⟩
                                  rw [← hMF] at hrun HCM R22
                                  obtain ⟨S, k', c', p', hr, h9, he, hst⟩ := hrun MF.count 0 ⟨[], c.stack, false⟩
                                  obtain ⟨W0, hW0⟩ : ∃ W0 : TrW, W0 = ⟨TraceS.fresh cm y0 true, MF, tabOf q hdF (fun _ => false), ⟨[], c.stack, false⟩, 0⟩ := ⟨_, rfl⟩
                                  have hrun2 : TrW.go N W0 = ⟨S, ⟨MF.l, c'⟩, tabOf q hdF (fun v => partTo got got.length v || (hdF v && refd q false refs' rs x v)), p', k'⟩ := by rw [hW0]; exact hr
                                  have P30 := (Mod.pt (Mod.refl _ _) _).trans m30
                                  have A30 := Lib.hid (show TrAt ⟨own30, w30⟩ 320 300 330 331 332 b bm bs bt bp (TrW.go 0 W0) from by rw [hW0]; exact ⟨t30, R22.out.keep P30 id, S22.out.keep P30 id id id⟩)
                                  have B30 := Lib.hid (B22.out.keep P30 id)
                                  have M30 := Lib.hid (M22.out.trans (P30.mono (S := fun x => x ≠ 0) (fun _ => False.elim)))
                                  have HP9 := Lib.hid (show (TrW.go N W0).s.pc = 9 from by rw [hrun2]; exact h9)
                                  have HPE := Lib.hid (show (TrW.go N W0).s.e = 0 from by rw [hrun2]; exact he)
                                  have HST := Lib.hid (show (TrW.go N W0).s.steps = W0.s.steps + N from by rw [hrun2, hW0]; show S.steps = 0 + (N : Int); rw [hst]; omega)
                                  have HTT := Lib.hid (show (TrW.go N W0).T = tabOf q hdF (fun v => partTo got got.length v || (hdF v && refd q false refs' rs x v)) from by rw [hrun2])
                                  have HOK0 := Lib.hid (show W0.s.Ok from by rw [hW0]; exact TraceS.fresh_ok _ _ _)
                                  have HW00 := Lib.hid (show W0.s.steps = 0 ∧ W0.k = 0 ∧ W0.m.count = MF.count from by rw [hW0]; exact ⟨rfl, rfl, rfl⟩)
                                  clear P30 hr hrun hrun2 hW0 h9 he hst m30 t30 hs30 HTN HRUN hMF M22 R22 S22 B22 z0 hgq
                                  go_wp2_with fail
                                  go_loopw [32] (fun i wr => ∃ (v : Nat) (own : Nat → Nat), v ≤ N ∧ i = .int .i64 v ∧ Hid (Mod (fun x => x ≠ 0) ⟨fun _ => 0, w5⟩ ⟨own, wr⟩) ∧ Hid (TrAt ⟨own, wr⟩ 320 300 330 331 332 b bm bs bt bp (TrW.go v W0)) ∧ Hid (Blk ⟨own, wr⟩ 340 bw 4 (wantV q (fun k => partTo got got.length k || (hdF k && refd q false refs' rs x k))))) (fun i _ => N - (intOf i).toNat)
                                  case atStart => exact ⟨0, own30, Nat.zero_le _, rfl, M30, A30, B30⟩
                                  case round =>
                                    obtain ⟨v, own31, hv, rfl, M31, A31, B31⟩ := hrel
                                    obtain ⟨w31, rfl⟩ : ∃ w31 : World, w31 = wr := ⟨_, rfl⟩
                                    clear M30 A30 B30
                                    have HK9 := Lib.hid (TrW.go_keeps v W0)
                                    have HPC := Lib.hid (go_pc_end HP9.out HST.out hv)
                                    have e8 := IntWalk.i64_in (18 * (got.length : Int)) (by omega)
                                    have e9 := IntWalk.i64_in (18 * (got.length : Int) + 3) (by omega)
                                    have d0 : decide ((v : Int) < 18 * (got.length : Int) + 3) = true := decide_eq_true (by omega)
                                    go_wp2_with fail
                                    refine (trace_done ⟨own31, w31⟩ 320 b _ A31.out.tr).mono ?_
                                    rintro e w32 ⟨rfl, rfl⟩
                                    rw [HPC.out]
                                    by_cases hvN : v = N
                                    · as_aux_lemma =>
                                        rw [decide_eq_true hvN]
                                        subst hvN
                                        go_wp2_with fail
                                        go_loopw [33] (fun i wr => ∃ (z : Nat) (own : Nat → Nat), z ≤ q ∧ i = .int .i64 z ∧ Hid (Mod (fun x => x ≠ 0) ⟨fun _ => 0, w5⟩ ⟨own, wr⟩) ∧ Hid (TrAt ⟨own, wr⟩ 320 300 330 331 332 b bm bs bt bp (TrW.go v W0)) ∧ Hid (Blk ⟨own, wr⟩ 340 bw 4 (wantV q (fun k => partTo got got.length k || (hdF k && refd q false refs' rs x k))))) (fun i _ => q - (intOf i).toNat)
                                        case atStart => exact ⟨0, own31, Nat.zero_le _, rfl, M31, A31, B31⟩
                                        case round =>
                                          obtain ⟨z, own33, hz, rfl, M33, A33, B33⟩ := hrel
                                          obtain ⟨w33, rfl⟩ : ∃ w33 : World, w33 = wr := ⟨_, rfl⟩
                                          have hfq := HFQ.out.1
                                          have hfn := HFQ.out.2.2
                                          clear M31 A31 B31 d0 e8 e9
                                          have g0 : w33.cell? ⟨w.heap.size, 0, none⟩ = some (.int .i64 c.frags) := (by simp only [World.cell?, (HBX.out _ _ M33.out)]; rfl)
                                          have g1 : w33.cell? ⟨w.heap.size, 1, none⟩ = some (.int .i64 c.spine) := (by simp only [World.cell?, (HBX.out _ _ M33.out)]; rfl)
                                          have g2 : w33.cell? ⟨w.heap.size, 2, none⟩ = some (.int .i64 c.globals) := (by simp only [World.cell?, (HBX.out _ _ M33.out)]; rfl)
                                          have g3 : w33.cell? ⟨w.heap.size, 3, none⟩ = some (.int .i64 c.threads) := (by simp only [World.cell?, (HBX.out _ _ M33.out)]; rfl)
                                          have g4 : w33.cell? ⟨w.heap.size, 4, none⟩ = some (.int .i64 c.locals) := (by simp only [World.cell?, (HBX.out _ _ M33.out)]; rfl)
                                          have g5 : w33.cell? ⟨w.heap.size, 5, none⟩ = some (.int .i64 c.cache) := (by simp only [World.cell?, (HBX.out _ _ M33.out)]; rfl)
                                          have g6 : w33.cell? ⟨w.heap.size, 6, none⟩ = some (.int .i64 c.stack) := (by simp only [World.cell?, (HBX.out _ _ M33.out)]; rfl)
                                          have g7 : w33.cell? ⟨w.heap.size, 7, none⟩ = some (.int .i64 c.low) := (by simp only [World.cell?, (HBX.out _ _ M33.out)]; rfl)
                                          have g8 : w33.cell? ⟨w.heap.size, 8, none⟩ = some (.slice c.A c.shapes.length c.cap) := (by simp only [World.cell?, (HBX.out _ _ M33.out)]; rfl)
                                          have gl : w.heap.size < w33.heap.size := (Array.getElem?_eq_some_iff.1 (HBX.out _ _ M33.out)).1
                                          by_cases hzq : z < q
                                          · as_aux_lemma =>
                                              have dz : decide ((z : Int) < c.frags) = true := decide_eq_true (by omega)
                                              have s0 := A33.out.shd.blk.cell (i := 0) rfl
                                              have sl := A33.out.shd.blk.lt
                                              have cz := B33.out.cell (i := z) (wantV_get hzq)
                                              have lz := B33.out.lt
                                              have HBLK := Lib.hid (fun X => (tab_black (GW.pt ⟨own33, w33⟩ X) 331 bt z true _ (A33.out.shd.tab.pt X)).mono (show ∀ e w', _ → Gives (.bool (partTo got got.length z || (hdF z && refd q false refs' rs x z))) (w33.patch X) e w' from fun e w' h => by
                                                obtain ⟨rfl, rfl⟩ := h
                                                rw [HTT.out, tabOf_black hzq]
                                                exact Gives.mk rfl (Ext.refl _)))
                                              simp only at cz
                                              generalize (partTo got got.length z || (hdF z && refd q false refs' rs x z)) = bz at cz HBLK
                                              have hbb : (bz != bz) = false := by simp
                                              clear hfq
                                              go_wp2_with fail
                                              refine wp_region_mixed [true, true, true, true, true, true, true, true, true, true, true, true] 0 12 (by kernel_rfl) (by kernel_rfl) (by kernel_rfl) ?_ (by decide) (by decide) (by decide) (by kernel_rfl) ?_
                                              · intro c a d v w h; cases d <;> exact h
                                              intro X00
                                              simp only [pickOps]
                                              repeat (go_big_quiet_step (first | exact Calls.added (shade_table bt _) | exact Calls.added (HBLK.out _)))
                                              refine wpQuiet_nil (fun X0 => ?_)
                                              clear X00
                                              refine wpAnyM_done (by kernel_rfl) (fun X0' => ?_) _
                                              (try go_simp)
                                              obtain ⟨own34, m34⟩ : ∃ own34, Mod (fun _ => False) ⟨own33, w33⟩ ⟨own34, w33.patch ⟨X0.blocks ++ X0'.blocks, X0'.drawn⟩⟩ := ⟨_, Mod.pt (Mod.refl _ _) _⟩
                                              generalize w33.patch ⟨X0.blocks ++ X0'.blocks, X0'.drawn⟩ = w34 at *
                                              have M34 := Lib.hid (M33.out.trans (m34.mono (S := fun x => x ≠ 0) (fun _ => False.elim)))
                                              have A34 := Lib.hid (A33.out.keep m34 id id id id id id)
                                              have B34 := Lib.hid (B33.out.keep m34 id)
                                              clear m34 M33 A33 B33 s0 sl cz lz HBLK
                                              clear g0 g1 g2 g3 g4 g5 g6 g7 g8 gl
                                              go_wp2_with fail
                                              go_roundw
                                              case rel => exact ⟨z + 1, own34, by omega, by go_num, M34, A34, B34⟩
                                              case measure => simp [intOf]; omega
                                          · as_aux_lemma =>
                                              obtain rfl : z = q := by omega
                                              have dz : decide ((z : Int) < c.frags) = false := decide_eq_false (by omega)
                                              clear hfq
                                              go_wp2_with fail
                                              refine (H.out _).mono ?_
                                              rintro e w35 ⟨rfl, hE35⟩
                                              obtain ⟨own35, m35⟩ := Mod.ofExtT (show Ext w33 w35 from hE35) own33
                                              have A35 := Lib.hid (A33.out.keep m35 id id id id id id)
                                              have M35 := Lib.hid (M33.out.trans (m35.mono (S := fun x => x ≠ 0) (fun _ => False.elim)))
                                              clear hE35 m35
                                              clear g0 g1 g2 g3 g4 g5 g6 g7 g8 gl
                                              go_wp2_with fail
                                              refine (trace_done ⟨own35, w35⟩ 320 b _ A35.out.tr).mono ?_
                                              rintro e w36 ⟨rfl, rfl⟩
                                              rw [HPC.out]
                                              simp only [decide_true]
                                              go_wp2_with fail
                                              refine (trace_errno ⟨own35, w35⟩ 320 b _ A35.out.tr).mono ?_
                                              rintro e w36 ⟨rfl, rfl⟩
                                              rw [HPE.out]
                                              go_wp2_with fail
                                              go_ret
                                              exact Gives.bool rfl ((HW0.out.trans HE5.out).trans (ext_of_ne M35.out))
                                    · as_aux_lemma =>
                                        rw [decide_eq_false hvN]
                                        have hkk := HK9.out.2.2.2.2
                                        have hw00 := HW00.out
                                        have hcm := HCM.out
                                        have HSTP := Lib.hid (trace_step ⟨own31, w31⟩ apart16 (TrW.go v W0) A31.out (TrW.go_ok v HOK0.out) (by omega) (by omega) (by omega))
                                        clear hkk hw00 hcm
                                        go_wp2_with fail
                                        refine HSTP.out.mono ?_
                                        rintro e w32 ⟨rfl, own32, m32, a32⟩
                                        have M32 := Lib.hid (M31.out.trans (m32.mono (S := fun x => x ≠ 0) (fun x hx => by unfold trT at hx; omega)))
                                        have A32 := Lib.hid a32
                                        have B32 := Lib.hid (B31.out.keep m32 (by unfold trT; omega))
                                        clear m32 a32
                                        go_wp2_with fail
                                        go_roundw
                                        case rel => exact ⟨v + 1, own32, by omega, by go_num, M32, A32, B32⟩
                                        case measure => simp [intOf]; omega
  · clear hown hs5 hl5
    have g0 : w5.cell? ⟨w.heap.size, 0, none⟩ = some (.int .i64 c.frags) := (by simp only [World.cell?, (HB.out _ HE5.out)]; rfl)
    have g1 : w5.cell? ⟨w.heap.size, 1, none⟩ = some (.int .i64 c.spine) := (by simp only [World.cell?, (HB.out _ HE5.out)]; rfl)
    have g2 : w5.cell? ⟨w.heap.size, 2, none⟩ = some (.int .i64 c.globals) := (by simp only [World.cell?, (HB.out _ HE5.out)]; rfl)
    have g3 : w5.cell? ⟨w.heap.size, 3, none⟩ = some (.int .i64 c.threads) := (by simp only [World.cell?, (HB.out _ HE5.out)]; rfl)
    have g4 : w5.cell? ⟨w.heap.size, 4, none⟩ = some (.int .i64 c.locals) := (by simp only [World.cell?, (HB.out _ HE5.out)]; rfl)
    have g5 : w5.cell? ⟨w.heap.size, 5, none⟩ = some (.int .i64 c.cache) := (by simp only [World.cell?, (HB.out _ HE5.out)]; rfl)
    have g6 : w5.cell? ⟨w.heap.size, 6, none⟩ = some (.int .i64 c.stack) := (by simp only [World.cell?, (HB.out _ HE5.out)]; rfl)
    have g7 : w5.cell? ⟨w.heap.size, 7, none⟩ = some (.int .i64 c.low) := (by simp only [World.cell?, (HB.out _ HE5.out)]; rfl)
    have g8 : w5.cell? ⟨w.heap.size, 8, none⟩ = some (.slice c.A c.shapes.length c.cap) := (by simp only [World.cell?, (HB.out _ HE5.out)]; rfl)
    have gl : w.heap.size < w5.heap.size := (Array.getElem?_eq_some_iff.1 (HB.out _ HE5.out)).1
    go_wp2_with fail
    refine (HAR.out (by omega) _ (HW0.out.trans HE5.out)).mono ?_
    rintro e w5b ⟨s5b, lb, nl, rfl, hs5, hown, hE⟩
    have HX5 := Lib.hid (HX5.out.trans (show Ext w5 w5b from hE))
    have HE5 := Lib.hid (HE5.out.trans (show Ext w5 w5b from hE))
    clear hE m0 m1 hz5
    clear g0 g1 g2 g3 g4 g5 g6 g7 g8 gl
    have hz5 : w2.heap.size < w5b.heap.size := (Array.getElem?_eq_some_iff.1 (HBS.out _ HX5.out)).1
    have m0 : w5b.cell? ⟨w2.heap.size, 0, none⟩ = some (.bool true) := by simp only [World.cell?, HBS.out _ HX5.out]; rfl
    have m1 : w5b.cell? ⟨w2.heap.size, 1, none⟩ = some (.slice A' refs'.length cap') := by simp only [World.cell?, HBS.out _ HX5.out]; rfl
    have hl5 : s5b.refs = refs' := by
      have h1 := HS.out
      rw [← hs5] at h1
      exact (congrArg Prod.snd h1).symm
    rw [HI.out] at hown
    rw [HI.out]
    obtain ⟨Al, cl, rfl⟩ := own_form hown
    by_cases hev : arrE c true s5b n got at_ = 0
    case neg =>
      as_aux_lemma =>
        generalize (arrE c true s5b n got at_) = e5 at *
        have g0 : w5b.cell? ⟨w.heap.size, 0, none⟩ = some (.int .i64 c.frags) := (by simp only [World.cell?, (HB.out _ HE5.out)]; rfl)
        have g1 : w5b.cell? ⟨w.heap.size, 1, none⟩ = some (.int .i64 c.spine) := (by simp only [World.cell?, (HB.out _ HE5.out)]; rfl)
        have g2 : w5b.cell? ⟨w.heap.size, 2, none⟩ = some (.int .i64 c.globals) := (by simp only [World.cell?, (HB.out _ HE5.out)]; rfl)
        have g3 : w5b.cell? ⟨w.heap.size, 3, none⟩ = some (.int .i64 c.threads) := (by simp only [World.cell?, (HB.out _ HE5.out)]; rfl)
        have g4 : w5b.cell? ⟨w.heap.size, 4, none⟩ = some (.int .i64 c.locals) := (by simp only [World.cell?, (HB.out _ HE5.out)]; rfl)
        have g5 : w5b.cell? ⟨w.heap.size, 5, none⟩ = some (.int .i64 c.cache) := (by simp only [World.cell?, (HB.out _ HE5.out)]; rfl)
        have g6 : w5b.cell? ⟨w.heap.size, 6, none⟩ = some (.int .i64 c.stack) := (by simp only [World.cell?, (HB.out _ HE5.out)]; rfl)
        have g7 : w5b.cell? ⟨w.heap.size, 7, none⟩ = some (.int .i64 c.low) := (by simp only [World.cell?, (HB.out _ HE5.out)]; rfl)
        have g8 : w5b.cell? ⟨w.heap.size, 8, none⟩ = some (.slice c.A c.shapes.length c.cap) := (by simp only [World.cell?, (HB.out _ HE5.out)]; rfl)
        have gl : w.heap.size < w5b.heap.size := (Array.getElem?_eq_some_iff.1 (HB.out _ HE5.out)).1
        go_wp2_with fail
        have HFL := Lib.hid (fill_nil c 300 ⟨fun _ => 0, w5b⟩ (HCO.out.ext (HW0.out.trans HE5.out)))
        unfold Cnf.val at HFL
        refine HFL.out.mono ?_
        rintro e w6 ⟨own6, bm, rfl, m6, r6⟩
        have M6 := Lib.hid m6
        clear m6 r6 HFL
        clear g0 g1 g2 g3 g4 g5 g6 g7 g8 gl
        have hevb : (e5 != 0) = true := by simp [hev]
        have HE6 := Lib.hid (HE5.out.trans M6.out.toExt)
        have g0 : w6.cell? ⟨w.heap.size, 0, none⟩ = some (.int .i64 c.frags) := (by simp only [World.cell?, (HB.out _ HE6.out)]; rfl)
        have g1 : w6.cell? ⟨w.heap.size, 1, none⟩ = some (.int .i64 c.spine) := (by simp only [World.cell?, (HB.out _ HE6.out)]; rfl)
        have g2 : w6.cell? ⟨w.heap.size, 2, none⟩ = some (.int .i64 c.globals) := (by simp only [World.cell?, (HB.out _ HE6.out)]; rfl)
        have g3 : w6.cell? ⟨w.heap.size, 3, none⟩ = some (.int .i64 c.threads) := (by simp only [World.cell?, (HB.out _ HE6.out)]; rfl)
        have g4 : w6.cell? ⟨w.heap.size, 4, none⟩ = some (.int .i64 c.locals) := (by simp only [World.cell?, (HB.out _ HE6.out)]; rfl)
        have g5 : w6.cell? ⟨w.heap.size, 5, none⟩ = some (.int .i64 c.cache) := (by simp only [World.cell?, (HB.out _ HE6.out)]; rfl)
        have g6 : w6.cell? ⟨w.heap.size, 6, none⟩ = some (.int .i64 c.stack) := (by simp only [World.cell?, (HB.out _ HE6.out)]; rfl)
        have g7 : w6.cell? ⟨w.heap.size, 7, none⟩ = some (.int .i64 c.low) := (by simp only [World.cell?, (HB.out _ HE6.out)]; rfl)
        have g8 : w6.cell? ⟨w.heap.size, 8, none⟩ = some (.slice c.A c.shapes.length c.cap) := (by simp only [World.cell?, (HB.out _ HE6.out)]; rfl)
        have gl : w.heap.size < w6.heap.size := (Array.getElem?_eq_some_iff.1 (HB.out _ HE6.out)).1
        have HSN := Lib.hid (show ∀ w', Ext w6 w' → Calls Try.prog 17 #[.int .i64 c.frags, .int .i64 c.stack] w' (fun e w'' => ∃ A, (∃ k, e = .returned (.tuple #[.pointer A, .int .i64 k])) ∧ Ext w' w'') from fun w' _ => (shd_new c.frags c.stack 330 331 332 ⟨own6, w'⟩).mono (fun e w'' hh => by
          unfold ShdMade at hh
          split at hh
          · obtain ⟨own', b, bt, bp, rfl, m, _⟩ := hh
            exact ⟨_, ⟨_, rfl⟩, m.toExt⟩
          · obtain ⟨rfl, he⟩ := hh
            exact ⟨_, ⟨_, rfl⟩, he⟩))
        go_wp2_with fail
        refine (HSN.out _ (by (repeat (first | (with_reducible assumption) | (with_reducible exact Ext.refl _) | (with_reducible exact Ext.more _ _ _ _) | apply Ext.alloc | refine Ext.setCell ?_ (by first | exact Nat.le_refl _ | exact Nat.le_add_right _ _ | assumption) _ | apply Ext.patch | apply Ext.drew | apply Ext.drewN)))).mono ?_
        rintro e w7 ⟨Ax, ⟨kx, rfl⟩, hX⟩
        have HE7 := Lib.hid (HE6.out.trans (show Ext w6 w7 from hX))
        clear hX
        go_wp2_with fail
        refine (H.out _).mono ?_
        rintro e w9 ⟨rfl, hE9⟩
        have HE9 := Lib.hid (HE7.out.trans (show Ext w7 w9 from hE9))
        clear hE9
        go_wp2_with fail
        go_ret
        exact Gives.bool rfl (HW0.out.trans HE9.out)
    case pos =>
      obtain ⟨xs, V, hLD⟩ := all_arr hev (HKI.out HCK.out) (by rw [hl5]; exact HATC.out) (by omega) hown
      rw [hl5] at hLD
      have HLD := Lib.hid hLD
      rw [hev]
      clear hown hs5 hl5 hev hLD
      as_aux_lemma =>
        have hg1 := HLD.out.one
        have hnl := HLD.out.m4
        have HRG := Lib.hid (show ((4 ≤ c.frags ∧ c.frags ≤ 1024) ∧ 1 ≤ c.stack ∧ c.stack ≤ 256) from by
          obtain ⟨h1, h2, h3, h4, h5, h6, h7, h8⟩ := Cnf.ranged (Cnf.check_zero HCK.out).1
          omega)
        have g0 : w5b.cell? ⟨w.heap.size, 0, none⟩ = some (.int .i64 c.frags) := (by simp only [World.cell?, (HB.out _ HE5.out)]; rfl)
        have g1 : w5b.cell? ⟨w.heap.size, 1, none⟩ = some (.int .i64 c.spine) := (by simp only [World.cell?, (HB.out _ HE5.out)]; rfl)
        have g2 : w5b.cell? ⟨w.heap.size, 2, none⟩ = some (.int .i64 c.globals) := (by simp only [World.cell?, (HB.out _ HE5.out)]; rfl)
        have g3 : w5b.cell? ⟨w.heap.size, 3, none⟩ = some (.int .i64 c.threads) := (by simp only [World.cell?, (HB.out _ HE5.out)]; rfl)
        have g4 : w5b.cell? ⟨w.heap.size, 4, none⟩ = some (.int .i64 c.locals) := (by simp only [World.cell?, (HB.out _ HE5.out)]; rfl)
        have g5 : w5b.cell? ⟨w.heap.size, 5, none⟩ = some (.int .i64 c.cache) := (by simp only [World.cell?, (HB.out _ HE5.out)]; rfl)
        have g6 : w5b.cell? ⟨w.heap.size, 6, none⟩ = some (.int .i64 c.stack) := (by simp only [World.cell?, (HB.out _ HE5.out)]; rfl)
        have g7 : w5b.cell? ⟨w.heap.size, 7, none⟩ = some (.int .i64 c.low) := (by simp only [World.cell?, (HB.out _ HE5.out)]; rfl)
        have g8 : w5b.cell? ⟨w.heap.size, 8, none⟩ = some (.slice c.A c.shapes.length c.cap) := (by simp only [World.cell?, (HB.out _ HE5.out)]; rfl)
        have gl : w.heap.size < w5b.heap.size := (Array.getElem?_eq_some_iff.1 (HB.out _ HE5.out)).1
        go_wp2_with fail
        have HFL := Lib.hid (fill_nil c 300 ⟨fun _ => 0, w5b⟩ (HCO.out.ext (HW0.out.trans HE5.out)))
        unfold Cnf.val at HFL
        refine HFL.out.mono ?_
        rintro e w6 ⟨own6, bm, rfl, m6, r6⟩
        have M6 := Lib.hid (m6.mono (S := fun x => x ≠ 0) (fun _ => False.elim))
        have HC6 := Lib.hid ((show Seg ⟨fun _ => 0, w5b⟩ 0 Al xs from ⟨HLD.out.cells, fun _ _ _ => rfl⟩).keep m6 id)
        have R6 := Lib.hid (show MemAt ⟨own6, w6⟩ 300 bm (memPut ⟨List.replicate (cWords c).toNat (0, 0), 0⟩ (onceAt got at_) V 0) from r6)
        clear m6 r6 HFL m0 m1 hz5
        clear g0 g1 g2 g3 g4 g5 g6 g7 g8 gl
        have HE6 := Lib.hid (HE5.out.trans (ext_of_ne M6.out))
        have g0 : w6.cell? ⟨w.heap.size, 0, none⟩ = some (.int .i64 c.frags) := (by simp only [World.cell?, (HB.out _ HE6.out)]; rfl)
        have g1 : w6.cell? ⟨w.heap.size, 1, none⟩ = some (.int .i64 c.spine) := (by simp only [World.cell?, (HB.out _ HE6.out)]; rfl)
        have g2 : w6.cell? ⟨w.heap.size, 2, none⟩ = some (.int .i64 c.globals) := (by simp only [World.cell?, (HB.out _ HE6.out)]; rfl)
        have g3 : w6.cell? ⟨w.heap.size, 3, none⟩ = some (.int .i64 c.threads) := (by simp only [World.cell?, (HB.out _ HE6.out)]; rfl)
        have g4 : w6.cell? ⟨w.heap.size, 4, none⟩ = some (.int .i64 c.locals) := (by simp only [World.cell?, (HB.out _ HE6.out)]; rfl)
        have g5 : w6.cell? ⟨w.heap.size, 5, none⟩ = some (.int .i64 c.cache) := (by simp only [World.cell?, (HB.out _ HE6.out)]; rfl)
        have g6 : w6.cell? ⟨w.heap.size, 6, none⟩ = some (.int .i64 c.stack) := (by simp only [World.cell?, (HB.out _ HE6.out)]; rfl)
        have g7 : w6.cell? ⟨w.heap.size, 7, none⟩ = some (.int .i64 c.low) := (by simp only [World.cell?, (HB.out _ HE6.out)]; rfl)
        have g8 : w6.cell? ⟨w.heap.size, 8, none⟩ = some (.slice c.A c.shapes.length c.cap) := (by simp only [World.cell?, (HB.out _ HE6.out)]; rfl)
        have gl : w.heap.size < w6.heap.size := (Array.getElem?_eq_some_iff.1 (HB.out _ HE6.out)).1
        go_wp2_with fail
        refine (shd_new c.frags c.stack 330 331 332 ⟨own6, w6⟩).mono ?_
        rintro e w7 hh
        unfold ShdMade at hh
        rw [if_pos (by have := HRG.out; omega)] at hh
        obtain ⟨own7, bs, bt, bp, rfl, m7, s7⟩ := hh
        have M7 := Lib.hid (M6.out.trans (m7.mono (S := fun x => x ≠ 0) (fun _ => False.elim)))
        have HC7 := Lib.hid (HC6.out.keep m7 id)
        have R7 := Lib.hid (R6.out.keep m7 id)
        have S7 := Lib.hid (show ShdAt ⟨own7, w7⟩ 330 bs bt 331 bp 332 (tabTo c.frags.toNat 0) ⟨[], c.stack, false⟩ 0 from by rw [tabTo_zero]; exact s7)
        clear m7 s7 M6 HC6 R6 HE6
        clear g0 g1 g2 g3 g4 g5 g6 g7 g8 gl
        have hgz : ((got.length : Int) == 0) = false := beq_eq_false_iff_ne.2 (by omega)
        have s0 := S7.out.blk.cell (i := 0) rfl
        have sl := S7.out.blk.lt
        go_wp2_with fail
        refine (shade_table bt _).mono ?_
        rintro e w8 ⟨rfl, hE8⟩
        obtain ⟨own8, m8⟩ := Mod.ofExtT (show Ext w7 w8 from hE8) own7
        have S8 := Lib.hid (S7.out.keep m8 id id id)
        have R8 := Lib.hid (R7.out.keep m8 id)
        have HC8 := Lib.hid (HC7.out.keep m8 id)
        have M8 := Lib.hid (M7.out.trans (m8.mono (S := fun x => x ≠ 0) (fun _ => False.elim)))
        clear hE8 m8 s0 sl S7 R7 HC7 M7
        have HWT := Lib.hid HLD.out.wr
        have HPK := Lib.hid (fun i (hi : i < nl) => memPut_peek (m := ⟨List.replicate (cWords c).toNat (0, 0), 0⟩) (AT := onceAt got at_) (V := V) (n := nl) (fun i hi => by simpa using HLD.out.inb i hi) HLD.out.diff nl (Nat.le_refl _) i hi)
        have HLN := Lib.hid (fun k => (memPut_len ⟨List.replicate (cWords c).toNat (0, 0), 0⟩ (onceAt got at_) V k).trans (show (List.replicate (cWords c).toNat ((0, 0) : Nat × Nat)).length = (cWords c).toNat by simp))
        have HCT := Lib.hid (fun k => memPut_count ⟨List.replicate (cWords c).toNat (0, 0), 0⟩ (onceAt got at_) V k)
        simp only at HCT
        generalize hMP : memPut ⟨List.replicate (cWords c).toNat (0, 0), 0⟩ (onceAt got at_) V = MP at *
        have HMP := Lib.hid (fun k => show MP (k + 1) = (MP k).tick.lay (onceAt got at_ k) (V k) by rw [← hMP]; rfl)
        clear hMP HKI
        go_wp2_with fail
        go_loopw [21] (fun i wr => ∃ (j : Nat) (own : Nat → Nat), j ≤ nl ∧ i = .int .i64 j ∧ Hid (Mod (fun x => x = 300) ⟨own8, w8⟩ ⟨own, wr⟩) ∧ Hid (MemAt ⟨own, wr⟩ 300 bm (MP j))) (fun i _ => nl - (intOf i).toNat)
        case atStart => exact ⟨0, own8, Nat.zero_le _, rfl, Lib.hid (Mod.refl _ _), R8⟩
        case round =>
          obtain ⟨j, own3, hj, rfl, M3, R3⟩ := hrel
          obtain ⟨w3, rfl⟩ : ∃ w3 : World, w3 = wr := ⟨_, rfl⟩
          by_cases hlt : j < nl
          · as_aux_lemma =>
              obtain ⟨bl, ol, hA, hbl, hcl⟩ := (HC8.out.keep M3.out (by decide)).cells.cases (by rw [HWT.out.len]; omega)
              have l0 := hcl _ _ (HWT.out.at_ j hlt)
              have l1 := hcl _ _ (HWT.out.w j hlt)
              rw [← Nat.add_assoc] at l1
              have HK1 := Lib.hid (HMP.out j)
              have hcb := HCT.out j
              have HC3 := Lib.hid (show 0 ≤ (MP j).count ∧ (MP j).count ≤ 1099511627776 by rw [hcb]; omega)
              have HW := Lib.hid (fun X => mem_write (GW.pt ⟨own3, w3⟩ X) 300 bm (onceAt got at_ j) (V j).1 (V j).2 (MP j) (R3.out.pt X) HC3.out)
              subst hA
              simp only at hbl l0 l1
              generalize V j = pq at *
              obtain ⟨p, q⟩ := pq
              generalize onceAt got at_ j = a at *
              clear hcl hcb
              go_wp2_with fail
              refine wp_region_mixed [true, true, true, true, true, true, true, true, true, true, true, false] 1 11 (by kernel_rfl) (by kernel_rfl) (by kernel_rfl) ?_ (by decide) (by decide) (by decide) (by kernel_rfl) ?_
              · intro c a d v w h; cases d <;> exact h
              intro X00
              simp only [pickOps]
              repeat (go_big_quiet_step (fail))
              refine wpQuiet_nil (fun X0 => ?_)
              clear X00
              refine wpAnyM_tailL rfl (by kernel_rfl) (fun X2 => ?_)
              simp only [List.drop_succ_cons, List.drop_zero]
              go_wp2_with fail
              refine (HW.out _).mono ?_
              rintro e w4b ⟨rfl, own4, m4, r4⟩
              have M4 := Lib.hid m4
              have R4 := Lib.hid r4
              clear m4 r4
              go_wp2_with fail
              go_roundw
              case rel => exact ⟨j + 1, own4, by omega, by go_num, Lib.hid ((M3.out.trans (Mod.pt (Mod.refl _ _) _)).trans M4.out), Lib.hid (by rw [HK1.out]; exact R4.out)⟩
              case measure => simp [intOf]; omega
          · as_aux_lemma =>
              obtain rfl : j = nl := by omega
              have S3 := Lib.hid (S8.out.keep M3.out (by decide) (by decide) (by decide))
              have MN3 := Lib.hid (M8.out.trans (M3.out.mono (S := fun x => x ≠ 0) (fun x hx => by omega)))
              have HMF := Lib.hid (show (MP j).l.length = (cWords c).toNat ∧ (∀ i, i < j → (MP j).peek (onceAt got at_ i) = V i) ∧ 0 ≤ (MP j).count ∧ (MP j).count ≤ 10000 from ⟨HLN.out j, HPK.out, by have := HCT.out j; omega, by have := HCT.out j; omega⟩)
              clear S8 M8 M3 HC8 HWT HPK HLN HCT HMP
              generalize MP j = MZ at *
              obtain ⟨F, hF⟩ : ∃ F : Nat, F = c.frags.toNat := ⟨_, rfl⟩
              have HFQ := Lib.hid (show c.frags = (F : Int) ∧ 4 ≤ F ∧ F ≤ 1024 from by have := HRG.out; omega)
              have HFT := Lib.hid hF
              rw [← hF] at S3
              clear hF
              have HBX := Lib.hid (fun (own : Nat → Nat) (wr : World) (m : Mod (fun x => x ≠ 0) ⟨fun _ => 0, w5b⟩ ⟨own, wr⟩) => HB.out wr (HE5.out.trans (ext_of_ne m)))
              have HGX := Lib.hid (fun (own : Nat → Nat) (wr : World) (m : Mod (fun x => x ≠ 0) ⟨fun _ => 0, w5b⟩ ⟨own, wr⟩) => HG.out.ext (HW0.out.trans (HE5.out.trans (ext_of_ne m))))
              have HRX := Lib.hid (fun (own : Nat → Nat) (wr : World) (m : Mod (fun x => x ≠ 0) ⟨fun _ => 0, w5b⟩ ⟨own, wr⟩) => HRS.out.ext (HW0.out.trans (HE5.out.trans (ext_of_ne m))))
              go_wp2_with fail
              go_loopw [22] (fun i wr => ∃ (q : Nat) (own : Nat → Nat), q ≤ F ∧ i = .int .i64 q ∧ Hid (Mod (fun x => x ≠ 0) ⟨fun _ => 0, w5b⟩ ⟨own, wr⟩) ∧ Hid (MemAt ⟨own, wr⟩ 300 bm MZ) ∧ Hid (ShdAt ⟨own, wr⟩ 330 bs bt 331 bp 332 (tabTo F q) ⟨[], c.stack, false⟩ 0)) (fun i _ => F - (intOf i).toNat)
              case atStart => exact ⟨0, own3, Nat.zero_le _, rfl, MN3, R3, S3⟩
              case round =>
                obtain ⟨q, own14, hq, rfl, M14, R14, S14⟩ := hrel
                obtain ⟨w14, rfl⟩ : ∃ w14 : World, w14 = wr := ⟨_, rfl⟩
                have hfq := HFQ.out
                have hfn := HFQ.out.2.2
                clear MN3 R3 S3
                have g0 : w14.cell? ⟨w.heap.size, 0, none⟩ = some (.int .i64 c.frags) := (by simp only [World.cell?, (HBX.out _ _ M14.out)]; rfl)
                have g1 : w14.cell? ⟨w.heap.size, 1, none⟩ = some (.int .i64 c.spine) := (by simp only [World.cell?, (HBX.out _ _ M14.out)]; rfl)
                have g2 : w14.cell? ⟨w.heap.size, 2, none⟩ = some (.int .i64 c.globals) := (by simp only [World.cell?, (HBX.out _ _ M14.out)]; rfl)
                have g3 : w14.cell? ⟨w.heap.size, 3, none⟩ = some (.int .i64 c.threads) := (by simp only [World.cell?, (HBX.out _ _ M14.out)]; rfl)
                have g4 : w14.cell? ⟨w.heap.size, 4, none⟩ = some (.int .i64 c.locals) := (by simp only [World.cell?, (HBX.out _ _ M14.out)]; rfl)
                have g5 : w14.cell? ⟨w.heap.size, 5, none⟩ = some (.int .i64 c.cache) := (by simp only [World.cell?, (HBX.out _ _ M14.out)]; rfl)
                have g6 : w14.cell? ⟨w.heap.size, 6, none⟩ = some (.int .i64 c.stack) := (by simp only [World.cell?, (HBX.out _ _ M14.out)]; rfl)
                have g7 : w14.cell? ⟨w.heap.size, 7, none⟩ = some (.int .i64 c.low) := (by simp only [World.cell?, (HBX.out _ _ M14.out)]; rfl)
                have g8 : w14.cell? ⟨w.heap.size, 8, none⟩ = some (.slice c.A c.shapes.length c.cap) := (by simp only [World.cell?, (HBX.out _ _ M14.out)]; rfl)
                have gl : w.heap.size < w14.heap.size := (Array.getElem?_eq_some_iff.1 (HBX.out _ _ M14.out)).1
                by_cases hlq : q < F
                · as_aux_lemma =>
                    have dq : decide ((q : Int) < c.frags) = true := decide_eq_true (by omega)
                    have s0 := S14.out.blk.cell (i := 0) rfl
                    have sl := S14.out.blk.lt
                    clear hfq
                    go_wp2_with fail
                    refine (shade_table bt _).mono ?_
                    rintro e w15 ⟨rfl, hE15⟩
                    obtain ⟨own15, m15⟩ := Mod.ofExtT (show Ext w14 w15 from hE15) own14
                    have S15 := Lib.hid (S14.out.keep m15 id id id)
                    have R15 := Lib.hid (R14.out.keep m15 id)
                    have M15 := Lib.hid (M14.out.trans (m15.mono (S := fun x => x ≠ 0) (fun _ => False.elim)))
                    clear hE15 m15 s0 sl S14 R14 M14
                    clear g0 g1 g2 g3 g4 g5 g6 g7 g8 gl
                    go_wp2_with fail
                    refine (tab_set ⟨own15, w15⟩ 331 bt q 2 true false (tabTo F q) S15.out.tab).mono ?_
                    rintro e w16 ⟨rfl, own16, m16, t16⟩
                    have S16 := Lib.hid (show ShdAt ⟨own16, w16⟩ 330 bs bt 331 bp 332 (tabTo F (q + 1)) ⟨[], c.stack, false⟩ 0 from ⟨S15.out.blk.keep m16 (by decide), by rw [← tabTo_set hlq]; exact t16, S15.out.pile.keep m16 (by decide)⟩)
                    have R16 := Lib.hid (R15.out.keep m16 (by decide))
                    have M16 := Lib.hid (M15.out.trans (m16.mono (S := fun x => x ≠ 0) (fun x hx => by omega)))
                    clear m16 t16 S15 R15 M15
                    go_wp2_with fail
                    go_roundw
                    case rel => exact ⟨q + 1, own16, by omega, by go_num, M16, R16, S16⟩
                    case measure => simp [intOf]; omega
                · as_aux_lemma =>
                    obtain rfl : q = F := by omega
                    have dq : decide ((q : Int) < c.frags) = false := decide_eq_false (by omega)
                    have hmk := made_metT (k := q) (by omega)
                    rw [← HFQ.out.1] at hmk
                    have S17 := Lib.hid (show ShdAt ⟨own14, w14⟩ 330 bs bt 331 bp 332 (tabOf q (fun k => !partTo got 0 k) (fun _ => false)) ⟨[], c.stack, false⟩ 0 from by
                      have h := S14.out
                      rw [tabTo_all] at h
                      exact h)
                    clear hfq S14
                    go_wp2_with fail
                    obtain ⟨own17, m17, b17⟩ : ∃ own17, Mod (fun _ => False) ⟨own14, w14⟩ ⟨own17, w14.alloc (.cells (Array.replicate q (Value.bool false)) 4)⟩ ∧ Blk ⟨own17, w14.alloc (.cells (Array.replicate q (Value.bool false)) 4)⟩ 340 w14.heap.size 4 (wantV q (partTo got 0)) := ⟨_, Mod.ext (g := ⟨own14, w14⟩) (show Ext w14 (w14.alloc (.cells (Array.replicate q (Value.bool false)) 4)) by (repeat (first | (with_reducible assumption) | (with_reducible exact Ext.refl _) | (with_reducible exact Ext.more _ _ _ _) | apply Ext.alloc | refine Ext.setCell ?_ (by first | exact Nat.le_refl _ | exact Nat.le_add_right _ _ | assumption) _ | apply Ext.patch | apply Ext.drew | apply Ext.drewN))) 340, wantV_new ⟨own14, w14⟩ q⟩
                    have B17 := Lib.hid b17
                    have M17 := Lib.hid (M14.out.trans (m17.mono (S := fun x => x ≠ 0) (fun _ => False.elim)))
                    have R17 := Lib.hid (R14.out.keep m17 id)
                    have S17b := Lib.hid (S17.out.keep m17 id id id)
                    generalize w14.alloc (.cells (Array.replicate q (Value.bool false)) 4) = w17 at *
                    generalize w14.heap.size = bw at *
                    clear b17 m17 M14 R14 S17 hmk dq
                    clear g0 g1 g2 g3 g4 g5 g6 g7 g8 gl
                    go_loopw [24] (fun i wr => ∃ (x : Nat) (own : Nat → Nat), x ≤ got.length ∧ i = .int .i64 x ∧ Hid (Mod (fun x => x ≠ 0) ⟨fun _ => 0, w5b⟩ ⟨own, wr⟩) ∧ Hid (MemAt ⟨own, wr⟩ 300 bm MZ) ∧ Hid (ShdAt ⟨own, wr⟩ 330 bs bt 331 bp 332 (tabOf q (fun k => !partTo got x k) (fun _ => false)) ⟨[], c.stack, false⟩ 0) ∧ Hid (Blk ⟨own, wr⟩ 340 bw 4 (wantV q (partTo got x)))) (fun i _ => got.length - (intOf i).toNat)
                    case atStart => exact ⟨0, own17, Nat.zero_le _, rfl, M17, R17, S17b, B17⟩
                    case round =>
                      obtain ⟨x, own18, hx, rfl, M18, R18, S18, B18⟩ := hrel
                      obtain ⟨w18, rfl⟩ : ∃ w18 : World, w18 = wr := ⟨_, rfl⟩
                      clear M17 R17 S17b B17
                      by_cases hlx : x < got.length
                      · rcases Nat.eq_zero_or_pos x with hx0 | hx0
                        · as_aux_lemma =>
                            subst hx0
                            have hp1 : partTo got 1 = partTo got 0 := by funext k; rw [partTo_succ]; simp
                            have HP1 := Lib.hid hp1
                            clear hp1
                            go_wp2_with fail
                            go_roundw
                            case rel => exact ⟨1, own18, by omega, by go_num, M18, R18, by rw [HP1.out]; exact S18, by rw [HP1.out]; exact B18⟩
                            case measure => simp [intOf]; omega
                        · as_aux_lemma =>
                            have dx : decide ((0 : Int) < (x : Int)) = true := decide_eq_true (by omega)
                            obtain ⟨bg, og, hAg, hgq, hcg⟩ := ints_at (HGX.out _ _ M18.out) hlx
                            have z0 := hcg x hlx
                            subst hAg
                            have hy := HLD.out.gotb x hlx
                            obtain ⟨y, hy2⟩ := Int.eq_ofNat_of_zero_le hy.1
                            rw [hy2] at z0
                            have hyq : y < q := by have := HFQ.out.1; omega
                            have HTN := Lib.hid (show (tabOf q (fun k => !partTo got x k) (fun _ => false)).set (y : Int) 2 false false = tabOf q (fun k => !partTo got (x + 1) k) (fun _ => false) from (tabOf_unhead hyq).trans (tabOf_congr fun k hk => ⟨by rw [partTo_succ, hy2, decide_eq_true hx0, Int.toNat_natCast]; cases partTo got x k <;> cases (y == k) <;> rfl, rfl⟩))
                            have HWN := Lib.hid (show (wantV q (partTo got x)).set y (.bool true) = wantV q (partTo got (x + 1)) from (wantV_set q y _).trans (wantV_congr fun k hk => by rw [partTo_succ, hy2, decide_eq_true hx0, Int.toNat_natCast, Bool.true_and]))
                            have m19 : Mod (fun x => x = 340) ⟨own18, w18⟩ ⟨own18, w18.setCell ⟨bw, y, none⟩ (.bool true)⟩ := Mod.st Mod.self B18.out.own
                            have M19 := Lib.hid (M18.out.trans (m19.mono (S := fun x => x ≠ 0) (fun x hx => by omega)))
                            have R19 := Lib.hid (R18.out.keep m19 (by decide))
                            have S19 := Lib.hid (S18.out.keep m19 (by decide) (by decide) (by decide))
                            have B19 := Lib.hid (B18.out.set y (.bool true))
                            have cy := B18.out.cell (i := y) (wantV_get hyq)
                            have fy := B18.out.live y
                            have ly := B18.out.lt
                            have HY2 := Lib.hid hy2
                            clear hy hy2 hcg m19 R18 S18 B18 M18
                            have e1 := IntWalk.i64_in (y : Int) (by omega)
                            go_wp2_with fail
                            generalize w18.setCell ⟨bw, y, none⟩ (.bool true) = w19 at *
                            clear z0 hgq cy fy ly
                            obtain ⟨z1, hg9⟩ := int_at (HGX.out _ _ M19.out) hlx
                            rw [HY2.out] at z1
                            have s0 := S19.out.blk.cell (i := 0) rfl
                            have sl := S19.out.blk.lt
                            have HTS := Lib.hid (fun X => tab_set (GW.pt ⟨own18, w19⟩ X) 331 bt y 2 false false _ (S19.out.tab.pt X))
                            refine wp_region_mixed [true, true, true, true, true, true, true, true, true, false] 1 9 (by kernel_rfl) (by kernel_rfl) (by kernel_rfl) ?_ (by decide) (by decide) (by decide) (by kernel_rfl) ?_
                            · intro c a d v w h; cases d <;> exact h
                            intro X00
                            simp only [pickOps]
                            repeat (go_big_quiet_step (exact Calls.added (shade_table bt _)))
                            refine wpQuiet_nil (fun X0 => ?_)
                            clear X00
                            refine wpAnyM_tailL rfl (by kernel_rfl) (fun X2 => ?_)
                            simp only [List.drop_succ_cons, List.drop_zero]
                            go_wp2_with fail
                            refine (HTS.out _).mono ?_
                            rintro e w20 ⟨rfl, own20, m20, t20⟩
                            have P20 := (Mod.pt (Mod.refl _ _) _).trans m20
                            have S20 := Lib.hid (show ShdAt ⟨own20, w20⟩ 330 bs bt 331 bp 332 (tabOf q (fun k => !partTo got (x + 1) k) (fun _ => false)) ⟨[], c.stack, false⟩ 0 from ⟨S19.out.blk.keep P20 (by decide), by rw [← HTN.out]; exact t20, S19.out.pile.keep P20 (by decide)⟩)
                            have R20 := Lib.hid (R19.out.keep P20 (by decide))
                            have B20 := Lib.hid (show Blk ⟨own20, w20⟩ 340 bw 4 (wantV q (partTo got (x + 1))) from by rw [← HWN.out]; exact B19.out.keep P20 (by decide))
                            have M20 := Lib.hid (M19.out.trans (P20.mono (S := fun x => x ≠ 0) (fun x hx => by omega)))
                            clear P20 m20 t20 S19 R19 B19 M19 HTS
                            go_wp2_with fail
                            go_roundw
                            case rel => exact ⟨x + 1, own20, by omega, by go_num, M20, R20, S20, B20⟩
                            case measure => simp [intOf]; omega
                      · as_aux_lemma =>
                          obtain rfl : x = got.length := by omega
                          obtain ⟨hdF, hhd⟩ : ∃ f : Nat → Bool, f = fun k => !partTo got got.length k := ⟨_, rfl⟩
                          have S21 := Lib.hid (show ShdAt ⟨own18, w18⟩ 330 bs bt 331 bp 332 (tabOf q hdF (fun _ => false)) ⟨[], c.stack, false⟩ 0 from by rw [hhd]; exact S18.out)
                          have B21 := Lib.hid (show Blk ⟨own18, w18⟩ 340 bw 4 (wantV q (fun k => partTo got got.length k || (hdF k && refd q true refs' rs 0 k))) from by rw [wantV_congr (f' := partTo got got.length) (fun k _ => by simp [refd])]; exact B18.out)
                          clear hhd
                          obtain ⟨MN, hMN⟩ := Int.eq_ofNat_of_zero_le HLD.out.top.1
                          have HMN := Lib.hid hMN
                          obtain ⟨K, hK⟩ : ∃ K, K = min MN rs.length := ⟨_, rfl⟩
                          have hK6 : K ≤ 512 := by have := HLD.out.top.2; omega
                          have HK := Lib.hid hK
                          clear hK hMN
                          go_wp2_with fail
                          go_loopw [25] (fun i wr => ∃ (x : Nat) (own : Nat → Nat), x ≤ K ∧ i = .int .i64 x ∧ Hid (Mod (fun x => x ≠ 0) ⟨fun _ => 0, w5b⟩ ⟨own, wr⟩) ∧ Hid (MemAt ⟨own, wr⟩ 300 bm (aMem q true got refs' rs MZ x)) ∧ Hid (ShdAt ⟨own, wr⟩ 330 bs bt 331 bp 332 (tabOf q hdF (fun _ => false)) ⟨[], c.stack, false⟩ 0) ∧ Hid (Blk ⟨own, wr⟩ 340 bw 4 (wantV q (fun k => partTo got got.length k || (hdF k && refd q true refs' rs x k))))) (fun i _ => K - (intOf i).toNat)
                          case atStart => exact ⟨0, own18, Nat.zero_le _, rfl, M18, R18, S21, B21⟩
                          case round =>
                            obtain ⟨x, own22, hx, rfl, M22, R22, S22, B22⟩ := hrel
                            obtain ⟨w22, rfl⟩ : ∃ w22 : World, w22 = wr := ⟨_, rfl⟩
                            clear M18 R18 S18 B18 S21 B21
                            by_cases hlx : x < K
                            · have d1 : decide ((x : Int) < n) = true := decide_eq_true (by have := HMN.out; have := HK.out; omega)
                              have d2 : decide ((x : Int) < (rs.length : Int)) = true := decide_eq_true (by have := HK.out; omega)
                              have hxr : x < rs.length := by have := HK.out; omega
                              have d1m : (x : Int) < n := by have := HMN.out; have := HK.out; omega
                              obtain ⟨be, oe, hAe, hge, hce⟩ := ints_at (HRX.out _ _ M22.out) hxr
                              have z0 := hce x hxr
                              subst hAe
                              have hrb := HWR.out (rs.getD x 0) (by rw [List.getD_eq_getElem?_getD, List.getElem?_eq_getElem hxr]; exact List.getElem_mem hxr)
                              have HNO := Lib.hid (fun (hB : aB q true refs' rs x = false) => show aMem q true got refs' rs MZ (x + 1) = aMem q true got refs' rs MZ x ∧ wantV q (fun k => partTo got got.length k || (hdF k && refd q true refs' rs (x + 1) k)) = wantV q (fun k => partTo got got.length k || (hdF k && refd q true refs' rs x k)) from ⟨by show (if aB q true refs' rs x = true then _ else _) = _; rw [hB]; rfl, wantV_congr fun k _ => by rw [refd_succ, hB, Bool.false_and, Bool.or_false]⟩)
                              obtain ⟨r, hr⟩ : ∃ r, r = rs.getD x 0 := ⟨_, rfl⟩
                              rw [← hr] at z0 hrb
                              have HR := Lib.hid hr
                              clear hr hce
                              have g0 : w22.cell? ⟨w.heap.size, 0, none⟩ = some (.int .i64 c.frags) := (by simp only [World.cell?, (HBX.out _ _ M22.out)]; rfl)
                              have g1 : w22.cell? ⟨w.heap.size, 1, none⟩ = some (.int .i64 c.spine) := (by simp only [World.cell?, (HBX.out _ _ M22.out)]; rfl)
                              have g2 : w22.cell? ⟨w.heap.size, 2, none⟩ = some (.int .i64 c.globals) := (by simp only [World.cell?, (HBX.out _ _ M22.out)]; rfl)
                              have g3 : w22.cell? ⟨w.heap.size, 3, none⟩ = some (.int .i64 c.threads) := (by simp only [World.cell?, (HBX.out _ _ M22.out)]; rfl)
                              have g4 : w22.cell? ⟨w.heap.size, 4, none⟩ = some (.int .i64 c.locals) := (by simp only [World.cell?, (HBX.out _ _ M22.out)]; rfl)
                              have g5 : w22.cell? ⟨w.heap.size, 5, none⟩ = some (.int .i64 c.cache) := (by simp only [World.cell?, (HBX.out _ _ M22.out)]; rfl)
                              have g6 : w22.cell? ⟨w.heap.size, 6, none⟩ = some (.int .i64 c.stack) := (by simp only [World.cell?, (HBX.out _ _ M22.out)]; rfl)
                              have g7 : w22.cell? ⟨w.heap.size, 7, none⟩ = some (.int .i64 c.low) := (by simp only [World.cell?, (HBX.out _ _ M22.out)]; rfl)
                              have g8 : w22.cell? ⟨w.heap.size, 8, none⟩ = some (.slice c.A c.shapes.length c.cap) := (by simp only [World.cell?, (HBX.out _ _ M22.out)]; rfl)
                              have gl : w.heap.size < w22.heap.size := (Array.getElem?_eq_some_iff.1 (HBX.out _ _ M22.out)).1
                              by_cases hneg : r < 0
                              · as_aux_lemma =>
                                  have d3 : decide (r < 0) = true := decide_eq_true hneg
                                  have HB0 := Lib.hid (show aB q true refs' rs x = false from by unfold aB; rw [decide_eq_false (by rw [← HR.out]; omega), Bool.false_and])
                                  go_wp2_with fail
                                  refine wp_region_mixed [true, true, true, true, true, true, true, true, true, true, true, true, true, true] 0 14 (by kernel_rfl) (by kernel_rfl) (by kernel_rfl) ?_ (by decide) (by decide) (by decide) (by kernel_rfl) ?_
                                  · intro c a d v w h; cases d <;> exact h
                                  intro X00
                                  simp only [pickOps]
                                  repeat (go_big_quiet_step (fail))
                                  refine wpQuiet_nil (fun X0 => ?_)
                                  clear X00
                                  refine wpAnyM_done (by kernel_rfl) (fun X0' => ?_) _
                                  (try go_simp)
                                  obtain ⟨own23, m23⟩ : ∃ own23, Mod (fun _ => False) ⟨own22, w22⟩ ⟨own23, w22.patch ⟨X0.blocks ++ X0'.blocks, X0'.drawn⟩⟩ := ⟨_, Mod.pt (Mod.refl _ _) _⟩
                                  generalize w22.patch ⟨X0.blocks ++ X0'.blocks, X0'.drawn⟩ = w23 at *
                                  have M23 := Lib.hid (M22.out.trans (m23.mono (S := fun x => x ≠ 0) (fun _ => False.elim)))
                                  have R23 := Lib.hid (R22.out.keep m23 id)
                                  have S23 := Lib.hid (S22.out.keep m23 id id id)
                                  have B23 := Lib.hid (B22.out.keep m23 id)
                                  clear m23 M22 R22 S22 B22 z0 hge
                                  clear g0 g1 g2 g3 g4 g5 g6 g7 g8 gl
                                  go_wp2_with fail
                                  go_roundw
                                  case rel => exact ⟨x + 1, own23, by omega, by go_num, M23, by rw [(HNO.out HB0.out).1]; exact R23, S23, by rw [(HNO.out HB0.out).2]; exact B23⟩
                                  case measure => simp [intOf]; omega
                              · have d3 : decide (r < 0) = false := decide_eq_false hneg
                                have hfq := HFQ.out.1
                                by_cases hbig : (q : Int) ≤ r
                                · as_aux_lemma =>
                                    have d4 : decide (c.frags ≤ r) = true := decide_eq_true (by omega)
                                    have HB0 := Lib.hid (show aB q true refs' rs x = false from by unfold aB; rw [decide_eq_false (by rw [← HR.out]; omega), Bool.false_and])
                                    clear hfq
                                    go_wp2_with fail
                                    refine wp_region_mixed [true, true, true, true, true, true, true, true, true, true, true, true, true, true] 0 14 (by kernel_rfl) (by kernel_rfl) (by kernel_rfl) ?_ (by decide) (by decide) (by decide) (by kernel_rfl) ?_
                                    · intro c a d v w h; cases d <;> exact h
                                    intro X00
                                    simp only [pickOps]
                                    repeat (go_big_quiet_step (fail))
                                    refine wpQuiet_nil (fun X0 => ?_)
                                    clear X00
                                    refine wpAnyM_done (by kernel_rfl) (fun X0' => ?_) _
                                    (try go_simp)
                                    obtain ⟨own23, m23⟩ : ∃ own23, Mod (fun _ => False) ⟨own22, w22⟩ ⟨own23, w22.patch ⟨X0.blocks ++ X0'.blocks, X0'.drawn⟩⟩ := ⟨_, Mod.pt (Mod.refl _ _) _⟩
                                    generalize w22.patch ⟨X0.blocks ++ X0'.blocks, X0'.drawn⟩ = w23 at *
                                    have M23 := Lib.hid (M22.out.trans (m23.mono (S := fun x => x ≠ 0) (fun _ => False.elim)))
                                    have R23 := Lib.hid (R22.out.keep m23 id)
                                    have S23 := Lib.hid (S22.out.keep m23 id id id)
                                    have B23 := Lib.hid (B22.out.keep m23 id)
                                    clear m23 M22 R22 S22 B22 z0 hge
                                    clear g0 g1 g2 g3 g4 g5 g6 g7 g8 gl
                                    go_wp2_with fail
                                    go_roundw
                                    case rel => exact ⟨x + 1, own23, by omega, by go_num, M23, by rw [(HNO.out HB0.out).1]; exact R23, S23, by rw [(HNO.out HB0.out).2]; exact B23⟩
                                    case measure => simp [intOf]; omega
                                · as_aux_lemma =>
                                    have d4 : decide (c.frags ≤ r) = false := decide_eq_false (by omega)
                                    obtain ⟨y, rfl⟩ := Int.eq_ofNat_of_zero_le (show 0 ≤ r by omega)
                                    have hyq : y < q := by omega
                                    have HBV := Lib.hid (show aB q true refs' rs x = aRef true refs' x from by unfold aB; rw [decide_eq_true (by rw [← HR.out]; omega), Bool.true_and])
                                    clear hfq
                                    go_wp2_with fail
                                    refine wp_region_mixed [true, true, true, true, true, true, true, true, true, true, true, true, true, true] 0 14 (by kernel_rfl) (by kernel_rfl) (by kernel_rfl) ?_ (by decide) (by decide) (by decide) (by kernel_rfl) ?_
                                    · intro c a d v w h; cases d <;> exact h
                                    intro X00
                                    simp only [pickOps]
                                    repeat (go_big_quiet_step (fail))
                                    refine wpQuiet_nil (fun X0 => ?_)
                                    clear X00
                                    refine wpAnyM_done (by kernel_rfl) (fun X0' => ?_) _
                                    (try go_simp)
                                    obtain ⟨own23, m23⟩ : ∃ own23, Mod (fun _ => False) ⟨own22, w22⟩ ⟨own23, w22.patch ⟨X0.blocks ++ X0'.blocks, X0'.drawn⟩⟩ := ⟨_, Mod.pt (Mod.refl _ _) _⟩
                                    generalize w22.patch ⟨X0.blocks ++ X0'.blocks, X0'.drawn⟩ = w23 at *
                                    have M23 := Lib.hid (M22.out.trans (m23.mono (S := fun x => x ≠ 0) (fun _ => False.elim)))
                                    have R23 := Lib.hid (R22.out.keep m23 id)
                                    have S23 := Lib.hid (S22.out.keep m23 id id id)
                                    have B23 := Lib.hid (B22.out.keep m23 id)
                                    clear m23 M22 R22 S22 B22 z0 hge
                                    clear g0 g1 g2 g3 g4 g5 g6 g7 g8 gl
                                    have HSX := Lib.hid (fun (own : Nat → Nat) (wr : World) (m : Mod (fun x => x ≠ 0) ⟨fun _ => 0, w5b⟩ ⟨own, wr⟩) => HBS.out wr (HX5.out.trans (ext_of_ne m)))
                                    have m0 : w23.cell? ⟨w2.heap.size, 0, none⟩ = some (.bool true) := by simp only [World.cell?, HSX.out _ _ M23.out]; rfl
                                    have m1 : w23.cell? ⟨w2.heap.size, 1, none⟩ = some (.slice A' refs'.length cap') := by simp only [World.cell?, HSX.out _ _ M23.out]; rfl
                                    have ml : w2.heap.size < w23.heap.size := (Array.getElem?_eq_some_iff.1 (HSX.out _ _ M23.out)).1
                                    have HE2X := Lib.hid (fun (own : Nat → Nat) (wr : World) (m : Mod (fun x => x ≠ 0) ⟨fun _ => 0, w5b⟩ ⟨own, wr⟩) => (show Ext w2 (w2.alloc (.cells #[.bool true, .slice A' refs'.length cap'] 37)) by (repeat (first | (with_reducible assumption) | (with_reducible exact Ext.refl _) | (with_reducible exact Ext.more _ _ _ _) | (with_reducible apply Ext.alloc) | (with_reducible apply Ext.patch) | (with_reducible apply Ext.drew) | (with_reducible apply Ext.drewN) | (with_reducible refine Ext.setCell ?_ (by first | assumption | exact Nat.le_refl _ | exact Nat.le_add_right _ _) _)))).trans (HX5.out.trans (ext_of_ne m)))
                                    have hpfl : 1 + x / 8 < got.length := by have := HLD.out.frag x d1m; rw [if_pos rfl] at this; exact this
                                    have HRV := Lib.hid (show aRef true refs' x = refs'.getD 0 false from rfl)
                                    have hr1 : 0 < refs'.length := by have : refs'.length = 1 := HLD.out.shape; omega
                                    obtain ⟨br, or, hAr, hbr, zr⟩ := bool_at (HOK.out.ext (HE2X.out _ _ M23.out)).1 hr1
                                    rw [Nat.add_zero] at zr
                                    obtain ⟨bg, og, hAg, hgq, hcg⟩ := ints_at (HGX.out _ _ M23.out) hpfl
                                    have zg := hcg (1 + x / 8) hpfl
                                    subst hAr hAg
                                    have hyb := HLD.out.gotb (1 + x / 8) hpfl
                                    have hfr2 := HRG.out.1.2
                                    have HAD := Lib.hid (show aAddr true got x = got.getD (1 + x / 8) 0 * 8 + ((x % 8 : Nat) : Int) from rfl)
                                    generalize got.getD (1 + x / 8) 0 = y1 at *
                                    generalize refs'.getD 0 false = rb at *
                                    have e5 := IntWalk.i64_in (1 + (x : Int) / 8) (by omega)
                                    have e6 := IntWalk.i64_in (8 * y1) (by omega)
                                    have e7 := IntWalk.i64_in (8 * y1 + (x : Int) % 8) (by omega)
                                    have e4 := i64_and7 (x : Int)
                                    clear hcg
                                    cases rb
                                    · as_aux_lemma =>
                                        have HB0 := Lib.hid (HBV.out.trans HRV.out)
                                        go_wp2_with fail
                                        refine wp_region_mixed [true, true, true, true, true, true, true, true, true, true, true, true, true, true, true, true] 0 16 (by kernel_rfl) (by kernel_rfl) (by kernel_rfl) ?_ (by decide) (by decide) (by decide) (by kernel_rfl) ?_
                                        · intro c a d v w h; cases d <;> exact h
                                        intro X00
                                        simp only [pickOps]
                                        repeat (go_big_quiet_step (fail))
                                        refine wpQuiet_nil (fun X0 => ?_)
                                        clear X00
                                        refine wpAnyM_done (by kernel_rfl) (fun X0' => ?_) _
                                        (try go_simp)
                                        obtain ⟨own25, m25⟩ : ∃ own25, Mod (fun _ => False) ⟨own23, w23⟩ ⟨own25, w23.patch ⟨X0.blocks ++ X0'.blocks, X0'.drawn⟩⟩ := ⟨_, Mod.pt (Mod.refl _ _) _⟩
                                        generalize w23.patch ⟨X0.blocks ++ X0'.blocks, X0'.drawn⟩ = w25 at *
                                        have M25 := Lib.hid (M23.out.trans (m25.mono (S := fun x => x ≠ 0) (fun _ => False.elim)))
                                        have R25 := Lib.hid (R23.out.keep m25 id)
                                        have S25 := Lib.hid (S23.out.keep m25 id id id)
                                        have B25 := Lib.hid (B23.out.keep m25 id)
                                        clear m25 M23 R23 S23 B23 m1 ml zr hbr zg hgq
                                        go_wp2_with fail
                                        go_roundw
                                        case rel => exact ⟨x + 1, own25, by omega, by go_num, M25, by rw [(HNO.out HB0.out).1]; exact R25, S25, by rw [(HNO.out HB0.out).2]; exact B25⟩
                                        case measure => simp [intOf]; omega
                                    · as_aux_lemma =>
                                        have HB1 := Lib.hid (HBV.out.trans HRV.out)
                                        go_wp2_with fail
                                        refine wp_region_mixed [true, true, true, true, true, true, true, true, true, true, true, true, true, true, true, true] 0 16 (by kernel_rfl) (by kernel_rfl) (by kernel_rfl) ?_ (by decide) (by decide) (by decide) (by kernel_rfl) ?_
                                        · intro c a d v w h; cases d <;> exact h
                                        intro X00
                                        simp only [pickOps]
                                        repeat (go_big_quiet_step (fail))
                                        refine wpQuiet_nil (fun X0 => ?_)
                                        clear X00
                                        refine wpAnyM_done (by kernel_rfl) (fun X0' => ?_) _
                                        (try go_simp)
                                        obtain ⟨own25, m25⟩ : ∃ own25, Mod (fun _ => False) ⟨own23, w23⟩ ⟨own25, w23.patch ⟨X0.blocks ++ X0'.blocks, X0'.drawn⟩⟩ := ⟨_, Mod.pt (Mod.refl _ _) _⟩
                                        generalize w23.patch ⟨X0.blocks ++ X0'.blocks, X0'.drawn⟩ = w25 at *
                                        have M25 := Lib.hid (M23.out.trans (m25.mono (S := fun x => x ≠ 0) (fun _ => False.elim)))
                                        have R25 := Lib.hid (R23.out.keep m25 id)
                                        have S25 := Lib.hid (S23.out.keep m25 id id id)
                                        have B25 := Lib.hid (B23.out.keep m25 id)
                                        clear m25 M23 R23 S23 B23 m1 ml zr hbr zg hgq
                                        have HADR := Lib.hid (show aAddr true got x = 8 * y1 + (x : Int) % 8 from by rw [HAD.out]; omega)
                                        have hadb : 0 ≤ 8 * y1 + (x : Int) % 8 ∧ 8 * y1 + (x : Int) % 8 < 8 * c.frags := by omega
                                        generalize 8 * y1 + (x : Int) % 8 = adr at *
                                        obtain ⟨z5, hg5⟩ := int_at (HRX.out _ _ M25.out) hxr
                                        rw [← HR.out] at z5
                                        go_wp2_with fail
                                        refine (rref_in y _ (by omega) (by omega)).mono ?_
                                        rintro e w26 ⟨rfl, hE26⟩
                                        obtain ⟨own26, m26⟩ := Mod.ofExtT (show Ext w25 w26 from hE26) own25
                                        have M26 := Lib.hid (M25.out.trans (m26.mono (S := fun x => x ≠ 0) (fun _ => False.elim)))
                                        have R26 := Lib.hid (R25.out.keep m26 id)
                                        have S26 := Lib.hid (S25.out.keep m26 id id id)
                                        have B26 := Lib.hid (B25.out.keep m26 id)
                                        clear m26 hE26 M25 R25 S25 B25 z5 hg5
                                        have hcb := putIf_count (A := aAddr true got) (B := aB q true refs' rs) (V := aV rs) (m := MZ) x
                                        have hmc := HMF.out.2.2
                                        have HW := mem_write ⟨own26, w26⟩ 300 bm adr (floatOfInt .f64 (y + 1)) 4607182418800017408 (aMem q true got refs' rs MZ x) R26.out (by show 0 ≤ (putIf (aAddr true got) (aB q true refs' rs) (aV rs) MZ x).count ∧ (putIf (aAddr true got) (aB q true refs' rs) (aV rs) MZ x).count ≤ 1099511627776; omega)
                                        have HPN := Lib.hid (show aMem q true got refs' rs MZ (x + 1) = (aMem q true got refs' rs MZ x).tick.lay adr (floatOfInt .f64 (y + 1), 4607182418800017408) from by
                                          show (if aB q true refs' rs x = true then _ else _) = _
                                          rw [HB1.out, if_pos rfl, HADR.out]
                                          show _ = (aMem q true got refs' rs MZ x).tick.lay adr (rW y)
                                          rw [HR.out]
                                          rfl)
                                        have hcw : c.frags * 8 ≤ cWords c := by
                                          obtain ⟨⟨_, _⟩, ⟨_, _⟩, ⟨_, _⟩, _⟩ := Cnf.ranged (Cnf.check_zero HCK.out).1
                                          unfold cWords
                                          rw [if_pos HCK.out]
                                          omega
                                        have hin : inB adr (aMem q true got refs' rs MZ x).l.length = true := by
                                          unfold inB
                                          apply decide_eq_true
                                          rw [show (aMem q true got refs' rs MZ x).l.length = MZ.l.length from putIf_len x, HMF.out.1]
                                          omega
                                        rw [hin] at HW
                                        simp only [if_true] at HW
                                        clear hcb hmc hcw hin hadb
                                        replace HW := Lib.hid HW
                                        go_wp2_with fail
                                        refine HW.out.mono ?_
                                        rintro e w27 ⟨rfl, own27, m27, r27⟩
                                        have M27 := Lib.hid (M26.out.trans (m27.mono (S := fun x => x ≠ 0) (fun x hx => by omega)))
                                        have R27 := Lib.hid (show MemAt ⟨own27, w27⟩ 300 bm (aMem q true got refs' rs MZ (x + 1)) from by rw [HPN.out]; exact r27)
                                        have S27 := Lib.hid (S26.out.keep m27 (by decide) (by decide) (by decide))
                                        have B27 := Lib.hid (B26.out.keep m27 (by decide))
                                        clear m27 r27 M26 R26 S26 B26 HW HPN
                                        have s0 := S27.out.blk.cell (i := 0) rfl
                                        have sl := S27.out.blk.lt
                                        obtain ⟨z7, hg7⟩ := int_at (HRX.out _ _ M27.out) hxr
                                        rw [← HR.out] at z7
                                        go_wp2_with fail
                                        refine wp_region_mixed [true, true, true, true, true, true, true, true, true, false] 1 9 (by kernel_rfl) (by kernel_rfl) (by kernel_rfl) ?_ (by decide) (by decide) (by decide) (by kernel_rfl) ?_
                                        · intro c a d v w h; cases d <;> exact h
                                        intro X00
                                        simp only [pickOps]
                                        repeat (go_big_quiet_step (exact Calls.added (shade_table bt _)))
                                        refine wpQuiet_nil (fun X0 => ?_)
                                        clear X00
                                        refine wpAnyM_tailL rfl (by kernel_rfl) (fun X2 => ?_)
                                        simp only [List.drop_succ_cons, List.drop_zero]
                                        (try go_simp)
                                        obtain ⟨own28, m28⟩ : ∃ own28, Mod (fun _ => False) ⟨own27, w27⟩ ⟨own28, w27.patch ⟨X0.blocks ++ X2.blocks, X2.drawn⟩⟩ := ⟨_, Mod.pt (Mod.refl _ _) _⟩
                                        generalize w27.patch ⟨X0.blocks ++ X2.blocks, X2.drawn⟩ = w28 at *
                                        have M28 := Lib.hid (M27.out.trans (m28.mono (S := fun x => x ≠ 0) (fun _ => False.elim)))
                                        have R28 := Lib.hid (R27.out.keep m28 id)
                                        have S28 := Lib.hid (S27.out.keep m28 id id id)
                                        have B28 := Lib.hid (B27.out.keep m28 id)
                                        clear m28 M27 R27 S27 B27 s0 sl z7 hg7
                                        go_wp2_with fail
                                        refine (tab_head ⟨own28, w28⟩ 331 bt y _ S28.out.tab).mono ?_
                                        rintro e w29 ⟨rfl, rfl⟩
                                        rw [tabOf_head hyq]
                                        have HYN := Lib.hid (show (rs.getD x 0).toNat = y from by rw [← HR.out, Int.toNat_natCast])
                                        rcases hyd : hdF y with _ | _
                                        · as_aux_lemma =>
                                            have HWX := Lib.hid (show wantV q (fun k => partTo got got.length k || (hdF k && refd q true refs' rs (x + 1) k)) = wantV q (fun k => partTo got got.length k || (hdF k && refd q true refs' rs x k)) from wantV_congr fun k _ => by
                                              rw [refd_succ, HB1.out, HYN.out]
                                              by_cases hk : y = k
                                              · rw [← hk, hyd]; simp
                                              · rw [beq_eq_false_iff_ne.2 hk]; simp)
                                            clear hyd
                                            go_wp2_with fail
                                            go_roundw
                                            case rel => exact ⟨x + 1, own28, by omega, by go_num, M28, R28, S28, by rw [HWX.out]; exact B28⟩
                                            case measure => simp [intOf]; omega
                                        · as_aux_lemma =>
                                            have HWX := Lib.hid (show (wantV q (fun k => partTo got got.length k || (hdF k && refd q true refs' rs x k))).set y (.bool true) = wantV q (fun k => partTo got got.length k || (hdF k && refd q true refs' rs (x + 1) k)) from (wantV_set q y _).trans (wantV_congr fun k _ => by
                                              rw [refd_succ, HB1.out, HYN.out]
                                              by_cases hk : y = k
                                              · rw [← hk, hyd]; simp
                                              · rw [beq_eq_false_iff_ne.2 hk]; simp))
                                            clear hyd
                                            obtain ⟨z8, hg8⟩ := int_at (HRX.out _ _ M28.out) hxr
                                            rw [← HR.out] at z8
                                            have m29 : Mod (fun x => x = 340) ⟨own28, w28⟩ ⟨own28, w28.setCell ⟨bw, y, none⟩ (.bool true)⟩ := Mod.st Mod.self B28.out.own
                                            have M29 := Lib.hid (M28.out.trans (m29.mono (S := fun x => x ≠ 0) (fun x hx => by omega)))
                                            have R29 := Lib.hid (R28.out.keep m29 (by decide))
                                            have S29 := Lib.hid (S28.out.keep m29 (by decide) (by decide) (by decide))
                                            have B29 := Lib.hid (show Blk ⟨own28, w28.setCell ⟨bw, y, none⟩ (.bool true)⟩ 340 bw 4 (wantV q (fun k => partTo got got.length k || (hdF k && refd q true refs' rs (x + 1) k))) from by rw [← HWX.out]; exact B28.out.set y (.bool true))
                                            have cy := B28.out.cell (i := y) (wantV_get hyq)
                                            have fy := B28.out.live y
                                            have ly := B28.out.lt
                                            clear m29 M28 R28 S28 B28
                                            go_wp2_with fail
                                            go_roundw
                                            case rel => exact ⟨x + 1, own28, by omega, by go_num, M29, R29, S29, B29⟩
                                            case measure => simp [intOf]; omega
                            · obtain rfl : x = K := by omega
                              have hKM := Lib.hid (show (x : Int) ≤ n from by have := HMN.out; have := HK.out; omega)
                              by_cases hxm : (x : Int) < n
                              · as_aux_lemma =>
                                  have hxr : ¬ x < rs.length := by have := HMN.out; have := HK.out; omega
                                  obtain ⟨bg, og, hAg, hgq, hcg⟩ := ints_at (HGX.out _ _ M22.out) (k := 0) hg1
                                  have z0 := hcg 0 hg1
                                  rw [Nat.add_zero] at z0
                                  subst hAg
                                  have HTN := Lib.hid (fun X => trace_new c (got.getD 0 0) true 320 (GW.pt ⟨own22, w22⟩ X) ((HCO.out.ext (HW0.out.trans (HE5.out.trans (ext_of_ne M22.out)))).ext ⟨X, rfl⟩) hmx)
                                  unfold Cnf.val at HTN
                                  have hrn := HLD.out.run MZ rs x HMF.out.1 HMF.out.2.1 hKM.out
                                  rw [← HFT.out] at hrn
                                  have HRUN := Lib.hid hrn
                                  obtain ⟨y0, hy0⟩ : ∃ y0, y0 = got.getD 0 0 := ⟨_, rfl⟩
                                  have HY0 := Lib.hid hy0
                                  rw [← hy0] at z0 HTN
                                  have hcb := putIf_count (A := aAddr true got) (B := aB q true refs' rs) (V := aV rs) (m := MZ) x
                                  have hmc := HMF.out.2.2
                                  have HCM := Lib.hid (show 0 ≤ (aMem q true got refs' rs MZ x).count ∧ (aMem q true got refs' rs MZ x).count ≤ 100000 from by show 0 ≤ (putIf (aAddr true got) (aB q true refs' rs) (aV rs) MZ x).count ∧ (putIf (aAddr true got) (aB q true refs' rs) (aV rs) MZ x).count ≤ 100000; omega)
                                  have g0 : w22.cell? ⟨w.heap.size, 0, none⟩ = some (.int .i64 c.frags) := (by simp only [World.cell?, (HBX.out _ _ M22.out)]; rfl)
                                  have g1 : w22.cell? ⟨w.heap.size, 1, none⟩ = some (.int .i64 c.spine) := (by simp only [World.cell?, (HBX.out _ _ M22.out)]; rfl)
                                  have g2 : w22.cell? ⟨w.heap.size, 2, none⟩ = some (.int .i64 c.globals) := (by simp only [World.cell?, (HBX.out _ _ M22.out)]; rfl)
                                  have g3 : w22.cell? ⟨w.heap.size, 3, none⟩ = some (.int .i64 c.threads) := (by simp only [World.cell?, (HBX.out _ _ M22.out)]; rfl)
                                  have g4 : w22.cell? ⟨w.heap.size, 4, none⟩ = some (.int .i64 c.locals) := (by simp only [World.cell?, (HBX.out _ _ M22.out)]; rfl)
                                  have g5 : w22.cell? ⟨w.heap.size, 5, none⟩ = some (.int .i64 c.cache) := (by simp only [World.cell?, (HBX.out _ _ M22.out)]; rfl)
                                  have g6 : w22.cell? ⟨w.heap.size, 6, none⟩ = some (.int .i64 c.stack) := (by simp only [World.cell?, (HBX.out _ _ M22.out)]; rfl)
                                  have g7 : w22.cell? ⟨w.heap.size, 7, none⟩ = some (.int .i64 c.low) := (by simp only [World.cell?, (HBX.out _ _ M22.out)]; rfl)
                                  have g8 : w22.cell? ⟨w.heap.size, 8, none⟩ = some (.slice c.A c.shapes.length c.cap) := (by simp only [World.cell?, (HBX.out _ _ M22.out)]; rfl)
                                  have gl : w.heap.size < w22.heap.size := (Array.getElem?_eq_some_iff.1 (HBX.out _ _ M22.out)).1
                                  clear hrn hy0 hcg hcb hmc
                                  go_wp2_with fail
                                  refine wp_region_mixed [true, true, true, true, false, false] 2 4 (by kernel_rfl) (by kernel_rfl) (by kernel_rfl) ?_ (by decide) (by decide) (by decide) (by kernel_rfl) ?_
                                  · intro c a d v w h; cases d <;> exact h
                                  intro X00
                                  simp only [pickOps]
                                  repeat (go_big_quiet_step (fail))
                                  refine wpQuiet_nil (fun X0 => ?_)
                                  clear X00
                                  refine wpAnyM_tailL rfl (by kernel_rfl) (fun X2 => ?_)
                                  simp only [List.drop_succ_cons, List.drop_zero]
                                  go_wp2_with fail
                                  refine (HTN.out _).mono ?_
                                  rintro e w30 ⟨own30, b, cm, rfl, m30, t30, hs30⟩
                                  clear g0 g1 g2 g3 g4 g5 g6 g7 g8 gl
                                  obtain ⟨N, hN1, hN2, hrun⟩ := HRUN.out cm hdF hs30
                                  rw [← HY0.out] at hrun
                                  obtain ⟨MF, hMF⟩ : ∃ MF, MF = aMem q true got refs' rs MZ x := ⟨_, rfl⟩
                                  rw [← hMF] at hrun HCM R22
                                  obtain ⟨S, k', c', p', hr, h9, he, hst⟩ := hrun MF.count 0 ⟨[], c.stack, false⟩
                                  obtain ⟨W0, hW0⟩ : ∃ W0 : TrW, W0 = ⟨TraceS.fresh cm y0 true, MF, tabOf q hdF (fun _ => false), ⟨[], c.stack, false⟩, 0⟩ := ⟨_, rfl⟩
                                  have hrun2 : TrW.go N W0 = ⟨S, ⟨MF.l, c'⟩, tabOf q hdF (fun v => partTo got got.length v || (hdF v && refd q true refs' rs x v)), p', k'⟩ := by rw [hW0]; exact hr
                                  have P30 := (Mod.pt (Mod.refl _ _) _).trans m30
                                  have A30 := Lib.hid (show TrAt ⟨own30, w30⟩ 320 300 330 331 332 b bm bs bt bp (TrW.go 0 W0) from by rw [hW0]; exact ⟨t30, R22.out.keep P30 id, S22.out.keep P30 id id id⟩)
                                  have B30 := Lib.hid (B22.out.keep P30 id)
                                  have M30 := Lib.hid (M22.out.trans (P30.mono (S := fun x => x ≠ 0) (fun _ => False.elim)))
                                  have HP9 := Lib.hid (show (TrW.go N W0).s.pc = 9 from by rw [hrun2]; exact h9)
                                  have HPE := Lib.hid (show (TrW.go N W0).s.e = 0 from by rw [hrun2]; exact he)
                                  have HST := Lib.hid (show (TrW.go N W0).s.steps = W0.s.steps + N from by rw [hrun2, hW0]; show S.steps = 0 + (N : Int); rw [hst]; omega)
                                  have HTT := Lib.hid (show (TrW.go N W0).T = tabOf q hdF (fun v => partTo got got.length v || (hdF v && refd q true refs' rs x v)) from by rw [hrun2])
                                  have HOK0 := Lib.hid (show W0.s.Ok from by rw [hW0]; exact TraceS.fresh_ok _ _ _)
                                  have HW00 := Lib.hid (show W0.s.steps = 0 ∧ W0.k = 0 ∧ W0.m.count = MF.count from by rw [hW0]; exact ⟨rfl, rfl, rfl⟩)
                                  clear P30 hr hrun hrun2 hW0 h9 he hst m30 t30 hs30 HTN HRUN hMF M22 R22 S22 B22 z0 hgq
                                  go_wp2_with fail
                                  go_loopw [32] (fun i wr => ∃ (v : Nat) (own : Nat → Nat), v ≤ N ∧ i = .int .i64 v ∧ Hid (Mod (fun x => x ≠ 0) ⟨fun _ => 0, w5b⟩ ⟨own, wr⟩) ∧ Hid (TrAt ⟨own, wr⟩ 320 300 330 331 332 b bm bs bt bp (TrW.go v W0)) ∧ Hid (Blk ⟨own, wr⟩ 340 bw 4 (wantV q (fun k => partTo got got.length k || (hdF k && refd q true refs' rs x k))))) (fun i _ => N - (intOf i).toNat)
                                  case atStart => exact ⟨0, own30, Nat.zero_le _, rfl, M30, A30, B30⟩
                                  case round =>
                                    obtain ⟨v, own31, hv, rfl, M31, A31, B31⟩ := hrel
                                    obtain ⟨w31, rfl⟩ : ∃ w31 : World, w31 = wr := ⟨_, rfl⟩
                                    clear M30 A30 B30
                                    have HK9 := Lib.hid (TrW.go_keeps v W0)
                                    have HPC := Lib.hid (go_pc_end HP9.out HST.out hv)
                                    have e8 := IntWalk.i64_in (18 * (got.length : Int)) (by omega)
                                    have e9 := IntWalk.i64_in (18 * (got.length : Int) + 3) (by omega)
                                    have d0 : decide ((v : Int) < 18 * (got.length : Int) + 3) = true := decide_eq_true (by omega)
                                    go_wp2_with fail
                                    refine (trace_done ⟨own31, w31⟩ 320 b _ A31.out.tr).mono ?_
                                    rintro e w32 ⟨rfl, rfl⟩
                                    rw [HPC.out]
                                    by_cases hvN : v = N
                                    · as_aux_lemma =>
                                        rw [decide_eq_true hvN]
                                        subst hvN
                                        go_wp2_with fail
                                        go_loopw [33] (fun i wr => ∃ (z : Nat) (own : Nat → Nat), z ≤ q ∧ i = .int .i64 z ∧ Hid (Mod (fun x => x ≠ 0) ⟨fun _ => 0, w5b⟩ ⟨own, wr⟩) ∧ Hid (TrAt ⟨own, wr⟩ 320 300 330 331 332 b bm bs bt bp (TrW.go v W0)) ∧ Hid (Blk ⟨own, wr⟩ 340 bw 4 (wantV q (fun k => partTo got got.length k || (hdF k && refd q true refs' rs x k))))) (fun i _ => q - (intOf i).toNat)
                                        case atStart => exact ⟨0, own31, Nat.zero_le _, rfl, M31, A31, B31⟩
                                        case round =>
                                          obtain ⟨z, own33, hz, rfl, M33, A33, B33⟩ := hrel
                                          obtain ⟨w33, rfl⟩ : ∃ w33 : World, w33 = wr := ⟨_, rfl⟩
                                          have hfq := HFQ.out.1
                                          have hfn := HFQ.out.2.2
                                          clear M31 A31 B31 d0 e8 e9
                                          have g0 : w33.cell? ⟨w.heap.size, 0, none⟩ = some (.int .i64 c.frags) := (by simp only [World.cell?, (HBX.out _ _ M33.out)]; rfl)
                                          have g1 : w33.cell? ⟨w.heap.size, 1, none⟩ = some (.int .i64 c.spine) := (by simp only [World.cell?, (HBX.out _ _ M33.out)]; rfl)
                                          have g2 : w33.cell? ⟨w.heap.size, 2, none⟩ = some (.int .i64 c.globals) := (by simp only [World.cell?, (HBX.out _ _ M33.out)]; rfl)
                                          have g3 : w33.cell? ⟨w.heap.size, 3, none⟩ = some (.int .i64 c.threads) := (by simp only [World.cell?, (HBX.out _ _ M33.out)]; rfl)
                                          have g4 : w33.cell? ⟨w.heap.size, 4, none⟩ = some (.int .i64 c.locals) := (by simp only [World.cell?, (HBX.out _ _ M33.out)]; rfl)
                                          have g5 : w33.cell? ⟨w.heap.size, 5, none⟩ = some (.int .i64 c.cache) := (by simp only [World.cell?, (HBX.out _ _ M33.out)]; rfl)
                                          have g6 : w33.cell? ⟨w.heap.size, 6, none⟩ = some (.int .i64 c.stack) := (by simp only [World.cell?, (HBX.out _ _ M33.out)]; rfl)
                                          have g7 : w33.cell? ⟨w.heap.size, 7, none⟩ = some (.int .i64 c.low) := (by simp only [World.cell?, (HBX.out _ _ M33.out)]; rfl)
                                          have g8 : w33.cell? ⟨w.heap.size, 8, none⟩ = some (.slice c.A c.shapes.length c.cap) := (by simp only [World.cell?, (HBX.out _ _ M33.out)]; rfl)
                                          have gl : w.heap.size < w33.heap.size := (Array.getElem?_eq_some_iff.1 (HBX.out _ _ M33.out)).1
                                          by_cases hzq : z < q
                                          · as_aux_lemma =>
                                              have dz : decide ((z : Int) < c.frags) = true := decide_eq_true (by omega)
                                              have s0 := A33.out.shd.blk.cell (i := 0) rfl
                                              have sl := A33.out.shd.blk.lt
                                              have cz := B33.out.cell (i := z) (wantV_get hzq)
                                              have lz := B33.out.lt
                                              have HBLK := Lib.hid (fun X => (tab_black (GW.pt ⟨own33, w33⟩ X) 331 bt z true _ (A33.out.shd.tab.pt X)).mono (show ∀ e w', _ → Gives (.bool (partTo got got.length z || (hdF z && refd q true refs' rs x z))) (w33.patch X) e w' from fun e w' h => by
                                                obtain ⟨rfl, rfl⟩ := h
                                                rw [HTT.out, tabOf_black hzq]
                                                exact Gives.mk rfl (Ext.refl _)))
                                              simp only at cz
                                              generalize (partTo got got.length z || (hdF z && refd q true refs' rs x z)) = bz at cz HBLK
                                              have hbb : (bz != bz) = false := by simp
                                              clear hfq
                                              go_wp2_with fail
                                              refine wp_region_mixed [true, true, true, true, true, true, true, true, true, true, true, true] 0 12 (by kernel_rfl) (by kernel_rfl) (by kernel_rfl) ?_ (by decide) (by decide) (by decide) (by kernel_rfl) ?_
                                              · intro c a d v w h; cases d <;> exact h
                                              intro X00
                                              simp only [pickOps]
                                              repeat (go_big_quiet_step (first | exact Calls.added (shade_table bt _) | exact Calls.added (HBLK.out _)))
                                              refine wpQuiet_nil (fun X0 => ?_)
                                              clear X00
                                              refine wpAnyM_done (by kernel_rfl) (fun X0' => ?_) _
                                              (try go_simp)
                                              obtain ⟨own34, m34⟩ : ∃ own34, Mod (fun _ => False) ⟨own33, w33⟩ ⟨own34, w33.patch ⟨X0.blocks ++ X0'.blocks, X0'.drawn⟩⟩ := ⟨_, Mod.pt (Mod.refl _ _) _⟩
                                              generalize w33.patch ⟨X0.blocks ++ X0'.blocks, X0'.drawn⟩ = w34 at *
                                              have M34 := Lib.hid (M33.out.trans (m34.mono (S := fun x => x ≠ 0) (fun _ => False.elim)))
                                              have A34 := Lib.hid (A33.out.keep m34 id id id id id id)
                                              have B34 := Lib.hid (B33.out.keep m34 id)
                                              clear m34 M33 A33 B33 s0 sl cz lz HBLK
                                              clear g0 g1 g2 g3 g4 g5 g6 g7 g8 gl
                                              go_wp2_with fail
                                              go_roundw
                                              case rel => exact ⟨z + 1, own34, by omega, by go_num, M34, A34, B34⟩
                                              case measure => simp [intOf]; omega
                                          · as_aux_lemma =>
                                              obtain rfl : z = q := by omega
                                              have dz : decide ((z : Int) < c.frags) = false := decide_eq_false (by omega)
                                              clear hfq
                                              go_wp2_with fail
                                              refine (H.out _).mono ?_
                                              rintro e w35 ⟨rfl, hE35⟩
                                              obtain ⟨own35, m35⟩ := Mod.ofExtT (show Ext w33 w35 from hE35) own33
                                              have A35 := Lib.hid (A33.out.keep m35 id id id id id id)
                                              have M35 := Lib.hid (M33.out.trans (m35.mono (S := fun x => x ≠ 0) (fun _ => False.elim)))
                                              clear hE35 m35
                                              clear g0 g1 g2 g3 g4 g5 g6 g7 g8 gl
                                              go_wp2_with fail
                                              refine (trace_done ⟨own35, w35⟩ 320 b _ A35.out.tr).mono ?_
                                              rintro e w36 ⟨rfl, rfl⟩
                                              rw [HPC.out]
                                              simp only [decide_true]
                                              go_wp2_with fail
                                              refine (trace_errno ⟨own35, w35⟩ 320 b _ A35.out.tr).mono ?_
                                              rintro e w36 ⟨rfl, rfl⟩
                                              rw [HPE.out]
                                              go_wp2_with fail
                                              go_ret
                                              exact Gives.bool rfl ((HW0.out.trans HE5.out).trans (ext_of_ne M35.out))
                                    · as_aux_lemma =>
                                        rw [decide_eq_false hvN]
                                        have hkk := HK9.out.2.2.2.2
                                        have hw00 := HW00.out
                                        have hcm := HCM.out
                                        have HSTP := Lib.hid (trace_step ⟨own31, w31⟩ apart16 (TrW.go v W0) A31.out (TrW.go_ok v HOK0.out) (by omega) (by omega) (by omega))
                                        clear hkk hw00 hcm
                                        go_wp2_with fail
                                        refine HSTP.out.mono ?_
                                        rintro e w32 ⟨rfl, own32, m32, a32⟩
                                        have M32 := Lib.hid (M31.out.trans (m32.mono (S := fun x => x ≠ 0) (fun x hx => by unfold trT at hx; omega)))
                                        have A32 := Lib.hid a32
                                        have B32 := Lib.hid (B31.out.keep m32 (by unfold trT; omega))
                                        clear m32 a32
                                        go_wp2_with fail
                                        go_roundw
                                        case rel => exact ⟨v + 1, own32, by omega, by go_num, M32, A32, B32⟩
                                        case measure => simp [intOf]; omega
                              · as_aux_lemma =>
                                  obtain ⟨bg, og, hAg, hgq, hcg⟩ := ints_at (HGX.out _ _ M22.out) (k := 0) hg1
                                  have z0 := hcg 0 hg1
                                  rw [Nat.add_zero] at z0
                                  subst hAg
                                  have HTN := Lib.hid (fun X => trace_new c (got.getD 0 0) true 320 (GW.pt ⟨own22, w22⟩ X) ((HCO.out.ext (HW0.out.trans (HE5.out.trans (ext_of_ne M22.out)))).ext ⟨X, rfl⟩) hmx)
                                  unfold Cnf.val at HTN
                                  have hrn := HLD.out.run MZ rs x HMF.out.1 HMF.out.2.1 hKM.out
                                  rw [← HFT.out] at hrn
                                  have HRUN := Lib.hid hrn
                                  obtain ⟨y0, hy0⟩ : ∃ y0, y0 = got.getD 0 0 := ⟨_, rfl⟩
                                  have HY0 := Lib.hid hy0
                                  rw [← hy0] at z0 HTN
                                  have hcb := putIf_count (A := aAddr true got) (B := aB q true refs' rs) (V := aV rs) (m := MZ) x
                                  have hmc := HMF.out.2.2
                                  have HCM := Lib.hid (show 0 ≤ (aMem q true got refs' rs MZ x).count ∧ (aMem q true got refs' rs MZ x).count ≤ 100000 from by show 0 ≤ (putIf (aAddr true got) (aB q true refs' rs) (aV rs) MZ x).count ∧ (putIf (aAddr true got) (aB q true refs' rs) (aV rs) MZ x).count ≤ 100000; omega)
                                  have g0 : w22.cell? ⟨w.heap.size, 0, none⟩ = some (.int .i64 c.frags) := (by simp only [World.cell?, (HBX.out _ _ M22.out)]; rfl)
                                  have g1 : w22.cell? ⟨w.heap.size, 1, none⟩ = some (.int .i64 c.spine) := (by simp only [World.cell?, (HBX.out _ _ M22.out)]; rfl)
                                  have g2 : w22.cell? ⟨w.heap.size, 2, none⟩ = some (.int .i64 c.globals) := (by simp only [World.cell?, (HBX.out _ _ M22.out)]; rfl)
                                  have g3 : w22.cell? ⟨w.heap.size, 3, none⟩ = some (.int .i64 c.threads) := (by simp only [World.cell?, (HBX.out _ _ M22.out)]; rfl)
                                  have g4 : w22.cell? ⟨w.heap.size, 4, none⟩ = some (.int .i64 c.locals) := (by simp only [World.cell?, (HBX.out _ _ M22.out)]; rfl)
                                  have g5 : w22.cell? ⟨w.heap.size, 5, none⟩ = some (.int .i64 c.cache) := (by simp only [World.cell?, (HBX.out _ _ M22.out)]; rfl)
                                  have g6 : w22.cell? ⟨w.heap.size, 6, none⟩ = some (.int .i64 c.stack) := (by simp only [World.cell?, (HBX.out _ _ M22.out)]; rfl)
                                  have g7 : w22.cell? ⟨w.heap.size, 7, none⟩ = some (.int .i64 c.low) := (by simp only [World.cell?, (HBX.out _ _ M22.out)]; rfl)
                                  have g8 : w22.cell? ⟨w.heap.size, 8, none⟩ = some (.slice c.A c.shapes.length c.cap) := (by simp only [World.cell?, (HBX.out _ _ M22.out)]; rfl)
                                  have gl : w.heap.size < w22.heap.size := (Array.getElem?_eq_some_iff.1 (HBX.out _ _ M22.out)).1
                                  clear hrn hy0 hcg hcb hmc
                                  go_wp2_with fail
                                  refine wp_region_mixed [true, true, true, true, false, false] 2 4 (by kernel_rfl) (by kernel_rfl) (by kernel_rfl) ?_ (by decide) (by decide) (by decide) (by kernel_rfl) ?_
                                  · intro c a d v w h; cases d <;> exact h
                                  intro X00
                                  simp only [pickOps]
                                  repeat (go_big_quiet_step (fail))
                                  refine wpQuiet_nil (fun X0 => ?_)
                                  clear X00
                                  refine wpAnyM_tailL rfl (by kernel_rfl) (fun X2 => ?_)
                                  simp only [List.drop_succ_cons, List.drop_zero]
                                  go_wp2_with fail
                                  refine (HTN.out _).mono ?_
                                  rintro e w30 ⟨own30, b, cm, rfl, m30, t30, hs30⟩
                                  clear g0 g1 g2 g3 g4 g5 g6 g7 g8 gl
                                  obtain ⟨N, hN1, hN2, hrun⟩ := HRUN.out cm hdF hs30
                                  rw [← HY0.out] at hrun
                                  obtain ⟨MF, hMF⟩ : ∃ MF, MF = aMem q true got refs' rs MZ x := ⟨_, rfl⟩
                                  rw [← hMF] at hrun HCM R22
                                  obtain ⟨S, k', c', p', hr, h9, he, hst⟩ := hrun MF.count 0 ⟨[], c.stack, false⟩
                                  obtain ⟨W0, hW0⟩ : ∃ W0 : TrW, W0 = ⟨TraceS.fresh cm y0 true, MF, tabOf q hdF (fun _ => false), ⟨[], c.stack, false⟩, 0⟩ := ⟨_, rfl⟩
                                  have hrun2 : TrW.go N W0 = ⟨S, ⟨MF.l, c'⟩, tabOf q hdF (fun v => partTo got got.length v || (hdF v && refd q true refs' rs x v)), p', k'⟩ := by rw [hW0]; exact hr
                                  have P30 := (Mod.pt (Mod.refl _ _) _).trans m30
                                  have A30 := Lib.hid (show TrAt ⟨own30, w30⟩ 320 300 330 331 332 b bm bs bt bp (TrW.go 0 W0) from by rw [hW0]; exact ⟨t30, R22.out.keep P30 id, S22.out.keep P30 id id id⟩)
                                  have B30 := Lib.hid (B22.out.keep P30 id)
                                  have M30 := Lib.hid (M22.out.trans (P30.mono (S := fun x => x ≠ 0) (fun _ => False.elim)))
                                  have HP9 := Lib.hid (show (TrW.go N W0).s.pc = 9 from by rw [hrun2]; exact h9)
                                  have HPE := Lib.hid (show (TrW.go N W0).s.e = 0 from by rw [hrun2]; exact he)
                                  have HST := Lib.hid (show (TrW.go N W0).s.steps = W0.s.steps + N from by rw [hrun2, hW0]; show S.steps = 0 + (N : Int); rw [hst]; omega)
                                  have HTT := Lib.hid (show (TrW.go N W0).T = tabOf q hdF (fun v => partTo got got.length v || (hdF v && refd q true refs' rs x v)) from by rw [hrun2])
                                  have HOK0 := Lib.hid (show W0.s.Ok from by rw [hW0]; exact TraceS.fresh_ok _ _ _)
                                  have HW00 := Lib.hid (show W0.s.steps = 0 ∧ W0.k = 0 ∧ W0.m.count = MF.count from by rw [hW0]; exact ⟨rfl, rfl, rfl⟩)
                                  clear P30 hr hrun hrun2 hW0 h9 he hst m30 t30 hs30 HTN HRUN hMF M22 R22 S22 B22 z0 hgq
                                  go_wp2_with fail
                                  go_loopw [32] (fun i wr => ∃ (v : Nat) (own : Nat → Nat), v ≤ N ∧ i = .int .i64 v ∧ Hid (Mod (fun x => x ≠ 0) ⟨fun _ => 0, w5b⟩ ⟨own, wr⟩) ∧ Hid (TrAt ⟨own, wr⟩ 320 300 330 331 332 b bm bs bt bp (TrW.go v W0)) ∧ Hid (Blk ⟨own, wr⟩ 340 bw 4 (wantV q (fun k => partTo got got.length k || (hdF k && refd q true refs' rs x k))))) (fun i _ => N - (intOf i).toNat)
                                  case atStart => exact ⟨0, own30, Nat.zero_le _, rfl, M30, A30, B30⟩
                                  case round =>
                                    obtain ⟨v, own31, hv, rfl, M31, A31, B31⟩ := hrel
                                    obtain ⟨w31, rfl⟩ : ∃ w31 : World, w31 = wr := ⟨_, rfl⟩
                                    clear M30 A30 B30
                                    have HK9 := Lib.hid (TrW.go_keeps v W0)
                                    have HPC := Lib.hid (go_pc_end HP9.out HST.out hv)
                                    have e8 := IntWalk.i64_in (18 * (got.length : Int)) (by omega)
                                    have e9 := IntWalk.i64_in (18 * (got.length : Int) + 3) (by omega)
                                    have d0 : decide ((v : Int) < 18 * (got.length : Int) + 3) = true := decide_eq_true (by omega)
                                    go_wp2_with fail
                                    refine (trace_done ⟨own31, w31⟩ 320 b _ A31.out.tr).mono ?_
                                    rintro e w32 ⟨rfl, rfl⟩
                                    rw [HPC.out]
                                    by_cases hvN : v = N
                                    · as_aux_lemma =>
                                        rw [decide_eq_true hvN]
                                        subst hvN
                                        go_wp2_with fail
                                        go_loopw [33] (fun i wr => ∃ (z : Nat) (own : Nat → Nat), z ≤ q ∧ i = .int .i64 z ∧ Hid (Mod (fun x => x ≠ 0) ⟨fun _ => 0, w5b⟩ ⟨own, wr⟩) ∧ Hid (TrAt ⟨own, wr⟩ 320 300 330 331 332 b bm bs bt bp (TrW.go v W0)) ∧ Hid (Blk ⟨own, wr⟩ 340 bw 4 (wantV q (fun k => partTo got got.length k || (hdF k && refd q true refs' rs x k))))) (fun i _ => q - (intOf i).toNat)
                                        case atStart => exact ⟨0, own31, Nat.zero_le _, rfl, M31, A31, B31⟩
                                        case round =>
                                          obtain ⟨z, own33, hz, rfl, M33, A33, B33⟩ := hrel
                                          obtain ⟨w33, rfl⟩ : ∃ w33 : World, w33 = wr := ⟨_, rfl⟩
                                          have hfq := HFQ.out.1
                                          have hfn := HFQ.out.2.2
                                          clear M31 A31 B31 d0 e8 e9
                                          have g0 : w33.cell? ⟨w.heap.size, 0, none⟩ = some (.int .i64 c.frags) := (by simp only [World.cell?, (HBX.out _ _ M33.out)]; rfl)
                                          have g1 : w33.cell? ⟨w.heap.size, 1, none⟩ = some (.int .i64 c.spine) := (by simp only [World.cell?, (HBX.out _ _ M33.out)]; rfl)
                                          have g2 : w33.cell? ⟨w.heap.size, 2, none⟩ = some (.int .i64 c.globals) := (by simp only [World.cell?, (HBX.out _ _ M33.out)]; rfl)
                                          have g3 : w33.cell? ⟨w.heap.size, 3, none⟩ = some (.int .i64 c.threads) := (by simp only [World.cell?, (HBX.out _ _ M33.out)]; rfl)
                                          have g4 : w33.cell? ⟨w.heap.size, 4, none⟩ = some (.int .i64 c.locals) := (by simp only [World.cell?, (HBX.out _ _ M33.out)]; rfl)
                                          have g5 : w33.cell? ⟨w.heap.size, 5, none⟩ = some (.int .i64 c.cache) := (by simp only [World.cell?, (HBX.out _ _ M33.out)]; rfl)
                                          have g6 : w33.cell? ⟨w.heap.size, 6, none⟩ = some (.int .i64 c.stack) := (by simp only [World.cell?, (HBX.out _ _ M33.out)]; rfl)
                                          have g7 : w33.cell? ⟨w.heap.size, 7, none⟩ = some (.int .i64 c.low) := (by simp only [World.cell?, (HBX.out _ _ M33.out)]; rfl)
                                          have g8 : w33.cell? ⟨w.heap.size, 8, none⟩ = some (.slice c.A c.shapes.length c.cap) := (by simp only [World.cell?, (HBX.out _ _ M33.out)]; rfl)
                                          have gl : w.heap.size < w33.heap.size := (Array.getElem?_eq_some_iff.1 (HBX.out _ _ M33.out)).1
                                          by_cases hzq : z < q
                                          · as_aux_lemma =>
                                              have dz : decide ((z : Int) < c.frags) = true := decide_eq_true (by omega)
                                              have s0 := A33.out.shd.blk.cell (i := 0) rfl
                                              have sl := A33.out.shd.blk.lt
                                              have cz := B33.out.cell (i := z) (wantV_get hzq)
                                              have lz := B33.out.lt
                                              have HBLK := Lib.hid (fun X => (tab_black (GW.pt ⟨own33, w33⟩ X) 331 bt z true _ (A33.out.shd.tab.pt X)).mono (show ∀ e w', _ → Gives (.bool (partTo got got.length z || (hdF z && refd q true refs' rs x z))) (w33.patch X) e w' from fun e w' h => by
                                                obtain ⟨rfl, rfl⟩ := h
                                                rw [HTT.out, tabOf_black hzq]
                                                exact Gives.mk rfl (Ext.refl _)))
                                              simp only at cz
                                              generalize (partTo got got.length z || (hdF z && refd q true refs' rs x z)) = bz at cz HBLK
                                              have hbb : (bz != bz) = false := by simp
                                              clear hfq
                                              go_wp2_with fail
                                              refine wp_region_mixed [true, true, true, true, true, true, true, true, true, true, true, true] 0 12 (by kernel_rfl) (by kernel_rfl) (by kernel_rfl) ?_ (by decide) (by decide) (by decide) (by kernel_rfl) ?_
                                              · intro c a d v w h; cases d <;> exact h
                                              intro X00
                                              simp only [pickOps]
                                              repeat (go_big_quiet_step (first | exact Calls.added (shade_table bt _) | exact Calls.added (HBLK.out _)))
                                              refine wpQuiet_nil (fun X0 => ?_)
                                              clear X00
                                              refine wpAnyM_done (by kernel_rfl) (fun X0' => ?_) _
                                              (try go_simp)
                                              obtain ⟨own34, m34⟩ : ∃ own34, Mod (fun _ => False) ⟨own33, w33⟩ ⟨own34, w33.patch ⟨X0.blocks ++ X0'.blocks, X0'.drawn⟩⟩ := ⟨_, Mod.pt (Mod.refl _ _) _⟩
                                              generalize w33.patch ⟨X0.blocks ++ X0'.blocks, X0'.drawn⟩ = w34 at *
                                              have M34 := Lib.hid (M33.out.trans (m34.mono (S := fun x => x ≠ 0) (fun _ => False.elim)))
                                              have A34 := Lib.hid (A33.out.keep m34 id id id id id id)
                                              have B34 := Lib.hid (B33.out.keep m34 id)
                                              clear m34 M33 A33 B33 s0 sl cz lz HBLK
                                              clear g0 g1 g2 g3 g4 g5 g6 g7 g8 gl
                                              go_wp2_with fail
                                              go_roundw
                                              case rel => exact ⟨z + 1, own34, by omega, by go_num, M34, A34, B34⟩
                                              case measure => simp [intOf]; omega
                                          · as_aux_lemma =>
                                              obtain rfl : z = q := by omega
                                              have dz : decide ((z : Int) < c.frags) = false := decide_eq_false (by omega)
                                              clear hfq
                                              go_wp2_with fail
                                              refine (H.out _).mono ?_
                                              rintro e w35 ⟨rfl, hE35⟩
                                              obtain ⟨own35, m35⟩ := Mod.ofExtT (show Ext w33 w35 from hE35) own33
                                              have A35 := Lib.hid (A33.out.keep m35 id id id id id id)
                                              have M35 := Lib.hid (M33.out.trans (m35.mono (S := fun x => x ≠ 0) (fun _ => False.elim)))
                                              clear hE35 m35
                                              clear g0 g1 g2 g3 g4 g5 g6 g7 g8 gl
                                              go_wp2_with fail
                                              refine (trace_done ⟨own35, w35⟩ 320 b _ A35.out.tr).mono ?_
                                              rintro e w36 ⟨rfl, rfl⟩
                                              rw [HPC.out]
                                              simp only [decide_true]
                                              go_wp2_with fail
                                              refine (trace_errno ⟨own35, w35⟩ 320 b _ A35.out.tr).mono ?_
                                              rintro e w36 ⟨rfl, rfl⟩
                                              rw [HPE.out]
                                              go_wp2_with fail
                                              go_ret
                                              exact Gives.bool rfl ((HW0.out.trans HE5.out).trans (ext_of_ne M35.out))
                                    · as_aux_lemma =>
                                        rw [decide_eq_false hvN]
                                        have hkk := HK9.out.2.2.2.2
                                        have hw00 := HW00.out
                                        have hcm := HCM.out
                                        have HSTP := Lib.hid (trace_step ⟨own31, w31⟩ apart16 (TrW.go v W0) A31.out (TrW.go_ok v HOK0.out) (by omega) (by omega) (by omega))
                                        clear hkk hw00 hcm
                                        go_wp2_with fail
                                        refine HSTP.out.mono ?_
                                        rintro e w32 ⟨rfl, own32, m32, a32⟩
                                        have M32 := Lib.hid (M31.out.trans (m32.mono (S := fun x => x ≠ 0) (fun x hx => by unfold trT at hx; omega)))
                                        have A32 := Lib.hid a32
                                        have B32 := Lib.hid (B31.out.keep m32 (by unfold trT; omega))
                                        clear m32 a32
                                        go_wp2_with fail
                                        go_roundw
                                        case rel => exact ⟨v + 1, own32, by omega, by go_num, M32, A32, B32⟩
                                        case measure => simp [intOf]; omega
end Go.Proofs.Ythdijbkcjmeilaa
