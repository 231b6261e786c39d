/-
  Merged: XTRingP, XTRing.
-/
import Derived.Test.YthdijbkcjmeilaaTraceO
import Derived.Test.YthdijbkcjmeilaaShade
/-
  TraceRing: two objects laid down, then the references between them; what is grey behind all steps.
-/
namespace Go.Proofs.Ythdijbkcjmeilaa
open Go Go.RowKit
set_option linter.unusedVariables false
set_option linter.unnecessarySimpa false
set_option linter.unusedSimpArgs false
set_option maxRecDepth 100000
set_option maxHeartbeats 1000000
def cR (B : Nat) : Cnf := ⟨4, 0, 0, 1, 1, 0, 4, 0, some ⟨B + 1, 0, none⟩, 1, [⟨false, some ⟨B, 0, none⟩, 2, [true, true]⟩]⟩
theorem ring_object (B i : Nat) (hi : i < 2) (A : Option Addr) (w : World) (hok : (cR B).Ok w) (hg : CellsAt w A [.int .i64 (i : Int)]) :
    Calls Try.prog 9 #[(cR B).val, .int .i64 0, .slice A 1 1] w (fun e w' => ∃ Al cl xs V words, e = .returned (.tuple #[.slice Al 8 cl, .int .i64 0]) ∧ Ext w w' ∧ FarLaid (cR B) 0 [(i : Int)] [true, true] w' Al 8 xs V words ∧ V 2 = (0, 4607182418800017408) ∧ V 3 = (0, 4607182418800017408) ∧ ∀ a, Al = some a → w.heap.size ≤ a.block) := by
  refine (object_any (cR B) 0 A 1 [(i : Int)] w hok hg (by simp) (by intro x hx; simp only [List.mem_cons, List.not_mem_nil, or_false] at hx; omega)).mono ?_
  rintro e w1 ⟨s', l, n, rfl, hs, hown, hE⟩
  have hsh : Cnf.shapeAt (cR B) 0 = some (false, [true, true]) := rfl
  obtain ⟨arr, A', cap', refs⟩ := s'
  rw [hsh] at hs
  simp only [Option.getD_some, Prod.mk.injEq] at hs
  obtain ⟨rfl, rfl⟩ := hs
  have hev : wrongE (cR B) ((cR B).shapeAt 0).isSome ⟨false, A', cap', [true, true]⟩ 0 false [(i : Int)] = 0 := by
    rcases (show i = 0 ∨ i = 1 by omega) with rfl | rfl <;> rfl
  obtain ⟨Al, cl, rfl⟩ := own_form hown
  obtain ⟨xs, V, words, hLD, hnn⟩ := far_laid2 hev (by decide) hown
  have hn8 := hLD.n
  obtain rfl : n = 8 := by simpa using hn8
  rw [hev]
  exact ⟨Al, cl, xs, V, words, rfl, hE, hLD, hnn 0 (show 0 < 2 by decide) rfl, hnn 1 (show 1 < 2 by decide) rfl, own_fresh hown⟩
theorem memPut_other {m : MemS} {AT : Nat → Int} {V : Nat → Nat × Nat} {a : Int} : ∀ n, (∀ k, k < n → AT k ≠ a) → (memPut m AT V n).peek a = m.peek a
  | 0, _ => rfl
  | n + 1, h => (peek_lay_other (h n (by omega))).trans (memPut_other n (fun k hk => h k (by omega)))
/-- The words behind i rounds. -/
structure Ring (i : Nat) (M : MemS) : Prop where
  len : M.l.length = 32
  cnt : M.count = 8 * i
  head : 1 ≤ i → M.peek 1 = (floatOfInt .f64 0, floatOfInt .f64 (if isSide [0] = true then 1 else 0))
  f0 : 1 ≤ i → M.peek 2 = (0, 4607182418800017408)
  f1 : 1 ≤ i → M.peek 3 = (0, 4607182418800017408)
theorem ring_zero : Ring 0 ⟨List.replicate 32 (0, 0), 0⟩ := ⟨by simp, rfl, fun h => absurd h (by decide), fun h => absurd h (by decide), fun h => absurd h (by decide)⟩
theorem ring_words (B : Nat) : (cWords (cR B)).toNat = 32 := rfl
theorem Ring.step {B i : Nat} {M : MemS} {w : World} {A : Option Addr} {xs : List Value} {V : Nat → Nat × Nat} {words : Int} (R : Ring i M) (hi : i < 2) (H : FarLaid (cR B) 0 [(i : Int)] [true, true] w A 8 xs V words) (v2 : V 2 = (0, 4607182418800017408)) (v3 : V 3 = (0, 4607182418800017408)) : Ring (i + 1) (memPut M (onceAt [(i : Int)] (-1)) V 8) := by
  have hb : ∀ j, j < 8 → inB (onceAt [(i : Int)] (-1) j) M.l.length = true := fun j hj => by rw [R.len, ← ring_words B]; exact H.inb j hj
  have hp := memPut_peek (m := M) (V := V) (n := 8) hb H.once.diff 8 (Nat.le_refl _)
  refine ⟨(memPut_len _ _ _ _).trans R.len, ?_, ?_, ?_, ?_⟩
  · rw [memPut_count, R.cnt]; omega
  all_goals
    intro _
    rcases (show i = 0 ∨ i = 1 by omega) with rfl | rfl
  · exact (hp 1 (by decide)).trans H.head
  · refine (memPut_other 8 (fun k hk => ?_)).trans (R.head (Nat.le_refl _))
    unfold onceAt
    rw [if_pos (show k < 8 * [((1 : Nat) : Int)].length by simpa using hk), show k / 8 = 0 by omega]
    show ¬ ((1 : Int) * 8 + _ = _)
    omega
  · exact (hp 2 (by decide)).trans v2
  · refine (memPut_other 8 (fun k hk => ?_)).trans (R.f0 (Nat.le_refl _))
    unfold onceAt
    rw [if_pos (show k < 8 * [((1 : Nat) : Int)].length by simpa using hk), show k / 8 = 0 by omega]
    show ¬ ((1 : Int) * 8 + _ = _)
    omega
  · exact (hp 3 (by decide)).trans v3
  · refine (memPut_other 8 (fun k hk => ?_)).trans (R.f1 (Nat.le_refl _))
    unfold onceAt
    rw [if_pos (show k < 8 * [((1 : Nat) : Int)].length by simpa using hk), show k / 8 = 0 by omega]
    show ¬ ((1 : Int) * 8 + _ = _)
    omega
/-- The references. -/
def refW (i : Int) : Nat × Nat := (floatOfInt .f64 (i + 1), 4607182418800017408)
def ringA (sf : Bool) (M : MemS) : MemS := if sf then M.tick.lay 2 (refW 0) else M
def ringB (sf : Bool) (M : MemS) : MemS := (ringA sf M).tick.lay 3 (refW 1)
def ringC (sf back : Bool) (M : MemS) : MemS := if back then (ringB sf M).tick.lay 10 (refW 0) else ringB sf M
structure RingE (sf : Bool) (M : MemS) : Prop where
  len : M.l.length = 32
  cnt : 0 ≤ M.count ∧ M.count ≤ 100
  head : M.peek 1 = (floatOfInt .f64 0, floatOfInt .f64 (if isSide [0] = true then 1 else 0))
  f0 : M.peek 2 = if sf then refW 0 else (0, 4607182418800017408)
  f1 : M.peek 3 = refW 1
theorem ringA_at {sf : Bool} {M : MemS} (R : Ring 2 M) : (ringA sf M).l.length = 32 ∧ (0 ≤ (ringA sf M).count ∧ (ringA sf M).count ≤ 20) ∧ (ringA sf M).peek 1 = M.peek 1 ∧ (ringA sf M).peek 2 = if sf then refW 0 else (0, 4607182418800017408) := by
  have hc := R.cnt
  cases sf
  · exact ⟨R.len, by show 0 ≤ M.count ∧ M.count ≤ 20; omega, rfl, R.f0 (by decide)⟩
  · refine ⟨(lay_len _ _ _).trans R.len, ?_, peek_lay_other (by decide), peek_lay_self (by show inB 2 M.l.length = true; rw [R.len]; rfl)⟩
    show 0 ≤ (M.tick.lay 2 (refW 0)).count ∧ (M.tick.lay 2 (refW 0)).count ≤ 20
    rw [lay_count]
    show 0 ≤ M.count + 1 ∧ M.count + 1 ≤ 20
    omega
theorem ringB_at {sf : Bool} {M : MemS} (R : Ring 2 M) : (ringB sf M).l.length = 32 ∧ (0 ≤ (ringB sf M).count ∧ (ringB sf M).count ≤ 30) ∧ (ringB sf M).peek 1 = M.peek 1 ∧ ((ringB sf M).peek 2 = if sf then refW 0 else (0, 4607182418800017408)) ∧ (ringB sf M).peek 3 = refW 1 := by
  obtain ⟨a1, a2, a3, a4⟩ := ringA_at (sf := sf) R
  refine ⟨(lay_len _ _ _).trans a1, ?_, (peek_lay_other (by decide)).trans a3, (peek_lay_other (by decide)).trans a4, peek_lay_self (by show inB 3 (ringA sf M).l.length = true; rw [a1]; rfl)⟩
  unfold ringB
  rw [lay_count]
  show 0 ≤ (ringA sf M).count + 1 ∧ (ringA sf M).count + 1 ≤ 30
  omega
theorem ringC_at {sf back : Bool} {M : MemS} (R : Ring 2 M) : RingE sf (ringC sf back M) := by
  obtain ⟨a1, a2, a3, a4, a5⟩ := ringB_at (sf := sf) R
  have h := R.head (by decide)
  cases back
  · exact ⟨a1, by show 0 ≤ (ringB sf M).count ∧ (ringB sf M).count ≤ 100; omega, a3.trans h, a4, a5⟩
  · have hp : ∀ b : Int, (10 : Int) ≠ b → (ringC sf true M).peek b = (ringB sf M).peek b := fun b hb => show ((ringB sf M).tick.lay 10 (refW 0)).peek b = (ringB sf M).tick.peek b from peek_lay_other hb
    have hl : (ringC sf true M).l.length = (ringB sf M).l.length := show ((ringB sf M).tick.lay 10 (refW 0)).l.length = (ringB sf M).tick.l.length from lay_len _ _ _
    have hcn : (ringC sf true M).count = (ringB sf M).count + 1 := show ((ringB sf M).tick.lay 10 (refW 0)).count = (ringB sf M).tick.count from lay_count _ _ _
    exact ⟨hl.trans a1, by rw [hcn]; omega, (hp 1 (by decide)).trans (a3.trans h), (hp 2 (by decide)).trans a4, (hp 3 (by decide)).trans a5⟩
theorem ring_in {B : Nat} {cm : Cnf} {sf : Bool} {M : MemS} (R : RingE sf M) (hs : cm.Same (cR B)) : ObjIn cm M.l [0] 0 (if isSide [0] = true then 1 else 0) [true, true] := by
  refine ⟨Nat.le_refl _, (same_check hs).trans rfl, fun i hi => ?_, (Cnf.Same.shapeAt hs 0).trans rfl, by decide, by split <;> decide, rfl, fun a h0 h1 => ?_, R.head, fun i hi => ?_, fun k hk hr => ?_⟩
  · obtain rfl : i = 0 := by simpa using hi
    rw [hs.frags]
    show (0 : Int) ≤ 0 ∧ (0 : Int) < 4
    decide
  · rw [hs.frags] at h1
    replace h1 : a < 4 * 8 := h1
    unfold inB
    apply decide_eq_true
    rw [R.len]
    omega
  · simp at hi
  · rcases (show k = 0 ∨ k = 1 by have : k < 2 := hk; omega) with rfl | rfl
    · show wIs (M.peek 2) = true
      rw [R.f0]
      cases sf
      · exact is_none
      · exact is_ref (by decide) (by decide)
    · show wIs (M.peek 3) = true
      rw [R.f1]
      exact is_ref (by decide) (by decide)
def ringT : Nat → TabS
  | 0 => TabS.fresh 4
  | k + 1 => (ringT k).set (k : Int) 2 true false
theorem ring_end {sf : Bool} {M : MemS} (R : RingE sf M) : objN M.l [0] [true, true] = (if sf then 5 else 4) ∧ (objF M.l [0] [true, true] true (ringT 2, ⟨[], 4, false⟩)).1.black 1 true = true ∧ (objF M.l [0] [true, true] true (ringT 2, ⟨[], 4, false⟩)).1.black 0 true = sf ∧ (objF M.l [0] [true, true] true (ringT 2, ⟨[], 4, false⟩)).2.l.length = (if sf then 2 else 1) := by
  have hw : objW M.l [0] [true, true] 0 = [M.peek 2, M.peek 3] := rfl
  have x1 : wIndex (refW 1) = some 1 := wIndex_ref (by decide) (by decide)
  have x0 : wIndex (refW 0) = some 0 := wIndex_ref (by decide) (by decide)
  have hn : objN M.l [0] [true, true] = 1 + costW (objW M.l [0] [true, true] 0) := rfl
  have hF : objF M.l [0] [true, true] true (ringT 2, ⟨[], 4, false⟩) = effs true (ringT 2, ⟨[], 4, false⟩) (objW M.l [0] [true, true] 0) := rfl
  rw [hn, hF, hw, R.f0, R.f1]
  cases sf
  · have c0 : cost1 (0, 4607182418800017408) = 1 := cost_none
    have c1 : cost1 (refW 1) = 2 := cost_ref (by decide) (by decide)
    have e0 : ∀ E, eff true E (0, 4607182418800017408) = E := fun E => by unfold eff; rw [wIndex_none_word]
    have e1 : ∀ E, eff true E (refW 1) = (E.1.grey 1 true, E.2.grey E.1 1 true) := fun E => by unfold eff; rw [x1]
    simp only [costW, effs, List.map_cons, List.map_nil, List.sum_cons, List.sum_nil, List.foldl_cons, List.foldl_nil, if_false, Bool.false_eq_true, c0, c1, e0, e1]
    refine ⟨rfl, by decide, by decide, by decide⟩
  · have c0 : cost1 (refW 0) = 2 := cost_ref (by decide) (by decide)
    have c1 : cost1 (refW 1) = 2 := cost_ref (by decide) (by decide)
    have e0 : ∀ E, eff true E (refW 0) = (E.1.grey 0 true, E.2.grey E.1 0 true) := fun E => by unfold eff; rw [x0]
    have e1 : ∀ E, eff true E (refW 1) = (E.1.grey 1 true, E.2.grey E.1 1 true) := fun E => by unfold eff; rw [x1]
    simp only [costW, effs, List.map_cons, List.map_nil, List.sum_cons, List.sum_nil, List.foldl_cons, List.foldl_nil, if_true, c0, c1, e0, e1]
    refine ⟨rfl, by decide, by decide, by decide⟩
end Go.Proofs.Ythdijbkcjmeilaa
/-
  spolaw16.TraceRing.
-/
namespace Go.Proofs.Ythdijbkcjmeilaa
open Go Go.RowKit
set_option linter.unusedVariables false
set_option linter.unnecessarySimpa false
set_option linter.unusedSimpArgs false
set_option maxRecDepth 100000 in
set_option maxHeartbeats 4000000 in
theorem ring_any (sf back : Bool) (w : World) : Calls Try.prog 5 #[.bool sf, .bool back] w (Gives (.bool true) w) := by
  have H := Lib.hid (fun w' => first16_any w')
  go_enter Try.func5, Try.ntmps5
  go_wp2_with fail
  refine (H.out _).mono ?_
  rintro e w1 ⟨rfl, hE1⟩
  have HE1 := Lib.hid (show Ext w w1 from hE1)
  clear hE1
  go_wp2_with fail
  have HOK := Lib.hid (show (cR w1.heap.size).Ok (((w1.alloc (.cells #[.bool true, .bool true] 4)).alloc (.cells #[.bool false, .slice (some ⟨w1.heap.size, 0, none⟩) 2 2] 37)).alloc (.cells #[.int .i64 4, .int .i64 0, .int .i64 0, .int .i64 1, .int .i64 1, .int .i64 0, .int .i64 4, .int .i64 0, .slice (some ⟨w1.heap.size + 1, 0, none⟩) 1 1] 24)) from by
    refine ⟨(cellsAt_new _ _ _ _ (by rw [World.size_alloc])).alloc _, fun s hs => ?_, by simp [cR], by simp [cR]⟩
    simp only [cR, List.mem_cons, List.not_mem_nil, or_false] at hs
    subst hs
    exact ⟨((cellsAt_new _ _ _ _ rfl).alloc _).alloc _, Nat.le_refl 2, (show 2 ≤ 140737488355328 by decide)⟩)
  have hz2 : ((w1.alloc (.cells #[.bool true, .bool true] 4)).alloc (.cells #[.bool false, .slice (some ⟨w1.heap.size, 0, none⟩) 2 2] 37)).heap.size = w1.heap.size + 2 := by simp [World.size_alloc]
  have HBK := Lib.hid (show Blk ⟨fun _ => 0, (((w1.alloc (.cells #[.bool true, .bool true] 4)).alloc (.cells #[.bool false, .slice (some ⟨w1.heap.size, 0, none⟩) 2 2] 37)).alloc (.cells #[.int .i64 4, .int .i64 0, .int .i64 0, .int .i64 1, .int .i64 1, .int .i64 0, .int .i64 4, .int .i64 0, .slice (some ⟨w1.heap.size + 1, 0, none⟩) 1 1] 24))⟩ 0 (w1.heap.size + 2) 24 [.int .i64 4, .int .i64 0, .int .i64 0, .int .i64 1, .int .i64 1, .int .i64 0, .int .i64 4, .int .i64 0, .slice (some ⟨w1.heap.size + 1, 0, none⟩) 1 1] from ⟨by
    rw [← hz2]
    exact World.row_alloc_new _, rfl⟩)
  have HE0 := Lib.hid (show Ext w1 (((w1.alloc (.cells #[.bool true, .bool true] 4)).alloc (.cells #[.bool false, .slice (some ⟨w1.heap.size, 0, none⟩) 2 2] 37)).alloc (.cells #[.int .i64 4, .int .i64 0, .int .i64 0, .int .i64 1, .int .i64 1, .int .i64 0, .int .i64 4, .int .i64 0, .slice (some ⟨w1.heap.size + 1, 0, none⟩) 1 1] 24)) by (repeat (first | (with_reducible assumption) | (with_reducible exact Ext.refl _) | (with_reducible exact Ext.more _ _ _ _) | apply Ext.alloc | refine Ext.setCell ?_ (by first | exact Nat.le_refl _ | exact Nat.le_add_right _ _ | assumption) _ | apply Ext.patch | apply Ext.drew | apply Ext.drewN)))
  generalize hw0 : (((w1.alloc (.cells #[.bool true, .bool true] 4)).alloc (.cells #[.bool false, .slice (some ⟨w1.heap.size, 0, none⟩) 2 2] 37)).alloc (.cells #[.int .i64 4, .int .i64 0, .int .i64 0, .int .i64 1, .int .i64 1, .int .i64 0, .int .i64 4, .int .i64 0, .slice (some ⟨w1.heap.size + 1, 0, none⟩) 1 1] 24)) = w0 at *
  clear hw0 hz2
  have HE2 := Lib.hid (HE1.out.trans HE0.out)
  clear HE1 HE0
  generalize w1.heap.size = B at *
  have g0 := HBK.out.cell (i := 0) rfl
  have g1 := HBK.out.cell (i := 1) rfl
  have g2 := HBK.out.cell (i := 2) rfl
  have g3 := HBK.out.cell (i := 3) rfl
  have g4 := HBK.out.cell (i := 4) rfl
  have g5 := HBK.out.cell (i := 5) rfl
  have g6 := HBK.out.cell (i := 6) rfl
  have g7 := HBK.out.cell (i := 7) rfl
  have g8 := HBK.out.cell (i := 8) rfl
  have gl := HBK.out.lt
  simp only [GW.to, GW.pt] at g0 g1 g2 g3 g4 g5 g6 g7 g8 gl
  have HFL := Lib.hid (fill_nil (cR B) 300 ⟨fun _ => 0, w0⟩ HOK.out)
  unfold Cnf.val cR at HFL
  go_wp2_with fail
  refine HFL.out.mono ?_
  rintro e w2 ⟨own2, bm, rfl, m2, r2⟩
  have M2 := Lib.hid m2
  have R2 := Lib.hid (show MemAt ⟨own2, w2⟩ 300 bm ⟨List.replicate 32 (0, 0), 0⟩ from r2)
  clear m2 r2 HFL
  clear g0 g1 g2 g3 g4 g5 g6 g7 g8 gl
  go_wp2_with fail
  refine (shd_new 4 4 330 331 332 ⟨own2, w2⟩).mono ?_
  rintro e w3 hh
  unfold ShdMade at hh
  rw [if_pos (by decide)] at hh
  obtain ⟨own3, bs, bt, bp, rfl, m3, s3⟩ := hh
  have M3 := Lib.hid (M2.out.trans m3)
  have R3 := Lib.hid (R2.out.keep m3 id)
  have S3 := Lib.hid (show ShdAt ⟨own3, w3⟩ 330 bs bt 331 bp 332 (ringT 0) ⟨[], 4, false⟩ 0 from s3)
  have HB3 := Lib.hid (HBK.out.keep M3.out id)
  have MN3 := Lib.hid (M3.out.mono (S := fun x => x ≠ 0) (fun _ => False.elim))
  clear m3 s3 M2 R2
  have s0 := S3.out.blk.cell (i := 0) rfl
  have sl := S3.out.blk.lt
  go_wp2_with fail
  refine (shade_table bt _).mono ?_
  rintro e w4 ⟨rfl, hE4⟩
  obtain ⟨own4, m4⟩ := Mod.ofExtT (show Ext w3 w4 from hE4) own3
  have R4 := Lib.hid (And.intro (R3.out.keep m4 id) ring_zero)
  have S4 := Lib.hid (S3.out.keep m4 id id id)
  have M4 := Lib.hid (MN3.out.trans (m4.mono (S := fun x => x ≠ 0) (fun _ => False.elim)))
  clear m4 hE4 R3 S3 M3 MN3 HB3 s0 sl
  go_wp2_with fail
  go_loopw [9] (fun i wr => ∃ (j : Nat) (own : Nat → Nat) (M : MemS), j ≤ 2 ∧ i = .int .i64 j ∧ Hid (Mod (fun x => x ≠ 0) ⟨fun _ => 0, w0⟩ ⟨own, wr⟩) ∧ Hid (MemAt ⟨own, wr⟩ 300 bm M ∧ Ring j M) ∧ Hid (ShdAt ⟨own, wr⟩ 330 bs bt 331 bp 332 (ringT j) ⟨[], 4, false⟩ 0)) (fun i _ => 2 - (intOf i).toNat)
  case atStart => exact ⟨0, own4, _, Nat.zero_le _, rfl, M4, R4, S4⟩
  case round =>
    obtain ⟨j, own5, M, hj, rfl, M5, RR, S5⟩ := hrel
    obtain ⟨w5, rfl⟩ : ∃ w5 : World, w5 = wr := ⟨_, rfl⟩
    have R5 := Lib.hid RR.out.1
    have G5 := Lib.hid RR.out.2
    have HB5 := Lib.hid (HBK.out.keep M5.out (by decide))
    have HO5 := Lib.hid (HOK.out.ext (ext_of_ne M5.out))
    clear RR R4 S4 M4
    by_cases hlt : j < 2
    · have HOB := Lib.hid (ring_object B j hlt (some ⟨w5.heap.size, 0, none⟩) (w5.alloc (.cells #[.int .i64 j] 3)) (HO5.out.ext (by (repeat (first | (with_reducible assumption) | (with_reducible exact Ext.refl _) | (with_reducible exact Ext.more _ _ _ _) | apply Ext.alloc | refine Ext.setCell ?_ (by first | exact Nat.le_refl _ | exact Nat.le_add_right _ _ | assumption) _ | apply Ext.patch | apply Ext.drew | apply Ext.drewN)))) (cellsAt_new _ _ _ _ rfl))
      unfold Cnf.val cR at HOB
      have g0 := HB5.out.cell (i := 0) rfl
      have g1 := HB5.out.cell (i := 1) rfl
      have g2 := HB5.out.cell (i := 2) rfl
      have g3 := HB5.out.cell (i := 3) rfl
      have g4 := HB5.out.cell (i := 4) rfl
      have g5 := HB5.out.cell (i := 5) rfl
      have g6 := HB5.out.cell (i := 6) rfl
      have g7 := HB5.out.cell (i := 7) rfl
      have g8 := HB5.out.cell (i := 8) rfl
      have gl := HB5.out.lt
      simp only [GW.to, GW.pt] at g0 g1 g2 g3 g4 g5 g6 g7 g8 gl
      go_wp2_with fail
      refine HOB.out.mono ?_
      rintro e w6 ⟨Al, cl, xs, V, words, rfl, hE6, hLD, v2, v3, hfr⟩
      have HLD := Lib.hid (show FarLaid (cR B) 0 [(j : Int)] [true, true] w6 Al 8 xs V words from hLD)
      have HV := Lib.hid (And.intro v2 v3)
      have HE6 := Lib.hid (show Ext w5 w6 from Ext.trans (by (repeat (first | (with_reducible assumption) | (with_reducible exact Ext.refl _) | (with_reducible exact Ext.more _ _ _ _) | apply Ext.alloc | refine Ext.setCell ?_ (by first | exact Nat.le_refl _ | exact Nat.le_add_right _ _ | assumption) _ | apply Ext.patch | apply Ext.drew | apply Ext.drewN))) hE6)
      obtain ⟨own6, m6, hn6⟩ : ∃ own6, Mod (fun _ => False) ⟨own5, w5⟩ ⟨own6, w6⟩ ∧ ∀ k, w5.heap.size ≤ k → own6 k = 0 := ⟨_, Mod.ext (g := ⟨own5, w5⟩) HE6.out 0, fun k hk => GW.to_new (w' := w6) hk⟩
      have HC6 := Lib.hid (show Seg ⟨own6, w6⟩ 0 Al xs from ⟨HLD.out.cells, fun a ha _ => hn6 _ (by have := hfr a ha; rw [World.size_alloc] at this; omega)⟩)
      have R6 := Lib.hid (R5.out.keep m6 id)
      have S6 := Lib.hid (S5.out.keep m6 id id id)
      have M6 := Lib.hid (M5.out.trans (m6.mono (S := fun x => x ≠ 0) (fun _ => False.elim)))
      clear m6 hn6 hE6 hLD v2 v3 hfr HOB R5 S5 M5 HB5 HO5 HE6
      clear g0 g1 g2 g3 g4 g5 g6 g7 g8 gl
      have HWR := Lib.hid HLD.out.wr
      have HN := Lib.hid (G5.out.step hlt HLD.out HV.out.1 HV.out.2)
      have hct := fun k => memPut_count M (onceAt [(j : Int)] (-1)) V k
      have hcn := G5.out.cnt
      have HCT := Lib.hid (fun k => show (memPut M (onceAt [(j : Int)] (-1)) V k).count = 8 * j + k from by rw [hct, hcn])
      clear hct hcn
      have R6b := Lib.hid (show MemAt ⟨own6, w6⟩ 300 bm (memPut M (onceAt [(j : Int)] (-1)) V 0) from R6.out)
      generalize hMP : memPut M (onceAt [(j : Int)] (-1)) V = MP at *
      have HMP := Lib.hid (fun k => show MP (k + 1) = (MP k).tick.lay (onceAt [(j : Int)] (-1) k) (V k) by rw [← hMP]; rfl)
      clear hMP R6 HV
      go_wp2_with fail
      go_loopw [12] (fun i wr => ∃ (k : Nat) (own : Nat → Nat), k ≤ 8 ∧ i = .int .i64 k ∧ Hid (Mod (fun x => x = 300) ⟨own6, w6⟩ ⟨own, wr⟩) ∧ Hid (MemAt ⟨own, wr⟩ 300 bm (MP k))) (fun i _ => 8 - (intOf i).toNat)
      case atStart => exact ⟨0, own6, Nat.zero_le _, rfl, Lib.hid (Mod.refl _ _), R6b⟩
      case round =>
        obtain ⟨k, own7, hk, rfl, M7, R7⟩ := hrel
        obtain ⟨w7, rfl⟩ : ∃ w7 : World, w7 = wr := ⟨_, rfl⟩
        by_cases hlk : k < 8
        · obtain ⟨bl, ol, hA, hbl, hcl⟩ := (HC6.out.keep M7.out (by decide)).cells.cases (by rw [HWR.out.len]; decide)
          have l0 := hcl _ _ (HWR.out.at_ k hlk)
          have l1 := hcl _ _ (HWR.out.w k hlk)
          rw [← Nat.add_assoc] at l1
          have HK1 := Lib.hid (HMP.out k)
          have hcb := HCT.out k
          have HC8 := Lib.hid (show 0 ≤ (MP k).count ∧ (MP k).count ≤ 1099511627776 by rw [hcb]; omega)
          have HW := Lib.hid (fun X => mem_write (GW.pt ⟨own7, w7⟩ X) 300 bm (onceAt [(j : Int)] (-1) k) (V k).1 (V k).2 (MP k) (R7.out.pt X) HC8.out)
          subst hA
          simp only at hbl l0 l1
          generalize V k = pq at *
          obtain ⟨p, q⟩ := pq
          generalize onceAt [(j : Int)] (-1) k = a at *
          clear hcl hcb
          go_wp2_with fail
          refine wp_region_mixed [true, true, true, true, true, true, true, true, true, true, true, false] 1 11 (by kernel_rfl) (by kernel_rfl) (by kernel_rfl) ?_ (by decide) (by decide) (by decide) (by kernel_rfl) ?_
          · intro c a d v w h; cases d <;> exact h
          intro X00
          simp only [pickOps]
          repeat (go_big_quiet_step (fail))
          refine wpQuiet_nil (fun X0 => ?_)
          clear X00
          refine wpAnyM_tailL rfl (by kernel_rfl) (fun X2 => ?_)
          simp only [List.drop_succ_cons, List.drop_zero]
          go_wp2_with fail
          refine (HW.out _).mono ?_
          rintro e w8 ⟨rfl, own8, m8, r8⟩
          have M8 := Lib.hid m8
          have R8 := Lib.hid r8
          clear m8 r8
          go_wp2_with fail
          go_roundw
          case rel => exact ⟨k + 1, own8, by omega, by go_num, Lib.hid ((M7.out.trans (Mod.pt (Mod.refl _ _) _)).trans M8.out), Lib.hid (by rw [HK1.out]; exact R8.out)⟩
          case measure => simp [intOf]; omega
        · obtain rfl : k = 8 := by omega
          have S7 := Lib.hid (S6.out.keep M7.out (by decide) (by decide) (by decide))
          have MN7 := Lib.hid (M6.out.trans (M7.out.mono (S := fun x => x ≠ 0) (fun x hx => by omega)))
          clear HC6 HWR HLD HCT HMP R6b S6 M6
          have s0 := S7.out.blk.cell (i := 0) rfl
          have sl := S7.out.blk.lt
          go_wp2_with fail
          refine (shade_table bt _).mono ?_
          rintro e w8 ⟨rfl, hE8⟩
          obtain ⟨own8, m8⟩ := Mod.ofExtT (show Ext w7 w8 from hE8) own7
          have S8 := Lib.hid (S7.out.keep m8 id id id)
          have R8 := Lib.hid (R7.out.keep m8 id)
          have M8 := Lib.hid (MN7.out.trans (m8.mono (S := fun x => x ≠ 0) (fun _ => False.elim)))
          clear hE8 m8 s0 sl S7 R7 MN7 M7
          go_wp2_with fail
          refine (tab_set ⟨own8, w8⟩ 331 bt j 2 true false (ringT j) S8.out.tab).mono ?_
          rintro e w9 ⟨rfl, own9, m9, t9⟩
          have S9 := Lib.hid (show ShdAt ⟨own9, w9⟩ 330 bs bt 331 bp 332 (ringT (j + 1)) ⟨[], 4, false⟩ 0 from ⟨S8.out.blk.keep m9 (by decide), t9, S8.out.pile.keep m9 (by decide)⟩)
          have R9 := Lib.hid (And.intro (R8.out.keep m9 (by decide)) HN.out)
          have M9 := Lib.hid (M8.out.trans (m9.mono (S := fun x => x ≠ 0) (fun x hx => by omega)))
          clear m9 t9 S8 R8 M8
          go_wp2_with fail
          go_roundw
          case rel => exact ⟨j + 1, own9, _, by omega, by go_num, M9, R9, S9⟩
          case measure => simp [intOf]; omega
    · obtain rfl : j = 2 := by omega
      have RE := Lib.hid G5.out
      obtain ⟨f0, hf0⟩ : ∃ f, f = floatOfInt .f64 (0 + 1) := ⟨_, rfl⟩
      obtain ⟨f1, hf1⟩ : ∃ f, f = floatOfInt .f64 (1 + 1) := ⟨_, rfl⟩
      have HF := Lib.hid (show refW 0 = (f0, 4607182418800017408) ∧ refW 1 = (f1, 4607182418800017408) from by rw [hf0, hf1]; exact ⟨rfl, rfl⟩)
      have HR0 := Lib.hid (fun w' => rref_in 0 w' (by decide) (by decide))
      have HR1 := Lib.hid (fun w' => rref_in 1 w' (by decide) (by decide))
      rw [← hf0] at HR0
      rw [← hf1] at HR1
      clear hf0 hf1 HB5 HO5 G5
      cases sf
      · cases back
        · skip
          go_wp2_with fail
          refine (HR1.out _).mono ?_
          rintro e w5a ⟨rfl, hE5⟩
          obtain ⟨own5a, m5a⟩ := Mod.ofExtT (show Ext w5 w5a from hE5) own5
          have R5a := Lib.hid (show MemAt ⟨own5a, w5a⟩ 300 bm (ringA false M) from R5.out.keep m5a id)
          have HW := mem_write ⟨own5a, w5a⟩ 300 bm 3 f1 4607182418800017408 (ringA false M) R5a.out (by have h := (ringA_at (sf := false) RE.out).2; (first | omega | (have h2 := h.1; omega)))
          rw [show inB 3 (ringA false M).l.length = true from by rw [(ringA_at (sf := false) RE.out).1]; rfl] at HW
          simp only [if_true] at HW
          replace HW := Lib.hid HW
          clear hE5
          go_wp2_with fail
          refine HW.out.mono ?_
          rintro e w6 ⟨rfl, own6, m6, r6⟩
          have R6 := Lib.hid (show MemAt ⟨own6, w6⟩ 300 bm (ringB false M) from by
            rw [show ringB false M = (ringA false M).tick.lay 3 (f1, 4607182418800017408) from by rw [← HF.out.2]; rfl]
            exact r6)
          have M6 := Lib.hid ((M5.out.trans (m5a.mono (S := fun x => x ≠ 0) (fun _ => False.elim))).trans (m6.mono (S := fun x => x ≠ 0) (fun x hx => by omega)))
          have S6 := Lib.hid ((S5.out.keep m5a id id id).keep m6 (by decide) (by decide) (by decide))
          clear m5a m6 r6 R5a HW M5 S5
          have E1 := Lib.hid (show RingE false (ringC false false M) from ringC_at RE.out)
          have RR := Lib.hid (show MemAt ⟨own6, w6⟩ 300 bm (ringC false false M) from R6.out)
          generalize ringC false false M = MF at E1 RR
          have HBn := Lib.hid (HBK.out.keep M6.out (by decide))
          have HTN := Lib.hid (trace_new (cR B) 0 true 320 ⟨own6, w6⟩ (HOK.out.ext (ext_of_ne M6.out)) (by simp [cR]))
          unfold Cnf.val cR at HTN
          have g0 := HBn.out.cell (i := 0) rfl
          have g1 := HBn.out.cell (i := 1) rfl
          have g2 := HBn.out.cell (i := 2) rfl
          have g3 := HBn.out.cell (i := 3) rfl
          have g4 := HBn.out.cell (i := 4) rfl
          have g5 := HBn.out.cell (i := 5) rfl
          have g6 := HBn.out.cell (i := 6) rfl
          have g7 := HBn.out.cell (i := 7) rfl
          have g8 := HBn.out.cell (i := 8) rfl
          have gl := HBn.out.lt
          simp only [GW.to, GW.pt] at g0 g1 g2 g3 g4 g5 g6 g7 g8 gl
          clear R6 HBn HR0 HR1 HF RE
          go_wp2_with fail
          refine HTN.out.mono ?_
          rintro e w30 ⟨own30, b, cm, rfl, m30, t30, hs30⟩
          clear g0 g1 g2 g3 g4 g5 g6 g7 g8 gl
          obtain ⟨S, k', c', hrun, hp9, hpe, hps⟩ := run_object (ring_in (B := B) E1.out (show cm.Same (cR B) from hs30)) true MF.count 0 (ringT 2) ⟨[], 4, false⟩
          obtain ⟨x1, x2, x3, x4⟩ := ring_end E1.out
          replace x1 : objN MF.l [0] [true, true] = 4 := x1
          rw [x1] at hrun hps
          obtain ⟨W0, hW0⟩ : ∃ W0 : TrW, W0 = ⟨TraceS.fresh cm 0 true, MF, ringT 2, ⟨[], 4, false⟩, 0⟩ := ⟨_, rfl⟩
          have hrun2 : TrW.go 4 W0 = ⟨S, ⟨MF.l, c'⟩, (objF MF.l [0] [true, true] true (ringT 2, ⟨[], 4, false⟩)).1, (objF MF.l [0] [true, true] true (ringT 2, ⟨[], 4, false⟩)).2, k'⟩ := by rw [hW0]; exact hrun
          have A30 := Lib.hid (show TrAt ⟨own30, w30⟩ 320 300 330 331 332 b bm bs bt bp (TrW.go 0 W0) from by rw [hW0]; exact ⟨t30, RR.out.keep m30 id, S6.out.keep m30 id id id⟩)
          have M30 := Lib.hid (M6.out.trans (m30.mono (S := fun x => x ≠ 0) (fun _ => False.elim)))
          have HP9 := Lib.hid (show (TrW.go 4 W0).s.pc = 9 from by rw [hrun2]; exact hp9)
          have HST := Lib.hid (show (TrW.go 4 W0).s.steps = W0.s.steps + (4 : Nat) from by rw [hrun2, hW0]; show S.steps = 0 + ((4 : Nat) : Int); rw [hps]; rfl)
          have HS9 := Lib.hid (show (TrW.go 4 W0).s.steps = 4 from by rw [hrun2]; exact hps)
          have HT1 := Lib.hid (show (TrW.go 4 W0).T.black 1 true = true from by rw [hrun2]; exact x2)
          have HT0 := Lib.hid (show (TrW.go 4 W0).T.black 0 true = false from by rw [hrun2]; exact x3)
          have HPL := Lib.hid (show ((TrW.go 4 W0).p.l.length : Int) = 1 from by rw [hrun2]; show (((objF MF.l [0] [true, true] true (ringT 2, ⟨[], 4, false⟩)).2.l.length : Nat) : Int) = 1; rw [x4]; rfl)
          have HOK0 := Lib.hid (show W0.s.Ok from by rw [hW0]; exact TraceS.fresh_ok _ _ _)
          have HW00 := Lib.hid (show W0.s.steps = 0 ∧ W0.k = 0 ∧ W0.m.count = MF.count from by rw [hW0]; exact ⟨rfl, rfl, rfl⟩)
          have HCM := Lib.hid E1.out.cnt
          clear hrun hrun2 hW0 hp9 hpe hps m30 t30 hs30 HTN x1 x2 x3 x4 RR S6 M6 E1
          go_wp2_with fail
          go_loopw [15] (fun i wr => ∃ (q : Nat) (own : Nat → Nat), q ≤ 4 ∧ i = .int .i64 q ∧ Hid (Mod (fun x => x ≠ 0) ⟨fun _ => 0, w0⟩ ⟨own, wr⟩) ∧ Hid (TrAt ⟨own, wr⟩ 320 300 330 331 332 b bm bs bt bp (TrW.go q W0))) (fun i _ => 4 - (intOf i).toNat)
          case atStart => exact ⟨0, own30, Nat.zero_le _, rfl, M30, A30⟩
          case round =>
            obtain ⟨q, own31, hq, rfl, M31, A31⟩ := hrel
            obtain ⟨w31, rfl⟩ : ∃ w31 : World, w31 = wr := ⟨_, rfl⟩
            have HK := Lib.hid (TrW.go_keeps q W0)
            have HPC := Lib.hid (go_pc_end HP9.out HST.out hq)
            have d0 : decide ((q : Int) < 20) = true := decide_eq_true (by omega)
            clear M30 A30
            go_wp2_with fail
            refine (trace_done ⟨own31, w31⟩ 320 b _ A31.out.tr).mono ?_
            rintro e w32 ⟨rfl, rfl⟩
            rw [HPC.out]
            by_cases hqN : q = 4
            · rw [decide_eq_true hqN]
              subst hqN
              go_wp2_with fail
              refine (H.out _).mono ?_
              rintro e w33 ⟨rfl, hE33⟩
              obtain ⟨own33, m33⟩ := Mod.ofExtT (show Ext w31 w33 from hE33) own31
              have A33 := Lib.hid (A31.out.keep m33 id id id id id id)
              have M33 := Lib.hid (M31.out.trans (m33.mono (S := fun x => x ≠ 0) (fun _ => False.elim)))
              clear hE33 m33 M31 A31 d0
              go_wp2_with fail
              refine (trace_done ⟨own33, w33⟩ 320 b _ A33.out.tr).mono ?_
              rintro e w34 ⟨rfl, rfl⟩
              rw [HPC.out]
              simp only [decide_true]
              go_wp2_with fail
              refine (trace_steps ⟨own33, w33⟩ 320 b _ A33.out.tr).mono ?_
              rintro e w34 ⟨rfl, rfl⟩
              rw [HS9.out]
              have s0 := A33.out.shd.blk.cell (i := 0) rfl
              have sl := A33.out.shd.blk.lt
              go_wp2_with fail
              refine (shade_table bt _).mono ?_
              rintro e w34 ⟨rfl, hE34⟩
              obtain ⟨own34, m34⟩ := Mod.ofExtT (show Ext w33 w34 from hE34) own33
              have A34 := Lib.hid (A33.out.keep m34 id id id id id id)
              have M34 := Lib.hid (M33.out.trans (m34.mono (S := fun x => x ≠ 0) (fun _ => False.elim)))
              clear hE34 m34 M33 A33 s0 sl
              go_wp2_with fail
              refine (tab_black ⟨own34, w34⟩ 331 bt 1 true _ A34.out.shd.tab).mono ?_
              rintro e w35 ⟨rfl, rfl⟩
              rw [HT1.out]
              have s0 := A34.out.shd.blk.cell (i := 0) rfl
              have sl := A34.out.shd.blk.lt
              go_wp2_with fail
              refine (shade_table bt _).mono ?_
              rintro e w36 ⟨rfl, hE36⟩
              obtain ⟨own36, m36⟩ := Mod.ofExtT (show Ext w34 w36 from hE36) own34
              have A36 := Lib.hid (A34.out.keep m36 id id id id id id)
              have M36 := Lib.hid (M34.out.trans (m36.mono (S := fun x => x ≠ 0) (fun _ => False.elim)))
              clear hE36 m36 M34 A34 s0 sl
              go_wp2_with fail
              refine (tab_black ⟨own36, w36⟩ 331 bt 0 true _ A36.out.shd.tab).mono ?_
              rintro e w37 ⟨rfl, rfl⟩
              rw [HT0.out]
              go_wp2_with fail
              refine (shade_len ⟨own36, w36⟩ 330 bs bt bp 332 _ _ A36.out.shd.blk A36.out.shd.pile).mono ?_
              rintro e w38 ⟨rfl, rfl⟩
              rw [HPL.out]
              go_wp2_with fail
              go_ret
              exact Gives.bool rfl (HE2.out.trans (ext_of_ne M36.out))
            · rw [decide_eq_false hqN]
              have hkk := HK.out.2.2.2.2
              have hw00 := HW00.out
              have hcm := HCM.out
              have HSTP := Lib.hid (trace_step ⟨own31, w31⟩ apart16 (TrW.go q W0) A31.out (TrW.go_ok q HOK0.out) (by omega) (by omega) (by omega))
              clear hkk hw00 hcm
              go_wp2_with fail
              refine HSTP.out.mono ?_
              rintro e w32 ⟨rfl, own32, m32, a32⟩
              have M32 := Lib.hid (M31.out.trans (m32.mono (S := fun x => x ≠ 0) (fun x hx => by unfold trT at hx; omega)))
              have A32 := Lib.hid a32
              clear m32 a32
              go_wp2_with fail
              go_roundw
              case rel => exact ⟨q + 1, own32, by omega, by go_num, M32, A32⟩
              case measure => simp [intOf]; omega
        · skip
          go_wp2_with fail
          refine (HR1.out _).mono ?_
          rintro e w5a ⟨rfl, hE5⟩
          obtain ⟨own5a, m5a⟩ := Mod.ofExtT (show Ext w5 w5a from hE5) own5
          have R5a := Lib.hid (show MemAt ⟨own5a, w5a⟩ 300 bm (ringA false M) from R5.out.keep m5a id)
          have HW := mem_write ⟨own5a, w5a⟩ 300 bm 3 f1 4607182418800017408 (ringA false M) R5a.out (by have h := (ringA_at (sf := false) RE.out).2; (first | omega | (have h2 := h.1; omega)))
          rw [show inB 3 (ringA false M).l.length = true from by rw [(ringA_at (sf := false) RE.out).1]; rfl] at HW
          simp only [if_true] at HW
          replace HW := Lib.hid HW
          clear hE5
          go_wp2_with fail
          refine HW.out.mono ?_
          rintro e w6 ⟨rfl, own6, m6, r6⟩
          have R6 := Lib.hid (show MemAt ⟨own6, w6⟩ 300 bm (ringB false M) from by
            rw [show ringB false M = (ringA false M).tick.lay 3 (f1, 4607182418800017408) from by rw [← HF.out.2]; rfl]
            exact r6)
          have M6 := Lib.hid ((M5.out.trans (m5a.mono (S := fun x => x ≠ 0) (fun _ => False.elim))).trans (m6.mono (S := fun x => x ≠ 0) (fun x hx => by omega)))
          have S6 := Lib.hid ((S5.out.keep m5a id id id).keep m6 (by decide) (by decide) (by decide))
          clear m5a m6 r6 R5a HW M5 S5
          go_wp2_with fail
          refine (HR0.out _).mono ?_
          rintro e w6a ⟨rfl, hE6⟩
          obtain ⟨own6a, m6a⟩ := Mod.ofExtT (show Ext w6 w6a from hE6) own6
          have R6a := Lib.hid (show MemAt ⟨own6a, w6a⟩ 300 bm (ringB false M) from R6.out.keep m6a id)
          have HW := mem_write ⟨own6a, w6a⟩ 300 bm 10 f0 4607182418800017408 (ringB false M) R6a.out (by have h := (ringB_at (sf := false) RE.out).2; (first | omega | (have h2 := h.1; omega)))
          rw [show inB 10 (ringB false M).l.length = true from by rw [(ringB_at (sf := false) RE.out).1]; rfl] at HW
          simp only [if_true] at HW
          replace HW := Lib.hid HW
          clear hE6
          go_wp2_with fail
          refine HW.out.mono ?_
          rintro e w7 ⟨rfl, own7, m7, r7⟩
          have R7 := Lib.hid (show MemAt ⟨own7, w7⟩ 300 bm (ringC false true M) from by
            rw [show ringC false true M = (ringB false M).tick.lay 10 (f0, 4607182418800017408) from by rw [← HF.out.1]; rfl]
            exact r7)
          have M7 := Lib.hid ((M6.out.trans (m6a.mono (S := fun x => x ≠ 0) (fun _ => False.elim))).trans (m7.mono (S := fun x => x ≠ 0) (fun x hx => by omega)))
          have S7 := Lib.hid ((S6.out.keep m6a id id id).keep m7 (by decide) (by decide) (by decide))
          clear m6a m7 r7 R6a HW M6 S6
          have E1 := Lib.hid (show RingE false (ringC false true M) from ringC_at RE.out)
          have RR := Lib.hid (show MemAt ⟨own7, w7⟩ 300 bm (ringC false true M) from R7.out)
          generalize ringC false true M = MF at E1 RR
          have HBn := Lib.hid (HBK.out.keep M7.out (by decide))
          have HTN := Lib.hid (trace_new (cR B) 0 true 320 ⟨own7, w7⟩ (HOK.out.ext (ext_of_ne M7.out)) (by simp [cR]))
          unfold Cnf.val cR at HTN
          have g0 := HBn.out.cell (i := 0) rfl
          have g1 := HBn.out.cell (i := 1) rfl
          have g2 := HBn.out.cell (i := 2) rfl
          have g3 := HBn.out.cell (i := 3) rfl
          have g4 := HBn.out.cell (i := 4) rfl
          have g5 := HBn.out.cell (i := 5) rfl
          have g6 := HBn.out.cell (i := 6) rfl
          have g7 := HBn.out.cell (i := 7) rfl
          have g8 := HBn.out.cell (i := 8) rfl
          have gl := HBn.out.lt
          simp only [GW.to, GW.pt] at g0 g1 g2 g3 g4 g5 g6 g7 g8 gl
          clear R7 HBn HR0 HR1 HF RE
          go_wp2_with fail
          refine HTN.out.mono ?_
          rintro e w30 ⟨own30, b, cm, rfl, m30, t30, hs30⟩
          clear g0 g1 g2 g3 g4 g5 g6 g7 g8 gl
          obtain ⟨S, k', c', hrun, hp9, hpe, hps⟩ := run_object (ring_in (B := B) E1.out (show cm.Same (cR B) from hs30)) true MF.count 0 (ringT 2) ⟨[], 4, false⟩
          obtain ⟨x1, x2, x3, x4⟩ := ring_end E1.out
          replace x1 : objN MF.l [0] [true, true] = 4 := x1
          rw [x1] at hrun hps
          obtain ⟨W0, hW0⟩ : ∃ W0 : TrW, W0 = ⟨TraceS.fresh cm 0 true, MF, ringT 2, ⟨[], 4, false⟩, 0⟩ := ⟨_, rfl⟩
          have hrun2 : TrW.go 4 W0 = ⟨S, ⟨MF.l, c'⟩, (objF MF.l [0] [true, true] true (ringT 2, ⟨[], 4, false⟩)).1, (objF MF.l [0] [true, true] true (ringT 2, ⟨[], 4, false⟩)).2, k'⟩ := by rw [hW0]; exact hrun
          have A30 := Lib.hid (show TrAt ⟨own30, w30⟩ 320 300 330 331 332 b bm bs bt bp (TrW.go 0 W0) from by rw [hW0]; exact ⟨t30, RR.out.keep m30 id, S7.out.keep m30 id id id⟩)
          have M30 := Lib.hid (M7.out.trans (m30.mono (S := fun x => x ≠ 0) (fun _ => False.elim)))
          have HP9 := Lib.hid (show (TrW.go 4 W0).s.pc = 9 from by rw [hrun2]; exact hp9)
          have HST := Lib.hid (show (TrW.go 4 W0).s.steps = W0.s.steps + (4 : Nat) from by rw [hrun2, hW0]; show S.steps = 0 + ((4 : Nat) : Int); rw [hps]; rfl)
          have HS9 := Lib.hid (show (TrW.go 4 W0).s.steps = 4 from by rw [hrun2]; exact hps)
          have HT1 := Lib.hid (show (TrW.go 4 W0).T.black 1 true = true from by rw [hrun2]; exact x2)
          have HT0 := Lib.hid (show (TrW.go 4 W0).T.black 0 true = false from by rw [hrun2]; exact x3)
          have HPL := Lib.hid (show ((TrW.go 4 W0).p.l.length : Int) = 1 from by rw [hrun2]; show (((objF MF.l [0] [true, true] true (ringT 2, ⟨[], 4, false⟩)).2.l.length : Nat) : Int) = 1; rw [x4]; rfl)
          have HOK0 := Lib.hid (show W0.s.Ok from by rw [hW0]; exact TraceS.fresh_ok _ _ _)
          have HW00 := Lib.hid (show W0.s.steps = 0 ∧ W0.k = 0 ∧ W0.m.count = MF.count from by rw [hW0]; exact ⟨rfl, rfl, rfl⟩)
          have HCM := Lib.hid E1.out.cnt
          clear hrun hrun2 hW0 hp9 hpe hps m30 t30 hs30 HTN x1 x2 x3 x4 RR S7 M7 E1
          go_wp2_with fail
          go_loopw [15] (fun i wr => ∃ (q : Nat) (own : Nat → Nat), q ≤ 4 ∧ i = .int .i64 q ∧ Hid (Mod (fun x => x ≠ 0) ⟨fun _ => 0, w0⟩ ⟨own, wr⟩) ∧ Hid (TrAt ⟨own, wr⟩ 320 300 330 331 332 b bm bs bt bp (TrW.go q W0))) (fun i _ => 4 - (intOf i).toNat)
          case atStart => exact ⟨0, own30, Nat.zero_le _, rfl, M30, A30⟩
          case round =>
            obtain ⟨q, own31, hq, rfl, M31, A31⟩ := hrel
            obtain ⟨w31, rfl⟩ : ∃ w31 : World, w31 = wr := ⟨_, rfl⟩
            have HK := Lib.hid (TrW.go_keeps q W0)
            have HPC := Lib.hid (go_pc_end HP9.out HST.out hq)
            have d0 : decide ((q : Int) < 20) = true := decide_eq_true (by omega)
            clear M30 A30
            go_wp2_with fail
            refine (trace_done ⟨own31, w31⟩ 320 b _ A31.out.tr).mono ?_
            rintro e w32 ⟨rfl, rfl⟩
            rw [HPC.out]
            by_cases hqN : q = 4
            · rw [decide_eq_true hqN]
              subst hqN
              go_wp2_with fail
              refine (H.out _).mono ?_
              rintro e w33 ⟨rfl, hE33⟩
              obtain ⟨own33, m33⟩ := Mod.ofExtT (show Ext w31 w33 from hE33) own31
              have A33 := Lib.hid (A31.out.keep m33 id id id id id id)
              have M33 := Lib.hid (M31.out.trans (m33.mono (S := fun x => x ≠ 0) (fun _ => False.elim)))
              clear hE33 m33 M31 A31 d0
              go_wp2_with fail
              refine (trace_done ⟨own33, w33⟩ 320 b _ A33.out.tr).mono ?_
              rintro e w34 ⟨rfl, rfl⟩
              rw [HPC.out]
              simp only [decide_true]
              go_wp2_with fail
              refine (trace_steps ⟨own33, w33⟩ 320 b _ A33.out.tr).mono ?_
              rintro e w34 ⟨rfl, rfl⟩
              rw [HS9.out]
              have s0 := A33.out.shd.blk.cell (i := 0) rfl
              have sl := A33.out.shd.blk.lt
              go_wp2_with fail
              refine (shade_table bt _).mono ?_
              rintro e w34 ⟨rfl, hE34⟩
              obtain ⟨own34, m34⟩ := Mod.ofExtT (show Ext w33 w34 from hE34) own33
              have A34 := Lib.hid (A33.out.keep m34 id id id id id id)
              have M34 := Lib.hid (M33.out.trans (m34.mono (S := fun x => x ≠ 0) (fun _ => False.elim)))
              clear hE34 m34 M33 A33 s0 sl
              go_wp2_with fail
              refine (tab_black ⟨own34, w34⟩ 331 bt 1 true _ A34.out.shd.tab).mono ?_
              rintro e w35 ⟨rfl, rfl⟩
              rw [HT1.out]
              have s0 := A34.out.shd.blk.cell (i := 0) rfl
              have sl := A34.out.shd.blk.lt
              go_wp2_with fail
              refine (shade_table bt _).mono ?_
              rintro e w36 ⟨rfl, hE36⟩
              obtain ⟨own36, m36⟩ := Mod.ofExtT (show Ext w34 w36 from hE36) own34
              have A36 := Lib.hid (A34.out.keep m36 id id id id id id)
              have M36 := Lib.hid (M34.out.trans (m36.mono (S := fun x => x ≠ 0) (fun _ => False.elim)))
              clear hE36 m36 M34 A34 s0 sl
              go_wp2_with fail
              refine (tab_black ⟨own36, w36⟩ 331 bt 0 true _ A36.out.shd.tab).mono ?_
              rintro e w37 ⟨rfl, rfl⟩
              rw [HT0.out]
              go_wp2_with fail
              refine (shade_len ⟨own36, w36⟩ 330 bs bt bp 332 _ _ A36.out.shd.blk A36.out.shd.pile).mono ?_
              rintro e w38 ⟨rfl, rfl⟩
              rw [HPL.out]
              go_wp2_with fail
              go_ret
              exact Gives.bool rfl (HE2.out.trans (ext_of_ne M36.out))
            · rw [decide_eq_false hqN]
              have hkk := HK.out.2.2.2.2
              have hw00 := HW00.out
              have hcm := HCM.out
              have HSTP := Lib.hid (trace_step ⟨own31, w31⟩ apart16 (TrW.go q W0) A31.out (TrW.go_ok q HOK0.out) (by omega) (by omega) (by omega))
              clear hkk hw00 hcm
              go_wp2_with fail
              refine HSTP.out.mono ?_
              rintro e w32 ⟨rfl, own32, m32, a32⟩
              have M32 := Lib.hid (M31.out.trans (m32.mono (S := fun x => x ≠ 0) (fun x hx => by unfold trT at hx; omega)))
              have A32 := Lib.hid a32
              clear m32 a32
              go_wp2_with fail
              go_roundw
              case rel => exact ⟨q + 1, own32, by omega, by go_num, M32, A32⟩
              case measure => simp [intOf]; omega
      · cases back
        · skip
          go_wp2_with fail
          refine (HR0.out _).mono ?_
          rintro e w5a ⟨rfl, hE5⟩
          obtain ⟨own5a, m5a⟩ := Mod.ofExtT (show Ext w5 w5a from hE5) own5
          have R5a := Lib.hid (show MemAt ⟨own5a, w5a⟩ 300 bm (M) from R5.out.keep m5a id)
          have HW := mem_write ⟨own5a, w5a⟩ 300 bm 2 f0 4607182418800017408 (M) R5a.out (by have h := (show M.l.length = 32 ∧ (0 ≤ M.count ∧ M.count ≤ 16) from ⟨RE.out.len, by have := RE.out.cnt; omega⟩).2; (first | omega | (have h2 := h.1; omega)))
          rw [show inB 2 (M).l.length = true from by rw [(show M.l.length = 32 ∧ (0 ≤ M.count ∧ M.count ≤ 16) from ⟨RE.out.len, by have := RE.out.cnt; omega⟩).1]; rfl] at HW
          simp only [if_true] at HW
          replace HW := Lib.hid HW
          clear hE5
          go_wp2_with fail
          refine HW.out.mono ?_
          rintro e w6 ⟨rfl, own6, m6, r6⟩
          have R6 := Lib.hid (show MemAt ⟨own6, w6⟩ 300 bm (ringA true M) from by
            rw [show ringA true M = (M).tick.lay 2 (f0, 4607182418800017408) from by rw [← HF.out.1]; rfl]
            exact r6)
          have M6 := Lib.hid ((M5.out.trans (m5a.mono (S := fun x => x ≠ 0) (fun _ => False.elim))).trans (m6.mono (S := fun x => x ≠ 0) (fun x hx => by omega)))
          have S6 := Lib.hid ((S5.out.keep m5a id id id).keep m6 (by decide) (by decide) (by decide))
          clear m5a m6 r6 R5a HW M5 S5
          go_wp2_with fail
          refine (HR1.out _).mono ?_
          rintro e w6a ⟨rfl, hE6⟩
          obtain ⟨own6a, m6a⟩ := Mod.ofExtT (show Ext w6 w6a from hE6) own6
          have R6a := Lib.hid (show MemAt ⟨own6a, w6a⟩ 300 bm (ringA true M) from R6.out.keep m6a id)
          have HW := mem_write ⟨own6a, w6a⟩ 300 bm 3 f1 4607182418800017408 (ringA true M) R6a.out (by have h := (ringA_at (sf := true) RE.out).2; (first | omega | (have h2 := h.1; omega)))
          rw [show inB 3 (ringA true M).l.length = true from by rw [(ringA_at (sf := true) RE.out).1]; rfl] at HW
          simp only [if_true] at HW
          replace HW := Lib.hid HW
          clear hE6
          go_wp2_with fail
          refine HW.out.mono ?_
          rintro e w7 ⟨rfl, own7, m7, r7⟩
          have R7 := Lib.hid (show MemAt ⟨own7, w7⟩ 300 bm (ringB true M) from by
            rw [show ringB true M = (ringA true M).tick.lay 3 (f1, 4607182418800017408) from by rw [← HF.out.2]; rfl]
            exact r7)
          have M7 := Lib.hid ((M6.out.trans (m6a.mono (S := fun x => x ≠ 0) (fun _ => False.elim))).trans (m7.mono (S := fun x => x ≠ 0) (fun x hx => by omega)))
          have S7 := Lib.hid ((S6.out.keep m6a id id id).keep m7 (by decide) (by decide) (by decide))
          clear m6a m7 r7 R6a HW M6 S6
          have E1 := Lib.hid (show RingE true (ringC true false M) from ringC_at RE.out)
          have RR := Lib.hid (show MemAt ⟨own7, w7⟩ 300 bm (ringC true false M) from R7.out)
          generalize ringC true false M = MF at E1 RR
          have HBn := Lib.hid (HBK.out.keep M7.out (by decide))
          have HTN := Lib.hid (trace_new (cR B) 0 true 320 ⟨own7, w7⟩ (HOK.out.ext (ext_of_ne M7.out)) (by simp [cR]))
          unfold Cnf.val cR at HTN
          have g0 := HBn.out.cell (i := 0) rfl
          have g1 := HBn.out.cell (i := 1) rfl
          have g2 := HBn.out.cell (i := 2) rfl
          have g3 := HBn.out.cell (i := 3) rfl
          have g4 := HBn.out.cell (i := 4) rfl
          have g5 := HBn.out.cell (i := 5) rfl
          have g6 := HBn.out.cell (i := 6) rfl
          have g7 := HBn.out.cell (i := 7) rfl
          have g8 := HBn.out.cell (i := 8) rfl
          have gl := HBn.out.lt
          simp only [GW.to, GW.pt] at g0 g1 g2 g3 g4 g5 g6 g7 g8 gl
          clear R7 HBn HR0 HR1 HF RE
          go_wp2_with fail
          refine HTN.out.mono ?_
          rintro e w30 ⟨own30, b, cm, rfl, m30, t30, hs30⟩
          clear g0 g1 g2 g3 g4 g5 g6 g7 g8 gl
          obtain ⟨S, k', c', hrun, hp9, hpe, hps⟩ := run_object (ring_in (B := B) E1.out (show cm.Same (cR B) from hs30)) true MF.count 0 (ringT 2) ⟨[], 4, false⟩
          obtain ⟨x1, x2, x3, x4⟩ := ring_end E1.out
          replace x1 : objN MF.l [0] [true, true] = 5 := x1
          rw [x1] at hrun hps
          obtain ⟨W0, hW0⟩ : ∃ W0 : TrW, W0 = ⟨TraceS.fresh cm 0 true, MF, ringT 2, ⟨[], 4, false⟩, 0⟩ := ⟨_, rfl⟩
          have hrun2 : TrW.go 5 W0 = ⟨S, ⟨MF.l, c'⟩, (objF MF.l [0] [true, true] true (ringT 2, ⟨[], 4, false⟩)).1, (objF MF.l [0] [true, true] true (ringT 2, ⟨[], 4, false⟩)).2, k'⟩ := by rw [hW0]; exact hrun
          have A30 := Lib.hid (show TrAt ⟨own30, w30⟩ 320 300 330 331 332 b bm bs bt bp (TrW.go 0 W0) from by rw [hW0]; exact ⟨t30, RR.out.keep m30 id, S7.out.keep m30 id id id⟩)
          have M30 := Lib.hid (M7.out.trans (m30.mono (S := fun x => x ≠ 0) (fun _ => False.elim)))
          have HP9 := Lib.hid (show (TrW.go 5 W0).s.pc = 9 from by rw [hrun2]; exact hp9)
          have HST := Lib.hid (show (TrW.go 5 W0).s.steps = W0.s.steps + (5 : Nat) from by rw [hrun2, hW0]; show S.steps = 0 + ((5 : Nat) : Int); rw [hps]; rfl)
          have HS9 := Lib.hid (show (TrW.go 5 W0).s.steps = 5 from by rw [hrun2]; exact hps)
          have HT1 := Lib.hid (show (TrW.go 5 W0).T.black 1 true = true from by rw [hrun2]; exact x2)
          have HT0 := Lib.hid (show (TrW.go 5 W0).T.black 0 true = true from by rw [hrun2]; exact x3)
          have HPL := Lib.hid (show ((TrW.go 5 W0).p.l.length : Int) = 2 from by rw [hrun2]; show (((objF MF.l [0] [true, true] true (ringT 2, ⟨[], 4, false⟩)).2.l.length : Nat) : Int) = 2; rw [x4]; rfl)
          have HOK0 := Lib.hid (show W0.s.Ok from by rw [hW0]; exact TraceS.fresh_ok _ _ _)
          have HW00 := Lib.hid (show W0.s.steps = 0 ∧ W0.k = 0 ∧ W0.m.count = MF.count from by rw [hW0]; exact ⟨rfl, rfl, rfl⟩)
          have HCM := Lib.hid E1.out.cnt
          clear hrun hrun2 hW0 hp9 hpe hps m30 t30 hs30 HTN x1 x2 x3 x4 RR S7 M7 E1
          go_wp2_with fail
          go_loopw [15] (fun i wr => ∃ (q : Nat) (own : Nat → Nat), q ≤ 5 ∧ i = .int .i64 q ∧ Hid (Mod (fun x => x ≠ 0) ⟨fun _ => 0, w0⟩ ⟨own, wr⟩) ∧ Hid (TrAt ⟨own, wr⟩ 320 300 330 331 332 b bm bs bt bp (TrW.go q W0))) (fun i _ => 5 - (intOf i).toNat)
          case atStart => exact ⟨0, own30, Nat.zero_le _, rfl, M30, A30⟩
          case round =>
            obtain ⟨q, own31, hq, rfl, M31, A31⟩ := hrel
            obtain ⟨w31, rfl⟩ : ∃ w31 : World, w31 = wr := ⟨_, rfl⟩
            have HK := Lib.hid (TrW.go_keeps q W0)
            have HPC := Lib.hid (go_pc_end HP9.out HST.out hq)
            have d0 : decide ((q : Int) < 20) = true := decide_eq_true (by omega)
            clear M30 A30
            go_wp2_with fail
            refine (trace_done ⟨own31, w31⟩ 320 b _ A31.out.tr).mono ?_
            rintro e w32 ⟨rfl, rfl⟩
            rw [HPC.out]
            by_cases hqN : q = 5
            · rw [decide_eq_true hqN]
              subst hqN
              go_wp2_with fail
              refine (H.out _).mono ?_
              rintro e w33 ⟨rfl, hE33⟩
              obtain ⟨own33, m33⟩ := Mod.ofExtT (show Ext w31 w33 from hE33) own31
              have A33 := Lib.hid (A31.out.keep m33 id id id id id id)
              have M33 := Lib.hid (M31.out.trans (m33.mono (S := fun x => x ≠ 0) (fun _ => False.elim)))
              clear hE33 m33 M31 A31 d0
              go_wp2_with fail
              refine (trace_done ⟨own33, w33⟩ 320 b _ A33.out.tr).mono ?_
              rintro e w34 ⟨rfl, rfl⟩
              rw [HPC.out]
              simp only [decide_true]
              go_wp2_with fail
              refine (trace_steps ⟨own33, w33⟩ 320 b _ A33.out.tr).mono ?_
              rintro e w34 ⟨rfl, rfl⟩
              rw [HS9.out]
              have s0 := A33.out.shd.blk.cell (i := 0) rfl
              have sl := A33.out.shd.blk.lt
              go_wp2_with fail
              refine (shade_table bt _).mono ?_
              rintro e w34 ⟨rfl, hE34⟩
              obtain ⟨own34, m34⟩ := Mod.ofExtT (show Ext w33 w34 from hE34) own33
              have A34 := Lib.hid (A33.out.keep m34 id id id id id id)
              have M34 := Lib.hid (M33.out.trans (m34.mono (S := fun x => x ≠ 0) (fun _ => False.elim)))
              clear hE34 m34 M33 A33 s0 sl
              go_wp2_with fail
              refine (tab_black ⟨own34, w34⟩ 331 bt 1 true _ A34.out.shd.tab).mono ?_
              rintro e w35 ⟨rfl, rfl⟩
              rw [HT1.out]
              have s0 := A34.out.shd.blk.cell (i := 0) rfl
              have sl := A34.out.shd.blk.lt
              go_wp2_with fail
              refine (shade_table bt _).mono ?_
              rintro e w36 ⟨rfl, hE36⟩
              obtain ⟨own36, m36⟩ := Mod.ofExtT (show Ext w34 w36 from hE36) own34
              have A36 := Lib.hid (A34.out.keep m36 id id id id id id)
              have M36 := Lib.hid (M34.out.trans (m36.mono (S := fun x => x ≠ 0) (fun _ => False.elim)))
              clear hE36 m36 M34 A34 s0 sl
              go_wp2_with fail
              refine (tab_black ⟨own36, w36⟩ 331 bt 0 true _ A36.out.shd.tab).mono ?_
              rintro e w37 ⟨rfl, rfl⟩
              rw [HT0.out]
              go_wp2_with fail
              refine (shade_len ⟨own36, w36⟩ 330 bs bt bp 332 _ _ A36.out.shd.blk A36.out.shd.pile).mono ?_
              rintro e w38 ⟨rfl, rfl⟩
              rw [HPL.out]
              go_wp2_with fail
              go_ret
              exact Gives.bool rfl (HE2.out.trans (ext_of_ne M36.out))
            · rw [decide_eq_false hqN]
              have hkk := HK.out.2.2.2.2
              have hw00 := HW00.out
              have hcm := HCM.out
              have HSTP := Lib.hid (trace_step ⟨own31, w31⟩ apart16 (TrW.go q W0) A31.out (TrW.go_ok q HOK0.out) (by omega) (by omega) (by omega))
              clear hkk hw00 hcm
              go_wp2_with fail
              refine HSTP.out.mono ?_
              rintro e w32 ⟨rfl, own32, m32, a32⟩
              have M32 := Lib.hid (M31.out.trans (m32.mono (S := fun x => x ≠ 0) (fun x hx => by unfold trT at hx; omega)))
              have A32 := Lib.hid a32
              clear m32 a32
              go_wp2_with fail
              go_roundw
              case rel => exact ⟨q + 1, own32, by omega, by go_num, M32, A32⟩
              case measure => simp [intOf]; omega
        · skip
          go_wp2_with fail
          refine (HR0.out _).mono ?_
          rintro e w5a ⟨rfl, hE5⟩
          obtain ⟨own5a, m5a⟩ := Mod.ofExtT (show Ext w5 w5a from hE5) own5
          have R5a := Lib.hid (show MemAt ⟨own5a, w5a⟩ 300 bm (M) from R5.out.keep m5a id)
          have HW := mem_write ⟨own5a, w5a⟩ 300 bm 2 f0 4607182418800017408 (M) R5a.out (by have h := (show M.l.length = 32 ∧ (0 ≤ M.count ∧ M.count ≤ 16) from ⟨RE.out.len, by have := RE.out.cnt; omega⟩).2; (first | omega | (have h2 := h.1; omega)))
          rw [show inB 2 (M).l.length = true from by rw [(show M.l.length = 32 ∧ (0 ≤ M.count ∧ M.count ≤ 16) from ⟨RE.out.len, by have := RE.out.cnt; omega⟩).1]; rfl] at HW
          simp only [if_true] at HW
          replace HW := Lib.hid HW
          clear hE5
          go_wp2_with fail
          refine HW.out.mono ?_
          rintro e w6 ⟨rfl, own6, m6, r6⟩
          have R6 := Lib.hid (show MemAt ⟨own6, w6⟩ 300 bm (ringA true M) from by
            rw [show ringA true M = (M).tick.lay 2 (f0, 4607182418800017408) from by rw [← HF.out.1]; rfl]
            exact r6)
          have M6 := Lib.hid ((M5.out.trans (m5a.mono (S := fun x => x ≠ 0) (fun _ => False.elim))).trans (m6.mono (S := fun x => x ≠ 0) (fun x hx => by omega)))
          have S6 := Lib.hid ((S5.out.keep m5a id id id).keep m6 (by decide) (by decide) (by decide))
          clear m5a m6 r6 R5a HW M5 S5
          go_wp2_with fail
          refine (HR1.out _).mono ?_
          rintro e w6a ⟨rfl, hE6⟩
          obtain ⟨own6a, m6a⟩ := Mod.ofExtT (show Ext w6 w6a from hE6) own6
          have R6a := Lib.hid (show MemAt ⟨own6a, w6a⟩ 300 bm (ringA true M) from R6.out.keep m6a id)
          have HW := mem_write ⟨own6a, w6a⟩ 300 bm 3 f1 4607182418800017408 (ringA true M) R6a.out (by have h := (ringA_at (sf := true) RE.out).2; (first | omega | (have h2 := h.1; omega)))
          rw [show inB 3 (ringA true M).l.length = true from by rw [(ringA_at (sf := true) RE.out).1]; rfl] at HW
          simp only [if_true] at HW
          replace HW := Lib.hid HW
          clear hE6
          go_wp2_with fail
          refine HW.out.mono ?_
          rintro e w7 ⟨rfl, own7, m7, r7⟩
          have R7 := Lib.hid (show MemAt ⟨own7, w7⟩ 300 bm (ringB true M) from by
            rw [show ringB true M = (ringA true M).tick.lay 3 (f1, 4607182418800017408) from by rw [← HF.out.2]; rfl]
            exact r7)
          have M7 := Lib.hid ((M6.out.trans (m6a.mono (S := fun x => x ≠ 0) (fun _ => False.elim))).trans (m7.mono (S := fun x => x ≠ 0) (fun x hx => by omega)))
          have S7 := Lib.hid ((S6.out.keep m6a id id id).keep m7 (by decide) (by decide) (by decide))
          clear m6a m7 r7 R6a HW M6 S6
          go_wp2_with fail
          refine (HR0.out _).mono ?_
          rintro e w7a ⟨rfl, hE7⟩
          obtain ⟨own7a, m7a⟩ := Mod.ofExtT (show Ext w7 w7a from hE7) own7
          have R7a := Lib.hid (show MemAt ⟨own7a, w7a⟩ 300 bm (ringB true M) from R7.out.keep m7a id)
          have HW := mem_write ⟨own7a, w7a⟩ 300 bm 10 f0 4607182418800017408 (ringB true M) R7a.out (by have h := (ringB_at (sf := true) RE.out).2; (first | omega | (have h2 := h.1; omega)))
          rw [show inB 10 (ringB true M).l.length = true from by rw [(ringB_at (sf := true) RE.out).1]; rfl] at HW
          simp only [if_true] at HW
          replace HW := Lib.hid HW
          clear hE7
          go_wp2_with fail
          refine HW.out.mono ?_
          rintro e w8 ⟨rfl, own8, m8, r8⟩
          have R8 := Lib.hid (show MemAt ⟨own8, w8⟩ 300 bm (ringC true true M) from by
            rw [show ringC true true M = (ringB true M).tick.lay 10 (f0, 4607182418800017408) from by rw [← HF.out.1]; rfl]
            exact r8)
          have M8 := Lib.hid ((M7.out.trans (m7a.mono (S := fun x => x ≠ 0) (fun _ => False.elim))).trans (m8.mono (S := fun x => x ≠ 0) (fun x hx => by omega)))
          have S8 := Lib.hid ((S7.out.keep m7a id id id).keep m8 (by decide) (by decide) (by decide))
          clear m7a m8 r8 R7a HW M7 S7
          have E1 := Lib.hid (show RingE true (ringC true true M) from ringC_at RE.out)
          have RR := Lib.hid (show MemAt ⟨own8, w8⟩ 300 bm (ringC true true M) from R8.out)
          generalize ringC true true M = MF at E1 RR
          have HBn := Lib.hid (HBK.out.keep M8.out (by decide))
          have HTN := Lib.hid (trace_new (cR B) 0 true 320 ⟨own8, w8⟩ (HOK.out.ext (ext_of_ne M8.out)) (by simp [cR]))
          unfold Cnf.val cR at HTN
          have g0 := HBn.out.cell (i := 0) rfl
          have g1 := HBn.out.cell (i := 1) rfl
          have g2 := HBn.out.cell (i := 2) rfl
          have g3 := HBn.out.cell (i := 3) rfl
          have g4 := HBn.out.cell (i := 4) rfl
          have g5 := HBn.out.cell (i := 5) rfl
          have g6 := HBn.out.cell (i := 6) rfl
          have g7 := HBn.out.cell (i := 7) rfl
          have g8 := HBn.out.cell (i := 8) rfl
          have gl := HBn.out.lt
          simp only [GW.to, GW.pt] at g0 g1 g2 g3 g4 g5 g6 g7 g8 gl
          clear R8 HBn HR0 HR1 HF RE
          go_wp2_with fail
          refine HTN.out.mono ?_
          rintro e w30 ⟨own30, b, cm, rfl, m30, t30, hs30⟩
          clear g0 g1 g2 g3 g4 g5 g6 g7 g8 gl
          obtain ⟨S, k', c', hrun, hp9, hpe, hps⟩ := run_object (ring_in (B := B) E1.out (show cm.Same (cR B) from hs30)) true MF.count 0 (ringT 2) ⟨[], 4, false⟩
          obtain ⟨x1, x2, x3, x4⟩ := ring_end E1.out
          replace x1 : objN MF.l [0] [true, true] = 5 := x1
          rw [x1] at hrun hps
          obtain ⟨W0, hW0⟩ : ∃ W0 : TrW, W0 = ⟨TraceS.fresh cm 0 true, MF, ringT 2, ⟨[], 4, false⟩, 0⟩ := ⟨_, rfl⟩
          have hrun2 : TrW.go 5 W0 = ⟨S, ⟨MF.l, c'⟩, (objF MF.l [0] [true, true] true (ringT 2, ⟨[], 4, false⟩)).1, (objF MF.l [0] [true, true] true (ringT 2, ⟨[], 4, false⟩)).2, k'⟩ := by rw [hW0]; exact hrun
          have A30 := Lib.hid (show TrAt ⟨own30, w30⟩ 320 300 330 331 332 b bm bs bt bp (TrW.go 0 W0) from by rw [hW0]; exact ⟨t30, RR.out.keep m30 id, S8.out.keep m30 id id id⟩)
          have M30 := Lib.hid (M8.out.trans (m30.mono (S := fun x => x ≠ 0) (fun _ => False.elim)))
          have HP9 := Lib.hid (show (TrW.go 5 W0).s.pc = 9 from by rw [hrun2]; exact hp9)
          have HST := Lib.hid (show (TrW.go 5 W0).s.steps = W0.s.steps + (5 : Nat) from by rw [hrun2, hW0]; show S.steps = 0 + ((5 : Nat) : Int); rw [hps]; rfl)
          have HS9 := Lib.hid (show (TrW.go 5 W0).s.steps = 5 from by rw [hrun2]; exact hps)
          have HT1 := Lib.hid (show (TrW.go 5 W0).T.black 1 true = true from by rw [hrun2]; exact x2)
          have HT0 := Lib.hid (show (TrW.go 5 W0).T.black 0 true = true from by rw [hrun2]; exact x3)
          have HPL := Lib.hid (show ((TrW.go 5 W0).p.l.length : Int) = 2 from by rw [hrun2]; show (((objF MF.l [0] [true, true] true (ringT 2, ⟨[], 4, false⟩)).2.l.length : Nat) : Int) = 2; rw [x4]; rfl)
          have HOK0 := Lib.hid (show W0.s.Ok from by rw [hW0]; exact TraceS.fresh_ok _ _ _)
          have HW00 := Lib.hid (show W0.s.steps = 0 ∧ W0.k = 0 ∧ W0.m.count = MF.count from by rw [hW0]; exact ⟨rfl, rfl, rfl⟩)
          have HCM := Lib.hid E1.out.cnt
          clear hrun hrun2 hW0 hp9 hpe hps m30 t30 hs30 HTN x1 x2 x3 x4 RR S8 M8 E1
          go_wp2_with fail
          go_loopw [15] (fun i wr => ∃ (q : Nat) (own : Nat → Nat), q ≤ 5 ∧ i = .int .i64 q ∧ Hid (Mod (fun x => x ≠ 0) ⟨fun _ => 0, w0⟩ ⟨own, wr⟩) ∧ Hid (TrAt ⟨own, wr⟩ 320 300 330 331 332 b bm bs bt bp (TrW.go q W0))) (fun i _ => 5 - (intOf i).toNat)
          case atStart => exact ⟨0, own30, Nat.zero_le _, rfl, M30, A30⟩
          case round =>
            obtain ⟨q, own31, hq, rfl, M31, A31⟩ := hrel
            obtain ⟨w31, rfl⟩ : ∃ w31 : World, w31 = wr := ⟨_, rfl⟩
            have HK := Lib.hid (TrW.go_keeps q W0)
            have HPC := Lib.hid (go_pc_end HP9.out HST.out hq)
            have d0 : decide ((q : Int) < 20) = true := decide_eq_true (by omega)
            clear M30 A30
            go_wp2_with fail
            refine (trace_done ⟨own31, w31⟩ 320 b _ A31.out.tr).mono ?_
            rintro e w32 ⟨rfl, rfl⟩
            rw [HPC.out]
            by_cases hqN : q = 5
            · rw [decide_eq_true hqN]
              subst hqN
              go_wp2_with fail
              refine (H.out _).mono ?_
              rintro e w33 ⟨rfl, hE33⟩
              obtain ⟨own33, m33⟩ := Mod.ofExtT (show Ext w31 w33 from hE33) own31
              have A33 := Lib.hid (A31.out.keep m33 id id id id id id)
              have M33 := Lib.hid (M31.out.trans (m33.mono (S := fun x => x ≠ 0) (fun _ => False.elim)))
              clear hE33 m33 M31 A31 d0
              go_wp2_with fail
              refine (trace_done ⟨own33, w33⟩ 320 b _ A33.out.tr).mono ?_
              rintro e w34 ⟨rfl, rfl⟩
              rw [HPC.out]
              simp only [decide_true]
              go_wp2_with fail
              refine (trace_steps ⟨own33, w33⟩ 320 b _ A33.out.tr).mono ?_
              rintro e w34 ⟨rfl, rfl⟩
              rw [HS9.out]
              have s0 := A33.out.shd.blk.cell (i := 0) rfl
              have sl := A33.out.shd.blk.lt
              go_wp2_with fail
              refine (shade_table bt _).mono ?_
              rintro e w34 ⟨rfl, hE34⟩
              obtain ⟨own34, m34⟩ := Mod.ofExtT (show Ext w33 w34 from hE34) own33
              have A34 := Lib.hid (A33.out.keep m34 id id id id id id)
              have M34 := Lib.hid (M33.out.trans (m34.mono (S := fun x => x ≠ 0) (fun _ => False.elim)))
              clear hE34 m34 M33 A33 s0 sl
              go_wp2_with fail
              refine (tab_black ⟨own34, w34⟩ 331 bt 1 true _ A34.out.shd.tab).mono ?_
              rintro e w35 ⟨rfl, rfl⟩
              rw [HT1.out]
              have s0 := A34.out.shd.blk.cell (i := 0) rfl
              have sl := A34.out.shd.blk.lt
              go_wp2_with fail
              refine (shade_table bt _).mono ?_
              rintro e w36 ⟨rfl, hE36⟩
              obtain ⟨own36, m36⟩ := Mod.ofExtT (show Ext w34 w36 from hE36) own34
              have A36 := Lib.hid (A34.out.keep m36 id id id id id id)
              have M36 := Lib.hid (M34.out.trans (m36.mono (S := fun x => x ≠ 0) (fun _ => False.elim)))
              clear hE36 m36 M34 A34 s0 sl
              go_wp2_with fail
              refine (tab_black ⟨own36, w36⟩ 331 bt 0 true _ A36.out.shd.tab).mono ?_
              rintro e w37 ⟨rfl, rfl⟩
              rw [HT0.out]
              go_wp2_with fail
              refine (shade_len ⟨own36, w36⟩ 330 bs bt bp 332 _ _ A36.out.shd.blk A36.out.shd.pile).mono ?_
              rintro e w38 ⟨rfl, rfl⟩
              rw [HPL.out]
              go_wp2_with fail
              go_ret
              exact Gives.bool rfl (HE2.out.trans (ext_of_ne M36.out))
            · rw [decide_eq_false hqN]
              have hkk := HK.out.2.2.2.2
              have hw00 := HW00.out
              have hcm := HCM.out
              have HSTP := Lib.hid (trace_step ⟨own31, w31⟩ apart16 (TrW.go q W0) A31.out (TrW.go_ok q HOK0.out) (by omega) (by omega) (by omega))
              clear hkk hw00 hcm
              go_wp2_with fail
              refine HSTP.out.mono ?_
              rintro e w32 ⟨rfl, own32, m32, a32⟩
              have M32 := Lib.hid (M31.out.trans (m32.mono (S := fun x => x ≠ 0) (fun x hx => by unfold trT at hx; omega)))
              have A32 := Lib.hid a32
              clear m32 a32
              go_wp2_with fail
              go_roundw
              case rel => exact ⟨q + 1, own32, by omega, by go_num, M32, A32⟩
              case measure => simp [intOf]; omega
end Go.Proofs.Ythdijbkcjmeilaa
