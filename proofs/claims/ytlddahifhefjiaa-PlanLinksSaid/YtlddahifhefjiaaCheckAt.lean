/-
  op.Check of a small configuration and an operation of bytes: all well.
-/
import Derived.Test.YtlddahifhefjiaaOpCheckA
import Derived.Test.YtlddahifhefjiaaOpCheckB
import Derived.Test.YtlddahifhefjiaaTaleP
namespace Go
/-- What its numbers name. -/
def Opr.Fit (o : Opr) : Prop := (o.kind = 1 → o.b = 0 ∨ o.b = 1 ∨ o.b = 4) ∧ (o.kind = 2 → o.b = 2 ∨ o.b = 3) ∧ (3 ≤ o.kind → o.b < 3) ∧ (o.kind = 7 ∨ o.kind = 8 → o.n < 2)
theorem fit_ite {c : Prop} [Decidable c] {a b : Opr} (ha : a.Fit) (hb : b.Fit) : (if c then a else b).Fit := by
  split
  · exact ha
  · exact hb
theorem opOf_fit (k x y z : Int) : (opOf k x y z).Fit := by
  have t : three y = 0 ∨ three y = 1 ∨ three y = 4 := by
    unfold three
    split
    · omega
    · split <;> omega
  unfold opOf
  generalize floatOfInt .f64 x = p at *
  generalize floatOfInt .f64 y = q at *
  generalize three y = r at *
  repeat' (refine fit_ite ?_ ?_)
  all_goals
    refine ⟨?_, ?_, ?_, ?_⟩ <;> simp only [] <;> omega
theorem opAt_fit (bs : List Int) (i : Nat) : (opAt bs i).Fit := opOf_fit _ _ _ _
theorem sig_parts {c : Cnf} {m : Int} (h : c.sig = smallSig m) : 16 ≤ c.frags ∧ 24 ≤ c.spine ∧ c.globals = 2 ∧ c.locals = 3 ∧ c.shapes.length = 5 ∧ c.shapeAt 0 = some (false, [true, true, false]) ∧ c.shapeAt 1 = some (false, [true, true, false, true, true, false, true, true, false]) ∧ c.shapeAt 2 = some (true, [true]) ∧ c.shapeAt 3 = some (true, [false]) ∧ c.shapeAt 4 = some (false, []) := by
  have q32 := partOf_bd m (b := 32) (by decide)
  have q40 := partOf_bd m (b := 40) (by decide)
  obtain ⟨fr, sp, gl, th, lo, ca, st, lw, A, cap, shapes⟩ := c
  simp only [Cnf.sig, smallSig, Prod.mk.injEq, List.cons.injEq, and_true] at h
  obtain ⟨⟨rfl, rfl, rfl, rfl, rfl, rfl, rfl, rfl⟩, hs⟩ := h
  obtain _ | ⟨s0, _ | ⟨s1, _ | ⟨s2, _ | ⟨s3, _ | ⟨s4, _ | ⟨s5, l⟩⟩⟩⟩⟩⟩ := shapes <;> simp at hs
  obtain ⟨h0, h1, h2, h3, h4⟩ := hs
  refine ⟨by simp only; omega, by simp only; omega, rfl, rfl, rfl, ?_, ?_, ?_, ?_, ?_⟩
  · simp [Cnf.shapeAt, h0]
  · simp [Cnf.shapeAt, h1]
  · simp [Cnf.shapeAt, h2]
  · simp [Cnf.shapeAt, h3]
  · simp [Cnf.shapeAt, h4]
end Go
namespace Go.Proofs.Ytlddahifhefjiaa
open Go Go.RowKit
set_option linter.unusedVariables false
theorem checkAt {c : Cnf} {m : Int} (hs : c.sig = smallSig m) (o : Opr) (ho : o.Small) (hf : o.Fit) (w : World) (hc : c.Ok w) :
    Calls Try.prog 32 #[c.val, o.val] w (Gives (.int .i64 0) w) := by
  have h0 := sig_check hs
  obtain ⟨p1, p2, p3, p4, p5, s0, s1, s2, s3, s4⟩ := sig_parts hs
  obtain ⟨k, a, b, d, n, x, y⟩ := o
  obtain ⟨hk, ha, hb, hd, hn, -, -⟩ := ho
  obtain ⟨f1, f2, f3, f4⟩ := hf
  simp only [Opr.val] at *
  rw [← p4] at ha hd
  have hg : k = 7 ∨ k = 8 → 0 ≤ n ∧ n < c.globals := fun h => by have := f4 h; omega
  have hb' : 3 ≤ k → 0 ≤ b ∧ b < c.locals := fun h => by have := f3 h; omega
  have hD := sData_bd n
  have hDn : sData n ≤ 7 := by unfold sData; split <;> omega
  rcases (show k = 1 ∨ k = 2 ∨ k = 3 ∨ k = 4 ∨ k = 5 ∨ k = 6 ∨ k = 7 ∨ k = 8 ∨ k = 9 ∨ k = 10 ∨ k = 11 ∨ k = 12 ∨ k = 13 ∨ k = 14 ∨ k = 15 ∨ k = 16 ∨ k = 17 by omega) with rfl | rfl | rfl | rfl | rfl | rfl | rfl | rfl | rfl | rfl | rfl | rfl | rfl | rfl | rfl | rfl | rfl
  · rcases f1 rfl with rfl | rfl | rfl
    · exact opCheck_1 c a _ d n x y w hc h0 ha _ s0 1 0 (by decide) (by simp [Shp.spine]) (by omega) (by omega) (by omega)
    · exact opCheck_1 c a _ d n x y w hc h0 ha _ s1 2 0 (by decide) (by simp [Shp.spine]) (by omega) (by omega) (by omega)
    · exact opCheck_1 c a _ d n x y w hc h0 ha _ s4 1 0 (by decide) (by simp [Shp.spine]) (by omega) (by omega) (by omega)
  · have hz : ∀ r, Shp.size ⟨true, none, 0, [r]⟩ n = 1 + sData n := fun r => by unfold Shp.size; rw [if_neg (by simp [Shp.may]; omega), if_pos rfl]
    have hp : ∀ r, Shp.spine ⟨true, none, 0, [r]⟩ n ≤ 24 := fun r => by unfold Shp.spine; split <;> omega
    rcases f2 rfl with rfl | rfl
    · exact opCheck_2 c a _ d n x y w hc h0 ha _ s2 _ _ (hz _) rfl (by omega) (by omega) (Int.le_trans (hp _) p2)
    · exact opCheck_2 c a _ d n x y w hc h0 ha _ s3 _ _ (hz _) rfl (by omega) (by omega) (Int.le_trans (hp _) p2)
  · exact opCheck_3 c a b d n x y w hc h0 ha (hb' (by omega))
  · exact opCheck_4 c a b d n x y w hc h0 ha (hb' (by omega))
  · exact opCheck_5 c a b d n x y w hc h0 ha (hb' (by omega))
  · exact opCheck_6 c a b d n x y w hc h0 ha (hb' (by omega))
  · exact opCheck_7 c a b d n x y w hc h0 ha (hg (by omega))
  · exact opCheck_8 c a b d n x y w hc h0 (hb' (by omega)) (hg (by omega))
  · exact opCheck_9 c a b d n x y w hc h0 ha (hb' (by omega)) hd
  · exact opCheck_10 c a b d n x y w hc h0 ha (hb' (by omega))
  · exact opCheck_11 c a b d n x y w hc h0 ha (hb' (by omega))
  · exact opCheck_12 c a b d n x y w hc h0 ha
  · exact opCheck_13 c a b d n x y w hc h0 ha
  · exact opCheck_14 c a b d n x y w hc h0 ha (hb' (by omega))
  · exact opCheck_15 c a b d n x y w hc h0 ha (hb' (by omega)) hd
  · exact opCheck_16 c a b d n x y w hc h0 ha (hb' (by omega)) hd
  · exact opCheck_17 c a b d n x y w hc h0
end Go.Proofs.Ytlddahifhefjiaa
