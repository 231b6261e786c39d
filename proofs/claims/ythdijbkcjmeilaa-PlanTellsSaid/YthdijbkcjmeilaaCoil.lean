/-
  coil: the two spaces of spines.
-/
import Derived.Test.YthdijbkcjmeilaaChecked
import Derived.Test.YthdijbkcjmeilaaSt
namespace Go.Proofs.Ythdijbkcjmeilaa
open Go Go.RowKit
set_option linter.unusedVariables false
set_option linter.unnecessarySimpa false
set_option linter.unusedSimpArgs false
set_option maxHeartbeats 2000000

theorem CoilS.Ok.take {c : CoilS} (h : c.Ok) {n : Int} (hn : c.takeable n = true) : (c.lays n).Ok := by
  obtain ⟨size, cur, u0, u1, kept⟩ := c
  obtain ⟨o1, o2, o3, o4, o5, o6⟩ := h
  have hn' : 1 ≤ n ∧ n ≤ CoilS.room ⟨size, cur, u0, u1, kept⟩ := by simpa [CoilS.takeable] using hn
  obtain ⟨hn1, hn2⟩ := hn'
  unfold CoilS.room at hn2
  simp only at o1 o2 o3 o4 o5 o6 hn2
  rcases (show cur = 0 ∨ cur = 1 by omega) with rfl | rfl
  · have e : CoilS.used ⟨size, 0, u0, u1, kept⟩ 0 = u0 := rfl
    rw [e] at o6 hn2
    exact ⟨by show 0 < 2; decide, o2, ⟨by show 0 ≤ u0 + n; omega, by show u0 + n ≤ 2048; omega⟩, o4, o5, by show u0 + n + kept ≤ size; omega⟩
  · have e : CoilS.used ⟨size, 1, u0, u1, kept⟩ 1 = u1 := rfl
    rw [e] at o6 hn2
    exact ⟨by show 1 < 2; decide, o2, o3, ⟨by show 0 ≤ u1 + n; omega, by show u1 + n ≤ 2048; omega⟩, o5, by show u1 + n + kept ≤ size; omega⟩
theorem CoilS.takenAt_no {c : CoilS} {n : Int} (h : c.takeable n = false) : c.takenAt n = 0 := by unfold CoilS.takenAt; rw [h]; rfl
theorem CoilS.takenAt_yes {c : CoilS} {n : Int} (h : c.takeable n = true) : c.takenAt n = c.used c.cur := by unfold CoilS.takenAt; rw [h]; rfl
theorem CoilS.copiedAt_no {c : CoilS} {n : Int} (h : c.skippable n = false) : c.copiedAt n = 0 := by unfold CoilS.copiedAt; rw [h]; rfl
theorem CoilS.copiedAt_yes {c : CoilS} {n : Int} (h : c.skippable n = true) : c.copiedAt n = c.used c.cur := by unfold CoilS.copiedAt; rw [h]; rfl
theorem CoilS.Ok.skip {c : CoilS} (h : c.Ok) {n : Int} (hn : c.skippable n = true) : CoilS.Ok { c with kept := c.kept - n } := by
  obtain ⟨size, cur, u0, u1, kept⟩ := c
  obtain ⟨o1, o2, o3, o4, o5, o6⟩ := h
  have hn' : 1 ≤ n ∧ n ≤ kept := by simpa [CoilS.skippable] using hn
  obtain ⟨hn1, hn2⟩ := hn'
  simp only at o1 o2 o3 o4 o5 o6
  have e : CoilS.used ⟨size, cur, u0, u1, kept - n⟩ cur = CoilS.used ⟨size, cur, u0, u1, kept⟩ cur := rfl
  exact ⟨o1, o2, o3, o4, ⟨by show 0 ≤ kept - n; omega, by show kept - n ≤ 2048; omega⟩, by show CoilS.used ⟨size, cur, u0, u1, kept - n⟩ cur + (kept - n) ≤ size; rw [e]; omega⟩
theorem CoilS.Ok.copy {c : CoilS} (h : c.Ok) {n : Int} (hn : c.skippable n = true) : (CoilS.lays { c with kept := c.kept - n } n).Ok := by
  obtain ⟨size, cur, u0, u1, kept⟩ := c
  obtain ⟨o1, o2, o3, o4, o5, o6⟩ := h
  have hn' : 1 ≤ n ∧ n ≤ kept := by simpa [CoilS.skippable] using hn
  obtain ⟨hn1, hn2⟩ := hn'
  simp only at o1 o2 o3 o4 o5 o6
  rcases (show cur = 0 ∨ cur = 1 by omega) with rfl | rfl
  · have e : CoilS.used ⟨size, 0, u0, u1, kept⟩ 0 = u0 := rfl
    rw [e] at o6
    exact ⟨by show 0 < 2; decide, o2, ⟨by show 0 ≤ u0 + n; omega, by show u0 + n ≤ 2048; omega⟩, o4, ⟨by show 0 ≤ kept - n; omega, by show kept - n ≤ 2048; omega⟩, by show u0 + n + (kept - n) ≤ size; omega⟩
  · have e : CoilS.used ⟨size, 1, u0, u1, kept⟩ 1 = u1 := rfl
    rw [e] at o6
    exact ⟨by show 1 < 2; decide, o2, o3, ⟨by show 0 ≤ u1 + n; omega, by show u1 + n ≤ 2048; omega⟩, ⟨by show 0 ≤ kept - n; omega, by show kept - n ≤ 2048; omega⟩, by show u1 + n + (kept - n) ≤ size; omega⟩
end Go.Proofs.Ythdijbkcjmeilaa
