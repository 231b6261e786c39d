/-
  spolaw13.Fill without words; what writes leave in memory.
-/
import Derived.Test.YthdijbkcjmeilaaMemO
import Derived.Test.YthdijbkcjmeilaaRefChk
namespace Go.Proofs.Ythdijbkcjmeilaa
open Go Go.RowKit
set_option linter.unusedVariables false
set_option linter.unnecessarySimpa false
set_option linter.unusedSimpArgs false
set_option maxHeartbeats 2000000
def Filled (c : Cnf) (t : Nat) (g : GW) (e : Ending) (w' : World) : Prop := ∃ own' b, e = .returned (.pointer (some ⟨b, 0, none⟩)) ∧ Mod (fun _ => False) g ⟨own', w'⟩ ∧ MemAt ⟨own', w'⟩ t b ⟨List.replicate (cWords c).toNat (0, 0), 0⟩
theorem cWords_bd (c : Cnf) : 0 ≤ cWords c ∧ cWords c ≤ 20000 := by
  unfold cWords
  split
  · rename_i h
    obtain ⟨⟨_, _⟩, ⟨_, _⟩, ⟨_, _⟩, _⟩ := Cnf.ranged (Cnf.check_zero h).1
    omega
  · omega
theorem fill_nil (c : Cnf) (t : Nat) (g : GW) (hc : c.Ok g.w) : Calls Try.prog 16 #[c.val, .slice none 0 0] g.w (Filled c t g) := by
  have HW := Lib.hid (fun w' (he : Ext g.w w') => rwords_any c w' (hc.ext he))
  have hb := cWords_bd c
  generalize hn : cWords c = n at *
  have HN := Lib.hid hn
  unfold Cnf.val at HW ⊢
  clear hc hn
  go_enter Try.func16, Try.ntmps16
  go_wp2_with fail
  refine (HW.out _ (by (repeat (first | (with_reducible assumption) | (with_reducible exact Ext.refl _) | (with_reducible exact Ext.more _ _ _ _) | apply Ext.alloc | refine Ext.setCell ?_ (by first | exact Nat.le_refl _ | exact Nat.le_add_right _ _ | assumption) _ | apply Ext.patch | apply Ext.drew | apply Ext.drewN)))).mono ?_
  rintro e w1 ⟨rfl, hE⟩
  have M1 := Lib.hid (Mod.ext (T := fun _ => False) (g := g) (show Ext g.w w1 from (show Ext g.w _ by (repeat (first | (with_reducible assumption) | (with_reducible exact Ext.refl _) | (with_reducible exact Ext.more _ _ _ _) | apply Ext.alloc | refine Ext.setCell ?_ (by first | exact Nat.le_refl _ | exact Nat.le_add_right _ _ | assumption) _ | apply Ext.patch | apply Ext.drew | apply Ext.drewN))).trans hE) 0)
  clear hE
  go_wp2_with fail
  refine (mem_new n t (g.to 0 w1)).mono ?_
  rintro e w2 hm
  unfold MemMade at hm
  rw [if_pos (by omega)] at hm
  obtain ⟨own2, b, rfl, m2, r2⟩ := hm
  have M2 := Lib.hid m2
  have R2 := Lib.hid r2
  clear m2 r2
  go_wp2_with fail
  go_loopw [7] (fun i wr => i = .int .i64 0 ∧ w2 = wr) (fun _ _ => 0)
  case atStart => exact ⟨rfl, rfl⟩
  case round =>
    obtain ⟨rfl, rfl⟩ := hrel
    go_wp2_with fail
    go_ret
    exact ⟨own2, b, rfl, M1.out.trans M2.out, by rw [HN.out]; exact R2.out⟩
/-- Behind so many writes. -/
def memPut (m : MemS) (AT : Nat → Int) (V : Nat → Nat × Nat) : Nat → MemS
  | 0 => m
  | k + 1 => (memPut m AT V k).tick.lay (AT k) (V k)
theorem lay_len (m : MemS) (a : Int) (x : Nat × Nat) : (m.lay a x).l.length = m.l.length := by unfold MemS.lay; split <;> simp
theorem lay_count (m : MemS) (a : Int) (x : Nat × Nat) : (m.lay a x).count = m.count := by unfold MemS.lay; split <;> rfl
theorem memPut_len (m : MemS) (AT : Nat → Int) (V : Nat → Nat × Nat) (k : Nat) : (memPut m AT V k).l.length = m.l.length := by
  induction k with
  | zero => rfl
  | succ k ih => rw [memPut, lay_len]; exact ih
theorem memPut_count (m : MemS) (AT : Nat → Int) (V : Nat → Nat × Nat) (k : Nat) : (memPut m AT V k).count = m.count + k := by
  induction k with
  | zero => simp [memPut]
  | succ k ih =>
    rw [memPut, lay_count]
    show (memPut m AT V k).count + 1 = _
    rw [ih]; omega
theorem peek_lay_self {m : MemS} {a : Int} {x : Nat × Nat} (h : inB a m.l.length = true) : (m.lay a x).peek a = x := by
  obtain ⟨k, rfl, hk⟩ := inB_true h
  unfold MemS.lay MemS.peek
  rw [if_pos h]
  simp only [List.length_set]
  rw [if_pos h, Int.toNat_natCast, List.getD_eq_getElem?_getD, List.getElem?_set_self hk]
  rfl
theorem peek_lay_other {m : MemS} {a b : Int} {x : Nat × Nat} (h : a ≠ b) : (m.lay a x).peek b = m.peek b := by
  unfold MemS.lay
  split
  · rename_i h1
    unfold MemS.peek
    simp only [List.length_set]
    split
    · rename_i h2
      obtain ⟨k, rfl, hk⟩ := inB_true h1
      obtain ⟨j, rfl, hj⟩ := inB_true h2
      rw [Int.toNat_natCast, Int.toNat_natCast, List.getD_eq_getElem?_getD, List.getD_eq_getElem?_getD, List.getElem?_set_ne (by omega)]
    · rfl
  · rfl
theorem memPut_peek {m : MemS} {AT : Nat → Int} {V : Nat → Nat × Nat} {n : Nat} (hb : ∀ i, i < n → inB (AT i) m.l.length = true) (hd : ∀ i, i < n → ∀ k, k < i → AT k ≠ AT i) : ∀ k, k ≤ n → ∀ i, i < k → (memPut m AT V k).peek (AT i) = V i
  | 0, _, i, hi => by omega
  | k + 1, hk, i, hi => by
    rw [memPut]
    by_cases h : i = k
    · subst h
      refine peek_lay_self ?_
      show inB _ (memPut m AT V i).l.length = true
      rw [memPut_len]
      exact hb i (by omega)
    · rw [peek_lay_other (fun e => hd k (by omega) i (by omega) e.symm)]
      exact memPut_peek hb hd k (by omega) i (by omega)
end Go.Proofs.Ythdijbkcjmeilaa
