/-
  slices.Clone at ints: a row of whoever is asked for.
-/
import Derived.Test.YthdijbkcjmeilaaGreatPicks
import Derived.Test.YthdijbkcjmeilaaGreatGhost
namespace Go.Proofs.YthdijbkcjmeilaaGreat
open Go Go.RowKit
set_option linter.unusedVariables false
attribute [local go_sem] Lib.run_eql_slice_nil

/-- The clone: a row of the owner t; nil of nil. -/
def Cloned (t : Nat) (l : List Int) (g : GW) (e : Ending) (w' : World) : Prop :=
  ∃ A' c', e = .returned (.slice A' l.length c') ∧ Mod (fun _ => False) g (g.to t w') ∧ Row (g.to t w') t 3 1 (.slice A' l.length c') l.length (l.map (Value.int .i64)) ∧ Ext g.w w' ∧ (∀ a, A' = some a → g.w.heap.size ≤ a.block)
theorem cloneInt (A : Option Addr) (cap : Nat) (l : List Int) (t : Nat) (g : GW) (hc : CellsAt g.w A (l.map (Value.int .i64))) (hl : l.length ≤ 1099511627776) :
    Calls Tryz.prog 172 #[.slice A l.length cap] g.w (Cloned t l g) := by
  obtain ⟨i0, hi, hz0, hz1, hz2⟩ := info_parts infoInt
  have hq := fun w => Lib.run_eql_slice_nil (P := Tryz.prog) w 65 3 A l.length cap 0 0 Tryz.underlying65
  rcases A with _ | ad
  · obtain rfl : l = [] := by
      rcases l with _ | ⟨x, l⟩
      · rfl
      · obtain ⟨b, o, h, _⟩ := hc.at_ (i := 0) (by simp)
        cases h
    go_enter Tryz.func172, Tryz.ntmps172
    go_wp2_with fail
    go_ret
    exact ⟨none, 0, rfl, Mod.ext (Ext.refl _) _, Row.nil _ _ _ _, Ext.refl _, fun a h => by cases h⟩
  · go_enter Tryz.func172, Tryz.ntmps172
    go_wp2_with (at_builtin; refine wpList_append_own _ rfl (.tmp 5) (.tmp 6) 65 rfl g.w.heap.size 3 i0 (.int .i64 0) 1 8 Tryz.underlying65 hi hz0 hz1 hz2 rfl (by decide) _ _ _ rfl (World.ownsRow_made (cap := 0) _ #[] (Nat.le_refl _) (by decide) rfl) ad l.length cap (l.map (Value.int .i64)) rfl (by simp) (cells_add (hc.alloc _)) (by intro u hu; simp at hu; obtain ⟨_, _, rfl⟩ := hu; rfl) (by unfold maxLen; omega) (by omega) (by simp) ?_; intro v' w1 hown hgrow hn)
    simp only [Nat.zero_add, List.nil_append] at hown
    obtain ⟨A', c', hv⟩ := own_form hown
    rw [hv] at hown
    have HV := Lib.hid hv
    clear hv
    go_ret
    have he : Ext g.w w1 := ext_grown (Ext.alloc (Ext.refl _) _) hgrow (fun k hk => by cases hk; exact Nat.le_refl _)
    have hf := own_fresh hown
    exact ⟨A', c', congrArg Ending.returned HV.out, Mod.ext he _, ⟨own_lower hown (Nat.zero_le _), fun k hk => GW.to_new (by
      cases A' with
      | none => cases hk
      | some a => injection hk with hk; subst hk; exact hf a rfl)⟩, he, hf⟩
/-- The same with the length under a name. -/
def ClonedN (t n : Nat) (l : List Int) (g : GW) (e : Ending) (w' : World) : Prop :=
  ∃ A' c', e = .returned (.slice A' n c') ∧ Mod (fun _ => False) g (g.to t w') ∧ Row (g.to t w') t 3 1 (.slice A' n c') n (l.map (Value.int .i64)) ∧ Ext g.w w' ∧ (∀ a, A' = some a → g.w.heap.size ≤ a.block)
theorem cloneIntN (A : Option Addr) (cap n : Nat) (l : List Int) (t : Nat) (g : GW) (hn : l.length = n) (hc : CellsAt g.w A (l.map (Value.int .i64))) (hl : n ≤ 1099511627776) :
    Calls Tryz.prog 172 #[.slice A n cap] g.w (ClonedN t n l g) := by
  subst hn
  exact cloneInt A cap l t g hc hl
end Go.Proofs.YthdijbkcjmeilaaGreat
