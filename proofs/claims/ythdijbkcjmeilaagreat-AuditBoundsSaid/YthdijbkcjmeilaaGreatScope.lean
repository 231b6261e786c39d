/-
  A scope in which the run jumps forward to one label, and on. No program here.
-/
import Derived.Test.YthdijbkcjmeilaaGreatMem
import Derived.ScopeJumps
import Derived.WalkMore
namespace Go

theorem wp_scope_fwd {P : Program} {a : Act} {w : World} {Q : Exit → Act → World → Prop} {c rest : Code} (l : Nat) (hf : findLabel c l = some rest)
    (first : c.wp P (Exit.jump l (fun a w => rest.wp P (Exit.noGoto Q) a w) Q) a w) : (Code.scope c).wp P Q a w :=
  wp_scope_jumps l _ (fun _ _ => 0) hf first fun _ _ h => wp_mono h fun e _ _ hq => by
    cases e <;> first | exact hq | exact hq.elim
theorem Exit.jump_ret {l : Nat} {J : Act → World → Prop} {Q : Exit → Act → World → Prop} {a : Act} {w : World} : Exit.jump l J Q .ret a w = Q .ret a w := rfl
theorem Calls.added2 {P : Program} {f : FuncId} {args : Array Value} {w : World} {X : Extra} {B C : Array Obj} {v : Value}
    (h : Calls P f args (w.patch ⟨B ++ (C ++ X.blocks), X.drawn⟩) (Gives v (w.patch ⟨B ++ (C ++ X.blocks), X.drawn⟩))) : Calls P f args (w.patch ⟨B ++ (C ++ X.blocks), X.drawn⟩) fun e w'' => e = .returned v ∧ ∃ Y : Extra, w'' = w.patch ⟨B ++ (C ++ Y.blocks), Y.drawn⟩ :=
  h.mono fun _ _ ⟨he, Y, hY⟩ => ⟨he, ⟨X.blocks ++ Y.blocks, Y.drawn⟩, by rw [hY, World.patch_patch, Array.append_assoc, Array.append_assoc]⟩
open Go.RowKit
theorem CellsAt.setCell {w : World} {A : Option Addr} {vs : List Value} {p : Addr} {v : Value} (h : CellsAt w A vs) (hp : ∀ a, A = some a → p.block ≠ a.block) : CellsAt (w.setCell p v) A vs := fun i u hi => by
  obtain ⟨b, o, hA, hb, hc⟩ := h i u hi
  refine ⟨b, o, hA, by rw [World.size_setCell]; exact hb, ?_⟩
  rw [← hc]
  exact World.cell?_setCell_other _ _ _ _ (fun e => hp _ hA (by rw [e]))
theorem Shp.Ok.setCell {w : World} {s : Shp} {p : Addr} {v : Value} (h : s.Ok w) (hp : ∀ a, s.A = some a → p.block ≠ a.block) : s.Ok (w.setCell p v) :=
  ⟨h.refs.setCell hp, h.len, h.max⟩
end Go
