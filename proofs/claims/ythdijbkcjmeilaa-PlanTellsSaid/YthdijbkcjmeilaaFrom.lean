/-
  A scope in which the run comes to one label and jumps back to it. No program here.
-/
import Derived.Test.YthdijbkcjmeilaaScope
namespace Go
theorem wp_scope_from {P : Program} {a : Act} {w : World} {Q : Exit → Act → World → Prop} {c R : Code} (l : Nat) (J : Act → World → Prop) (μ : Act → World → Nat) (hf : findLabel c l = some (Code.skip.seq R))
    (pass : ∀ a w, J a w → R.wp P (Exit.jump l (fun a' w' => J a' w' ∧ μ a' w' < μ a w) Q) a w)
    (first : (∀ a w, J a w → R.wp P (Exit.jump l J Q) a w) → c.wp P (Exit.jump l J Q) a w) : (Code.scope c).wp P Q a w := by
  refine wp_scope_jumps l J μ hf (first fun a w h => wp_mono (pass a w h) fun e _ _ hq => ?_) fun a w h => ?_
  · cases e <;> first | exact hq | exact ⟨hq.1, hq.2.1⟩
  · exact wp_seq (wp_skip (pass a w h))
end Go
