import Derived.Test.YtnebimabokgofaaGreatMgScope
/-
  A scope in which the run comes to one label and jumps back to it. No program here.
-/
namespace Go
theorem wp_scope_from {P : Program} {a : Act} {w : World} {Q : Exit → Act → World → Prop} {c R : Code} (l : Nat) (J : Act → World → Prop) (μ : Act → World → Nat) (hf : findLabel c l = some (Code.skip.seq R))
    (pass : ∀ a w, J a w → R.wp P (Exit.jump l (fun a' w' => J a' w' ∧ μ a' w' < μ a w) Q) a w)
    (first : (∀ a w, J a w → R.wp P (Exit.jump l J Q) a w) → c.wp P (Exit.jump l J Q) a w) : (Code.scope c).wp P Q a w := by
  refine wp_scope_jumps l J μ hf (first fun a w h => wp_mono (pass a w h) fun e _ _ hq => ?_) fun a w h => ?_
  · cases e <;> first | exact hq | exact ⟨hq.1, hq.2.1⟩
  · exact wp_seq (wp_skip (pass a w h))
end Go

/-
  Merged: XScope2, XVia.
-/
/-
  A scope with a label ahead (the end) and a label behind (a loop). No program here.
-/
namespace Go
/-- By a goto to l0: J0; by a goto to l1: J1; by any other: no way out. -/
def Exit.jump2 (l0 : Nat) (J0 : Act → World → Prop) (l1 : Nat) (J1 : Act → World → Prop) (Q : Exit → Act → World → Prop) : Exit → Act → World → Prop
  | .goto l, a, w => (l = l0 ∧ J0 a w) ∨ (l = l1 ∧ J1 a w)
  | e, a, w => Q e a w
theorem Exit.jump2_ret {l0 l1 : Nat} {J0 J1 : Act → World → Prop} {Q : Exit → Act → World → Prop} {a : Act} {w : World} : Exit.jump2 l0 J0 l1 J1 Q .ret a w = Q .ret a w := rfl
section
variable {P : Program} {a : Act} {w : World} {Q : Exit → Act → World → Prop}
theorem wp_scope_two {c rest0 R : Code} (l0 l1 : Nat) (J : Act → World → Prop) (μ : Act → World → Nat) (hf0 : findLabel c l0 = some rest0) (hf1 : findLabel c l1 = some (Code.skip.seq R))
    (pass : ∀ a w, J a w → R.wp P (Exit.jump2 l0 (fun a w => rest0.wp P (Exit.noGoto Q) a w) l1 (fun a' w' => J a' w' ∧ μ a' w' < μ a w) Q) a w)
    (first : (∀ a w, J a w → R.wp P (Exit.jump2 l0 (fun a w => rest0.wp P (Exit.noGoto Q) a w) l1 J Q) a w) → c.wp P (Exit.jump2 l0 (fun a w => rest0.wp P (Exit.noGoto Q) a w) l1 J Q) a w) : (Code.scope c).wp P Q a w := by
  have first' := first fun a w h => wp_mono (pass a w h) fun e _ _ hq => by
    cases e <;> first | exact hq | exact hq.imp id fun h => ⟨h.1, h.2.1⟩
  intro b k cs
  have hg0 : gotoIn l0 (.inScope c :: k) = some (.code rest0 :: .inScope c :: k) := by simp [gotoIn, hf0]
  have hg1 : gotoIn l1 (.inScope c :: k) = some (.code (Code.skip.seq R) :: .inScope c :: k) := by simp [gotoIn, hf1]
  have key0 : ∀ a w, rest0.wp P (Exit.noGoto Q) a w → ∃ e a' w', Q e a' w' ∧ Arrives P (lone (b.at a (.code rest0 :: .inScope c :: k)) cs w) b k cs e a' w' := by
    intro a w h
    obtain ⟨e, a₁, w₁, hq, harr⟩ := h b (.inScope c :: k) cs
    cases e with
    | normal => exact ⟨.normal, a₁, w₁, hq, Steps.trans harr (.one step_inScope)⟩
    | exit id => exact ⟨.exit id, a₁, w₁, hq, fun k' hk => harr k' (by simp [exitTo, hk])⟩
    | goto l' => exact hq.elim
    | ret => exact ⟨_, a₁, w₁, hq, harr⟩
    | panic ch => exact ⟨_, a₁, w₁, hq, harr⟩
    | outgrown => exact ⟨_, a₁, w₁, hq, harr⟩
  have key : ∀ n a w, μ a w = n → J a w → ∃ e a' w', Q e a' w' ∧ Arrives P (lone (b.at a (.code (Code.skip.seq R) :: .inScope c :: k)) cs w) b k cs e a' w' := by
    intro n
    induction n using Nat.strongRecOn with
    | _ n ih =>
      intro a w hn hJ
      obtain ⟨e, a₁, w₁, hq, harr⟩ := wp_seq (wp_skip (pass a w hJ)) b (.inScope c :: k) cs
      cases e with
      | normal => exact ⟨.normal, a₁, w₁, hq, Steps.trans harr (.one step_inScope)⟩
      | exit id => exact ⟨.exit id, a₁, w₁, hq, fun k' hk => harr k' (by simp [exitTo, hk])⟩
      | goto l' =>
        rcases hq with ⟨rfl, hJ'⟩ | ⟨rfl, hJ', hlt⟩
        · obtain ⟨e₂, a₂, w₂, hq₂, harr₂⟩ := key0 a₁ w₁ hJ'
          exact ⟨e₂, a₂, w₂, hq₂, .of_steps (harr _ hg0) harr₂⟩
        · obtain ⟨e₂, a₂, w₂, hq₂, harr₂⟩ := ih _ (by omega) a₁ w₁ rfl hJ'
          exact ⟨e₂, a₂, w₂, hq₂, .of_steps (harr _ hg1) harr₂⟩
      | ret => exact ⟨_, a₁, w₁, hq, harr⟩
      | panic ch => exact ⟨_, a₁, w₁, hq, harr⟩
      | outgrown => exact ⟨_, a₁, w₁, hq, harr⟩
  obtain ⟨e, a₁, w₁, hq, harr⟩ := first' b (.inScope c :: k) cs
  cases e with
  | normal => exact ⟨.normal, a₁, w₁, hq, .head step_scope (Steps.trans harr (.one step_inScope))⟩
  | exit id => exact ⟨.exit id, a₁, w₁, hq, fun k' hk => .head step_scope (harr k' (by simp [exitTo, hk]))⟩
  | goto l' =>
    rcases hq with ⟨rfl, hJ'⟩ | ⟨rfl, hJ'⟩
    · obtain ⟨e₂, a₂, w₂, hq₂, harr₂⟩ := key0 a₁ w₁ hJ'
      exact ⟨e₂, a₂, w₂, hq₂, .of_steps (.head step_scope (harr _ hg0)) harr₂⟩
    · obtain ⟨e₂, a₂, w₂, hq₂, harr₂⟩ := key _ a₁ w₁ rfl hJ'
      exact ⟨e₂, a₂, w₂, hq₂, .of_steps (.head step_scope (harr _ hg1)) harr₂⟩
  | ret => exact ⟨_, a₁, w₁, hq, .of_steps (.one step_scope) harr⟩
  | panic ch => exact ⟨_, a₁, w₁, hq, .of_steps (.one step_scope) harr⟩
  | outgrown => exact ⟨_, a₁, w₁, hq, .of_steps (.one step_scope) harr⟩
end
end Go
/-
  A scope with labels that are jumped to forward only, in the order of a list. No program here.
-/
namespace Go
/-- By a goto to a label of the list: its rest does it, which jumps to later ones of the list alone. -/
def Exit.via (P : Program) (Q : Exit → Act → World → Prop) : List (Nat × Code) → Exit → Act → World → Prop
  | [], .goto _, _, _ => False
  | (l', r) :: L, .goto l, a, w => (l = l' ∧ r.wp P (Exit.via P Q L) a w) ∨ Exit.via P Q L (.goto l) a w
  | _, e, a, w => Q e a w
section
variable {P : Program} {a : Act} {w : World} {Q : Exit → Act → World → Prop}
theorem Exit.via_ret {L : List (Nat × Code)} : Exit.via P Q L .ret a w = Q .ret a w := by cases L <;> rfl
theorem Exit.via_normal {L : List (Nat × Code)} : Exit.via P Q L .normal a w = Q .normal a w := by cases L <;> rfl
theorem via_here {l : Nat} {r : Code} {L : List (Nat × Code)} (h : r.wp P (Exit.via P Q L) a w) : Exit.via P Q ((l, r) :: L) (.goto l) a w := Or.inl ⟨rfl, h⟩
theorem via_next {l l' : Nat} {r : Code} {L : List (Nat × Code)} (h : Exit.via P Q L (.goto l) a w) : Exit.via P Q ((l', r) :: L) (.goto l) a w := Or.inr h
theorem via_goto {l : Nat} : ∀ {L : List (Nat × Code)}, Exit.via P Q L (.goto l) a w → ∃ r L', (l, r) ∈ L ∧ L'.length < L.length ∧ (∀ x ∈ L', x ∈ L) ∧ r.wp P (Exit.via P Q L') a w
  | [], h => h.elim
  | (l', r) :: L, h => by
    rcases h with ⟨rfl, h⟩ | h
    · exact ⟨r, L, List.mem_cons_self, Nat.lt_succ_self _, fun x hx => List.mem_cons_of_mem _ hx, h⟩
    · obtain ⟨r2, L2, h1, h2, h3, h4⟩ := via_goto h
      exact ⟨r2, L2, List.mem_cons_of_mem _ h1, Nat.lt_succ_of_lt h2, fun x hx => List.mem_cons_of_mem _ (h3 x hx), h4⟩
theorem wp_scope_via {c : Code} (L : List (Nat × Code)) (hL : ∀ p ∈ L, findLabel c p.1 = some p.2) (first : c.wp P (Exit.via P Q L) a w) : (Code.scope c).wp P Q a w := by
  intro b k cs
  have key : ∀ (n : Nat) (L : List (Nat × Code)), L.length = n → (∀ p ∈ L, findLabel c p.1 = some p.2) → ∀ (r : Code) (a : Act) (w : World), r.wp P (Exit.via P Q L) a w → ∃ e a' w', Q e a' w' ∧ Arrives P (lone (b.at a (.code r :: .inScope c :: k)) cs w) b k cs e a' w' := by
    intro n
    induction n using Nat.strongRecOn with
    | _ n ih =>
      intro L hn hL r a w h
      obtain ⟨e, a₁, w₁, hq, harr⟩ := h b (.inScope c :: k) cs
      cases e with
      | normal => exact ⟨.normal, a₁, w₁, by cases L <;> exact hq, Steps.trans harr (.one step_inScope)⟩
      | exit id => exact ⟨.exit id, a₁, w₁, by cases L <;> exact hq, fun k' hk => harr k' (by simp [exitTo, hk])⟩
      | goto l' =>
        obtain ⟨r2, L2, h1, h2, h3, h4⟩ := via_goto hq
        have hg : gotoIn l' (.inScope c :: k) = some (.code r2 :: .inScope c :: k) := by simp [gotoIn, hL _ h1]
        obtain ⟨e₂, a₂, w₂, hq₂, harr₂⟩ := ih L2.length (by omega) L2 rfl (fun p hp => hL p (h3 p hp)) r2 a₁ w₁ h4
        exact ⟨e₂, a₂, w₂, hq₂, .of_steps (harr _ hg) harr₂⟩
      | ret => exact ⟨.ret, a₁, w₁, by cases L <;> exact hq, harr⟩
      | panic ch => exact ⟨.panic ch, a₁, w₁, by cases L <;> exact hq, harr⟩
      | outgrown => exact ⟨.outgrown, a₁, w₁, by cases L <;> exact hq, harr⟩
  exact let ⟨e, a', w', hq, harr⟩ := key L.length L rfl hL c a w first; ⟨e, a', w', hq, .of_steps (.one step_scope) harr⟩
end
end Go

