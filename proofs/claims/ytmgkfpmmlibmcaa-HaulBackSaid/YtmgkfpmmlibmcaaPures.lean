/-
  A region that draws: calm ones, one that writes, then step by step. No program here.
-/
import Derived.Test.YtmgkfpmmlibmcaaMoves
namespace Go
section
variable {P : Program} {ops : Array Oper} {Q : Exit → Act → World → Prop} {md : Region.Mode} {w0 : World}
theorem wpAny_pure_step {v : Value} {fuel : Nat} {listed : Array Bool} {a : Act} {w : World} (i : Nat) (o : Oper) (ho : ops[i]? = some o) (hs : Region.noSelect ops = true) (hf : Region.free md ops listed i = true) (hr : (Region.ready md ops listed).contains i = true)
    (hQ : ∀ (c : List PanicEntry) (a : Act) (d : Option Tmp) (v : Value) (w : World), Q (.panic c) (a.put d v) w → Q (.panic c) a w) (hg : o.guard = none) (hv : ∀ w, (execOp a.eval o).run P w = .ok (.value v) w) (h : wpAny P md ops Q fuel (listed.setIfInBounds i true) (a.put o.dst v) w) : wpAny P md ops Q (fuel + 1) listed a w :=
  wpAny_take ho hs hf hr (fun c a w h => hQ c a _ _ w h) (Or.inl ⟨by simp [Region.wanted, hg], hv⟩) h
theorem wpAny_loud_step {fuel : Nat} {listed : Array Bool} {a : Act} {w : World} (i : Nat) (o : Oper) (hr : Region.ready md ops listed = [i]) (ho : ops[i]? = some o) (hg : o.guard = none)
    (h : ∀ K : Act → World → Prop, ∀ Q' : Exit → Act → World → Prop, (∀ a' w', wpAny P md ops Q fuel (listed.setIfInBounds i true) a' w' → K a' w') → o.wp P a w K Q') : wpAny P md ops Q (fuel + 1) listed a w := by
  refine wpAny_all hr (by simp) (fun j hj => ?_)
  simp only [List.mem_cons, List.not_mem_nil, or_false] at hj
  subst hj
  unfold wpOp
  simp only [ho, Region.wanted, hg, if_true]
  exact .inl (h _ Q fun a2 w2 h4 => h4)
theorem wp_region_split_any {id : Nat} {a : Act} {w : World} {l : List Oper} (E : List Nat) (m : List Bool) (L : Nat) (o : Oper) (n2 : Nat) (hm : P.follows .mixedOrders = true) (hs : Region.noSelect l.toArray = true) (hE : movesOk .any l.toArray E (Array.replicate l.length false) = true) (hLast : Region.lastE .any l.toArray E L = true) (hQ : ∀ (c : List PanicEntry) (a : Act) (d : Option Tmp) (v : Value) (w : World), Q (.panic c) (a.put d v) w → Q (.panic c) a w)
    (hlen : m.length ≤ l.length) (hn : n2 + 1 + countB m + E.length = l.length) (hM : maskBut L m 0 = true) (hB : lexMask .any l.toArray m 0 (movesList E (Array.replicate l.length false)) = true)
    (hr : Region.ready .any l.toArray (markOps m 0 (movesList E (Array.replicate l.length false))) = [L]) (ho : l[L]? = some o) (hg : o.guard = none)
    (h : ∀ X00 : Extra, wpQuiet P l.toArray (fun w' => ∃ X : Extra, w' = w.patch ⟨X00.blocks ++ X.blocks, X.drawn⟩) (fun a' => ∀ X, ∀ K : Act → World → Prop, ∀ Q' : Exit → Act → World → Prop,
      (∀ a2 w2, wpAny P .any l.toArray Q n2 ((markOps m 0 (movesList E (Array.replicate l.length false))).setIfInBounds L true) a2 w2 → K a2 w2) → o.wp P a' (w.patch X) K Q') (pickOps m l) (movesAct l.toArray E a)) : (Code.region id l.toArray true).wp P Q a w := by
  obtain ⟨c1, c2⟩ := closed_moves (md := .any) (ops := l.toArray) E _ (Closed.start _ (by simp)) hE
  obtain ⟨X, hX⟩ := Ext.drew (Ext.refl w)
  have h2 : wpCalm P l.toArray w (fun a' => ∀ X, wpAnyM P .any l.toArray Q w L (n2 + 1) (markOps m 0 (movesList E (Array.replicate l.length false))) a' (w.patch X)) (pickOps m l) (movesAct l.toArray E a) := by
    refine wpCalm_mono (fun a' h3 X => ?_) _ _ (wpCalm_of_quiet _ _ h)
    rintro w1 ⟨Y, rfl⟩
    refine ⟨fun h0 => (by rw [hr] at h0; cases h0), fun j hj => ?_⟩
    rw [hr] at hj
    simp only [List.mem_singleton] at hj
    subst hj
    refine ⟨fun h0 => by omega, fun _ => ?_⟩
    obtain ⟨Z, hZ⟩ := (show Ext w ((w.patch X).patch Y) from Ext.trans ⟨X, rfl⟩ ⟨Y, rfl⟩)
    rw [hZ]
    have ho' : l.toArray[j]? = some o := by simpa using ho
    unfold wpOp
    simp only [ho', Region.wanted, hg, if_true]
    exact .inl (h3 Z _ Q fun a2 w2 h4 => h4)
  have h5 := wpAnyM_lexE (md := .any) hLast hs hQ (n2 + 1) m l 0 _ _ c1 (fun i hi => c2 i (Or.inr hi)) (by simp) hlen hB hM h2 X
  rw [← hX] at h5
  refine wp_region_any hm ?_
  have h6 := wpAny_moves (md := .any) hs hQ E (n2 + 1 + countB m) _ a _ hE (wpAny_of_M (w0 := w) (L := L) _ _ _ _ h5)
  simpa [hn] using h6
end
end Go
