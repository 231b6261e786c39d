/-
  SpaceServes: who waits, in which order. No walk here.
-/
import Derived.Test.YtmgkfpmmlibmcaaSWholeQ
namespace Go.Proofs.Ytmgkfpmmlibmcaa
open Go Go.RowKit
set_option linter.unusedVariables false
set_option linter.unnecessarySimpa false
set_option linter.unusedSimpArgs false
/-- Who waits, as the law keeps it. -/
structure SJ (S : SpaceS) (order since : List Int) (noted : List Bool) : Prop where
  wait : ∀ e ∈ S.line, e.state = 0
  ord : S.line.map Ent.thread = order
  sin : S.line.map Ent.cycles = since
  not : S.line.map Ent.noted = noted
variable {S : SpaceS} {o s : List Int} {n : List Bool}
theorem SJ.len (h : SJ S o s n) : S.line.length = o.length ∧ s.length = o.length ∧ n.length = o.length := by
  rw [← h.ord, ← h.sin, ← h.not]; simp
theorem SJ.waits (h : SJ S o s n) : Ent.wait S.line = o.length := by
  rw [← h.len.1]
  unfold Ent.wait
  rw [List.countP_eq_length]
  intro e he
  unfold waitB
  rw [h.wait e he]; rfl
theorem SJ.ofLine {S' : SpaceS} (h : SJ S o s n) (e : S'.line = S.line) : SJ S' o s n := ⟨by rw [e]; exact h.wait, by rw [e]; exact h.ord, by rw [e]; exact h.sin, by rw [e]; exact h.not⟩
theorem SJ.fresh (c : Cnf) (T : TabS) : SJ (SpaceS.fresh c T) [] [] [] := ⟨fun e he => absurd (show e ∈ ([] : List Ent) from he) (by simp), rfl, rfl, rfl⟩
theorem ask_sj (h : SJ S o s n) (t fr sp : Int) (u : Bool) : ((ask S t fr sp u).1.1 = 0 → SJ (ask S t fr sp u).2 (o ++ [t]) (s ++ [0]) (n ++ [false])) ∧ ((ask S t fr sp u).1.1 ≠ 0 → SJ (ask S t fr sp u).2 o s n) := by
  unfold ask
  split
  · exact ⟨fun h3 => absurd h3 (by simp), fun _ => h.ofLine rfl⟩
  · split
    · exact ⟨fun h3 => absurd h3 (by simp), fun _ => h.ofLine rfl⟩
    · split
      · refine ⟨fun _ => ⟨fun e he => ?_, ?_, ?_, ?_⟩, fun h3 => absurd rfl h3⟩
        · rcases List.mem_append.1 (show e ∈ S.line ++ [Ent.asked t fr sp] from he) with he | he
          · exact h.wait e he
          · rw [List.mem_singleton.1 he]; rfl
        · show (S.line ++ [Ent.asked t fr sp]).map Ent.thread = _
          rw [List.map_append, h.ord]; rfl
        · show (S.line ++ [Ent.asked t fr sp]).map Ent.cycles = _
          rw [List.map_append, h.sin]; rfl
        · show (S.line ++ [Ent.asked t fr sp]).map Ent.noted = _
          rw [List.map_append, h.not]; rfl
      · exact ⟨fun h3 => absurd h3 (by simp), fun _ => h.ofLine rfl⟩
theorem begin_sj (h : SJ S o s n) : SJ (beginS S) o s (n.map fun _ => true) := by
  refine ⟨fun e he => ?_, ?_, ?_, ?_⟩
  · obtain ⟨e0, he0, rfl⟩ := List.mem_map.1 (show e ∈ S.line.map noteE from he)
    exact h.wait e0 he0
  · show (S.line.map noteE).map Ent.thread = o
    rw [List.map_map, ← h.ord]; rfl
  · show (S.line.map noteE).map Ent.cycles = s
    rw [List.map_map, ← h.sin]; rfl
  · show (S.line.map noteE).map Ent.noted = _
    rw [List.map_map, ← h.not, List.map_map]
    refine List.map_congr_left (fun e he => ?_)
    show waitB e = true
    unfold waitB
    rw [h.wait e he]; rfl
/-- Behind an End: who was noted saw one more. -/
def sinceE (s : List Int) (n : List Bool) : List Int := List.zipWith (fun c b => if b then c + 1 else c) s n
theorem end_sj (h : SJ S o s n) : SJ (endS S) o (sinceE s n) (n.map fun _ => false) := by
  refine ⟨fun e he => ?_, ?_, ?_, ?_⟩
  · obtain ⟨e0, he0, rfl⟩ := List.mem_map.1 (show e ∈ S.line.map endE from he)
    exact h.wait e0 he0
  · show (S.line.map endE).map Ent.thread = o
    rw [List.map_map, ← h.ord]; rfl
  · show (S.line.map endE).map Ent.cycles = _
    rw [List.map_map, ← h.sin, ← h.not]
    unfold sinceE
    rw [List.zipWith_map, List.zipWith_self]
    refine List.map_congr_left (fun e he => ?_)
    show (if e.noted && waitB e then e.cycles + 1 else e.cycles) = if e.noted then e.cycles + 1 else e.cycles
    have hw : waitB e = true := by unfold waitB; rw [h.wait e he]; rfl
    rw [hw, Bool.and_true]
  · show (S.line.map endE).map Ent.noted = _
    rw [List.map_map, ← h.not, List.map_map]; rfl
theorem sweep_sj (h : SJ S o s n) (i : Int) (u : Bool) : SJ (sweepS S i u) o s n := by
  unfold sweepS
  split
  · exact h.ofLine rfl
  · exact h.ofLine rfl
theorem placeOf_head {p : Ent → Bool} {e : Ent} {l : List Ent} (h : p e = true) : placeOf p (e :: l) = 0 := placeOf_some (k := 0) rfl h (fun x hx => by simp at hx)
/-- The first of the line is looked at. -/
theorem look_head {S' : SpaceS} {e : Ent} {l : List Ent} (hl : S'.line = e :: l) (hs : e.state = 1 ∨ e.state = 2) : (look S' e.thread).1.1 = e.state ∧ (look S' e.thread).2.line = l := by
  have hp : placeOf (ofB e.thread) S'.line = 0 := by rw [hl]; exact placeOf_head (by unfold ofB; simp)
  have hg : S'.line.getD (placeOf (ofB e.thread) S'.line).toNat ent0 = e := by rw [hp, hl]; rfl
  have hd : dropL e.thread S'.line = l := by
    unfold dropL
    rw [if_neg (by rw [hp]; decide), hp, hl]; rfl
  unfold look
  rw [hg, if_neg (by rw [hp]; decide)]
  rcases hs with h1 | h1
  · rw [if_neg (by rw [h1]; decide), if_neg (by rw [h1]; decide)]
    exact ⟨h1.symm, hd⟩
  · rw [if_neg (by rw [h1]; decide), if_pos h1]
    exact ⟨h1.symm, hd⟩
theorem serve_sj (h : SJ S o s n) (u : Bool) : ((serve S u).1 = false → SJ (serve S u).2 o s n) ∧ ((serve S u).1 = true → ∃ t o' c s' b n', o = t :: o' ∧ s = c :: s' ∧ n = b :: n' ∧ Ent.wait (serve S u).2.line = o'.length ∧ SJ (look (serve S u).2 t).2 o' s' n' ∧ ((look (serve S u).2 t).1.1 = 1 ∨ ((look (serve S u).2 t).1.1 = 2 ∧ 2 ≤ c))) := by
  unfold serve
  cases hline : S.line with
  | nil =>
    rw [if_pos (by rw [placeOf_none (fun e he => by simp at he)]; decide)]
    exact ⟨fun _ => h.ofLine rfl, fun h3 => absurd h3 (by simp)⟩
  | cons e l =>
    have hw : ∀ x ∈ e :: l, x.state = 0 := by rw [← hline]; exact h.wait
    have hp : placeOf waitB (e :: l) = 0 := placeOf_head (by unfold waitB; rw [hw e (by simp)]; rfl)
    have hE : serveE S = e := by unfold serveE; rw [hline, hp]; rfl
    have ho : o = e.thread :: l.map Ent.thread := by rw [← h.ord, hline]; rfl
    have hsn : s = e.cycles :: l.map Ent.cycles := by rw [← h.sin, hline]; rfl
    have hn : n = e.noted :: l.map Ent.noted := by rw [← h.not, hline]; rfl
    have hrest : ∀ {S'' : SpaceS}, S''.line = l → SJ S'' (l.map Ent.thread) (l.map Ent.cycles) (l.map Ent.noted) := fun {S''} hl => ⟨fun x hx => hw x (List.mem_cons_of_mem _ (by rw [← hl]; exact hx)), by rw [hl], by rw [hl], by rw [hl]⟩
    have hwl : ∀ e' : Ent, e'.state ≠ 0 → Ent.wait (e' :: l) = (l.map Ent.thread).length := fun e' he' => by
      unfold Ent.wait
      rw [List.countP_cons, List.length_map]
      have h1 : waitB e' = false := by unfold waitB; simpa using he'
      rw [h1, List.countP_eq_length.2 (fun x hx => by unfold waitB; rw [hw x (List.mem_cons_of_mem _ hx)]; rfl)]
      rfl
    rw [hp, if_neg (by decide), hE]
    split
    · refine ⟨fun h3 => absurd h3 (by simp), fun _ => ⟨_, _, _, _, _, _, ho, hsn, hn, ?_⟩⟩
      have hgl : ∀ got x, grantL (e :: l) got x = { e with state := 1, got := got, at_ := x } :: l := fun got x => by unfold grantL; rw [hp]; rfl
      generalize hS' : serveYes S.tick (askGot S e.frags) e.spine u = S'
      have hl' : ∃ x, S'.line = { e with state := 1, got := askGot S e.frags, at_ := x } :: l := by
        rw [← hS']
        refine ⟨takesAt S.tick (askGot S e.frags) e.spine, ?_⟩
        show grantL S.line _ _ = _
        rw [hline, hgl]
      obtain ⟨x, hl'⟩ := hl'
      obtain ⟨q1, q2⟩ := look_head hl' (Or.inl rfl)
      exact ⟨by rw [hl']; exact hwl _ (by simp), hrest q2, Or.inl q1⟩
    · split
      · rename_i hc
        refine ⟨fun h3 => absurd h3 (by simp), fun _ => ⟨_, _, _, _, _, _, ho, hsn, hn, ?_⟩⟩
        have hl' : ({ S.tick with line := failL (e :: l) } : SpaceS).line = { e with state := 2 } :: l := by
          show failL (e :: l) = _
          unfold failL; rw [hp]; rfl
        obtain ⟨q1, q2⟩ := look_head hl' (Or.inr rfl)
        exact ⟨by rw [hl']; exact hwl _ (by simp), hrest q2, Or.inr ⟨q1, hc⟩⟩
      · exact ⟨fun _ => h.ofLine rfl, fun h3 => absurd h3 (by simp)⟩
end Go.Proofs.Ytmgkfpmmlibmcaa
