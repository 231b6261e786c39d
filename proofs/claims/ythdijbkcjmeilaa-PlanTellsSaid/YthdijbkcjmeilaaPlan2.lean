/-
  plan.wrong.
-/
import Derived.Test.YthdijbkcjmeilaaPlan1
import Derived.Test.YthdijbkcjmeilaaClone
import Derived.Test.YthdijbkcjmeilaaScope
namespace Go.Proofs.Ythdijbkcjmeilaa
open Go Go.RowKit Go.Maps

theorem wFrags_eq (c : Cnf) (got : List Int) : wFrags c got = .tuple #[.bool (!got.all (fragOk c)), .bool (got.all (fragOk c) && twiceIn got)] := by
  unfold wFrags
  cases got.all (fragOk c) <;> rfl
/-- What is wrong with a new one of a kind. -/
def wrongE (c : Cnf) (is : Bool) (s : Shp) (n : Int) (array : Bool) (got : List Int) : Int :=
  if c.check ≠ 0 ∨ got.all (fragOk c) = false then 1
  else if is = false ∨ s.arr ≠ array then 4
  else if s.size n < 0 then 5
  else if (got.length : Int) ≠ s.size n ∨ twiceIn got = true then 2 else 0
def WrongGot (c : Cnf) (kind n : Int) (array : Bool) (got : List Int) (w : World) (e : Ending) (w' : World) : Prop :=
  ∃ s' : Shp, e = .returned (.tuple #[s'.val, .int .i64 (wrongE c (c.shapeAt kind).isSome s' n array got)]) ∧ (s'.arr, s'.refs) = (c.shapeAt kind).getD (false, []) ∧ s'.Ok w' ∧ Ext w w'

set_option maxHeartbeats 4000000 in
theorem wrong_any (c : Cnf) (kind n : Int) (array : Bool) (A : Option Addr) (cap : Nat) (got : List Int) (w : World) (hc : c.Ok w) (hg : CellsAt w A (got.map (Value.int .i64))) (hl : got.length ≤ 140737488355328) (hw : ∀ x ∈ got, -9223372036854775808 ≤ x ∧ x ≤ 9223372036854775807) :
    Calls Try.prog 32 #[c.val, .int .i64 kind, .int .i64 n, .bool array, .slice A got.length cap] w (WrongGot c kind n array got w) := by
  have HF := Lib.hid (fun w' (he : Ext w w') => wFrags_eq c got ▸ frags_any c A cap got w' (hc.ext he) (hg.ext he) hl hw)
  have HS := Lib.hid (fun w' (he : Ext w w') => shape_any c kind w' (hc.ext he))
  have HC := Lib.hid (fun w' (he : Ext w w') => check_any c w' (hc.ext he))
  unfold Cnf.val at HF HS HC ⊢
  generalize hA : got.all (fragOk c) = al at HF
  generalize hT : twiceIn got = tw at HF
  have HA := Lib.hid hA
  have HT := Lib.hid hT
  clear hA hT
  go_enter Try.func32, Try.ntmps32
  go_wp2_with fail
  refine wp_scope_fwd 0 rfl ?_
  go_wp2_with fail
  refine (HF.out _ (by (repeat (first | (with_reducible assumption) | (with_reducible exact Ext.refl _) | (with_reducible exact Ext.more _ _ _ _) | apply Ext.alloc | refine Ext.setCell ?_ (by first | exact Nat.le_refl _ | exact Nat.le_add_right _ _ | assumption) _ | apply Ext.patch | apply Ext.drew | apply Ext.drewN)))).mono ?_
  rintro e w1 ⟨rfl, X1, rfl⟩
  go_wp2_with fail
  refine (HS.out _ (by (repeat (first | (with_reducible assumption) | (with_reducible exact Ext.refl _) | (with_reducible exact Ext.more _ _ _ _) | apply Ext.alloc | refine Ext.setCell ?_ (by first | exact Nat.le_refl _ | exact Nat.le_add_right _ _ | assumption) _ | apply Ext.patch | apply Ext.drew | apply Ext.drewN)))).mono ?_
  rintro e w1 ⟨s', rfl, hs', hfr, hok, X2, rfl⟩
  obtain ⟨arr, A', cap', refs⟩ := s'
  unfold Shp.val
  rw [World.patch_patch] at hok
  have HX := Lib.hid hs'
  have HF' := Lib.hid (show ∀ a, A' = some a → w.heap.size + 1 ≠ a.block from fun a ha e => by
    have := hfr a ha
    simp only [World.size_patch, World.size_alloc] at this
    omega)
  clear hfr
  have HO := Lib.hid hok
  generalize hI : (c.shapeAt kind).isSome = is
  have HI := Lib.hid hI
  clear hs' hok hI
  go_wp2_with fail
  refine (HC.out _ (by (repeat (first | (with_reducible assumption) | (with_reducible exact Ext.refl _) | (with_reducible exact Ext.more _ _ _ _) | apply Ext.alloc | refine Ext.setCell ?_ (by first | exact Nat.le_refl _ | exact Nat.le_add_right _ _ | assumption) _ | apply Ext.patch | apply Ext.drew | apply Ext.drewN)))).mono ?_
  rintro e w1 ⟨rfl, X3, rfl⟩
  generalize hK : c.check = ck
  have HK := Lib.hid hK
  clear hK
  have HZ := Lib.hid (fun w' (he : Ext ((w.alloc (.cells #[.int .i64 c.frags, .int .i64 c.spine, .int .i64 c.globals, .int .i64 c.threads, .int .i64 c.locals, .int .i64 c.cache, .int .i64 c.stack, .int .i64 c.low, .slice c.A c.shapes.length c.cap] 24)).alloc (.cells #[.bool false, .slice none 0 0] 37) |>.patch ⟨X1.blocks ++ X2.blocks, X2.drawn⟩) w') => size_any ⟨arr, A', cap', refs⟩ n w' (HO.out.ext he))
  unfold Shp.val at HZ
  simp only at HZ
  cases al
  · have HE := Lib.hid (show wrongE c is ⟨arr, A', cap', refs⟩ n array got = 1 from if_pos (Or.inr HA.out))
    go_wp2_with fail
    all_goals
      go_step3
      refine ⟨rfl, ?_⟩
      go_wp2_with fail
      rw [Exit.noGoto_ret]
      refine bodyPost_ret (v := .tuple #[.agg #[.bool arr, .slice A' refs.length cap'], .int .i64 1]) (by simp [results, Try.results32, go_sem]) rfl ?_
      exact ⟨⟨arr, A', cap', refs⟩, by rw [HI.out, HE.out]; rfl, HX.out, ((HO.out.ext (by (repeat (first | (with_reducible assumption) | (with_reducible exact Ext.refl _) | (with_reducible exact Ext.more _ _ _ _) | apply Ext.alloc | refine Ext.setCell ?_ (by first | exact Nat.le_refl _ | exact Nat.le_add_right _ _ | assumption) _ | apply Ext.patch | apply Ext.drew | apply Ext.drewN)))).setCell HF'.out).setCell HF'.out, by (repeat (first | (with_reducible assumption) | (with_reducible exact Ext.refl _) | (with_reducible exact Ext.more _ _ _ _) | apply Ext.alloc | refine Ext.setCell ?_ (by first | exact Nat.le_refl _ | exact Nat.le_add_right _ _ | assumption) _ | apply Ext.patch | apply Ext.drew | apply Ext.drewN))⟩
  by_cases h0 : ck ≠ 0
  · have HE := Lib.hid (show wrongE c is ⟨arr, A', cap', refs⟩ n array got = 1 from if_pos (Or.inl (by rw [HK.out]; exact h0)))
    go_wp2_with fail
    go_step3
    refine ⟨rfl, ?_⟩
    go_wp2_with fail
    rw [Exit.noGoto_ret]
    refine bodyPost_ret (v := .tuple #[.agg #[.bool arr, .slice A' refs.length cap'], .int .i64 1]) (by simp [results, Try.results32, go_sem]) rfl ?_
    exact ⟨⟨arr, A', cap', refs⟩, by rw [HI.out, HE.out]; rfl, HX.out, ((HO.out.ext (by (repeat (first | (with_reducible assumption) | (with_reducible exact Ext.refl _) | (with_reducible exact Ext.more _ _ _ _) | apply Ext.alloc | refine Ext.setCell ?_ (by first | exact Nat.le_refl _ | exact Nat.le_add_right _ _ | assumption) _ | apply Ext.patch | apply Ext.drew | apply Ext.drewN)))).setCell HF'.out).setCell HF'.out, by (repeat (first | (with_reducible assumption) | (with_reducible exact Ext.refl _) | (with_reducible exact Ext.more _ _ _ _) | apply Ext.alloc | refine Ext.setCell ?_ (by first | exact Nat.le_refl _ | exact Nat.le_add_right _ _ | assumption) _ | apply Ext.patch | apply Ext.drew | apply Ext.drewN))⟩
  obtain rfl : ck = 0 := by omega
  have HN := Lib.hid (show ¬ (c.check ≠ 0 ∨ got.all (fragOk c) = false) by rw [HK.out, HA.out]; simp)
  clear h0
  by_cases hq : is = false ∨ arr ≠ array
  · have HE := Lib.hid (show wrongE c is ⟨arr, A', cap', refs⟩ n array got = 4 from (if_neg HN.out).trans (if_pos hq))
    cases is
    · clear hq
      go_wp2_with fail
      go_step3
      refine ⟨rfl, ?_⟩
      go_wp2_with fail
      rw [Exit.noGoto_ret]
      refine bodyPost_ret (v := .tuple #[.agg #[.bool arr, .slice A' refs.length cap'], .int .i64 4]) (by simp [results, Try.results32, go_sem]) rfl ?_
      exact ⟨⟨arr, A', cap', refs⟩, by rw [HI.out, HE.out]; rfl, HX.out, ((HO.out.ext (by (repeat (first | (with_reducible assumption) | (with_reducible exact Ext.refl _) | (with_reducible exact Ext.more _ _ _ _) | apply Ext.alloc | refine Ext.setCell ?_ (by first | exact Nat.le_refl _ | exact Nat.le_add_right _ _ | assumption) _ | apply Ext.patch | apply Ext.drew | apply Ext.drewN)))).setCell HF'.out).setCell HF'.out, by (repeat (first | (with_reducible assumption) | (with_reducible exact Ext.refl _) | (with_reducible exact Ext.more _ _ _ _) | apply Ext.alloc | refine Ext.setCell ?_ (by first | exact Nat.le_refl _ | exact Nat.le_add_right _ _ | assumption) _ | apply Ext.patch | apply Ext.drew | apply Ext.drewN))⟩
    · rcases (show (arr = true ∧ array = false) ∨ (arr = false ∧ array = true) by cases arr <;> cases array <;> simp_all) with ⟨rfl, rfl⟩ | ⟨rfl, rfl⟩
      · clear hq
        go_wp2_with fail
        go_step3
        refine ⟨rfl, ?_⟩
        go_wp2_with fail
        rw [Exit.noGoto_ret]
        refine bodyPost_ret (v := .tuple #[.agg #[.bool true, .slice A' refs.length cap'], .int .i64 4]) (by simp [results, Try.results32, go_sem]) rfl ?_
        exact ⟨⟨true, A', cap', refs⟩, by rw [HI.out, HE.out]; rfl, HX.out, ((HO.out.ext (by (repeat (first | (with_reducible assumption) | (with_reducible exact Ext.refl _) | (with_reducible exact Ext.more _ _ _ _) | apply Ext.alloc | refine Ext.setCell ?_ (by first | exact Nat.le_refl _ | exact Nat.le_add_right _ _ | assumption) _ | apply Ext.patch | apply Ext.drew | apply Ext.drewN)))).setCell HF'.out).setCell HF'.out, by (repeat (first | (with_reducible assumption) | (with_reducible exact Ext.refl _) | (with_reducible exact Ext.more _ _ _ _) | apply Ext.alloc | refine Ext.setCell ?_ (by first | exact Nat.le_refl _ | exact Nat.le_add_right _ _ | assumption) _ | apply Ext.patch | apply Ext.drew | apply Ext.drewN))⟩
      · clear hq
        go_wp2_with fail
        go_step3
        refine ⟨rfl, ?_⟩
        go_wp2_with fail
        rw [Exit.noGoto_ret]
        refine bodyPost_ret (v := .tuple #[.agg #[.bool false, .slice A' refs.length cap'], .int .i64 4]) (by simp [results, Try.results32, go_sem]) rfl ?_
        exact ⟨⟨false, A', cap', refs⟩, by rw [HI.out, HE.out]; rfl, HX.out, ((HO.out.ext (by (repeat (first | (with_reducible assumption) | (with_reducible exact Ext.refl _) | (with_reducible exact Ext.more _ _ _ _) | apply Ext.alloc | refine Ext.setCell ?_ (by first | exact Nat.le_refl _ | exact Nat.le_add_right _ _ | assumption) _ | apply Ext.patch | apply Ext.drew | apply Ext.drewN)))).setCell HF'.out).setCell HF'.out, by (repeat (first | (with_reducible assumption) | (with_reducible exact Ext.refl _) | (with_reducible exact Ext.more _ _ _ _) | apply Ext.alloc | refine Ext.setCell ?_ (by first | exact Nat.le_refl _ | exact Nat.le_add_right _ _ | assumption) _ | apply Ext.patch | apply Ext.drew | apply Ext.drewN))⟩
  obtain ⟨rfl, rfl⟩ : is = true ∧ array = arr := by
    constructor
    · cases is
      · exact absurd (Or.inl rfl) hq
      · rfl
    · cases arr <;> cases array <;> simp_all
  have HN2 := Lib.hid hq
  clear hq
  generalize hS : Shp.size ⟨array, A', cap', refs⟩ n = sz at HZ
  have HS' := Lib.hid hS
  clear hS
  by_cases h5 : sz < 0
  · have HE := Lib.hid (show wrongE c true ⟨array, A', cap', refs⟩ n array got = 5 from (if_neg HN.out).trans ((if_neg HN2.out).trans (if_pos (by rw [HS'.out]; exact h5))))
    cases array
    · go_wp2_with fail
      refine (HZ.out _ (by (repeat (first | (with_reducible assumption) | (with_reducible exact Ext.refl _) | (with_reducible exact Ext.more _ _ _ _) | apply Ext.alloc | refine Ext.setCell ?_ (by first | exact Nat.le_refl _ | exact Nat.le_add_right _ _ | assumption) _ | apply Ext.patch | apply Ext.drew | apply Ext.drewN)))).mono ?_
      rintro e w1 ⟨rfl, X4, rfl⟩
      go_wp2_with fail
      go_step3
      refine ⟨rfl, ?_⟩
      go_wp2_with fail
      rw [Exit.noGoto_ret]
      refine bodyPost_ret (v := .tuple #[.agg #[.bool false, .slice A' refs.length cap'], .int .i64 5]) (by simp [results, Try.results32, go_sem]) rfl ?_
      exact ⟨⟨false, A', cap', refs⟩, by rw [HI.out, HE.out]; rfl, HX.out, ((HO.out.ext (by (repeat (first | (with_reducible assumption) | (with_reducible exact Ext.refl _) | (with_reducible exact Ext.more _ _ _ _) | apply Ext.alloc | refine Ext.setCell ?_ (by first | exact Nat.le_refl _ | exact Nat.le_add_right _ _ | assumption) _ | apply Ext.patch | apply Ext.drew | apply Ext.drewN)))).setCell HF'.out).setCell HF'.out, by (repeat (first | (with_reducible assumption) | (with_reducible exact Ext.refl _) | (with_reducible exact Ext.more _ _ _ _) | apply Ext.alloc | refine Ext.setCell ?_ (by first | exact Nat.le_refl _ | exact Nat.le_add_right _ _ | assumption) _ | apply Ext.patch | apply Ext.drew | apply Ext.drewN))⟩
    · go_wp2_with fail
      refine (HZ.out _ (by (repeat (first | (with_reducible assumption) | (with_reducible exact Ext.refl _) | (with_reducible exact Ext.more _ _ _ _) | apply Ext.alloc | refine Ext.setCell ?_ (by first | exact Nat.le_refl _ | exact Nat.le_add_right _ _ | assumption) _ | apply Ext.patch | apply Ext.drew | apply Ext.drewN)))).mono ?_
      rintro e w1 ⟨rfl, X4, rfl⟩
      go_wp2_with fail
      go_step3
      refine ⟨rfl, ?_⟩
      go_wp2_with fail
      rw [Exit.noGoto_ret]
      refine bodyPost_ret (v := .tuple #[.agg #[.bool true, .slice A' refs.length cap'], .int .i64 5]) (by simp [results, Try.results32, go_sem]) rfl ?_
      exact ⟨⟨true, A', cap', refs⟩, by rw [HI.out, HE.out]; rfl, HX.out, ((HO.out.ext (by (repeat (first | (with_reducible assumption) | (with_reducible exact Ext.refl _) | (with_reducible exact Ext.more _ _ _ _) | apply Ext.alloc | refine Ext.setCell ?_ (by first | exact Nat.le_refl _ | exact Nat.le_add_right _ _ | assumption) _ | apply Ext.patch | apply Ext.drew | apply Ext.drewN)))).setCell HF'.out).setCell HF'.out, by (repeat (first | (with_reducible assumption) | (with_reducible exact Ext.refl _) | (with_reducible exact Ext.more _ _ _ _) | apply Ext.alloc | refine Ext.setCell ?_ (by first | exact Nat.le_refl _ | exact Nat.le_add_right _ _ | assumption) _ | apply Ext.patch | apply Ext.drew | apply Ext.drewN))⟩
  by_cases h6 : (got.length : Int) = sz
  · subst h6
    clear h5
    cases tw
    · have HE := Lib.hid (show wrongE c true ⟨array, A', cap', refs⟩ n array got = 0 from (if_neg HN.out).trans ((if_neg HN2.out).trans ((if_neg (by rw [HS'.out]; omega)).trans (if_neg (by rw [HS'.out, HT.out]; simp)))))
      cases array
      · go_wp2_with fail
        refine (HZ.out _ (by (repeat (first | (with_reducible assumption) | (with_reducible exact Ext.refl _) | (with_reducible exact Ext.more _ _ _ _) | apply Ext.alloc | refine Ext.setCell ?_ (by first | exact Nat.le_refl _ | exact Nat.le_add_right _ _ | assumption) _ | apply Ext.patch | apply Ext.drew | apply Ext.drewN)))).mono ?_
        rintro e w1 ⟨rfl, X4, rfl⟩
        go_wp2_with fail
        refine (HZ.out _ (by (repeat (first | (with_reducible assumption) | (with_reducible exact Ext.refl _) | (with_reducible exact Ext.more _ _ _ _) | apply Ext.alloc | refine Ext.setCell ?_ (by first | exact Nat.le_refl _ | exact Nat.le_add_right _ _ | assumption) _ | apply Ext.patch | apply Ext.drew | apply Ext.drewN)))).mono ?_
        rintro e w1 ⟨rfl, X5, rfl⟩
        go_wp2_with fail
        go_step3
        go_wp2_with fail
        rw [Exit.jump_ret]
        refine bodyPost_ret (v := .tuple #[.agg #[.bool false, .slice A' refs.length cap'], .int .i64 0]) (by simp [results, Try.results32, go_sem]) rfl ?_
        exact ⟨⟨false, A', cap', refs⟩, by rw [HI.out, HE.out]; rfl, HX.out, ((HO.out.ext (by (repeat (first | (with_reducible assumption) | (with_reducible exact Ext.refl _) | (with_reducible exact Ext.more _ _ _ _) | apply Ext.alloc | refine Ext.setCell ?_ (by first | exact Nat.le_refl _ | exact Nat.le_add_right _ _ | assumption) _ | apply Ext.patch | apply Ext.drew | apply Ext.drewN)))).setCell HF'.out).setCell HF'.out, by (repeat (first | (with_reducible assumption) | (with_reducible exact Ext.refl _) | (with_reducible exact Ext.more _ _ _ _) | apply Ext.alloc | refine Ext.setCell ?_ (by first | exact Nat.le_refl _ | exact Nat.le_add_right _ _ | assumption) _ | apply Ext.patch | apply Ext.drew | apply Ext.drewN))⟩
      · go_wp2_with fail
        refine (HZ.out _ (by (repeat (first | (with_reducible assumption) | (with_reducible exact Ext.refl _) | (with_reducible exact Ext.more _ _ _ _) | apply Ext.alloc | refine Ext.setCell ?_ (by first | exact Nat.le_refl _ | exact Nat.le_add_right _ _ | assumption) _ | apply Ext.patch | apply Ext.drew | apply Ext.drewN)))).mono ?_
        rintro e w1 ⟨rfl, X4, rfl⟩
        go_wp2_with fail
        refine (HZ.out _ (by (repeat (first | (with_reducible assumption) | (with_reducible exact Ext.refl _) | (with_reducible exact Ext.more _ _ _ _) | apply Ext.alloc | refine Ext.setCell ?_ (by first | exact Nat.le_refl _ | exact Nat.le_add_right _ _ | assumption) _ | apply Ext.patch | apply Ext.drew | apply Ext.drewN)))).mono ?_
        rintro e w1 ⟨rfl, X5, rfl⟩
        go_wp2_with fail
        go_step3
        go_wp2_with fail
        rw [Exit.jump_ret]
        refine bodyPost_ret (v := .tuple #[.agg #[.bool true, .slice A' refs.length cap'], .int .i64 0]) (by simp [results, Try.results32, go_sem]) rfl ?_
        exact ⟨⟨true, A', cap', refs⟩, by rw [HI.out, HE.out]; rfl, HX.out, ((HO.out.ext (by (repeat (first | (with_reducible assumption) | (with_reducible exact Ext.refl _) | (with_reducible exact Ext.more _ _ _ _) | apply Ext.alloc | refine Ext.setCell ?_ (by first | exact Nat.le_refl _ | exact Nat.le_add_right _ _ | assumption) _ | apply Ext.patch | apply Ext.drew | apply Ext.drewN)))).setCell HF'.out).setCell HF'.out, by (repeat (first | (with_reducible assumption) | (with_reducible exact Ext.refl _) | (with_reducible exact Ext.more _ _ _ _) | apply Ext.alloc | refine Ext.setCell ?_ (by first | exact Nat.le_refl _ | exact Nat.le_add_right _ _ | assumption) _ | apply Ext.patch | apply Ext.drew | apply Ext.drewN))⟩
    · have HE := Lib.hid (show wrongE c true ⟨array, A', cap', refs⟩ n array got = 2 from (if_neg HN.out).trans ((if_neg HN2.out).trans ((if_neg (by rw [HS'.out]; omega)).trans (if_pos (Or.inr HT.out)))))
      cases array
      · go_wp2_with fail
        refine (HZ.out _ (by (repeat (first | (with_reducible assumption) | (with_reducible exact Ext.refl _) | (with_reducible exact Ext.more _ _ _ _) | apply Ext.alloc | refine Ext.setCell ?_ (by first | exact Nat.le_refl _ | exact Nat.le_add_right _ _ | assumption) _ | apply Ext.patch | apply Ext.drew | apply Ext.drewN)))).mono ?_
        rintro e w1 ⟨rfl, X4, rfl⟩
        go_wp2_with fail
        refine (HZ.out _ (by (repeat (first | (with_reducible assumption) | (with_reducible exact Ext.refl _) | (with_reducible exact Ext.more _ _ _ _) | apply Ext.alloc | refine Ext.setCell ?_ (by first | exact Nat.le_refl _ | exact Nat.le_add_right _ _ | assumption) _ | apply Ext.patch | apply Ext.drew | apply Ext.drewN)))).mono ?_
        rintro e w1 ⟨rfl, X5, rfl⟩
        go_wp2_with fail
        go_step3
        go_wp2_with fail
        rw [Exit.jump_ret]
        refine bodyPost_ret (v := .tuple #[.agg #[.bool false, .slice A' refs.length cap'], .int .i64 2]) (by simp [results, Try.results32, go_sem]) rfl ?_
        exact ⟨⟨false, A', cap', refs⟩, by rw [HI.out, HE.out]; rfl, HX.out, ((HO.out.ext (by (repeat (first | (with_reducible assumption) | (with_reducible exact Ext.refl _) | (with_reducible exact Ext.more _ _ _ _) | apply Ext.alloc | refine Ext.setCell ?_ (by first | exact Nat.le_refl _ | exact Nat.le_add_right _ _ | assumption) _ | apply Ext.patch | apply Ext.drew | apply Ext.drewN)))).setCell HF'.out).setCell HF'.out, by (repeat (first | (with_reducible assumption) | (with_reducible exact Ext.refl _) | (with_reducible exact Ext.more _ _ _ _) | apply Ext.alloc | refine Ext.setCell ?_ (by first | exact Nat.le_refl _ | exact Nat.le_add_right _ _ | assumption) _ | apply Ext.patch | apply Ext.drew | apply Ext.drewN))⟩
      · go_wp2_with fail
        refine (HZ.out _ (by (repeat (first | (with_reducible assumption) | (with_reducible exact Ext.refl _) | (with_reducible exact Ext.more _ _ _ _) | apply Ext.alloc | refine Ext.setCell ?_ (by first | exact Nat.le_refl _ | exact Nat.le_add_right _ _ | assumption) _ | apply Ext.patch | apply Ext.drew | apply Ext.drewN)))).mono ?_
        rintro e w1 ⟨rfl, X4, rfl⟩
        go_wp2_with fail
        refine (HZ.out _ (by (repeat (first | (with_reducible assumption) | (with_reducible exact Ext.refl _) | (with_reducible exact Ext.more _ _ _ _) | apply Ext.alloc | refine Ext.setCell ?_ (by first | exact Nat.le_refl _ | exact Nat.le_add_right _ _ | assumption) _ | apply Ext.patch | apply Ext.drew | apply Ext.drewN)))).mono ?_
        rintro e w1 ⟨rfl, X5, rfl⟩
        go_wp2_with fail
        go_step3
        go_wp2_with fail
        rw [Exit.jump_ret]
        refine bodyPost_ret (v := .tuple #[.agg #[.bool true, .slice A' refs.length cap'], .int .i64 2]) (by simp [results, Try.results32, go_sem]) rfl ?_
        exact ⟨⟨true, A', cap', refs⟩, by rw [HI.out, HE.out]; rfl, HX.out, ((HO.out.ext (by (repeat (first | (with_reducible assumption) | (with_reducible exact Ext.refl _) | (with_reducible exact Ext.more _ _ _ _) | apply Ext.alloc | refine Ext.setCell ?_ (by first | exact Nat.le_refl _ | exact Nat.le_add_right _ _ | assumption) _ | apply Ext.patch | apply Ext.drew | apply Ext.drewN)))).setCell HF'.out).setCell HF'.out, by (repeat (first | (with_reducible assumption) | (with_reducible exact Ext.refl _) | (with_reducible exact Ext.more _ _ _ _) | apply Ext.alloc | refine Ext.setCell ?_ (by first | exact Nat.le_refl _ | exact Nat.le_add_right _ _ | assumption) _ | apply Ext.patch | apply Ext.drew | apply Ext.drewN))⟩
  · have HE := Lib.hid (show wrongE c true ⟨array, A', cap', refs⟩ n array got = 2 from (if_neg HN.out).trans ((if_neg HN2.out).trans ((if_neg (by rw [HS'.out]; exact h5)).trans (if_pos (Or.inl (by rw [HS'.out]; exact h6))))))
    cases array
    · go_wp2_with fail
      refine (HZ.out _ (by (repeat (first | (with_reducible assumption) | (with_reducible exact Ext.refl _) | (with_reducible exact Ext.more _ _ _ _) | apply Ext.alloc | refine Ext.setCell ?_ (by first | exact Nat.le_refl _ | exact Nat.le_add_right _ _ | assumption) _ | apply Ext.patch | apply Ext.drew | apply Ext.drewN)))).mono ?_
      rintro e w1 ⟨rfl, X4, rfl⟩
      go_wp2_with fail
      refine (HZ.out _ (by (repeat (first | (with_reducible assumption) | (with_reducible exact Ext.refl _) | (with_reducible exact Ext.more _ _ _ _) | apply Ext.alloc | refine Ext.setCell ?_ (by first | exact Nat.le_refl _ | exact Nat.le_add_right _ _ | assumption) _ | apply Ext.patch | apply Ext.drew | apply Ext.drewN)))).mono ?_
      rintro e w1 ⟨rfl, X5, rfl⟩
      go_wp2_with fail
      go_step3
      go_wp2_with fail
      rw [Exit.jump_ret]
      refine bodyPost_ret (v := .tuple #[.agg #[.bool false, .slice A' refs.length cap'], .int .i64 2]) (by simp [results, Try.results32, go_sem]) rfl ?_
      exact ⟨⟨false, A', cap', refs⟩, by rw [HI.out, HE.out]; rfl, HX.out, ((HO.out.ext (by (repeat (first | (with_reducible assumption) | (with_reducible exact Ext.refl _) | (with_reducible exact Ext.more _ _ _ _) | apply Ext.alloc | refine Ext.setCell ?_ (by first | exact Nat.le_refl _ | exact Nat.le_add_right _ _ | assumption) _ | apply Ext.patch | apply Ext.drew | apply Ext.drewN)))).setCell HF'.out).setCell HF'.out, by (repeat (first | (with_reducible assumption) | (with_reducible exact Ext.refl _) | (with_reducible exact Ext.more _ _ _ _) | apply Ext.alloc | refine Ext.setCell ?_ (by first | exact Nat.le_refl _ | exact Nat.le_add_right _ _ | assumption) _ | apply Ext.patch | apply Ext.drew | apply Ext.drewN))⟩
    · go_wp2_with fail
      refine (HZ.out _ (by (repeat (first | (with_reducible assumption) | (with_reducible exact Ext.refl _) | (with_reducible exact Ext.more _ _ _ _) | apply Ext.alloc | refine Ext.setCell ?_ (by first | exact Nat.le_refl _ | exact Nat.le_add_right _ _ | assumption) _ | apply Ext.patch | apply Ext.drew | apply Ext.drewN)))).mono ?_
      rintro e w1 ⟨rfl, X4, rfl⟩
      go_wp2_with fail
      refine (HZ.out _ (by (repeat (first | (with_reducible assumption) | (with_reducible exact Ext.refl _) | (with_reducible exact Ext.more _ _ _ _) | apply Ext.alloc | refine Ext.setCell ?_ (by first | exact Nat.le_refl _ | exact Nat.le_add_right _ _ | assumption) _ | apply Ext.patch | apply Ext.drew | apply Ext.drewN)))).mono ?_
      rintro e w1 ⟨rfl, X5, rfl⟩
      go_wp2_with fail
      go_step3
      go_wp2_with fail
      rw [Exit.jump_ret]
      refine bodyPost_ret (v := .tuple #[.agg #[.bool true, .slice A' refs.length cap'], .int .i64 2]) (by simp [results, Try.results32, go_sem]) rfl ?_
      exact ⟨⟨true, A', cap', refs⟩, by rw [HI.out, HE.out]; rfl, HX.out, ((HO.out.ext (by (repeat (first | (with_reducible assumption) | (with_reducible exact Ext.refl _) | (with_reducible exact Ext.more _ _ _ _) | apply Ext.alloc | refine Ext.setCell ?_ (by first | exact Nat.le_refl _ | exact Nat.le_add_right _ _ | assumption) _ | apply Ext.patch | apply Ext.drew | apply Ext.drewN)))).setCell HF'.out).setCell HF'.out, by (repeat (first | (with_reducible assumption) | (with_reducible exact Ext.refl _) | (with_reducible exact Ext.more _ _ _ _) | apply Ext.alloc | refine Ext.setCell ?_ (by first | exact Nat.le_refl _ | exact Nat.le_add_right _ _ | assumption) _ | apply Ext.patch | apply Ext.drew | apply Ext.drewN))⟩
end Go.Proofs.Ythdijbkcjmeilaa
