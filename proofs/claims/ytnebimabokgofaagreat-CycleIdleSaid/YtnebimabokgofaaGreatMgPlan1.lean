import Derived.Test.YtnebimabokgofaaGreatMgMem
import Derived.Maps.OwnSet
import Derived.Maps.OwnOps
import Derived.Test.YtnebimabokgofaaGreatArea
import Derived.Test.YtnebimabokgofaaGreatMgSpaceS
/-
  How many different numbers a list has; maps in worlds that only grow. No program here.
-/
namespace Go
open Go.RowKit Go.Maps

theorem getD_mem {l : List Int} {k : Nat} (h : k < l.length) : l.getD k 0 ∈ l := by
  rw [List.getD_eq_getElem?_getD, List.getElem?_eq_getElem h]
  exact List.getElem_mem h
theorem getD_take {l : List Int} {k : Nat} (h : k < l.length) : l.take (k + 1) = l.take k ++ [l.getD k 0] := by
  rw [List.take_add_one, List.getElem?_eq_getElem h, List.getD_eq_getElem?_getD, List.getElem?_eq_getElem h]
  rfl

def keyI (x : Int) : Lit := .int .i64 x
theorem keyI_key (l : List Int) : ∀ x ∈ l.map keyI, WideAt.IsKeyLit x := by
  intro x hx
  obtain ⟨y, _, rfl⟩ := List.mem_map.1 hx
  trivial
theorem keyI_same (x y : Int) : (keyI x).sameKey (keyI y) = decide (x = y) := by
  simp [keyI, Lit.sameKey]
/-- The different ones, in the order in which they came. -/
def addI (acc : List Int) (x : Int) : List Int := if x ∈ acc then acc else acc ++ [x]
theorem fold_addKey : ∀ (l acc : List Int), (l.map keyI).foldl addKey (acc.map keyI) = (l.foldl addI acc).map keyI
  | [], _ => rfl
  | x :: l, acc => by
    simp only [List.map_cons, List.foldl_cons]
    have h : addKey (acc.map keyI) (keyI x) = (addI acc x).map keyI := by
      unfold addKey addI
      have e : ((acc.map keyI).any fun y => y.sameKey (keyI x)) = decide (x ∈ acc) := by
        rw [Bool.eq_iff_iff]
        simp only [List.any_map, List.any_eq_true, Function.comp, keyI_same, decide_eq_true_eq]
        exact ⟨fun ⟨y, hy, e⟩ => e ▸ hy, fun hx => ⟨x, hx, rfl⟩⟩
      rw [e]
      by_cases hx : x ∈ acc <;> simp [hx]
    rw [h, fold_addKey l]
theorem fold_addI_le : ∀ (l acc : List Int), (l.foldl addI acc).length ≤ acc.length + l.length
  | [], _ => by simp
  | x :: l, acc => by
    have := fold_addI_le l (addI acc x)
    have h2 : (addI acc x).length ≤ acc.length + 1 := by unfold addI; split <;> simp
    simp only [List.foldl_cons, List.length_cons]
    omega
theorem fold_addI_eq : ∀ (l acc : List Int), acc.Nodup → ((l.foldl addI acc).length = acc.length + l.length ↔ (acc ++ l).Nodup)
  | [], acc, h => by simp [h]
  | x :: l, acc, h => by
    simp only [List.foldl_cons, List.length_cons]
    by_cases hx : x ∈ acc
    · have := fold_addI_le l acc
      have e : addI acc x = acc := by simp [addI, hx]
      rw [e]
      constructor
      · intro h'; omega
      · intro h'
        rw [List.nodup_append] at h'
        exact absurd rfl (h'.2.2 x hx x (by simp))
    · have e : addI acc x = acc ++ [x] := by simp [addI, hx]
      rw [e]
      have hn : (acc ++ [x]).Nodup := by
        rw [List.nodup_append]
        refine ⟨h, by simp, fun a ha b hb => ?_⟩
        simp at hb
        subst hb
        rintro rfl
        exact hx ha
      have := fold_addI_eq l (acc ++ [x]) hn
      simp only [List.length_append, List.length_cons, List.length_nil] at this
      rw [show acc.length + (l.length + 1) = acc.length + (0 + 1) + l.length by omega, this, List.append_assoc]
      rfl
/-- Is one there twice? -/
def twiceIn (l : List Int) : Bool := decide (¬ l.Nodup)
theorem size_ints (u : DataW Unit) (l : List Int) : decide (Maps.size (setOf u (l.map keyI)) < l.length) = twiceIn l := by
  rw [size_setOf u _ (keyI_key l)]
  have h := fold_addKey l []
  simp only [List.map_nil] at h
  rw [h, List.length_map, twiceIn]
  have h1 := fold_addI_le l []
  have h2 := fold_addI_eq l [] List.nodup_nil
  simp only [List.length_nil, Nat.zero_add, List.nil_append] at h1 h2
  rw [decide_eq_decide, ← h2]
  omega

theorem map_ext {H : Type} {w w' : World} {P : Program} {k : TypeId} {R : Value → Option (DataW H × List MemPlace)} {b n : Nat} {D : DataW H} (h : w.ownsMap P k R b n D) (he : Ext w w') : w'.ownsMap P k R b n D := by
  obtain ⟨es, clock, hb, rest⟩ := h
  exact ⟨es, clock, (he.heap b (Array.getElem?_eq_some_iff.1 hb).1).trans hb, rest⟩
end Go

/-
  spolaw4.Few, plan.frags.
-/
namespace Go.Proofs.YtnebimabokgofaaGreat
open Go Go.RowKit Go.Maps

/-- Is a configuration small? -/
def fewTo (l : List Shp) (k : Nat) : Bool := (l.take k).all fun s => decide (s.refs.length ≤ 1000)
def Few (c : Cnf) : Bool := fewTo c.shapes 100 && decide (c.shapes.length ≤ 100)
theorem fewTo_succ {l : List Shp} {k : Nat} {s : Shp} (h : l[k]? = some s) : fewTo l (k + 1) = (fewTo l k && decide (s.refs.length ≤ 1000)) := by
  unfold fewTo
  rw [List.take_add_one, h, List.all_append]
  simp
theorem few_no {c : Cnf} {k : Nat} {s : Shp} (h : c.shapes[k]? = some s) (hk : k < 100) (hs : 1000 < s.refs.length) : Few c = false := by
  unfold Few fewTo
  rw [Bool.and_eq_false_iff]
  left
  rw [List.all_eq_false]
  exact ⟨s, List.mem_of_getElem? (i := k) (by rw [List.getElem?_take_of_lt hk, h]), by simp; omega⟩

set_option maxHeartbeats 1000000 in
theorem few_any (c : Cnf) (w : World) (hc : c.Ok w) : Calls Tryz.prog 11 #[c.val] w (Gives (.bool (Few c)) w) := by
  have hl := hc.max
  unfold Cnf.val
  go_enter Tryz.func11, Tryz.ntmps11
  go_wp2_with fail
  go_loop [3] (fun i => ∃ k : Nat, k ≤ c.shapes.length ∧ k ≤ 100 ∧ i = .int .i64 k ∧ fewTo c.shapes k = true) (fun i => 100 - (intOf i).toNat)
  case atStart => exact ⟨0, Nat.zero_le _, Nat.zero_le _, rfl, rfl⟩
  case round =>
    obtain ⟨k, hk, hk', rfl, hs⟩ := hrel
    have HS := Lib.hid hs
    clear hs
    by_cases hlt : k < c.shapes.length
    · by_cases h100 : k < 100
      · obtain ⟨b, o, hA, hb, g0, g1⟩ := shapes_at hc.cells hlt
        rw [hA]
        have hsk := (hc.shapes _ (List.getElem_mem hlt)).max
        have HT := Lib.hid (fewTo_succ (List.getElem?_eq_getElem hlt))
        have HN := Lib.hid (fun h => few_no (c := c) (List.getElem?_eq_getElem hlt) h100 h)
        generalize c.shapes[k] = s at *
        clear hA hc g0
        by_cases hr : s.refs.length ≤ 1000
        · have HR := Lib.hid (HT.out.trans (by rw [HS.out, decide_eq_true hr]))
          go_wp2_with fail
          go_round
          case rel => exact ⟨k + 1, by omega, by omega, by go_num, HR.out⟩
          case measure => simp [intOf]; omega
        · have HF := Lib.hid (HN.out (by omega))
          go_wp2_with fail
          go_ret
          exact Gives.bool HF.out.symm (by (repeat (first | (with_reducible assumption) | (with_reducible exact Ext.refl _) | (with_reducible exact Ext.more _ _ _ _) | apply Ext.alloc | refine Ext.setCell ?_ (by first | exact Nat.le_refl _ | exact Nat.le_add_right _ _ | assumption) _ | apply Ext.patch | apply Ext.drew | apply Ext.drewN)))
      · have HF := Lib.hid (show Few c = decide (c.shapes.length ≤ 100) by unfold Few; rw [show (100 : Nat) = k by omega, HS.out]; rfl)
        clear hc
        go_wp2_with fail
        go_ret
        exact Gives.bool (by rw [HF.out]; first | (simp; done) | (simp; omega)) (by (repeat (first | (with_reducible assumption) | (with_reducible exact Ext.refl _) | (with_reducible exact Ext.more _ _ _ _) | apply Ext.alloc | refine Ext.setCell ?_ (by first | exact Nat.le_refl _ | exact Nat.le_add_right _ _ | assumption) _ | apply Ext.patch | apply Ext.drew | apply Ext.drewN)))
    · have HF := Lib.hid (show Few c = decide (c.shapes.length ≤ 100) by
        unfold Few
        rw [show fewTo c.shapes 100 = true by
          have := HS.out
          unfold fewTo at this ⊢
          rwa [List.take_of_length_le (by omega)] at this ⊢]
        rfl)
      clear hc
      go_wp2_with fail
      go_ret
      exact Gives.bool (by rw [HF.out]; first | (simp; done) | (simp; omega)) (by (repeat (first | (with_reducible assumption) | (with_reducible exact Ext.refl _) | (with_reducible exact Ext.more _ _ _ _) | apply Ext.alloc | refine Ext.setCell ?_ (by first | exact Nat.le_refl _ | exact Nat.le_add_right _ _ | assumption) _ | apply Ext.patch | apply Ext.drew | apply Ext.drewN)))

/-- Is it a fragment? -/
def fragOk (c : Cnf) (i : Int) : Bool := decide (c.check = 0 ∧ 0 ≤ i ∧ i < c.frags)
def wFrags (c : Cnf) (got : List Int) : Value := if got.all (fragOk c) then .tuple #[.bool false, .bool (twiceIn got)] else .tuple #[.bool true, .bool false]
theorem lawInt : Keyed Tryz.prog 3 := int_keyed Tryz.underlying3

set_option maxHeartbeats 1000000 in
theorem frags_any (c : Cnf) (A : Option Addr) (cap : Nat) (got : List Int) (w : World) (hc : c.Ok w) (hg : CellsAt w A (got.map (Value.int .i64))) (hl : got.length ≤ 140737488355328) (hw : ∀ x ∈ got, -9223372036854775808 ≤ x ∧ x ≤ 9223372036854775807) :
    Calls Tryz.prog 276 #[c.val, .slice A got.length cap] w (Gives (wFrags c got) w) := by
  have hmm := @run_makeMap Tryz.prog
  have HC := Lib.hid (fun i w' (he : Ext w w') => frag_any c i 0 w' (hc.ext he))
  unfold Cnf.val at HC ⊢
  go_enter Tryz.func276, Tryz.ntmps276
  go_wp2_with fail
  go_loopw [14] (fun i wr => ∃ k : Nat, k ≤ got.length ∧ i = .int .i64 k ∧ (got.take k).all (fragOk c) = true ∧ wr.ownsMap Tryz.prog 3 (plainElem (H := Unit) Tryz.prog 4) (w.heap.size + 1) k (setOf (.lit (.bool true)) ((got.take k).map keyI)) ∧ Ext (w.alloc (.cells #[.int .i64 c.frags, .int .i64 c.spine, .int .i64 c.globals, .int .i64 c.threads, .int .i64 c.locals, .int .i64 c.cache, .int .i64 c.stack, .int .i64 c.low, .slice c.A c.shapes.length c.cap] 24)) wr) (fun i _ => got.length - (intOf i).toNat)
  case atStart => exact ⟨0, Nat.zero_le _, rfl, rfl, by have := World.ownsMap_made (H := Unit) (w.alloc (.cells #[.int .i64 c.frags, .int .i64 c.spine, .int .i64 c.globals, .int .i64 c.threads, .int .i64 c.locals, .int .i64 c.cache, .int .i64 c.stack, .int .i64 c.low, .slice c.A c.shapes.length c.cap] 24)) Tryz.prog 3 (plainElem (H := Unit) Tryz.prog 4); simpa [setOf] using this, by (repeat (first | (with_reducible assumption) | (with_reducible exact Ext.refl _) | (with_reducible exact Ext.more _ _ _ _) | apply Ext.alloc | refine Ext.setCell ?_ (by first | exact Nat.le_refl _ | exact Nat.le_add_right _ _ | assumption) _ | apply Ext.patch | apply Ext.drew | apply Ext.drewN))⟩
  case round =>
    obtain ⟨k, hk, rfl, hs, hown, X, rfl⟩ := hrel
    have HS := Lib.hid hs
    have HO := Lib.hid hown
    clear hs hown hmm
    by_cases hlt : k < got.length
    · obtain ⟨b, o, hA, hb, hcell⟩ := ints_at hg hlt
      rw [hA]
      have g0 := hcell k hlt
      have hwx := hw _ (getD_mem hlt)
      have HT := Lib.hid (getD_take hlt)
      have HN := Lib.hid (show fragOk c (got.getD k 0) = false → got.all (fragOk c) = false from fun h => List.all_eq_false.2 ⟨got.getD k 0, getD_mem hlt, by rw [h]; decide⟩)
      generalize got.getD k 0 = x at *
      clear hA hg hcell hw
      cases hx : fragOk c x
      · have HX := Lib.hid (show cFrag c x 0 = .tuple #[.int .i64 0, .int .i64 1] from if_neg (fun h => of_decide_eq_false hx ⟨h.1, h.2.1, h.2.2.1⟩))
        have HF := Lib.hid (HN.out hx)
        clear hx
        go_wp2_with (go_at_call 234; refine (HC.out _ _ (by (repeat (first | (with_reducible assumption) | (with_reducible exact Ext.refl _) | (with_reducible exact Ext.more _ _ _ _) | apply Ext.alloc | refine Ext.setCell ?_ (by first | exact Nat.le_refl _ | exact Nat.le_add_right _ _ | assumption) _ | apply Ext.patch | apply Ext.drew | apply Ext.drewN)))).mono ?_; rw [HX.out]; rintro e w1 ⟨rfl, X1, rfl⟩)
        go_ret2
        unfold wFrags
        rw [HF.out]
        exact Gives.mk rfl (by (repeat (first | (with_reducible assumption) | (with_reducible exact Ext.refl _) | (with_reducible exact Ext.more _ _ _ _) | apply Ext.alloc | refine Ext.setCell ?_ (by first | exact Nat.le_refl _ | exact Nat.le_add_right _ _ | assumption) _ | apply Ext.patch | apply Ext.drew | apply Ext.drewN)))
      · have hx' : c.check = 0 ∧ 0 ≤ x ∧ x < c.frags := by simpa [fragOk] using hx
        have HX := Lib.hid (show cFrag c x 0 = .tuple #[.int .i64 (x * 8 + 0), .int .i64 0] by unfold cFrag; rw [if_pos ⟨hx'.1, hx'.2.1, hx'.2.2, by omega, by omega⟩])
        have HY := Lib.hid (show (got.take (k + 1)).all (fragOk c) = true by rw [HT.out, List.all_append, HS.out]; simp [hx])
        clear hx hx'
        obtain ⟨hw1, hw2⟩ := hwx
        go_wp2_with (first
          | (go_at_call 234; refine (HC.out _ _ (by (repeat (first | (with_reducible assumption) | (with_reducible exact Ext.refl _) | (with_reducible exact Ext.more _ _ _ _) | apply Ext.alloc | refine Ext.setCell ?_ (by first | exact Nat.le_refl _ | exact Nat.le_add_right _ _ | assumption) _ | apply Ext.patch | apply Ext.drew | apply Ext.drewN)))).mono ?_; rw [HX.out]; rintro e w1 ⟨rfl, X1, rfl⟩)
          | (at_mapUpdate; refine wpList_mapUpdate_own _ rfl _ _ _ 291 rfl 3 4 lawInt Tryz.underlying291 _ (w.heap.size + 1) k _ rfl (map_ext HO.out (by (repeat (first | (with_reducible assumption) | (with_reducible exact Ext.refl _) | (with_reducible exact Ext.more _ _ _ _) | apply Ext.alloc | refine Ext.setCell ?_ (by first | exact Nat.le_refl _ | exact Nat.le_add_right _ _ | assumption) _ | apply Ext.patch | apply Ext.drew | apply Ext.drewN)))) (by unfold maxLen; omega) _ _ (keyI x) rfl rfl (keyOf_int_mk Tryz.underlying3 (WalkArith.wf_i64 (by omega))) _ [] (plainElem_bool Tryz.underlying4 true) ?_; intro w1 hown1 hgrow1))
        have HR := Lib.hid (ext_grown (w := w.alloc (.cells #[.int .i64 c.frags, .int .i64 c.spine, .int .i64 c.globals, .int .i64 c.threads, .int .i64 c.locals, .int .i64 c.cache, .int .i64 c.stack, .int .i64 c.low, .slice c.A c.shapes.length c.cap] 24)) (by (repeat (first | (with_reducible assumption) | (with_reducible exact Ext.refl _) | (with_reducible exact Ext.more _ _ _ _) | apply Ext.alloc | refine Ext.setCell ?_ (by first | exact Nat.le_refl _ | exact Nat.le_add_right _ _ | assumption) _ | apply Ext.patch | apply Ext.drew | apply Ext.drewN))) hgrow1 (fun j hj => by cases hj; simp))
        go_roundw
        case rel => exact ⟨k + 1, by omega, by go_num, HY.out, by rw [HT.out, List.map_append, List.map_cons, List.map_nil, setOf_snoc]; exact hown1, HR.out⟩
        case measure => simp [intOf]; omega
    · obtain rfl : k = got.length := by omega
      rw [List.take_of_length_le (Nat.le_refl _)] at HS HO
      go_wp2_with (at_len; refine wpList_len_own _ rfl _ 291 rfl 3 4 Tryz.underlying291 _ (w.heap.size + 1) got.length _ rfl HO.out ?_)
      go_ret2
      unfold wFrags
      rw [HS.out]
      exact Gives.bb rfl (by rw [← size_ints (.lit (.bool true))]) (by (repeat (first | (with_reducible assumption) | (with_reducible exact Ext.refl _) | (with_reducible exact Ext.more _ _ _ _) | apply Ext.alloc | refine Ext.setCell ?_ (by first | exact Nat.le_refl _ | exact Nat.le_add_right _ _ | assumption) _ | apply Ext.patch | apply Ext.drew | apply Ext.drewN)))
end Go.Proofs.YtnebimabokgofaaGreat

