/-
  line: who waits (of, at, Of, Add, Waits, New).
-/
import Derived.Test.YthdijbkcjmeilaaGreatLineS
import Derived.Test.YthdijbkcjmeilaaGreatClone2
import Derived.Test.YthdijbkcjmeilaaGreatChecked
import Derived.Deep.RegionLaw
import Derived.Deep.AppendLies
namespace Go.Proofs.YthdijbkcjmeilaaGreat
open Go Go.RowKit
set_option linter.unusedVariables false
set_option linter.unnecessarySimpa false
set_option linter.unusedSimpArgs false
set_option maxHeartbeats 2000000

structure LineAt (g : GW) (t b : Nat) (L : List Ent) : Prop where
  ex : ∃ A c, ∃ ms : List EntM, Blk g t b 174 [.slice A L.length c] ∧ Row g t 186 8 (.slice A L.length c) L.length (ms.flatMap EntM.cells) ∧ ms.map EntM.e = L ∧ ∀ m ∈ ms, m.At g (t + 1)
  len : L.length ≤ 1000000
theorem LineAt.keep {S : Nat → Prop} {g g' : GW} {t b : Nat} {L : List Ent} (h : LineAt g t b L) (d : Mod S g g') (hs : ¬ S t) (hs1 : ¬ S (t + 1)) : LineAt g' t b L := by
  obtain ⟨A, c, ms, h1, h2, h3, h4⟩ := h.ex
  exact ⟨⟨A, c, ms, h1.keep d hs, h2.keep d hs, h3, fun m hm => (h4 m hm).keep d hs1⟩, h.len⟩

theorem of1_any (m : EntM) (p : Nat) (th : Int) (w : World) (hp : w.cell? ⟨p, 0, none⟩ = some (.int .i64 th)) (hl : p < w.heap.size) :
    Calls Tryz.prog 223 #[.agg #[.int .i64 m.e.thread, .int .i64 m.e.frags, .int .i64 m.e.spine, .int .i64 m.e.state, .int .i64 m.e.cycles, .int .i64 m.e.at_, .slice m.A m.e.got.length m.cap, .bool m.e.noted], .pointer (some ⟨p, 0, none⟩)] w (Gives (.bool (ofB th m.e)) w) := by
  go_enter Tryz.func223, Tryz.ntmps223
  go_wp2_with fail
  go_ret
  exact Gives.bool rfl (by (repeat (first | (with_reducible assumption) | (with_reducible exact Ext.refl _) | (with_reducible exact Ext.more _ _ _ _) | apply Ext.alloc | refine Ext.setCell ?_ (by first | exact Nat.le_refl _ | exact Nat.le_add_right _ _ | assumption) _ | apply Ext.patch | apply Ext.drew | apply Ext.drewN)))

/-- The cells of an entry. -/
theorem ent_cells {w : World} {A : Option Addr} {ms : List EntM} (h : CellsAt w A (ms.flatMap EntM.cells)) {k : Nat} (hk : k < ms.length) : ∃ b o, A = some ⟨b, o, none⟩ ∧ b < w.heap.size ∧
    w.cell? ⟨b, o + k * 8, none⟩ = some (.int .i64 ms[k].e.thread) ∧ w.cell? ⟨b, o + k * 8 + 1, none⟩ = some (.int .i64 ms[k].e.frags) ∧ w.cell? ⟨b, o + k * 8 + 2, none⟩ = some (.int .i64 ms[k].e.spine) ∧ w.cell? ⟨b, o + k * 8 + 3, none⟩ = some (.int .i64 ms[k].e.state) ∧
    w.cell? ⟨b, o + k * 8 + 4, none⟩ = some (.int .i64 ms[k].e.cycles) ∧ w.cell? ⟨b, o + k * 8 + 5, none⟩ = some (.int .i64 ms[k].e.at_) ∧ w.cell? ⟨b, o + k * 8 + 6, none⟩ = some (.slice ms[k].A ms[k].e.got.length ms[k].cap) ∧ w.cell? ⟨b, o + k * 8 + 7, none⟩ = some (.bool ms[k].e.noted) := by
  obtain ⟨b, o, hA, hb, hc⟩ := h.cases (by rw [flat_size ms EntM.cells_len]; omega)
  have hx := List.getElem?_eq_getElem hk
  have q := fun (j : Nat) (v : Value) (hj : j < 8) (hv : (ms[k].cells)[j]? = some v) => hc (k * 8 + j) v (by rw [flat_at EntM.cells_len ms k j _ hx hj]; exact hv)
  refine ⟨b, o, hA, hb, ?_, ?_, ?_, ?_, ?_, ?_, ?_, ?_⟩
  · exact q 0 _ (by omega) rfl
  · have := q 1 _ (by omega) rfl; rwa [← Nat.add_assoc] at this
  · have := q 2 _ (by omega) rfl; rwa [← Nat.add_assoc] at this
  · have := q 3 _ (by omega) rfl; rwa [← Nat.add_assoc] at this
  · have := q 4 _ (by omega) rfl; rwa [← Nat.add_assoc] at this
  · have := q 5 _ (by omega) rfl; rwa [← Nat.add_assoc] at this
  · have := q 6 _ (by omega) rfl; rwa [← Nat.add_assoc] at this
  · have := q 7 _ (by omega) rfl; rwa [← Nat.add_assoc] at this

def IdxGot (p : Ent → Bool) (ms : List EntM) (w : World) (e : Ending) (w' : World) : Prop := Gives (.int .i64 (placeOf p (ms.map EntM.e))) w e w'
theorem idx_of (A : Option Addr) (c : Nat) (ms : List EntM) (p : Nat) (th : Int) (w : World) (hc : CellsAt w A (ms.flatMap EntM.cells)) (hl : ms.length ≤ 1000000) (hp : w.cell? ⟨p, 0, none⟩ = some (.int .i64 th)) (hpl : p < w.heap.size) :
    Calls Tryz.prog 222 #[.slice A ms.length c, .func (.func 223) #[] #[.pointer (some ⟨p, 0, none⟩)]] w (IdxGot (ofB th) ms w) := by
  have HC := Lib.hid hc
  have HP := Lib.hid (fun w' (he : Ext w w') => (⟨(he.cell hpl).trans hp, Nat.lt_of_lt_of_le hpl he.size⟩ : w'.cell? ⟨p, 0, none⟩ = some (.int .i64 th) ∧ p < w'.heap.size))
  clear hc hp
  go_enter Tryz.func222, Tryz.ntmps222
  go_wp2_with fail
  go_loopw [8] (fun i wr => ∃ k : Nat, k ≤ ms.length ∧ i = .int .i64 k ∧ Hid (∀ e ∈ (ms.map EntM.e).take k, ofB th e = false) ∧ Hid (Ext w wr)) (fun i _ => ms.length - (intOf i).toNat)
  case atStart => exact ⟨0, Nat.zero_le _, rfl, Lib.hid (by simp), Lib.hid (Ext.refl _)⟩
  case round =>
    obtain ⟨k, hk, rfl, hm, HE⟩ := hrel
    by_cases hlt : k < ms.length
    · obtain ⟨b, o, hA, hb, g0, g1, g2, g3, g4, g5, g6, g7⟩ := ent_cells (HC.out.ext HE.out) hlt
      have hx := List.getElem?_eq_getElem hlt
      have HX := Lib.hid (show (ms.map EntM.e)[k]? = some ms[k].e by rw [List.getElem?_map, hx]; rfl)
      generalize ms[k] = m at *
      obtain ⟨hp1, hp2⟩ := HP.out wr HE.out
      have HF := Lib.hid (of1_any m p th wr hp1 hp2)
      subst hA
      clear hx hp1 hp2
      go_wp2_with fail
      refine HF.out.mono ?_
      rintro e w1 ⟨rfl, hX⟩
      have HE1 := Lib.hid (HE.out.trans (show Ext wr w1 from hX))
      clear hX
      cases hv : ofB th m.e
      · have HN := Lib.hid (take_all HX.out hm.out hv)
        clear hv
        go_wp2_with fail
        go_roundw
        case rel => exact ⟨k + 1, by omega, by go_num, HN, HE1⟩
        case measure => simp [intOf]; omega
      · have HN := Lib.hid (placeOf_some HX.out hv hm.out)
        clear hv
        go_wp2_with fail
        go_ret
        exact Gives.int HN.out.symm HE1.out
    · have HN := Lib.hid (placeOf_none (p := ofB th) (l := ms.map EntM.e) (fun e he => hm.out e (by rw [List.take_of_length_le (by simp; omega)]; exact he)))
      go_wp2_with fail
      go_ret
      exact Gives.int HN.out.symm HE.out

theorem line_of (g : GW) (t b : Nat) (th : Int) (L : List Ent) (h : LineAt g t b L) :
    Calls Tryz.prog 171 #[.pointer (some ⟨b, 0, none⟩), .int .i64 th] g.w (Gives (.int .i64 (placeOf (ofB th) L)) g.w) := by
  obtain ⟨A, c, ms, hb, hr, hm, -⟩ := h.ex
  have hml : ms.length = L.length := by rw [← hm, List.length_map]
  have HI := Lib.hid (fun w' p (he : Ext g.w w') hp hpl => idx_of A c ms p th w' (hr.cells.ext he) (by have := h.len; omega) hp hpl)
  unfold IdxGot at HI
  rw [hm, hml] at HI
  have c0 := hb.cell (i := 0) rfl
  have hbl := hb.lt
  clear hr hm hml hb h
  go_enter Tryz.func171, Tryz.ntmps171
  go_wp2_with fail
  refine (HI.out _ g.w.heap.size (by (repeat (first | (with_reducible assumption) | (with_reducible exact Ext.refl _) | (with_reducible exact Ext.more _ _ _ _) | apply Ext.alloc | refine Ext.setCell ?_ (by first | exact Nat.le_refl _ | exact Nat.le_add_right _ _ | assumption) _ | apply Ext.patch | apply Ext.drew | apply Ext.drewN))) (by go_simp) (by go_simp)).mono ?_
  rintro e w1 ⟨rfl, hX⟩
  have HE := Lib.hid (show Ext g.w w1 from (show Ext g.w _ by (repeat (first | (with_reducible assumption) | (with_reducible exact Ext.refl _) | (with_reducible exact Ext.more _ _ _ _) | apply Ext.alloc | refine Ext.setCell ?_ (by first | exact Nat.le_refl _ | exact Nat.le_add_right _ _ | assumption) _ | apply Ext.patch | apply Ext.drew | apply Ext.drewN))).trans hX)
  clear hX
  go_wp2_with fail
  go_ret
  exact Gives.int rfl HE.out

def Ent.wait (l : List Ent) : Nat := l.countP waitB
theorem line_waits (g : GW) (t b : Nat) (L : List Ent) (h : LineAt g t b L) :
    Calls Tryz.prog 83 #[.pointer (some ⟨b, 0, none⟩)] g.w (Gives (.int .i64 (Ent.wait L)) g.w) := by
  obtain ⟨A, c, ms, hb, hr, hm, -⟩ := h.ex
  have hml : ms.length = L.length := by rw [← hm, List.length_map]
  have hlen := h.len
  have c0 := hb.cell (i := 0) rfl
  have hbl := hb.lt
  have HC := Lib.hid hr.cells
  have HM := Lib.hid hm
  rw [← hml] at c0 hlen
  have HL := Lib.hid hml
  clear hr hm hb h hml
  go_enter Tryz.func83, Tryz.ntmps83
  go_wp2_with fail
  go_loopw [3, 11] (fun v i wr => ∃ (k : Nat), k ≤ ms.length ∧ i = .int .i64 k ∧ v = .int .i64 (Ent.wait (L.take k) : Nat) ∧ Hid (Ext g.w wr)) (fun _ i _ => ms.length - (intOf i).toNat)
  case atStart => exact ⟨0, Nat.zero_le _, rfl, rfl, Lib.hid (Ext.refl _)⟩
  case round =>
    obtain ⟨k, hk, rfl, rfl, HE⟩ := hrel
    by_cases hlt : k < ms.length
    · obtain ⟨q, o, hA, hq, g0, g1, g2, g3, g4, g5, g6, g7⟩ := ent_cells (HC.out.ext HE.out) hlt
      have hx := List.getElem?_eq_getElem hlt
      have hxe : L[k]? = some ms[k].e := by rw [← HM.out, List.getElem?_map, hx]; rfl
      have HS := Lib.hid (show Ent.wait (L.take (k + 1)) = Ent.wait (L.take k) + if waitB ms[k].e then 1 else 0 by
        unfold Ent.wait
        rw [List.take_add_one, hxe, List.countP_append]
        simp [List.countP_cons])
      have hw0 : Ent.wait (L.take k) ≤ k := Nat.le_trans List.countP_le_length (List.length_take_le _ _)
      generalize ms[k] = m at *
      generalize Ent.wait (L.take k) = n at *
      subst hA
      clear hx hxe
      cases hz : (m.e.state == 0)
      · have HN := Lib.hid (show Ent.wait (L.take (k + 1)) = n by rw [HS.out]; unfold waitB; rw [hz]; simp)
        go_wp2_with fail
        go_roundw
        case rel => exact ⟨k + 1, by omega, by go_num, by rw [HN.out], Lib.hid (HE.out.trans (by (repeat (first | (with_reducible assumption) | (with_reducible exact Ext.refl _) | (with_reducible exact Ext.more _ _ _ _) | apply Ext.alloc | refine Ext.setCell ?_ (by first | exact Nat.le_refl _ | exact Nat.le_add_right _ _ | assumption) _ | apply Ext.patch | apply Ext.drew | apply Ext.drewN))))⟩
        case measure => simp [intOf]; omega
      · have HN := Lib.hid (show Ent.wait (L.take (k + 1)) = n + 1 by rw [HS.out]; unfold waitB; rw [hz]; simp)
        go_wp2_with fail
        go_roundw
        case rel => exact ⟨k + 1, by omega, by go_num, by rw [HN.out]; go_num, Lib.hid (HE.out.trans (by (repeat (first | (with_reducible assumption) | (with_reducible exact Ext.refl _) | (with_reducible exact Ext.more _ _ _ _) | apply Ext.alloc | refine Ext.setCell ?_ (by first | exact Nat.le_refl _ | exact Nat.le_add_right _ _ | assumption) _ | apply Ext.patch | apply Ext.drew | apply Ext.drewN))))⟩
        case measure => simp [intOf]; omega
    · obtain rfl : k = ms.length := by omega
      have HN := Lib.hid (show L.take ms.length = L from List.take_of_length_le (by rw [HL.out]; exact Nat.le_refl _))
      go_wp2_with fail
      go_ret
      exact Gives.int (by rw [HN.out]; try rfl) HE.out
theorem line_new (t : Nat) (g : GW) : Calls Tryz.prog 48 #[] g.w (fun e w' => ∃ b, e = .returned (.pointer (some ⟨b, 0, none⟩)) ∧ Ext g.w w' ∧ LineAt (g.to t w') t b []) := by
  go_enter Tryz.func48, Tryz.ntmps48
  go_wp2_with fail
  go_ret
  exact ⟨_, rfl, by (repeat (first | (with_reducible assumption) | (with_reducible exact Ext.refl _) | (with_reducible exact Ext.more _ _ _ _) | apply Ext.alloc | refine Ext.setCell ?_ (by first | exact Nat.le_refl _ | exact Nat.le_add_right _ _ | assumption) _ | apply Ext.patch | apply Ext.drew | apply Ext.drewN)), ⟨none, 0, [], Blk.made (World.row_alloc_new _) (Nat.le_refl _), Row.nil _ _ _ _, rfl, by simp⟩, by simp⟩

/-- A request that is told: a copy of what was got. -/
def ReqOf (L : List Ent) (i : Int) (v : Value) (g' : GW) : Prop :=
  ∃ (r : List Value) (ok : Bool), v = .tuple #[.agg r.toArray, .bool ok] ∧ (i < 0 → ok = false ∧ r = [.int .i64 0, .int .i64 0, .int .i64 0, .int .i64 0, .int .i64 0, .int .i64 0, .slice none 0 0]) ∧
    (0 ≤ i → ok = true ∧ ∃ e A c, L[i.toNat]? = some e ∧ r = [.int .i64 e.thread, .int .i64 e.frags, .int .i64 e.spine, .int .i64 e.state, .int .i64 e.cycles, .int .i64 e.at_, .slice A e.got.length c] ∧ Row g' 0 3 1 (.slice A e.got.length c) e.got.length (e.got.map (Value.int .i64)))
set_option maxRecDepth 100000 in
theorem line_at (g : GW) (t b : Nat) (i : Int) (L : List Ent) (h : LineAt g t b L) (hi1 : i < L.length) :
    Calls Tryz.prog 170 #[.pointer (some ⟨b, 0, none⟩), .int .i64 i] g.w (Makes g (fun _ => False) (ReqOf L i)) := by
  by_cases h0 : i < 0
  · clear h hi1
    have HI := Lib.hid h0
    go_enter Tryz.func170, Tryz.ntmps170
    go_wp2_with fail
    refine bodyPost_ret (v := .tuple #[.agg #[.int .i64 0, .int .i64 0, .int .i64 0, .int .i64 0, .int .i64 0, .int .i64 0, .slice none 0 0], .bool false]) (by simp [results, Tryz.results170, go_sem]) rfl ?_
    exact ⟨_, _, rfl, Mod.ext (show Ext g.w _ by (repeat (first | (with_reducible assumption) | (with_reducible exact Ext.refl _) | (with_reducible exact Ext.more _ _ _ _) | apply Ext.alloc | refine Ext.setCell ?_ (by first | exact Nat.le_refl _ | exact Nat.le_add_right _ _ | assumption) _ | apply Ext.patch | apply Ext.drew | apply Ext.drewN))) 0, [.int .i64 0, .int .i64 0, .int .i64 0, .int .i64 0, .int .i64 0, .int .i64 0, .slice none 0 0], false, rfl, fun _ => ⟨rfl, rfl⟩, fun hh => by have := HI.out; omega⟩
  · obtain ⟨k, rfl⟩ := Int.eq_ofNat_of_zero_le (show 0 ≤ i by omega)
    obtain ⟨A, c, ms, hb, hr, hm, hat⟩ := h.ex
    have hml : ms.length = L.length := by rw [← hm, List.length_map]
    have hlen := h.len
    have c0 := hb.cell (i := 0) rfl
    have hbl := hb.lt
    have hkm : k < ms.length := by omega
    obtain ⟨q, o, hA, hq, g0, g1, g2, g3, g4, g5, g6, g7⟩ := ent_cells hr.cells hkm
    have hx := List.getElem?_eq_getElem hkm
    have hmm := hat _ (List.getElem_mem hkm)
    have HX := Lib.hid (show L[k]? = some ms[k].e by rw [← hm, List.getElem?_map, hx]; rfl)
    generalize ms[k] = m at *
    have HCl := Lib.hid (fun w' (he : Ext g.w w') => cloneIntN m.A m.cap m.e.got.length m.e.got 0 (g.to 9 w') rfl (hmm.seg.cells.ext he) (by have := hmm.len; omega))
    subst hA
    clear hr hm hat hmm hx hb h h0
    generalize L.length = n at *
    go_enter Tryz.func170, Tryz.ntmps170
    go_wp2_with fail
    refine (HCl.out _ (by (repeat (first | (with_reducible assumption) | (with_reducible exact Ext.refl _) | (with_reducible exact Ext.more _ _ _ _) | apply Ext.alloc | refine Ext.setCell ?_ (by first | exact Nat.le_refl _ | exact Nat.le_add_right _ _ | assumption) _ | apply Ext.patch | apply Ext.drew | apply Ext.drewN)))).mono ?_
    rintro e w1 ⟨A', c', rfl, m1, r1, he1, f1⟩
    have E1 := Lib.hid (show Ext _ w1 from he1)
    obtain ⟨q1, q2⟩ := two_blocks g.w (.cells #[.int .i64 0, .int .i64 0, .int .i64 0, .int .i64 0, .int .i64 0, .int .i64 0, .slice none 0 0] 157) (.cells #[.int .i64 m.e.thread, .int .i64 m.e.frags, .int .i64 m.e.spine, .int .i64 m.e.state, .int .i64 m.e.cycles, .int .i64 m.e.at_, .slice m.A m.e.got.length m.cap] 157)
    have B1 := Lib.hid ((Blk.made (g := g) (t := 9) q1 (Nat.le_refl _)).keep m1 id)
    have B2 := Lib.hid ((Blk.made (g := g) (t := 9) q2 (by omega)).keep m1 id)
    have R1 := Lib.hid r1
    have M1 := Lib.hid ((Mod.ext (T := fun _ => False) (show Ext g.w ((g.w.alloc (.cells #[.int .i64 0, .int .i64 0, .int .i64 0, .int .i64 0, .int .i64 0, .int .i64 0, .slice none 0 0] 157)).alloc (.cells #[.int .i64 m.e.thread, .int .i64 m.e.frags, .int .i64 m.e.spine, .int .i64 m.e.state, .int .i64 m.e.cycles, .int .i64 m.e.at_, .slice m.A m.e.got.length m.cap] 157)) by (repeat (first | (with_reducible assumption) | (with_reducible exact Ext.refl _) | (with_reducible exact Ext.more _ _ _ _) | apply Ext.alloc | refine Ext.setCell ?_ (by first | exact Nat.le_refl _ | exact Nat.le_add_right _ _ | assumption) _ | apply Ext.patch | apply Ext.drew | apply Ext.drewN))) 9).trans m1)
    clear q1 q2 m1 r1 he1 f1
    have d0 := B1.out.cell (i := 0) rfl
    have d1 := B1.out.cell (i := 1) rfl
    have d2 := B1.out.cell (i := 2) rfl
    have d3 := B1.out.cell (i := 3) rfl
    have d4 := B1.out.cell (i := 4) rfl
    have d5 := B1.out.cell (i := 5) rfl
    have d6 := B1.out.cell (i := 6) rfl
    have df0 := B1.out.live 0
    have df1 := B1.out.live 1
    have df2 := B1.out.live 2
    have df3 := B1.out.live 3
    have df4 := B1.out.live 4
    have df5 := B1.out.live 5
    have df6 := B1.out.live 6
    have dl := B1.out.lt
    (try simp only [GW.to] at d0 d1 d2 d3 d4 d5 d6 df0 df1 df2 df3 df4 df5 df6 dl)
    have e0 := B2.out.cell (i := 0) rfl
    have e1 := B2.out.cell (i := 1) rfl
    have e2 := B2.out.cell (i := 2) rfl
    have e3 := B2.out.cell (i := 3) rfl
    have e4 := B2.out.cell (i := 4) rfl
    have e5 := B2.out.cell (i := 5) rfl
    have e6 := B2.out.cell (i := 6) rfl
    have ef6 := B2.out.live 6
    have el := B2.out.lt
    (try simp only [GW.to] at e0 e1 e2 e3 e4 e5 e6 ef6 el)
    go_wp2_with fail
    refine bodyPost_ret (v := .tuple #[.agg #[.int .i64 m.e.thread, .int .i64 m.e.frags, .int .i64 m.e.spine, .int .i64 m.e.state, .int .i64 m.e.cycles, .int .i64 m.e.at_, .slice A' m.e.got.length c'], .bool true]) (by simp [results, Tryz.results170, go_sem, d0, d1, d2, d3, d4, d5, d6]) rfl ?_
    have M9 : Mod (fun _ => False) g ⟨_, _⟩ := Mod.stn (Mod.stn (Mod.stn (Mod.stn (Mod.stn (Mod.stn (Mod.stn (Mod.stn (b := g.w.heap.size + 1) (i := 6) (v := .slice A' m.e.got.length c') M1.out (by omega)) (b := g.w.heap.size) (i := 0) (v := .int .i64 m.e.thread) (by omega)) (b := g.w.heap.size) (i := 1) (v := .int .i64 m.e.frags) (by omega)) (b := g.w.heap.size) (i := 2) (v := .int .i64 m.e.spine) (by omega)) (b := g.w.heap.size) (i := 3) (v := .int .i64 m.e.state) (by omega)) (b := g.w.heap.size) (i := 4) (v := .int .i64 m.e.cycles) (by omega)) (b := g.w.heap.size) (i := 5) (v := .int .i64 m.e.at_) (by omega)) (b := g.w.heap.size) (i := 6) (v := .slice A' m.e.got.length c') (by omega)
    have T9 : Mod (fun x => x = 9) ⟨_, w1⟩ ⟨_, _⟩ := Mod.st (Mod.st (Mod.st (Mod.st (Mod.st (Mod.st (Mod.st (Mod.st (b := g.w.heap.size + 1) (i := 6) (v := .slice A' m.e.got.length c') (Mod.refl _ _) B2.out.own) (b := g.w.heap.size) (i := 0) (v := .int .i64 m.e.thread) B1.out.own) (b := g.w.heap.size) (i := 1) (v := .int .i64 m.e.frags) B1.out.own) (b := g.w.heap.size) (i := 2) (v := .int .i64 m.e.spine) B1.out.own) (b := g.w.heap.size) (i := 3) (v := .int .i64 m.e.state) B1.out.own) (b := g.w.heap.size) (i := 4) (v := .int .i64 m.e.cycles) B1.out.own) (b := g.w.heap.size) (i := 5) (v := .int .i64 m.e.at_) B1.out.own) (b := g.w.heap.size) (i := 6) (v := .slice A' m.e.got.length c') B1.out.own
    refine ⟨_, _, rfl, M9, [.int .i64 m.e.thread, .int .i64 m.e.frags, .int .i64 m.e.spine, .int .i64 m.e.state, .int .i64 m.e.cycles, .int .i64 m.e.at_, .slice A' m.e.got.length c'], true, rfl, fun hh => by omega, fun _ => ⟨rfl, m.e, A', c', by rw [Int.toNat_natCast]; exact HX.out, rfl, R1.out.keep T9 (by decide)⟩⟩
/-- A thread's request. -/
theorem line_Of (g : GW) (t b : Nat) (th : Int) (L : List Ent) (h : LineAt g t b L) :
    Calls Tryz.prog 100 #[.pointer (some ⟨b, 0, none⟩), .int .i64 th] g.w (Makes g (fun _ => False) (ReqOf L (placeOf (ofB th) L))) := by
  have HO := Lib.hid (fun g' (m : Mod (fun _ => False) g g') => line_of g' t b th L (h.keep m id id))
  have HA := Lib.hid (fun g' (m : Mod (fun _ => False) g g') => line_at g' t b (placeOf (ofB th) L) L (h.keep m id id) (placeOf_bd _ _).2)
  generalize placeOf (ofB th) L = i at *
  clear h
  go_enter Tryz.func100, Tryz.ntmps100
  go_wp2_with fail
  have hE0 : Ext g.w (g.w.alloc (.cells #[.int .i64 0, .int .i64 0, .int .i64 0, .int .i64 0, .int .i64 0, .int .i64 0, .slice none 0 0] 157)) := by (repeat (first | (with_reducible assumption) | (with_reducible exact Ext.refl _) | (with_reducible exact Ext.more _ _ _ _) | apply Ext.alloc | refine Ext.setCell ?_ (by first | exact Nat.le_refl _ | exact Nat.le_add_right _ _ | assumption) _ | apply Ext.patch | apply Ext.drew | apply Ext.drewN))
  have B0 := Lib.hid (Blk.new g 9 157 [.int .i64 0, .int .i64 0, .int .i64 0, .int .i64 0, .int .i64 0, .int .i64 0, .slice none 0 0])
  have M0 := Lib.hid (Mod.ext (T := fun _ => False) hE0 9)
  clear hE0
  refine (HO.out (g.to 9 (g.w.alloc (.cells #[.int .i64 0, .int .i64 0, .int .i64 0, .int .i64 0, .int .i64 0, .int .i64 0, .slice none 0 0] 157))) M0.out).mono ?_
  rintro e w1 ⟨rfl, hE1⟩
  have E1 := Lib.hid (show Ext (g.w.alloc (.cells #[.int .i64 0, .int .i64 0, .int .i64 0, .int .i64 0, .int .i64 0, .int .i64 0, .slice none 0 0] 157)) w1 from hE1)
  have N1 := Lib.hid (Mod.ext (T := fun _ => False) (g := g.to 9 (g.w.alloc (.cells #[.int .i64 0, .int .i64 0, .int .i64 0, .int .i64 0, .int .i64 0, .int .i64 0, .slice none 0 0] 157))) E1.out 0)
  have M1 := Lib.hid (M0.out.trans N1.out)
  have B1 := Lib.hid (B0.out.keep N1.out id)
  clear hE1
  go_wp2_with fail
  refine (HA.out _ M1.out).mono ?_
  rintro e w2 ⟨v, own2, rfl, m2, r, ok, rfl, hn, hp⟩
  have M2 := Lib.hid (M1.out.trans m2)
  have B2 := Lib.hid (B1.out.keep m2 id)
  clear m2 E1
  have d0 := B2.out.cell (i := 0) rfl
  have d1 := B2.out.cell (i := 1) rfl
  have d2 := B2.out.cell (i := 2) rfl
  have d3 := B2.out.cell (i := 3) rfl
  have d4 := B2.out.cell (i := 4) rfl
  have d5 := B2.out.cell (i := 5) rfl
  have d6 := B2.out.cell (i := 6) rfl
  have df0 := B2.out.live 0
  have df1 := B2.out.live 1
  have df2 := B2.out.live 2
  have df3 := B2.out.live 3
  have df4 := B2.out.live 4
  have df5 := B2.out.live 5
  have df6 := B2.out.live 6
  have dl := B2.out.lt
  (try simp only [GW.to] at d0 d1 d2 d3 d4 d5 d6 df0 df1 df2 df3 df4 df5 df6 dl)
  by_cases h0 : i < 0
  · obtain ⟨rfl, rfl⟩ := hn h0
    have HN := Lib.hid hp
    have H0 := Lib.hid h0
    clear hn hp h0
    go_wp2_with fail
    refine bodyPost_ret (v := .tuple #[.agg #[.int .i64 0, .int .i64 0, .int .i64 0, .int .i64 0, .int .i64 0, .int .i64 0, .slice none 0 0], .bool false]) (by simp [results, Tryz.results100, go_sem, d0, d1, d2, d3, d4, d5, d6]) rfl ?_
    have M9 : Mod (fun _ => False) g ⟨own2, _⟩ := Mod.stn (Mod.stn (Mod.stn (Mod.stn (Mod.stn (Mod.stn (Mod.stn (b := g.w.heap.size) (i := 0) (v := .int .i64 0) M2.out (Nat.le_refl _)) (b := g.w.heap.size) (i := 1) (v := .int .i64 0) (Nat.le_refl _)) (b := g.w.heap.size) (i := 2) (v := .int .i64 0) (Nat.le_refl _)) (b := g.w.heap.size) (i := 3) (v := .int .i64 0) (Nat.le_refl _)) (b := g.w.heap.size) (i := 4) (v := .int .i64 0) (Nat.le_refl _)) (b := g.w.heap.size) (i := 5) (v := .int .i64 0) (Nat.le_refl _)) (b := g.w.heap.size) (i := 6) (v := .slice none 0 0) (Nat.le_refl _)
    exact ⟨_, _, rfl, M9, [.int .i64 0, .int .i64 0, .int .i64 0, .int .i64 0, .int .i64 0, .int .i64 0, .slice none 0 0], false, rfl, fun _ => ⟨rfl, rfl⟩, fun hh => by have := H0.out; omega⟩
  · obtain ⟨rfl, e, A', c', hL, rfl, hr⟩ := hp (by omega)
    have HL := Lib.hid hL
    have HR := Lib.hid hr
    have H0 := Lib.hid h0
    clear hn hL hr h0
    go_wp2_with fail
    refine bodyPost_ret (v := .tuple #[.agg #[.int .i64 e.thread, .int .i64 e.frags, .int .i64 e.spine, .int .i64 e.state, .int .i64 e.cycles, .int .i64 e.at_, .slice A' e.got.length c'], .bool true]) (by simp [results, Tryz.results100, go_sem, d0, d1, d2, d3, d4, d5, d6]) rfl ?_
    have M9 : Mod (fun _ => False) g ⟨own2, _⟩ := Mod.stn (Mod.stn (Mod.stn (Mod.stn (Mod.stn (Mod.stn (Mod.stn (b := g.w.heap.size) (i := 0) (v := .int .i64 e.thread) M2.out (Nat.le_refl _)) (b := g.w.heap.size) (i := 1) (v := .int .i64 e.frags) (Nat.le_refl _)) (b := g.w.heap.size) (i := 2) (v := .int .i64 e.spine) (Nat.le_refl _)) (b := g.w.heap.size) (i := 3) (v := .int .i64 e.state) (Nat.le_refl _)) (b := g.w.heap.size) (i := 4) (v := .int .i64 e.cycles) (Nat.le_refl _)) (b := g.w.heap.size) (i := 5) (v := .int .i64 e.at_) (Nat.le_refl _)) (b := g.w.heap.size) (i := 6) (v := .slice A' e.got.length c') (Nat.le_refl _)
    have T9 : Mod (fun x => x = 9) ⟨own2, w2⟩ ⟨own2, _⟩ := Mod.st (Mod.st (Mod.st (Mod.st (Mod.st (Mod.st (Mod.st (b := g.w.heap.size) (i := 0) (v := .int .i64 e.thread) (Mod.refl _ _) B2.out.own) (b := g.w.heap.size) (i := 1) (v := .int .i64 e.frags) B2.out.own) (b := g.w.heap.size) (i := 2) (v := .int .i64 e.spine) B2.out.own) (b := g.w.heap.size) (i := 3) (v := .int .i64 e.state) B2.out.own) (b := g.w.heap.size) (i := 4) (v := .int .i64 e.cycles) B2.out.own) (b := g.w.heap.size) (i := 5) (v := .int .i64 e.at_) B2.out.own) (b := g.w.heap.size) (i := 6) (v := .slice A' e.got.length c') B2.out.own
    exact ⟨_, _, rfl, M9, [.int .i64 e.thread, .int .i64 e.frags, .int .i64 e.spine, .int .i64 e.state, .int .i64 e.cycles, .int .i64 e.at_, .slice A' e.got.length c'], true, rfl, fun hh => by have := H0.out; omega, fun _ => ⟨rfl, e, A', c', HL.out, rfl, HR.out.keep T9 (by decide)⟩⟩
theorem infoEnt : (Tryz.prog.info? 186).map (fun i => (i.zero, i.size, i.bytes)) = some (some (.agg #[.int .i64 0, .int .i64 0, .int .i64 0, .int .i64 0, .int .i64 0, .int .i64 0, .slice none 0 0, .bool false]), 8, 80) := by kernel_rfl
def Ent.asked (th fr sp : Int) : Ent := ⟨th, fr, sp, 0, 0, -1, [], false⟩
set_option maxRecDepth 100000 in
theorem line_add (g : GW) (t b : Nat) (th fr sp : Int) (L : List Ent) (h : LineAt g t b L) (hno : placeOf (ofB th) L < 0) (hn : L.length < 1000000) (ht : t ≠ 0 ∧ t ≠ 9 ∧ t + 1 ≠ 9) :
    Calls Tryz.prog 105 #[.pointer (some ⟨b, 0, none⟩), .agg #[.int .i64 th, .int .i64 fr, .int .i64 sp, .int .i64 0, .int .i64 0, .int .i64 0, .slice none 0 0]] g.w (Does (.bool true) g (fun x => x = t) (fun g' => LineAt g' t b (L ++ [Ent.asked th fr sp]))) := by
  obtain ⟨i0, hi, hz0, hz1, hz2⟩ := info_parts infoEnt
  have HO := Lib.hid (fun g' (m : Mod (fun _ => False) g g') => line_of g' t b th L (h.keep m id id))
  obtain ⟨A, c, ms, hb, hr, hm, hat⟩ := h.ex
  have H := Lib.hid h
  have HB := Lib.hid hb
  have HR := Lib.hid hr
  have HM := Lib.hid hm
  have HAT := Lib.hid hat
  have HT := Lib.hid ht
  generalize placeOf (ofB th) L = i at *
  generalize hnl : L.length = n at *
  have HNL := Lib.hid hnl
  have hd : decide ((0 : Int) ≤ i) = false := decide_eq_false (by omega)
  clear h hb hr hm hat hnl ht
  go_enter Tryz.func105, Tryz.ntmps105
  go_wp2_with fail
  have hE0 : Ext g.w (g.w.alloc (.cells #[.int .i64 th, .int .i64 fr, .int .i64 sp, .int .i64 0, .int .i64 0, .int .i64 0, .slice none 0 0] 157)) := by (repeat (first | (with_reducible assumption) | (with_reducible exact Ext.refl _) | (with_reducible exact Ext.more _ _ _ _) | apply Ext.alloc | refine Ext.setCell ?_ (by first | exact Nat.le_refl _ | exact Nat.le_add_right _ _ | assumption) _ | apply Ext.patch | apply Ext.drew | apply Ext.drewN))
  have B0 := Lib.hid (Blk.new g 9 157 [.int .i64 th, .int .i64 fr, .int .i64 sp, .int .i64 0, .int .i64 0, .int .i64 0, .slice none 0 0])
  have M0 := Lib.hid (Mod.ext (T := fun _ => False) hE0 9)
  clear hE0
  refine (HO.out (g.to 9 (g.w.alloc (.cells #[.int .i64 th, .int .i64 fr, .int .i64 sp, .int .i64 0, .int .i64 0, .int .i64 0, .slice none 0 0] 157))) M0.out).mono ?_
  rintro e w1 ⟨rfl, hE1⟩
  have E1 := Lib.hid (show Ext (g.w.alloc (.cells #[.int .i64 th, .int .i64 fr, .int .i64 sp, .int .i64 0, .int .i64 0, .int .i64 0, .slice none 0 0] 157)) w1 from hE1)
  have N1 := Lib.hid (Mod.ext (T := fun _ => False) (g := g.to 9 (g.w.alloc (.cells #[.int .i64 th, .int .i64 fr, .int .i64 sp, .int .i64 0, .int .i64 0, .int .i64 0, .slice none 0 0] 157))) E1.out 0)
  obtain ⟨own1, m1, b1⟩ : ∃ own1, Mod (fun _ => False) g ⟨own1, w1⟩ ∧ Blk ⟨own1, w1⟩ 9 g.w.heap.size 157 [.int .i64 th, .int .i64 fr, .int .i64 sp, .int .i64 0, .int .i64 0, .int .i64 0, .slice none 0 0] := ⟨_, M0.out.trans N1.out, B0.out.keep N1.out id⟩
  have M1 := Lib.hid m1
  have B1 := Lib.hid b1
  have L1 := Lib.hid (HB.out.keep m1 id)
  clear hE1 E1 m1 b1 B0 M0 N1
  have d0 := B1.out.cell (i := 0) rfl
  have d1 := B1.out.cell (i := 1) rfl
  have d2 := B1.out.cell (i := 2) rfl
  have d3 := B1.out.cell (i := 3) rfl
  have d4 := B1.out.cell (i := 4) rfl
  have d5 := B1.out.cell (i := 5) rfl
  have d6 := B1.out.cell (i := 6) rfl
  have df3 := B1.out.live 3
  have df4 := B1.out.live 4
  have df5 := B1.out.live 5
  have df6 := B1.out.live 6
  have dl := B1.out.lt
  (try simp only [GW.to] at d0 d1 d2 d3 d4 d5 d6 df3 df4 df5 df6 dl)
  have e0 := L1.out.cell (i := 0) rfl
  have ef0 := L1.out.live 0
  have el := L1.out.lt
  (try simp only [GW.to] at e0 ef0 el)
  have hne : g.w.heap.size ≠ b := B1.out.ne L1.out (fun e => HT.out.2.1 e.symm)
  have hne' : b ≠ g.w.heap.size := fun e => hne e.symm
  go_wp2_with fail
  have m9 : Mod (fun _ => False) g ⟨own1, _⟩ := Mod.stn (Mod.stn (Mod.stn (Mod.stn (b := g.w.heap.size) (i := 3) (v := .int .i64 0) M1.out (Nat.le_refl _)) (b := g.w.heap.size) (i := 4) (v := .int .i64 0) (Nat.le_refl _)) (b := g.w.heap.size) (i := 5) (v := .int .i64 (-1)) (Nat.le_refl _)) (b := g.w.heap.size) (i := 6) (v := .slice none 0 0) (Nat.le_refl _)
  have b9 : Blk ⟨own1, (((w1.setCell ⟨g.w.heap.size, 3, none⟩ (.int .i64 0)).setCell ⟨g.w.heap.size, 4, none⟩ (.int .i64 0)).setCell ⟨g.w.heap.size, 5, none⟩ (.int .i64 (-1))).setCell ⟨g.w.heap.size, 6, none⟩ (.slice none 0 0)⟩ 9 g.w.heap.size 157 [.int .i64 th, .int .i64 fr, .int .i64 sp, .int .i64 0, .int .i64 0, .int .i64 (-1), .slice none 0 0] := (((B1.out.set 3 (.int .i64 0)).set 4 (.int .i64 0)).set 5 (.int .i64 (-1))).set 6 (.slice none 0 0)
  generalize (((w1.setCell ⟨g.w.heap.size, 3, none⟩ (.int .i64 0)).setCell ⟨g.w.heap.size, 4, none⟩ (.int .i64 0)).setCell ⟨g.w.heap.size, 5, none⟩ (.int .i64 (-1))).setCell ⟨g.w.heap.size, 6, none⟩ (.slice none 0 0) = W at *
  have M9 := Lib.hid m9
  have B9 := Lib.hid b9
  have L9 := Lib.hid (HB.out.keep m9 id)
  have R9 := Lib.hid (HR.out.keep m9 id)
  have A9 := Lib.hid (fun m hm => (HAT.out m hm).keep m9 id)
  clear m9 b9 d0 d1 d2 d3 d4 d5 d6 df3 df4 df5 df6 dl e0 ef0 el M1 B1 L1
  have d0 := B9.out.cell (i := 0) rfl
  have d1 := B9.out.cell (i := 1) rfl
  have d2 := B9.out.cell (i := 2) rfl
  have d3 := B9.out.cell (i := 3) rfl
  have d4 := B9.out.cell (i := 4) rfl
  have d5 := B9.out.cell (i := 5) rfl
  have d6 := B9.out.cell (i := 6) rfl
  have dl := B9.out.lt
  (try simp only [GW.to] at d0 d1 d2 d3 d4 d5 d6 dl)
  have e0 := L9.out.cell (i := 0) rfl
  have ef0 := L9.out.live 0
  have el := L9.out.lt
  (try simp only [GW.to] at e0 ef0 el)
  have hrow := Lib.hid (show ∀ x, (Value.slice A n c).ownBlock = some x → b ≠ x from fun x hx => R9.out.ne_type L9.out (by decide) hx)
  have hnb := Lib.hid (show some b ≠ (Value.slice A n c).ownBlock from fun e => hrow.out b e.symm rfl)
  have hnx := Lib.hid (show some g.w.heap.size ≠ (Value.slice A n c).ownBlock from fun e => R9.out.ne_type B9.out (by decide) e.symm rfl)
  have fc := fun o => (show ((W.alloc o).drew).cell? ⟨b, 0, none⟩ = some (.slice A n c) from (World.cell?_alloc_past _ _ _ el).trans e0)
  have fz := fun o => (show ((W.alloc o).drew).frozen? ⟨b, 0, none⟩ = false from (World.frozen?_alloc_past _ _ _ el).trans ef0)
  go_region_law ((refine step_append_lies _ (by rfl) _ _ _ (by rfl) 0 186 i0 _ 8 80 Tryz.underlying172 hi hz0 hz1 hz2 rfl (by omega) (.slice A n c) n (ms.flatMap EntM.cells) (by rfl) ((R9.out.row.alloc _).drew) ⟨W.heap.size, 0, none⟩ 1 1 [.int .i64 th, .int .i64 fr, .int .i64 sp, .int .i64 0, .int .i64 0, .int .i64 (-1), .slice none 0 0, .bool false] (by rfl) (by rfl) (World.news_of_block (cs := #[.int .i64 th, .int .i64 fr, .int .i64 sp, .int .i64 0, .int .i64 0, .int .i64 (-1), .slice none 0 0, .bool false]) (t := 186) (fr := (0, 0)) (heap_alloc_new W _)) (by simp [Value.oneCell']) (by omega) (by unfold maxLen; omega) (by omega) (Nat.zero_le _) (W.heap.size + 1) (by simp) ?_; intro gg cap w2 hown hgrow hat hlt; have y0 := (hgrow.cell_far ⟨b, 0, none⟩ (by simp; omega) hnb.out).trans (fc _); have yf0 := (hgrow.frozen_far ⟨b, 0, none⟩ (by simp; omega) hnb.out).trans (fz _)))
  all_goals
    go_wp2_with fail
    go_ret
    have hEd : Ext W ((W.alloc (.cells #[.int .i64 th, .int .i64 fr, .int .i64 sp, .int .i64 0, .int .i64 0, .int .i64 (-1), .slice none 0 0, .bool false] 186)).drew) := by (repeat (first | (with_reducible assumption) | (with_reducible exact Ext.refl _) | (with_reducible exact Ext.more _ _ _ _) | apply Ext.alloc | refine Ext.setCell ?_ (by first | exact Nat.le_refl _ | exact Nat.le_add_right _ _ | assumption) _ | apply Ext.patch | apply Ext.drew | apply Ext.drewN))
    have hat' : (Value.slice (some ⟨gg, 0, none⟩) (n + 1) cap).ownBlock = (Value.slice A n c).ownBlock ∨ (Value.slice (some ⟨gg, 0, none⟩) (n + 1) cap).ownBlock = some ((W.alloc (.cells #[.int .i64 th, .int .i64 fr, .int .i64 sp, .int .i64 0, .int .i64 0, .int .i64 (-1), .slice none 0 0, .bool false] 186)).drew).heap.size := by
      rcases hat with e | e
      · exact Or.inl e.symm
      · refine Or.inr ?_
        rw [e]
        show some (W.heap.size + 1) = some (W.alloc _).heap.size
        rw [World.size_alloc]
    have q1 : Mod (fun x => x = t) (⟨own1, W⟩ : GW) ((⟨own1, W⟩ : GW).to 9 ((W.alloc (.cells #[.int .i64 th, .int .i64 fr, .int .i64 sp, .int .i64 0, .int .i64 0, .int .i64 (-1), .slice none 0 0, .bool false] 186)).drew)) := Mod.ext hEd 9
    have q2 := Mod.grown (T := fun x => x = t) (g := (⟨own1, W⟩ : GW).to 9 ((W.alloc (.cells #[.int .i64 th, .int .i64 fr, .int .i64 sp, .int .i64 0, .int .i64 0, .int .i64 (-1), .slice none 0 0, .bool false] 186)).drew)) hgrow t (fun k hk hl => (R9.out.ext hEd 9).own k hk)
    have q3 := (R9.out.ext hEd 9).grown (g := (⟨own1, W⟩ : GW).to 9 ((W.alloc (.cells #[.int .i64 th, .int .i64 fr, .int .i64 sp, .int .i64 0, .int .i64 0, .int .i64 (-1), .slice none 0 0, .bool false] 186)).drew)) hown hat'
    have q4 := (L9.out.ext hEd 9).grown (t' := t) (g := (⟨own1, W⟩ : GW).to 9 ((W.alloc (.cells #[.int .i64 th, .int .i64 fr, .int .i64 sp, .int .i64 0, .int .i64 0, .int .i64 (-1), .slice none 0 0, .bool false] 186)).drew)) hgrow (fun x hx => hrow.out x hx)
    have q5 := ((M9.out.mono (fun x hx => hx.elim)).trans q1).trans q2
    have q6 := fun m hm => ((A9.out m hm).keep q1 (by have := HT.out; omega)).keep q2 (by have := HT.out; omega)
    refine Does.of ⟨_, _⟩ rfl rfl (Mod.st q5 q4.own) ⟨⟨some ⟨gg, 0, none⟩, cap, ms ++ [⟨Ent.asked th fr sp, none, 0⟩], ?_, ?_, ?_, ?_⟩, ?_⟩
    · simp only [List.length_append, HNL.out]
      exact q4.set 0 _
    · simp only [List.length_append, HNL.out]
      exact (q3.setOther 0 _ (fun x hx => q3.ne_type q4 (by decide) hx)).weak rfl (by rw [List.flatMap_append]; rfl)
    · rw [List.map_append, HM.out]; rfl
    · intro m hm
      rcases List.mem_append.1 hm with hm | hm
      · exact (q6 m hm).keep (S := fun x => x = t) (Mod.set (b := b) (by exact q4.own)) (by show ¬ (t + 1 = t); omega)
      · simp only [List.mem_singleton] at hm
        subst hm
        exact ⟨Seg.nil _ _ _, by simp [Ent.asked]⟩
    · simp only [List.length_append, HNL.out, List.length_singleton]; omega
end Go.Proofs.YthdijbkcjmeilaaGreat
