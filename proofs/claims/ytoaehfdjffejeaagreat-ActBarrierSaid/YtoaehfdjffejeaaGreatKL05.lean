import Derived.Test.YtoaehfdjffejeaaGreatKL04
import Derived.Test.YtoaehfdjffejeaaGreatChecked
import Derived.Deep.RegionLaw
import Derived.Deep.AppendLies
/-
  Packed: Line, Copy.
-/
open Go.Ext renaming alloc → zA, patch → zP, drew → zD, drewN → zN, more → zM, refl → zR, setCell → zS
open Nat renaming le_refl → zL, le_add_right → zK
/-
  line: who waits (of, at, Of, Add, Waits, New).
-/
namespace Go.Proofs.YtoaehfdjffejeaaGreat
open Go Go.RowKit
set_option linter.unusedVariables false
set_option linter.unnecessarySimpa false
set_option linter.unusedSimpArgs false
set_option maxHeartbeats 2000000

structure LineAt (g : GW) (t b : Nat) (L : List Ent) : Prop where
  ex : ∃ A c, ∃ ms : List EntM, Blk g t b 191 [.slice A L.length c] ∧ Row g t 218 8 (.slice A L.length c) L.length (ms.flatMap EntM.cells) ∧ ms.map EntM.e = L ∧ ∀ m ∈ ms, m.At g (t + 1)
  len : L.length ≤ 1000000
theorem LineAt.keep {S : Nat → Prop} {g g' : GW} {t b : Nat} {L : List Ent} (h : LineAt g t b L) (d : Mod S g g') (hs : ¬ S t) (hs1 : ¬ S (t + 1)) : LineAt g' t b L := by
  obtain ⟨A, c, ms, h1, h2, h3, h4⟩ := h.ex
  exact ⟨⟨A, c, ms, h1.keep d hs, h2.keep d hs, h3, fun m hm => (h4 m hm).keep d hs1⟩, h.len⟩

theorem of1_any (m : EntM) (p : Nat) (th : Int) (w : World) (hp : w.cell? ⟨p, 0, none⟩ = some (.int .i64 th)) (hl : p < w.heap.size) :
    Calls Tryz.prog 181 #[.agg #[.int .i64 m.e.thread, .int .i64 m.e.frags, .int .i64 m.e.spine, .int .i64 m.e.state, .int .i64 m.e.cycles, .int .i64 m.e.at_, .slice m.A m.e.got.length m.cap, .bool m.e.noted], .pointer (some ⟨p, 0, none⟩)] w (Gives (.bool (ofB th m.e)) w) := by
  go_enter Tryz.func181, Tryz.ntmps181
  go_wp2_with fail
  go_ret
  exact Gives.bool rfl (by (repeat (first | (with_reducible (first | assumption | exact zR _ | exact zM _ _ _ _)) | apply zA | refine zS ?_ (by first | exact zL _ | exact zK _ _ | assumption) _ | apply zP | apply zD | apply zN)))

theorem ent_cells {w : World} {A : Option Addr} {ms : List EntM} (h : CellsAt w A (ms.flatMap EntM.cells)) {k : Nat} (hk : k < ms.length) : ∃ b o, A = some ⟨b, o, none⟩ ∧ b < w.heap.size ∧
    w.cell? ⟨b, o + k * 8, none⟩ = some (.int .i64 ms[k].e.thread) ∧ w.cell? ⟨b, o + k * 8 + 1, none⟩ = some (.int .i64 ms[k].e.frags) ∧ w.cell? ⟨b, o + k * 8 + 2, none⟩ = some (.int .i64 ms[k].e.spine) ∧ w.cell? ⟨b, o + k * 8 + 3, none⟩ = some (.int .i64 ms[k].e.state) ∧
    w.cell? ⟨b, o + k * 8 + 4, none⟩ = some (.int .i64 ms[k].e.cycles) ∧ w.cell? ⟨b, o + k * 8 + 5, none⟩ = some (.int .i64 ms[k].e.at_) ∧ w.cell? ⟨b, o + k * 8 + 6, none⟩ = some (.slice ms[k].A ms[k].e.got.length ms[k].cap) ∧ w.cell? ⟨b, o + k * 8 + 7, none⟩ = some (.bool ms[k].e.noted) := by
  obtain ⟨b, o, hA, hb, hc⟩ := h.cases (by rw [flat_size ms EntM.cells_len]; omega)
  have hx := List.getElem?_eq_getElem hk
  have q := fun (j : Nat) (v : Value) (hj : j < 8) (hv : (ms[k].cells)[j]? = some v) => hc (k * 8 + j) v (by rw [flat_at EntM.cells_len ms k j _ hx hj]; exact hv)
  refine ⟨b, o, hA, hb, ?_, ?_, ?_, ?_, ?_, ?_, ?_, ?_⟩
  · exact q 0 _ (by omega) rfl
  · have := q 1 _ (by omega) rfl; rwa [← Nat.add_assoc] at this
  · have := q 2 _ (by omega) rfl; rwa [← Nat.add_assoc] at this
  · have := q 3 _ (by omega) rfl; rwa [← Nat.add_assoc] at this
  · have := q 4 _ (by omega) rfl; rwa [← Nat.add_assoc] at this
  · have := q 5 _ (by omega) rfl; rwa [← Nat.add_assoc] at this
  · have := q 6 _ (by omega) rfl; rwa [← Nat.add_assoc] at this
  · have := q 7 _ (by omega) rfl; rwa [← Nat.add_assoc] at this

def IdxGot (p : Ent → Bool) (ms : List EntM) (w : World) (e : Ending) (w' : World) : Prop := Gives (.int .i64 (placeOf p (ms.map EntM.e))) w e w'
theorem idx_of (A : Option Addr) (c : Nat) (ms : List EntM) (p : Nat) (th : Int) (w : World) (hc : CellsAt w A (ms.flatMap EntM.cells)) (hl : ms.length ≤ 1000000) (hp : w.cell? ⟨p, 0, none⟩ = some (.int .i64 th)) (hpl : p < w.heap.size) :
    Calls Tryz.prog 180 #[.slice A ms.length c, .func (.func 181) #[] #[.pointer (some ⟨p, 0, none⟩)]] w (IdxGot (ofB th) ms w) := by
  have HC := Lib.hid hc
  have HP := Lib.hid (fun w' (he : Ext w w') => (⟨(he.cell hpl).trans hp, Nat.lt_of_lt_of_le hpl he.size⟩ : w'.cell? ⟨p, 0, none⟩ = some (.int .i64 th) ∧ p < w'.heap.size))
  clear hc hp
  go_enter Tryz.func180, Tryz.ntmps180
  go_wp2_with fail
  go_loopw [8] (fun i wr => ∃ k : Nat, k ≤ ms.length ∧ i = .int .i64 k ∧ Hid (∀ e ∈ (ms.map EntM.e).take k, ofB th e = false) ∧ Hid (Ext w wr)) (fun i _ => ms.length - (intOf i).toNat)
  case atStart => exact ⟨0, Nat.zero_le _, rfl, Lib.hid (by simp), Lib.hid (Ext.refl _)⟩
  case round =>
    obtain ⟨k, hk, rfl, hm, HE⟩ := hrel
    by_cases hlt : k < ms.length
    · obtain ⟨b, o, hA, hb, g0, g1, g2, g3, g4, g5, g6, g7⟩ := ent_cells (HC.out.ext HE.out) hlt
      have hx := List.getElem?_eq_getElem hlt
      have HX := Lib.hid (show (ms.map EntM.e)[k]? = some ms[k].e by rw [List.getElem?_map, hx]; rfl)
      generalize ms[k] = m at *
      obtain ⟨hp1, hp2⟩ := HP.out wr HE.out
      have HF := Lib.hid (of1_any m p th wr hp1 hp2)
      subst hA
      clear hx hp1 hp2
      go_wp2_with fail
      refine HF.out.mono ?_
      rintro e w1 ⟨rfl, hX⟩
      have HE1 := Lib.hid (HE.out.trans (show Ext wr w1 from hX))
      clear hX
      cases hv : ofB th m.e
      · have HN := Lib.hid (take_all HX.out hm.out hv)
        clear hv
        go_wp2_with fail
        go_roundw
        case rel => exact ⟨k + 1, by omega, by go_num, HN, HE1⟩
        case measure => simp [intOf]; omega
      · have HN := Lib.hid (placeOf_some HX.out hv hm.out)
        clear hv
        go_wp2_with fail
        go_ret
        exact Gives.int HN.out.symm HE1.out
    · have HN := Lib.hid (placeOf_none (p := ofB th) (l := ms.map EntM.e) (fun e he => hm.out e (by rw [List.take_of_length_le (by simp; omega)]; exact he)))
      go_wp2_with fail
      go_ret
      exact Gives.int HN.out.symm HE.out

theorem line_of (g : GW) (t b : Nat) (th : Int) (L : List Ent) (h : LineAt g t b L) :
    Calls Tryz.prog 148 #[.pointer (some ⟨b, 0, none⟩), .int .i64 th] g.w (Gives (.int .i64 (placeOf (ofB th) L)) g.w) := by
  obtain ⟨A, c, ms, hb, hr, hm, -⟩ := h.ex
  have hml : ms.length = L.length := by rw [← hm, List.length_map]
  have HI := Lib.hid (fun w' p (he : Ext g.w w') hp hpl => idx_of A c ms p th w' (hr.cells.ext he) (by have := h.len; omega) hp hpl)
  unfold IdxGot at HI
  rw [hm, hml] at HI
  have c0 := hb.cell (i := 0) rfl
  have hbl := hb.lt
  clear hr hm hml hb h
  go_enter Tryz.func148, Tryz.ntmps148
  go_wp2_with fail
  refine (HI.out _ g.w.heap.size (by (repeat (first | (with_reducible (first | assumption | exact zR _ | exact zM _ _ _ _)) | apply zA | refine zS ?_ (by first | exact zL _ | exact zK _ _ | assumption) _ | apply zP | apply zD | apply zN))) (by go_simp) (by go_simp)).mono ?_
  rintro e w1 ⟨rfl, hX⟩
  have HE := Lib.hid (show Ext g.w w1 from (show Ext g.w _ by (repeat (first | (with_reducible (first | assumption | exact zR _ | exact zM _ _ _ _)) | apply zA | refine zS ?_ (by first | exact zL _ | exact zK _ _ | assumption) _ | apply zP | apply zD | apply zN))).trans hX)
  clear hX
  go_wp2_with fail
  go_ret
  exact Gives.int rfl HE.out

def Ent.wait (l : List Ent) : Nat := l.countP waitB
theorem line_waits (g : GW) (t b : Nat) (L : List Ent) (h : LineAt g t b L) :
    Calls Tryz.prog 187 #[.pointer (some ⟨b, 0, none⟩)] g.w (Gives (.int .i64 (Ent.wait L)) g.w) := by
  obtain ⟨A, c, ms, hb, hr, hm, -⟩ := h.ex
  have hml : ms.length = L.length := by rw [← hm, List.length_map]
  have hlen := h.len
  have c0 := hb.cell (i := 0) rfl
  have hbl := hb.lt
  have HC := Lib.hid hr.cells
  have HM := Lib.hid hm
  rw [← hml] at c0 hlen
  have HL := Lib.hid hml
  clear hr hm hb h hml
  go_enter Tryz.func187, Tryz.ntmps187
  go_wp2_with fail
  go_loopw [3, 11] (fun v i wr => ∃ (k : Nat), k ≤ ms.length ∧ i = .int .i64 k ∧ v = .int .i64 (Ent.wait (L.take k) : Nat) ∧ Hid (Ext g.w wr)) (fun _ i _ => ms.length - (intOf i).toNat)
  case atStart => exact ⟨0, Nat.zero_le _, rfl, rfl, Lib.hid (Ext.refl _)⟩
  case round =>
    obtain ⟨k, hk, rfl, rfl, HE⟩ := hrel
    by_cases hlt : k < ms.length
    · obtain ⟨q, o, hA, hq, g0, g1, g2, g3, g4, g5, g6, g7⟩ := ent_cells (HC.out.ext HE.out) hlt
      have hx := List.getElem?_eq_getElem hlt
      have hxe : L[k]? = some ms[k].e := by rw [← HM.out, List.getElem?_map, hx]; rfl
      have HS := Lib.hid (show Ent.wait (L.take (k + 1)) = Ent.wait (L.take k) + if waitB ms[k].e then 1 else 0 by
        unfold Ent.wait
        rw [List.take_add_one, hxe, List.countP_append]
        simp [List.countP_cons])
      have hw0 : Ent.wait (L.take k) ≤ k := Nat.le_trans List.countP_le_length (List.length_take_le _ _)
      generalize ms[k] = m at *
      generalize Ent.wait (L.take k) = n at *
      subst hA
      clear hx hxe
      cases hz : (m.e.state == 0)
      · have HN := Lib.hid (show Ent.wait (L.take (k + 1)) = n by rw [HS.out]; unfold waitB; rw [hz]; simp)
        go_wp2_with fail
        go_roundw
        case rel => exact ⟨k + 1, by omega, by go_num, by rw [HN.out], Lib.hid (HE.out.trans (by (repeat (first | (with_reducible (first | assumption | exact zR _ | exact zM _ _ _ _)) | apply zA | refine zS ?_ (by first | exact zL _ | exact zK _ _ | assumption) _ | apply zP | apply zD | apply zN))))⟩
        case measure => simp [intOf]; omega
      · have HN := Lib.hid (show Ent.wait (L.take (k + 1)) = n + 1 by rw [HS.out]; unfold waitB; rw [hz]; simp)
        go_wp2_with fail
        go_roundw
        case rel => exact ⟨k + 1, by omega, by go_num, by rw [HN.out]; go_num, Lib.hid (HE.out.trans (by (repeat (first | (with_reducible (first | assumption | exact zR _ | exact zM _ _ _ _)) | apply zA | refine zS ?_ (by first | exact zL _ | exact zK _ _ | assumption) _ | apply zP | apply zD | apply zN))))⟩
        case measure => simp [intOf]; omega
    · obtain rfl : k = ms.length := by omega
      have HN := Lib.hid (show L.take ms.length = L from List.take_of_length_le (by rw [HL.out]; exact Nat.le_refl _))
      go_wp2_with fail
      go_ret
      exact Gives.int (by rw [HN.out]; try rfl) HE.out
theorem line_new (t : Nat) (g : GW) : Calls Tryz.prog 76 #[] g.w (fun e w' => ∃ b, e = .returned (.pointer (some ⟨b, 0, none⟩)) ∧ Ext g.w w' ∧ LineAt (g.to t w') t b []) := by
  go_enter Tryz.func76, Tryz.ntmps76
  go_wp2_with fail
  go_ret
  exact ⟨_, rfl, by (repeat (first | (with_reducible (first | assumption | exact zR _ | exact zM _ _ _ _)) | apply zA | refine zS ?_ (by first | exact zL _ | exact zK _ _ | assumption) _ | apply zP | apply zD | apply zN)), ⟨none, 0, [], Blk.made (World.row_alloc_new _) (Nat.le_refl _), Row.nil _ _ _ _, rfl, by simp⟩, by simp⟩

def ReqOf (L : List Ent) (i : Int) (v : Value) (g' : GW) : Prop :=
  ∃ (r : List Value) (ok : Bool), v = .tuple #[.agg r.toArray, .bool ok] ∧ (i < 0 → ok = false ∧ r = [.int .i64 0, .int .i64 0, .int .i64 0, .int .i64 0, .int .i64 0, .int .i64 0, .slice none 0 0]) ∧
    (0 ≤ i → ok = true ∧ ∃ e A c, L[i.toNat]? = some e ∧ r = [.int .i64 e.thread, .int .i64 e.frags, .int .i64 e.spine, .int .i64 e.state, .int .i64 e.cycles, .int .i64 e.at_, .slice A e.got.length c] ∧ Row g' 0 3 1 (.slice A e.got.length c) e.got.length (e.got.map (Value.int .i64)))
set_option maxRecDepth 100000 in
theorem line_at (g : GW) (t b : Nat) (i : Int) (L : List Ent) (h : LineAt g t b L) (hi1 : i < L.length) :
    Calls Tryz.prog 147 #[.pointer (some ⟨b, 0, none⟩), .int .i64 i] g.w (Makes g (fun _ => False) (ReqOf L i)) := by
  by_cases h0 : i < 0
  · clear h hi1
    have HI := Lib.hid h0
    go_enter Tryz.func147, Tryz.ntmps147
    go_wp2_with fail
    refine bodyPost_ret (v := .tuple #[.agg #[.int .i64 0, .int .i64 0, .int .i64 0, .int .i64 0, .int .i64 0, .int .i64 0, .slice none 0 0], .bool false]) (by simp [results, Tryz.results147, go_sem]) rfl ?_
    exact ⟨_, _, rfl, Mod.ext (show Ext g.w _ by (repeat (first | (with_reducible (first | assumption | exact zR _ | exact zM _ _ _ _)) | apply zA | refine zS ?_ (by first | exact zL _ | exact zK _ _ | assumption) _ | apply zP | apply zD | apply zN))) 0, [.int .i64 0, .int .i64 0, .int .i64 0, .int .i64 0, .int .i64 0, .int .i64 0, .slice none 0 0], false, rfl, fun _ => ⟨rfl, rfl⟩, fun hh => by have := HI.out; omega⟩
  · obtain ⟨k, rfl⟩ := Int.eq_ofNat_of_zero_le (show 0 ≤ i by omega)
    obtain ⟨A, c, ms, hb, hr, hm, hat⟩ := h.ex
    have hml : ms.length = L.length := by rw [← hm, List.length_map]
    have hlen := h.len
    have c0 := hb.cell (i := 0) rfl
    have hbl := hb.lt
    have hkm : k < ms.length := by omega
    obtain ⟨q, o, hA, hq, g0, g1, g2, g3, g4, g5, g6, g7⟩ := ent_cells hr.cells hkm
    have hx := List.getElem?_eq_getElem hkm
    have hmm := hat _ (List.getElem_mem hkm)
    have HX := Lib.hid (show L[k]? = some ms[k].e by rw [← hm, List.getElem?_map, hx]; rfl)
    generalize ms[k] = m at *
    have HCl := Lib.hid (fun w' (he : Ext g.w w') => cloneIntN m.A m.cap m.e.got.length m.e.got 0 (g.to 9 w') rfl (hmm.seg.cells.ext he) (by have := hmm.len; omega))
    subst hA
    clear hr hm hat hmm hx hb h h0
    generalize L.length = n at *
    go_enter Tryz.func147, Tryz.ntmps147
    go_wp2_with fail
    refine (HCl.out _ (by (repeat (first | (with_reducible (first | assumption | exact zR _ | exact zM _ _ _ _)) | apply zA | refine zS ?_ (by first | exact zL _ | exact zK _ _ | assumption) _ | apply zP | apply zD | apply zN)))).mono ?_
    rintro e w1 ⟨A', c', rfl, m1, r1, he1, f1⟩
    have E1 := Lib.hid (show Ext _ w1 from he1)
    obtain ⟨q1, q2⟩ := two_blocks g.w (.cells #[.int .i64 0, .int .i64 0, .int .i64 0, .int .i64 0, .int .i64 0, .int .i64 0, .slice none 0 0] 175) (.cells #[.int .i64 m.e.thread, .int .i64 m.e.frags, .int .i64 m.e.spine, .int .i64 m.e.state, .int .i64 m.e.cycles, .int .i64 m.e.at_, .slice m.A m.e.got.length m.cap] 175)
    have B1 := Lib.hid ((Blk.made (g := g) (t := 9) q1 (Nat.le_refl _)).keep m1 id)
    have B2 := Lib.hid ((Blk.made (g := g) (t := 9) q2 (by omega)).keep m1 id)
    have R1 := Lib.hid r1
    have M1 := Lib.hid ((Mod.ext (T := fun _ => False) (show Ext g.w ((g.w.alloc (.cells #[.int .i64 0, .int .i64 0, .int .i64 0, .int .i64 0, .int .i64 0, .int .i64 0, .slice none 0 0] 175)).alloc (.cells #[.int .i64 m.e.thread, .int .i64 m.e.frags, .int .i64 m.e.spine, .int .i64 m.e.state, .int .i64 m.e.cycles, .int .i64 m.e.at_, .slice m.A m.e.got.length m.cap] 175)) by (repeat (first | (with_reducible (first | assumption | exact zR _ | exact zM _ _ _ _)) | apply zA | refine zS ?_ (by first | exact zL _ | exact zK _ _ | assumption) _ | apply zP | apply zD | apply zN))) 9).trans m1)
    clear q1 q2 m1 r1 he1 f1
    obtain ⟨d0, d1, d2, d3, d4, d5, d6, dl⟩ := B1.out.c7
    have df0 := B1.out.live 0
    have df1 := B1.out.live 1
    have df2 := B1.out.live 2
    have df3 := B1.out.live 3
    have df4 := B1.out.live 4
    have df5 := B1.out.live 5
    have df6 := B1.out.live 6
    (try simp only [GW.to] at d0 d1 d2 d3 d4 d5 d6 df0 df1 df2 df3 df4 df5 df6 dl)
    obtain ⟨e0, e1, e2, e3, e4, e5, e6, el⟩ := B2.out.c7
    have ef6 := B2.out.live 6
    (try simp only [GW.to] at e0 e1 e2 e3 e4 e5 e6 ef6 el)
    go_wp2_with fail
    refine bodyPost_ret (v := .tuple #[.agg #[.int .i64 m.e.thread, .int .i64 m.e.frags, .int .i64 m.e.spine, .int .i64 m.e.state, .int .i64 m.e.cycles, .int .i64 m.e.at_, .slice A' m.e.got.length c'], .bool true]) (by simp [results, Tryz.results147, go_sem, d0, d1, d2, d3, d4, d5, d6]) rfl ?_
    have M9 : Mod (fun _ => False) g ⟨_, _⟩ := Mod.stn (Mod.stn (Mod.stn (Mod.stn (Mod.stn (Mod.stn (Mod.stn (Mod.stn (b := g.w.heap.size + 1) (i := 6) (v := .slice A' m.e.got.length c') M1.out (by omega)) (b := g.w.heap.size) (i := 0) (v := .int .i64 m.e.thread) (by omega)) (b := g.w.heap.size) (i := 1) (v := .int .i64 m.e.frags) (by omega)) (b := g.w.heap.size) (i := 2) (v := .int .i64 m.e.spine) (by omega)) (b := g.w.heap.size) (i := 3) (v := .int .i64 m.e.state) (by omega)) (b := g.w.heap.size) (i := 4) (v := .int .i64 m.e.cycles) (by omega)) (b := g.w.heap.size) (i := 5) (v := .int .i64 m.e.at_) (by omega)) (b := g.w.heap.size) (i := 6) (v := .slice A' m.e.got.length c') (by omega)
    have T9 : Mod (fun x => x = 9) ⟨_, w1⟩ ⟨_, _⟩ := Mod.st (Mod.st (Mod.st (Mod.st (Mod.st (Mod.st (Mod.st (Mod.st (b := g.w.heap.size + 1) (i := 6) (v := .slice A' m.e.got.length c') (Mod.refl _ _) B2.out.own) (b := g.w.heap.size) (i := 0) (v := .int .i64 m.e.thread) B1.out.own) (b := g.w.heap.size) (i := 1) (v := .int .i64 m.e.frags) B1.out.own) (b := g.w.heap.size) (i := 2) (v := .int .i64 m.e.spine) B1.out.own) (b := g.w.heap.size) (i := 3) (v := .int .i64 m.e.state) B1.out.own) (b := g.w.heap.size) (i := 4) (v := .int .i64 m.e.cycles) B1.out.own) (b := g.w.heap.size) (i := 5) (v := .int .i64 m.e.at_) B1.out.own) (b := g.w.heap.size) (i := 6) (v := .slice A' m.e.got.length c') B1.out.own
    refine ⟨_, _, rfl, M9, [.int .i64 m.e.thread, .int .i64 m.e.frags, .int .i64 m.e.spine, .int .i64 m.e.state, .int .i64 m.e.cycles, .int .i64 m.e.at_, .slice A' m.e.got.length c'], true, rfl, fun hh => by omega, fun _ => ⟨rfl, m.e, A', c', by rw [Int.toNat_natCast]; exact HX.out, rfl, R1.out.keep T9 (by decide)⟩⟩
theorem line_Of (g : GW) (t b : Nat) (th : Int) (L : List Ent) (h : LineAt g t b L) :
    Calls Tryz.prog 112 #[.pointer (some ⟨b, 0, none⟩), .int .i64 th] g.w (Makes g (fun _ => False) (ReqOf L (placeOf (ofB th) L))) := by
  have HO := Lib.hid (fun g' (m : Mod (fun _ => False) g g') => line_of g' t b th L (h.keep m id id))
  have HA := Lib.hid (fun g' (m : Mod (fun _ => False) g g') => line_at g' t b (placeOf (ofB th) L) L (h.keep m id id) (placeOf_bd _ _).2)
  generalize placeOf (ofB th) L = i at *
  clear h
  go_enter Tryz.func112, Tryz.ntmps112
  go_wp2_with fail
  have hE0 : Ext g.w (g.w.alloc (.cells #[.int .i64 0, .int .i64 0, .int .i64 0, .int .i64 0, .int .i64 0, .int .i64 0, .slice none 0 0] 175)) := by (repeat (first | (with_reducible (first | assumption | exact zR _ | exact zM _ _ _ _)) | apply zA | refine zS ?_ (by first | exact zL _ | exact zK _ _ | assumption) _ | apply zP | apply zD | apply zN))
  have B0 := Lib.hid (Blk.new g 9 175 [.int .i64 0, .int .i64 0, .int .i64 0, .int .i64 0, .int .i64 0, .int .i64 0, .slice none 0 0])
  have M0 := Lib.hid (Mod.ext (T := fun _ => False) hE0 9)
  clear hE0
  refine (HO.out (g.to 9 (g.w.alloc (.cells #[.int .i64 0, .int .i64 0, .int .i64 0, .int .i64 0, .int .i64 0, .int .i64 0, .slice none 0 0] 175))) M0.out).mono ?_
  rintro e w1 ⟨rfl, hE1⟩
  have E1 := Lib.hid (show Ext (g.w.alloc (.cells #[.int .i64 0, .int .i64 0, .int .i64 0, .int .i64 0, .int .i64 0, .int .i64 0, .slice none 0 0] 175)) w1 from hE1)
  have N1 := Lib.hid (Mod.ext (T := fun _ => False) (g := g.to 9 (g.w.alloc (.cells #[.int .i64 0, .int .i64 0, .int .i64 0, .int .i64 0, .int .i64 0, .int .i64 0, .slice none 0 0] 175))) E1.out 0)
  have M1 := Lib.hid (M0.out.trans N1.out)
  have B1 := Lib.hid (B0.out.keep N1.out id)
  clear hE1
  go_wp2_with fail
  refine (HA.out _ M1.out).mono ?_
  rintro e w2 ⟨v, own2, rfl, m2, r, ok, rfl, hn, hp⟩
  have M2 := Lib.hid (M1.out.trans m2)
  have B2 := Lib.hid (B1.out.keep m2 id)
  clear m2 E1
  obtain ⟨d0, d1, d2, d3, d4, d5, d6, dl⟩ := B2.out.c7
  have df0 := B2.out.live 0
  have df1 := B2.out.live 1
  have df2 := B2.out.live 2
  have df3 := B2.out.live 3
  have df4 := B2.out.live 4
  have df5 := B2.out.live 5
  have df6 := B2.out.live 6
  (try simp only [GW.to] at d0 d1 d2 d3 d4 d5 d6 df0 df1 df2 df3 df4 df5 df6 dl)
  by_cases h0 : i < 0
  · obtain ⟨rfl, rfl⟩ := hn h0
    have HN := Lib.hid hp
    have H0 := Lib.hid h0
    clear hn hp h0
    go_wp2_with fail
    refine bodyPost_ret (v := .tuple #[.agg #[.int .i64 0, .int .i64 0, .int .i64 0, .int .i64 0, .int .i64 0, .int .i64 0, .slice none 0 0], .bool false]) (by simp [results, Tryz.results112, go_sem, d0, d1, d2, d3, d4, d5, d6]) rfl ?_
    have M9 : Mod (fun _ => False) g ⟨own2, _⟩ := Mod.stn (Mod.stn (Mod.stn (Mod.stn (Mod.stn (Mod.stn (Mod.stn (b := g.w.heap.size) (i := 0) (v := .int .i64 0) M2.out (Nat.le_refl _)) (b := g.w.heap.size) (i := 1) (v := .int .i64 0) (Nat.le_refl _)) (b := g.w.heap.size) (i := 2) (v := .int .i64 0) (Nat.le_refl _)) (b := g.w.heap.size) (i := 3) (v := .int .i64 0) (Nat.le_refl _)) (b := g.w.heap.size) (i := 4) (v := .int .i64 0) (Nat.le_refl _)) (b := g.w.heap.size) (i := 5) (v := .int .i64 0) (Nat.le_refl _)) (b := g.w.heap.size) (i := 6) (v := .slice none 0 0) (Nat.le_refl _)
    exact ⟨_, _, rfl, M9, [.int .i64 0, .int .i64 0, .int .i64 0, .int .i64 0, .int .i64 0, .int .i64 0, .slice none 0 0], false, rfl, fun _ => ⟨rfl, rfl⟩, fun hh => by have := H0.out; omega⟩
  · obtain ⟨rfl, e, A', c', hL, rfl, hr⟩ := hp (by omega)
    have HL := Lib.hid hL
    have HR := Lib.hid hr
    have H0 := Lib.hid h0
    clear hn hL hr h0
    go_wp2_with fail
    refine bodyPost_ret (v := .tuple #[.agg #[.int .i64 e.thread, .int .i64 e.frags, .int .i64 e.spine, .int .i64 e.state, .int .i64 e.cycles, .int .i64 e.at_, .slice A' e.got.length c'], .bool true]) (by simp [results, Tryz.results112, go_sem, d0, d1, d2, d3, d4, d5, d6]) rfl ?_
    have M9 : Mod (fun _ => False) g ⟨own2, _⟩ := Mod.stn (Mod.stn (Mod.stn (Mod.stn (Mod.stn (Mod.stn (Mod.stn (b := g.w.heap.size) (i := 0) (v := .int .i64 e.thread) M2.out (Nat.le_refl _)) (b := g.w.heap.size) (i := 1) (v := .int .i64 e.frags) (Nat.le_refl _)) (b := g.w.heap.size) (i := 2) (v := .int .i64 e.spine) (Nat.le_refl _)) (b := g.w.heap.size) (i := 3) (v := .int .i64 e.state) (Nat.le_refl _)) (b := g.w.heap.size) (i := 4) (v := .int .i64 e.cycles) (Nat.le_refl _)) (b := g.w.heap.size) (i := 5) (v := .int .i64 e.at_) (Nat.le_refl _)) (b := g.w.heap.size) (i := 6) (v := .slice A' e.got.length c') (Nat.le_refl _)
    have T9 : Mod (fun x => x = 9) ⟨own2, w2⟩ ⟨own2, _⟩ := Mod.st (Mod.st (Mod.st (Mod.st (Mod.st (Mod.st (Mod.st (b := g.w.heap.size) (i := 0) (v := .int .i64 e.thread) (Mod.refl _ _) B2.out.own) (b := g.w.heap.size) (i := 1) (v := .int .i64 e.frags) B2.out.own) (b := g.w.heap.size) (i := 2) (v := .int .i64 e.spine) B2.out.own) (b := g.w.heap.size) (i := 3) (v := .int .i64 e.state) B2.out.own) (b := g.w.heap.size) (i := 4) (v := .int .i64 e.cycles) B2.out.own) (b := g.w.heap.size) (i := 5) (v := .int .i64 e.at_) B2.out.own) (b := g.w.heap.size) (i := 6) (v := .slice A' e.got.length c') B2.out.own
    exact ⟨_, _, rfl, M9, [.int .i64 e.thread, .int .i64 e.frags, .int .i64 e.spine, .int .i64 e.state, .int .i64 e.cycles, .int .i64 e.at_, .slice A' e.got.length c'], true, rfl, fun hh => by have := H0.out; omega, fun _ => ⟨rfl, e, A', c', HL.out, rfl, HR.out.keep T9 (by decide)⟩⟩
theorem infoEnt : (Tryz.prog.info? 218).map (fun i => (i.zero, i.size, i.bytes)) = some (some (.agg #[.int .i64 0, .int .i64 0, .int .i64 0, .int .i64 0, .int .i64 0, .int .i64 0, .slice none 0 0, .bool false]), 8, 80) := by kernel_rfl
def Ent.asked (th fr sp : Int) : Ent := ⟨th, fr, sp, 0, 0, -1, [], false⟩
set_option maxRecDepth 100000 in
theorem line_add (g : GW) (t b : Nat) (th fr sp : Int) (L : List Ent) (h : LineAt g t b L) (hno : placeOf (ofB th) L < 0) (hn : L.length < 1000000) (ht : t ≠ 0 ∧ t ≠ 9 ∧ t + 1 ≠ 9) :
    Calls Tryz.prog 168 #[.pointer (some ⟨b, 0, none⟩), .agg #[.int .i64 th, .int .i64 fr, .int .i64 sp, .int .i64 0, .int .i64 0, .int .i64 0, .slice none 0 0]] g.w (Does (.bool true) g (fun x => x = t) (fun g' => LineAt g' t b (L ++ [Ent.asked th fr sp]))) := by
  obtain ⟨i0, hi, hz0, hz1, hz2⟩ := info_parts infoEnt
  have HO := Lib.hid (fun g' (m : Mod (fun _ => False) g g') => line_of g' t b th L (h.keep m id id))
  obtain ⟨A, c, ms, hb, hr, hm, hat⟩ := h.ex
  have H := Lib.hid h
  have HB := Lib.hid hb
  have HR := Lib.hid hr
  have HM := Lib.hid hm
  have HAT := Lib.hid hat
  have HT := Lib.hid ht
  generalize placeOf (ofB th) L = i at *
  generalize hnl : L.length = n at *
  have HNL := Lib.hid hnl
  have hd : decide ((0 : Int) ≤ i) = false := decide_eq_false (by omega)
  clear h hb hr hm hat hnl ht
  go_enter Tryz.func168, Tryz.ntmps168
  go_wp2_with fail
  have hE0 : Ext g.w (g.w.alloc (.cells #[.int .i64 th, .int .i64 fr, .int .i64 sp, .int .i64 0, .int .i64 0, .int .i64 0, .slice none 0 0] 175)) := by (repeat (first | (with_reducible (first | assumption | exact zR _ | exact zM _ _ _ _)) | apply zA | refine zS ?_ (by first | exact zL _ | exact zK _ _ | assumption) _ | apply zP | apply zD | apply zN))
  have B0 := Lib.hid (Blk.new g 9 175 [.int .i64 th, .int .i64 fr, .int .i64 sp, .int .i64 0, .int .i64 0, .int .i64 0, .slice none 0 0])
  have M0 := Lib.hid (Mod.ext (T := fun _ => False) hE0 9)
  clear hE0
  refine (HO.out (g.to 9 (g.w.alloc (.cells #[.int .i64 th, .int .i64 fr, .int .i64 sp, .int .i64 0, .int .i64 0, .int .i64 0, .slice none 0 0] 175))) M0.out).mono ?_
  rintro e w1 ⟨rfl, hE1⟩
  have E1 := Lib.hid (show Ext (g.w.alloc (.cells #[.int .i64 th, .int .i64 fr, .int .i64 sp, .int .i64 0, .int .i64 0, .int .i64 0, .slice none 0 0] 175)) w1 from hE1)
  have N1 := Lib.hid (Mod.ext (T := fun _ => False) (g := g.to 9 (g.w.alloc (.cells #[.int .i64 th, .int .i64 fr, .int .i64 sp, .int .i64 0, .int .i64 0, .int .i64 0, .slice none 0 0] 175))) E1.out 0)
  obtain ⟨own1, m1, b1⟩ : ∃ own1, Mod (fun _ => False) g ⟨own1, w1⟩ ∧ Blk ⟨own1, w1⟩ 9 g.w.heap.size 175 [.int .i64 th, .int .i64 fr, .int .i64 sp, .int .i64 0, .int .i64 0, .int .i64 0, .slice none 0 0] := ⟨_, M0.out.trans N1.out, B0.out.keep N1.out id⟩
  have M1 := Lib.hid m1
  have B1 := Lib.hid b1
  have L1 := Lib.hid (HB.out.keep m1 id)
  clear hE1 E1 m1 b1 B0 M0 N1
  obtain ⟨d0, d1, d2, d3, d4, d5, d6, dl⟩ := B1.out.c7
  have df3 := B1.out.live 3
  have df4 := B1.out.live 4
  have df5 := B1.out.live 5
  have df6 := B1.out.live 6
  (try simp only [GW.to] at d0 d1 d2 d3 d4 d5 d6 df3 df4 df5 df6 dl)
  have e0 := L1.out.cell (i := 0) rfl
  have ef0 := L1.out.live 0
  have el := L1.out.lt
  (try simp only [GW.to] at e0 ef0 el)
  have hne : g.w.heap.size ≠ b := B1.out.ne L1.out (fun e => HT.out.2.1 e.symm)
  have hne' : b ≠ g.w.heap.size := fun e => hne e.symm
  go_wp2_with fail
  have m9 : Mod (fun _ => False) g ⟨own1, _⟩ := Mod.stn (Mod.stn (Mod.stn (Mod.stn (b := g.w.heap.size) (i := 3) (v := .int .i64 0) M1.out (Nat.le_refl _)) (b := g.w.heap.size) (i := 4) (v := .int .i64 0) (Nat.le_refl _)) (b := g.w.heap.size) (i := 5) (v := .int .i64 (-1)) (Nat.le_refl _)) (b := g.w.heap.size) (i := 6) (v := .slice none 0 0) (Nat.le_refl _)
  have b9 : Blk ⟨own1, (((w1.setCell ⟨g.w.heap.size, 3, none⟩ (.int .i64 0)).setCell ⟨g.w.heap.size, 4, none⟩ (.int .i64 0)).setCell ⟨g.w.heap.size, 5, none⟩ (.int .i64 (-1))).setCell ⟨g.w.heap.size, 6, none⟩ (.slice none 0 0)⟩ 9 g.w.heap.size 175 [.int .i64 th, .int .i64 fr, .int .i64 sp, .int .i64 0, .int .i64 0, .int .i64 (-1), .slice none 0 0] := (((B1.out.set 3 (.int .i64 0)).set 4 (.int .i64 0)).set 5 (.int .i64 (-1))).set 6 (.slice none 0 0)
  generalize (((w1.setCell ⟨g.w.heap.size, 3, none⟩ (.int .i64 0)).setCell ⟨g.w.heap.size, 4, none⟩ (.int .i64 0)).setCell ⟨g.w.heap.size, 5, none⟩ (.int .i64 (-1))).setCell ⟨g.w.heap.size, 6, none⟩ (.slice none 0 0) = W at *
  have M9 := Lib.hid m9
  have B9 := Lib.hid b9
  have L9 := Lib.hid (HB.out.keep m9 id)
  have R9 := Lib.hid (HR.out.keep m9 id)
  have A9 := Lib.hid (fun m hm => (HAT.out m hm).keep m9 id)
  clear m9 b9 d0 d1 d2 d3 d4 d5 d6 df3 df4 df5 df6 dl e0 ef0 el M1 B1 L1
  obtain ⟨d0, d1, d2, d3, d4, d5, d6, dl⟩ := B9.out.c7
  (try simp only [GW.to] at d0 d1 d2 d3 d4 d5 d6 dl)
  have e0 := L9.out.cell (i := 0) rfl
  have ef0 := L9.out.live 0
  have el := L9.out.lt
  (try simp only [GW.to] at e0 ef0 el)
  have hrow := Lib.hid (show ∀ x, (Value.slice A n c).ownBlock = some x → b ≠ x from fun x hx => R9.out.ne_type L9.out (by decide) hx)
  have hnb := Lib.hid (show some b ≠ (Value.slice A n c).ownBlock from fun e => hrow.out b e.symm rfl)
  have hnx := Lib.hid (show some g.w.heap.size ≠ (Value.slice A n c).ownBlock from fun e => R9.out.ne_type B9.out (by decide) e.symm rfl)
  have fc := fun o => (show ((W.alloc o).drew).cell? ⟨b, 0, none⟩ = some (.slice A n c) from (World.cell?_alloc_past _ _ _ el).trans e0)
  have fz := fun o => (show ((W.alloc o).drew).frozen? ⟨b, 0, none⟩ = false from (World.frozen?_alloc_past _ _ _ el).trans ef0)
  go_region_law ((refine step_append_lies _ (by rfl) _ _ _ (by rfl) 0 218 i0 _ 8 80 Tryz.underlying189 hi hz0 hz1 hz2 rfl (by omega) (.slice A n c) n (ms.flatMap EntM.cells) (by rfl) ((R9.out.row.alloc _).drew) ⟨W.heap.size, 0, none⟩ 1 1 [.int .i64 th, .int .i64 fr, .int .i64 sp, .int .i64 0, .int .i64 0, .int .i64 (-1), .slice none 0 0, .bool false] (by rfl) (by rfl) (World.news_of_block (cs := #[.int .i64 th, .int .i64 fr, .int .i64 sp, .int .i64 0, .int .i64 0, .int .i64 (-1), .slice none 0 0, .bool false]) (t := 218) (fr := (0, 0)) (heap_alloc_new W _)) (by simp [Value.oneCell']) (by omega) (by unfold maxLen; omega) (by omega) (Nat.zero_le _) (W.heap.size + 1) (by simp) ?_; intro gg cap w2 hown hgrow hat hlt; have y0 := (hgrow.cell_far ⟨b, 0, none⟩ (by simp; omega) hnb.out).trans (fc _); have yf0 := (hgrow.frozen_far ⟨b, 0, none⟩ (by simp; omega) hnb.out).trans (fz _)))
  all_goals
    go_wp2_with fail
    go_ret
    have hEd : Ext W ((W.alloc (.cells #[.int .i64 th, .int .i64 fr, .int .i64 sp, .int .i64 0, .int .i64 0, .int .i64 (-1), .slice none 0 0, .bool false] 218)).drew) := by (repeat (first | (with_reducible (first | assumption | exact zR _ | exact zM _ _ _ _)) | apply zA | refine zS ?_ (by first | exact zL _ | exact zK _ _ | assumption) _ | apply zP | apply zD | apply zN))
    have hat' : (Value.slice (some ⟨gg, 0, none⟩) (n + 1) cap).ownBlock = (Value.slice A n c).ownBlock ∨ (Value.slice (some ⟨gg, 0, none⟩) (n + 1) cap).ownBlock = some ((W.alloc (.cells #[.int .i64 th, .int .i64 fr, .int .i64 sp, .int .i64 0, .int .i64 0, .int .i64 (-1), .slice none 0 0, .bool false] 218)).drew).heap.size := by
      rcases hat with e | e
      · exact Or.inl e.symm
      · refine Or.inr ?_
        rw [e]
        show some (W.heap.size + 1) = some (W.alloc _).heap.size
        rw [World.size_alloc]
    have q1 : Mod (fun x => x = t) (⟨own1, W⟩ : GW) ((⟨own1, W⟩ : GW).to 9 ((W.alloc (.cells #[.int .i64 th, .int .i64 fr, .int .i64 sp, .int .i64 0, .int .i64 0, .int .i64 (-1), .slice none 0 0, .bool false] 218)).drew)) := Mod.ext hEd 9
    have q2 := Mod.grown (T := fun x => x = t) (g := (⟨own1, W⟩ : GW).to 9 ((W.alloc (.cells #[.int .i64 th, .int .i64 fr, .int .i64 sp, .int .i64 0, .int .i64 0, .int .i64 (-1), .slice none 0 0, .bool false] 218)).drew)) hgrow t (fun k hk hl => (R9.out.ext hEd 9).own k hk)
    have q3 := (R9.out.ext hEd 9).grown (g := (⟨own1, W⟩ : GW).to 9 ((W.alloc (.cells #[.int .i64 th, .int .i64 fr, .int .i64 sp, .int .i64 0, .int .i64 0, .int .i64 (-1), .slice none 0 0, .bool false] 218)).drew)) hown hat'
    have q4 := (L9.out.ext hEd 9).grown (t' := t) (g := (⟨own1, W⟩ : GW).to 9 ((W.alloc (.cells #[.int .i64 th, .int .i64 fr, .int .i64 sp, .int .i64 0, .int .i64 0, .int .i64 (-1), .slice none 0 0, .bool false] 218)).drew)) hgrow (fun x hx => hrow.out x hx)
    have q5 := ((M9.out.mono (fun x hx => hx.elim)).trans q1).trans q2
    have q6 := fun m hm => ((A9.out m hm).keep q1 (by have := HT.out; omega)).keep q2 (by have := HT.out; omega)
    refine Does.of ⟨_, _⟩ rfl rfl (Mod.st q5 q4.own) ⟨⟨some ⟨gg, 0, none⟩, cap, ms ++ [⟨Ent.asked th fr sp, none, 0⟩], ?_, ?_, ?_, ?_⟩, ?_⟩
    · simp only [List.length_append, HNL.out]
      exact q4.set 0 _
    · simp only [List.length_append, HNL.out]
      exact (q3.setOther 0 _ (fun x hx => q3.ne_type q4 (by decide) hx)).weak rfl (by rw [List.flatMap_append]; rfl)
    · rw [List.map_append, HM.out]; rfl
    · intro m hm
      rcases List.mem_append.1 hm with hm | hm
      · exact (q6 m hm).keep (S := fun x => x = t) (Mod.set (b := b) (by exact q4.own)) (by show ¬ (t + 1 = t); omega)
      · simp only [List.mem_singleton] at hm
        subst hm
        exact ⟨Seg.nil _ _ _, by simp [Ent.asked]⟩
    · simp only [List.length_append, HNL.out, List.length_singleton]; omega
end Go.Proofs.YtoaehfdjffejeaaGreat

/-
  conf.Copy.
-/
namespace Go.Proofs.YtoaehfdjffejeaaGreat
open Go Go.RowKit
set_option linter.unusedVariables false
set_option linter.unnecessarySimpa false
set_option linter.unusedSimpArgs false
set_option maxHeartbeats 2000000
theorem infoShape : (Tryz.prog.info? 73).map (fun i => (i.zero, i.size, i.bytes)) = some (some (.agg #[.bool false, .slice none 0 0]), 2, 32) := by kernel_rfl
def Copied (c : Cnf) (t : Nat) (g : GW) (e : Ending) (w' : World) : Prop := ∃ c' : Cnf, e = .returned c'.val ∧ c'.Same c ∧ CnfAt (g.to t w') t c' ∧ Ext g.w w'
set_option maxRecDepth 100000 in
theorem copy_any (c : Cnf) (t : Nat) (g : GW) (hc : c.Ok g.w) (hmax : c.shapes.length ≤ 1000000) : Calls Tryz.prog 44 #[c.val] g.w (Copied c t g) := by
  obtain ⟨i0, hi, hz0, hz1, hz2⟩ := info_parts infoShape
  have HC := Lib.hid hc
  unfold Cnf.val
  clear hc
  go_enter Tryz.func44, Tryz.ntmps44
  go_wp2_with fail
  obtain ⟨q1, q2⟩ := two_blocks g.w (.cells #[.int .i64 c.frags, .int .i64 c.spine, .int .i64 c.globals, .int .i64 c.threads, .int .i64 c.locals, .int .i64 c.cache, .int .i64 c.stack, .int .i64 c.low, .slice c.A c.shapes.length c.cap] 46) (.cells #[.int .i64 0, .int .i64 0, .int .i64 0, .int .i64 0, .int .i64 0, .int .i64 0, .int .i64 0, .int .i64 0, .slice none 0 0] 46)
  have HB1 := Lib.hid (Blk.made (g := g) (t := 9) q1 (Nat.le_refl _))
  have HB2 := Lib.hid (Blk.made (g := g) (t := 9) q2 (by omega))
  have HE := Lib.hid (Mod.ext (T := fun _ => False) (show Ext g.w ((g.w.alloc (.cells #[.int .i64 c.frags, .int .i64 c.spine, .int .i64 c.globals, .int .i64 c.threads, .int .i64 c.locals, .int .i64 c.cache, .int .i64 c.stack, .int .i64 c.low, .slice c.A c.shapes.length c.cap] 46)).alloc (.cells #[.int .i64 0, .int .i64 0, .int .i64 0, .int .i64 0, .int .i64 0, .int .i64 0, .int .i64 0, .int .i64 0, .slice none 0 0] 46)) by (repeat (first | (with_reducible (first | assumption | exact zR _ | exact zM _ _ _ _)) | apply zA | refine zS ?_ (by first | exact zL _ | exact zK _ _ | assumption) _ | apply zP | apply zD | apply zN))) 9)
  clear q1 q2
  have HMX := Lib.hid hmax
  generalize hnl : c.shapes.length = nl at *
  have HNL := Lib.hid hnl
  clear hnl
  go_loopw [3, 9] (fun v i wr => ∃ (k : Nat) (own : Nat → Nat) (ss : List Shp), k ≤ nl ∧ i = .int .i64 k ∧ Hid (ss.map Shp.data = (c.shapes.take k).map Shp.data) ∧ Hid (Mod (fun _ => False) g ⟨own, wr⟩) ∧ Hid (∀ s ∈ ss, ShpAt ⟨own, wr⟩ 1 s ∧ ∀ a, s.A = some a → g.w.heap.size ≤ a.block) ∧ Hid (Mine g ⟨own, wr⟩ 73 2 v k (ss.flatMap Shp.cells)) ∧
    Hid (Blk ⟨own, wr⟩ 9 g.w.heap.size 46 [.int .i64 c.frags, .int .i64 c.spine, .int .i64 c.globals, .int .i64 c.threads, .int .i64 c.locals, .int .i64 c.cache, .int .i64 c.stack, .int .i64 c.low, .slice c.A nl c.cap]) ∧ Hid (Blk ⟨own, wr⟩ 9 (g.w.heap.size + 1) 46 [.int .i64 0, .int .i64 0, .int .i64 0, .int .i64 0, .int .i64 0, .int .i64 0, .int .i64 0, .int .i64 0, .slice none 0 0])) (fun _ i _ => nl - (intOf i).toNat)
  case atStart => exact ⟨0, _, [], Nat.zero_le _, rfl, Lib.hid rfl, HE, Lib.hid (by simp), Lib.hid (Mine.nil _ _ _ _), HB1, HB2⟩
  case round =>
    obtain ⟨k, own, ss, hk, rfl, HS, M, HA, R, B1, B2⟩ := hrel
    clear HE HB1 HB2
    obtain ⟨A5, c5, hv5⟩ := own_form R.out.row.row
    subst hv5
    by_cases hlt : k < nl
    · obtain ⟨b, o, hA, hb, g0, g1⟩ := shapes_at (HC.out.cells.ext M.out.toExt) (k := k) (by rw [HNL.out]; exact hlt)
      have hsk := (HC.out.shapes _ (List.getElem_mem (by rw [HNL.out]; exact hlt : k < c.shapes.length))).ext M.out.toExt
      have hx := List.getElem?_eq_getElem (by rw [HNL.out]; exact hlt : k < c.shapes.length)
      generalize c.shapes[k]'(by rw [HNL.out]; exact hlt) = s at *
      have HSK := Lib.hid (fun w' (he : Ext wr w') => copied_any s w' (hsk.ext he))
      have HX := Lib.hid hx
      obtain ⟨arr, As, caps, refs⟩ := s
      unfold Shp.val at HSK
      simp only at g0 g1 HSK hb
      rw [hA] at B1 ⊢
      clear hx hsk hA
      go_wp2_with fail
      refine (HSK.out _ (by (repeat (first | (with_reducible (first | assumption | exact zR _ | exact zM _ _ _ _)) | apply zA | refine zS ?_ (by first | exact zL _ | exact zK _ _ | assumption) _ | apply zP | apply zD | apply zN)))).mono ?_
      rintro e w1 ⟨s', rfl, ha, hr, hfr, hok, hE1⟩
      obtain ⟨arr', A', cap', refs'⟩ := s'
      simp only at ha hr hfr hok
      obtain rfl := ha
      obtain rfl := hr
      have E1 := Lib.hid (show Ext wr w1 from (show Ext wr _ by (repeat (first | (with_reducible (first | assumption | exact zR _ | exact zM _ _ _ _)) | apply zA | refine zS ?_ (by first | exact zL _ | exact zK _ _ | assumption) _ | apply zP | apply zD | apply zN))).trans hE1)
      have O1 := Lib.hid hok
      have F1 := Lib.hid (show ∀ a, A' = some a → wr.heap.size ≤ a.block from fun a ha => Nat.le_trans (by go_simp) (hfr a ha))
      have N1 := Lib.hid (show Mod (fun _ => False) ⟨own, wr⟩ ((⟨own, wr⟩ : GW).to 1 w1) from Mod.ext E1.out 1)
      have M1 := Lib.hid (M.out.trans N1.out)
      have R1 := Lib.hid (R.out.keep N1.out id)
      clear hE1 hok hfr g0 g1 hb
      go_wp2_with (at_builtin; refine wpList_append_own_at _ rfl (.tmp 13) (.tmp 16) 44 rfl 0 73 i0 _ 2 32 Tryz.underlying44 hi hz0 hz1 hz2 rfl (by decide) _ _ _ rfl (R1.out.row.row.alloc _) ⟨w1.heap.size, 0, none⟩ 1 1 [.bool arr', .slice A' refs'.length cap'] rfl rfl (news_new _ _ _) (by intro u hu; simp at hu; rcases hu with rfl | rfl <;> rfl) (by unfold maxLen; omega) (by omega) (Nat.zero_le _) ?_; intro v2 w2 hown hgrow hnil hat)
      obtain ⟨own2, m2, r2, k2⟩ := R1.out.app M1.out (Ext.alloc (Ext.refl _) _) hown hgrow hat
      have M2 := Lib.hid m2
      have R2 := Lib.hid r2
      have K2 := Lib.hid k2
      clear m2 r2 k2 hown hgrow hnil hat
      go_wp2_with fail
      go_roundw
      case rel =>
        refine ⟨k + 1, own2, ss ++ [⟨arr', A', cap', refs'⟩], by omega, by go_num, Lib.hid ?_, M2, Lib.hid ?_, Lib.hid ⟨R2.out.row.weak rfl (by rw [List.flatMap_append]; rfl), R2.out.new⟩, Lib.hid ((B1.out.keep N1.out id).keep K2.out (by decide)), Lib.hid ((B2.out.keep N1.out id).keep K2.out (by decide))⟩
        · rw [List.map_append, HS.out, List.take_add_one, HX.out, List.map_append]; rfl
        · intro s hs
          rcases List.mem_append.1 hs with hs | hs
          · exact ⟨((HA.out s hs).1.keep N1.out id).keep K2.out (by decide), (HA.out s hs).2⟩
          · simp only [List.mem_singleton] at hs
            subst hs
            exact ⟨ShpAt.keep (g := (⟨own, wr⟩ : GW).to 1 w1) ⟨⟨O1.out.refs, fun a ha _ => GW.to_new (F1.out a ha)⟩, O1.out.len, O1.out.max⟩ K2.out (by decide), fun a ha => Nat.le_trans M.out.size (F1.out a ha)⟩
      case measure => simp [intOf]; omega
    · obtain rfl : k = nl := by omega
      have c0 := B1.out.cell (i := 0) rfl
      have c1 := B1.out.cell (i := 1) rfl
      have c2 := B1.out.cell (i := 2) rfl
      have c3 := B1.out.cell (i := 3) rfl
      have c4 := B1.out.cell (i := 4) rfl
      have c5' := B1.out.cell (i := 5) rfl
      have c6 := B1.out.cell (i := 6) rfl
      have c7 := B1.out.cell (i := 7) rfl
      have c8 := B1.out.cell (i := 8) rfl
      have f8 := B1.out.live 8
      have d0 := B2.out.cell (i := 0) rfl
      have d1 := B2.out.cell (i := 1) rfl
      have d2 := B2.out.cell (i := 2) rfl
      have d3 := B2.out.cell (i := 3) rfl
      have d4 := B2.out.cell (i := 4) rfl
      have d5 := B2.out.cell (i := 5) rfl
      have d6 := B2.out.cell (i := 6) rfl
      have d7 := B2.out.cell (i := 7) rfl
      have d8 := B2.out.cell (i := 8) rfl
      have e0 := B2.out.live 0
      have e1 := B2.out.live 1
      have e2 := B2.out.live 2
      have e3 := B2.out.live 3
      have e4 := B2.out.live 4
      have e5 := B2.out.live 5
      have e6 := B2.out.live 6
      have e7 := B2.out.live 7
      have e8 := B2.out.live 8
      have l1 := B1.out.lt
      have l2 := B2.out.lt
      simp only at c0 c1 c2 c3 c4 c5' c6 c7 c8 f8 d0 d1 d2 d3 d4 d5 d6 d7 d8 e0 e1 e2 e3 e4 e5 e6 e7 e8 l1 l2
      go_wp2_with fail
      refine bodyPost_ret (v := .agg #[.int .i64 c.frags, .int .i64 c.spine, .int .i64 c.globals, .int .i64 c.threads, .int .i64 c.locals, .int .i64 c.cache, .int .i64 c.stack, .int .i64 c.low, .slice A5 k c5]) (by simp [results, Tryz.results44, go_sem, d0, d1, d2, d3, d4, d5, d6, d7, d8]) rfl ?_
      clear c0 c1 c2 c3 c4 c5' c6 c7 c8 f8 d0 d1 d2 d3 d4 d5 d6 d7 d8 e0 e1 e2 e3 e4 e5 e6 e7 e8
      have hss : ss.length = k := by have := congrArg List.length HS.out; simp only [List.length_map, List.length_take, HNL.out] at this; omega
      have M9 : Mod (fun _ => False) g ⟨own, _⟩ := Mod.stn (Mod.stn (Mod.stn (Mod.stn (Mod.stn (Mod.stn (Mod.stn (Mod.stn (Mod.stn (Mod.stn (b := g.w.heap.size) (i := 8) (v := .slice A5 k c5) M.out (Nat.le_refl _)) (b := g.w.heap.size + 1) (i := 0) (v := .int .i64 c.frags) (by omega)) (b := g.w.heap.size + 1) (i := 1) (v := .int .i64 c.spine) (by omega)) (b := g.w.heap.size + 1) (i := 2) (v := .int .i64 c.globals) (by omega)) (b := g.w.heap.size + 1) (i := 3) (v := .int .i64 c.threads) (by omega)) (b := g.w.heap.size + 1) (i := 4) (v := .int .i64 c.locals) (by omega)) (b := g.w.heap.size + 1) (i := 5) (v := .int .i64 c.cache) (by omega)) (b := g.w.heap.size + 1) (i := 6) (v := .int .i64 c.stack) (by omega)) (b := g.w.heap.size + 1) (i := 7) (v := .int .i64 c.low) (by omega)) (b := g.w.heap.size + 1) (i := 8) (v := .slice A5 k c5) (by omega)
      have T9 : Mod (fun x => x = 9) ⟨own, wr⟩ ⟨own, _⟩ := Mod.st (Mod.st (Mod.st (Mod.st (Mod.st (Mod.st (Mod.st (Mod.st (Mod.st (Mod.st (b := g.w.heap.size) (i := 8) (v := .slice A5 k c5) (Mod.refl _ _) B1.out.own) (b := g.w.heap.size + 1) (i := 0) (v := .int .i64 c.frags) B2.out.own) (b := g.w.heap.size + 1) (i := 1) (v := .int .i64 c.spine) B2.out.own) (b := g.w.heap.size + 1) (i := 2) (v := .int .i64 c.globals) B2.out.own) (b := g.w.heap.size + 1) (i := 3) (v := .int .i64 c.threads) B2.out.own) (b := g.w.heap.size + 1) (i := 4) (v := .int .i64 c.locals) B2.out.own) (b := g.w.heap.size + 1) (i := 5) (v := .int .i64 c.cache) B2.out.own) (b := g.w.heap.size + 1) (i := 6) (v := .int .i64 c.stack) B2.out.own) (b := g.w.heap.size + 1) (i := 7) (v := .int .i64 c.low) B2.out.own) (b := g.w.heap.size + 1) (i := 8) (v := .slice A5 k c5) B2.out.own
      refine ⟨⟨c.frags, c.spine, c.globals, c.threads, c.locals, c.cache, c.stack, c.low, A5, c5, ss⟩, by unfold Cnf.val; simp only [hss], ⟨rfl, rfl, rfl, rfl, rfl, rfl, rfl, rfl, by rw [HS.out, List.take_of_length_le (by rw [HNL.out]; exact Nat.le_refl _)]⟩, ?_, M9.toExt⟩
      have hR := R.out.keep T9 (by decide)
      refine ⟨⟨hR.row.cells, fun a ha _ => GW.to_new (hR.new a.block (by simp only at ha; rw [ha]; rfl))⟩, fun s hs => ?_, ?_, ?_⟩
      · obtain ⟨h1, h2⟩ := HA.out s hs
        have h3 := h1.keep T9 (by decide)
        exact ⟨⟨h3.seg.cells, fun a ha _ => GW.to_new (h2 a ha)⟩, h3.len, h3.max⟩
      · obtain ⟨A', c', hv, hn1, _⟩ := hR.row.form
        injection hv with _ _ hv
        subst hv
        simp only [hss]
        exact hn1
      · simp only [hss]; omega
end Go.Proofs.YtoaehfdjffejeaaGreat

