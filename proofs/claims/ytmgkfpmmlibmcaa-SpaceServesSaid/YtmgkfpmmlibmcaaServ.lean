/-
  spolaw21.SpaceServes.
-/
import Derived.Test.YtmgkfpmmlibmcaaServP
import Derived.Test.YtmgkfpmmlibmcaaMid
import Derived.Test.YtmgkfpmmlibmcaaSpOpen
import Derived.Test.YtmgkfpmmlibmcaaPlan1
namespace Go
open Go.RowKit
/-- The walk stops here. -/
def Held (p : Prop) : Prop := p
theorem held {p : Prop} (h : Held p) : p := h
/-- So many of the first list, then the second's. -/
def mixL {α : Type} (a b : List α) (k : Nat) : List α := a.take k ++ b.drop k
section
variable {α : Type} {a b : List α} {k : Nat}
theorem mixL_zero (a b : List α) : mixL a b 0 = b := by simp [mixL]
theorem mixL_all (h : a.length = b.length) : mixL a b b.length = a := by unfold mixL; rw [← h, List.take_length, h, List.drop_length, List.append_nil]
theorem mixL_len (h : a.length = b.length) : (mixL a b k).length = b.length := by unfold mixL; rw [List.length_append, List.length_take, List.length_drop]; omega
theorem mixL_get (h : a.length = b.length) (hk : k < b.length) : (mixL a b k)[k]? = b[k]? := by
  unfold mixL
  rw [List.getElem?_append_right (by rw [List.length_take]; omega), List.length_take, List.getElem?_drop]
  congr 1; omega
theorem mixL_set (h : a.length = b.length) (hk : k < b.length) (x : α) (hx : a[k]? = some x) : (mixL a b k).set k x = mixL a b (k + 1) := by
  apply List.ext_getElem?
  intro j
  rw [List.getElem?_set, mixL_len h]
  unfold mixL
  by_cases hj : k = j
  · subst hj
    rw [if_pos rfl, if_pos hk, List.getElem?_append_left (by rw [List.length_take]; omega), List.getElem?_take_of_lt (by omega), hx]
  · rw [if_neg hj]
    by_cases hjk : j < k
    · rw [List.getElem?_append_left (by rw [List.length_take]; omega), List.getElem?_append_left (by rw [List.length_take]; omega), List.getElem?_take_of_lt hjk, List.getElem?_take_of_lt (by omega)]
    · rw [List.getElem?_append_right (by rw [List.length_take]; omega), List.getElem?_append_right (by rw [List.length_take]; omega), List.getElem?_drop, List.getElem?_drop, List.length_take, List.length_take]
      congr 1; omega
theorem mixL_same (h : a.length = b.length) (hk : k < b.length) (hx : a[k]? = b[k]?) : mixL a b k = mixL a b (k + 1) := by
  have hb := List.getElem?_eq_getElem hk
  rw [← mixL_set h hk b[k] (hx.trans hb)]
  have hl : k < (mixL a b k).length := by rw [mixL_len h]; exact hk
  have h2 := mixL_get h hk
  rw [hb, List.getElem?_eq_getElem hl] at h2
  have h3 := Option.some.inj h2
  rw [← h3, List.set_getElem_self]
end
/-- Cut at the front, as the program does it: a row of one element keeps its place. -/
theorem MRow.tail2 {g : GW} {t : Nat} {E : TypeId} {b o n c : Nat} {x : Value} {xs : List Value} (h : MRow g t E (.slice (some ⟨b, o, none⟩) n c) (x :: xs)) : MRow g t E (.slice (if c = 1 then some ⟨b, o, none⟩ else some ⟨b, o + 1, none⟩) (n - 1) (c - 1)) xs := by
  split
  · rename_i hc
    subst hc
    rcases h.row with ⟨hv, _⟩ | ⟨b', o', cap, cur, hv, hb, r1, r2, r3, r4, ho⟩
    · cases hv
    · simp only [Value.slice.injEq, Option.some.injEq, Addr.mk.injEq, and_true] at hv
      obtain ⟨⟨rfl, rfl⟩, rfl, rfl⟩ := hv
      simp only [List.length_cons] at r1
      have hx : xs = [] := List.eq_nil_of_length_eq_zero (by omega)
      subst hx
      exact ⟨Or.inr ⟨b, o, 0, cur, rfl, hb, Nat.le_refl _, by omega, by omega, by simp, ho⟩⟩
  · exact h.tail
end Go
namespace Go.Proofs.Ytmgkfpmmlibmcaa
open Go Go.RowKit
set_option linter.unusedVariables false
set_option linter.unnecessarySimpa false
set_option linter.unusedSimpArgs false
set_option maxHeartbeats 4000000
theorem nothingV {T : Nat → Prop} {g g' : GW} (h : Mod T g g') (hn : ∀ k, k < g.w.heap.size → ¬ T (g.own k)) : Mod (fun _ => False) g g' := ⟨h.os, h.tape, h.output, h.size, h.own, fun k hk _ => h.block k hk (hn k hk)⟩
theorem SpaceAt.keepV {T : Nat → Prop} {g g' : GW} {b bt : Nat} {S : SpaceS} (h : SpaceAt g 100 b bt S) (m : Mod T g g') (hT : ∀ x, T x → x < 100 ∨ 160 ≤ x) : SpaceAt g' 100 b bt S := by
  obtain ⟨bp, bk, bl, As, cs, cm, bs, h⟩ := h
  exact ⟨bp, bk, bl, As, cs, cm, bs, h.keep m (fun x hx => by have := hT x hx; omega)⟩
theorem infoIntV : (Try.prog.info? 3).map (fun i => (i.zero, i.size, i.bytes)) = some (some (.int .i64 0), 1, 8) := by kernel_rfl
theorem infoBoolV : (Try.prog.info? 4).map (fun i => (i.zero, i.size, i.bytes)) = some (some (.bool false), 1, 1) := by kernel_rfl
theorem sgrant_state (x y : Int) (A : Option Addr) (n c : Nat) (w : World) : (Instr.field 90 (.agg #[.int .i64 x, .slice A n c, .int .i64 y]) 0).run Try.prog w = .ok (.int .i64 x) w := by kernel_rfl
/-- All that a round keeps: who waits, in three rows. -/
structure SvIn (g : GW) (b bt : Nat) (n : Nat) (S : SpaceS) (order since : List Int) (noted : List Bool) (vo vs vn : Value) : Prop where
  sp : SpaceAt g 100 b bt S
  ws : WS S n
  sj : SJ S order since noted
  ro : MRow g 71 3 vo (order.map (Value.int .i64))
  rs : MRow g 72 3 vs (since.map (Value.int .i64))
  rn : MRow g 73 4 vn (noted.map Value.bool)
theorem SvIn.keep {T : Nat → Prop} {g g' : GW} {b bt n : Nat} {S : SpaceS} {order since : List Int} {noted : List Bool} {vo vs vn : Value} (h : SvIn g b bt n S order since noted vo vs vn) (m : Mod T g g') (hT : ∀ x, T x → x < 71 ∨ 160 ≤ x) : SvIn g' b bt n S order since noted vo vs vn :=
  ⟨h.sp.keepV m (fun x hx => by have := hT x hx; omega), h.ws, h.sj, h.ro.keep m (fun h => by have := hT _ h; omega), h.rs.keep m (fun h => by have := hT _ h; omega), h.rn.keep m (fun h => by have := hT _ h; omega)⟩
set_option maxRecDepth 100000 in
theorem sserves_any (c : Cnf) (A : Option Addr) (cap : Nat) (l : List OpS) (w : World) (hc : c.Ok w) (hl : CellsAt w A (l.flatMap OpS.cells)) (hlm : l.length ≤ 9223372036854775807) :
    Calls Try.prog 8 #[c.val, .slice A l.length cap] w (Gives (.bool true) w) := by
  have HF := Lib.hid (fun w => first21_any w)
  have HFW := Lib.hid (fun w' (he : Ext w w') => few_any c w' (hc.ext he))
  have HCC := Lib.hid (fun w' (he : Ext w w') => check_any c w' (hc.ext he))
  have HMD := Lib.hid (fun g (he : Ext w g.w) (hk : c.check = 0) => made_any c 100 g (hc.ext he) hk (by decide))
  have HL := Lib.hid hl
  unfold Cnf.val at HFW HCC HMD ⊢
  obtain ⟨wb, hwb⟩ : ∃ wb, wb = w.alloc (.cells #[.int .i64 c.frags, .int .i64 c.spine, .int .i64 c.globals, .int .i64 c.threads, .int .i64 c.locals, .int .i64 c.cache, .int .i64 c.stack, .int .i64 c.low, .slice c.A c.shapes.length c.cap] 24) := ⟨_, rfl⟩
  have HE0 := Lib.hid (show Ext w wb from by rw [hwb]; exact (show Ext w _ by (repeat (first | (with_reducible assumption) | (with_reducible exact Ext.refl _) | (with_reducible exact Ext.more _ _ _ _) | apply Ext.alloc | refine Ext.setCell ?_ (by first | exact Nat.le_refl _ | exact Nat.le_add_right _ _ | assumption) _ | apply Ext.patch | apply Ext.drew | apply Ext.drewN))))
  have HBX := Lib.hid (show Blk ⟨fun _ => 0, wb⟩ 0 w.heap.size 24 [.int .i64 c.frags, .int .i64 c.spine, .int .i64 c.globals, .int .i64 c.threads, .int .i64 c.locals, .int .i64 c.cache, .int .i64 c.stack, .int .i64 c.low, .slice c.A c.shapes.length c.cap] from by rw [hwb]; exact ⟨World.row_alloc_new _, rfl⟩)
  have HX := Lib.hid (fun w' (he : Ext wb w') => show Blk ⟨fun _ => 0, w'⟩ 0 w.heap.size 24 [.int .i64 c.frags, .int .i64 c.spine, .int .i64 c.globals, .int .i64 c.threads, .int .i64 c.locals, .int .i64 c.cache, .int .i64 c.stack, .int .i64 c.low, .slice c.A c.shapes.length c.cap] from ⟨(he.heap _ HBX.out.lt).trans HBX.out.row, rfl⟩)
  clear hc hl
  go_enter Try.func8, Try.ntmps8
  go_wp2_with fail
  rw [← hwb]
  clear hwb
  refine (HF.out _).mono ?_
  rintro e w1 ⟨rfl, hE⟩
  have HE1 := Lib.hid (show Ext wb w1 from hE)
  clear hE
  have HBY := HX.out _ HE1.out
  have a0 := HBY.cell (i := 0) rfl
  have a1 := HBY.cell (i := 1) rfl
  have a2 := HBY.cell (i := 2) rfl
  have a3 := HBY.cell (i := 3) rfl
  have a4 := HBY.cell (i := 4) rfl
  have a5 := HBY.cell (i := 5) rfl
  have a6 := HBY.cell (i := 6) rfl
  have a7 := HBY.cell (i := 7) rfl
  have a8 := HBY.cell (i := 8) rfl
  have al := HBY.lt
  (try simp only [GW.to] at a0 a1 a2 a3 a4 a5 a6 a7 a8 al)
  clear HBY
  go_wp2_with fail
  refine (HFW.out _ (HE0.out.trans HE1.out)).mono ?_
  rintro e w3 ⟨rfl, hE⟩
  have HE3 := Lib.hid (HE1.out.trans (show Ext w1 w3 from hE))
  have HEW3 := Lib.hid (HE0.out.trans HE3.out)
  clear hE HE1 a0 a1 a2 a3 a4 a5 a6 a7 a8 al
  have HBY := HX.out _ HE3.out
  have a0 := HBY.cell (i := 0) rfl
  have a1 := HBY.cell (i := 1) rfl
  have a2 := HBY.cell (i := 2) rfl
  have a3 := HBY.cell (i := 3) rfl
  have a4 := HBY.cell (i := 4) rfl
  have a5 := HBY.cell (i := 5) rfl
  have a6 := HBY.cell (i := 6) rfl
  have a7 := HBY.cell (i := 7) rfl
  have a8 := HBY.cell (i := 8) rfl
  have al := HBY.lt
  (try simp only [GW.to] at a0 a1 a2 a3 a4 a5 a6 a7 a8 al)
  clear HBY
  cases hf : Few c
  case false =>
    clear hf
    go_wp2_with fail
    refine (HF.out _).mono ?_
    rintro e wz ⟨rfl, hX⟩
    have Ez := Lib.hid (HEW3.out.trans (show Ext _ wz from hX))
    clear hX
    go_wp2_with fail
    go_ret
    exact Gives.bool rfl Ez.out
  case true =>
  clear hf
  by_cases h300 : 300 < l.length
  · have hd : decide ((300 : Int) < l.length) = true := decide_eq_true (by omega)
    have hd' : decide (300 < l.length) = true := decide_eq_true h300
    go_wp2_with fail
    refine (HF.out _).mono ?_
    rintro e wz ⟨rfl, hX⟩
    have Ez := Lib.hid (HEW3.out.trans (show Ext _ wz from hX))
    clear hX
    go_wp2_with fail
    go_ret
    exact Gives.bool rfl Ez.out
  have hd : decide ((300 : Int) < l.length) = false := decide_eq_false (by omega)
  have hd' : decide (300 < l.length) = false := decide_eq_false h300
  go_wp2_with fail
  refine (HCC.out _ HEW3.out).mono ?_
  rintro e w4 ⟨rfl, hE⟩
  have HE4 := Lib.hid (HE3.out.trans (show Ext w3 w4 from hE))
  have HEW4 := Lib.hid (HE0.out.trans HE4.out)
  clear hE HE3 HEW3 a0 a1 a2 a3 a4 a5 a6 a7 a8 al
  have HBY := HX.out _ HE4.out
  have a0 := HBY.cell (i := 0) rfl
  have a1 := HBY.cell (i := 1) rfl
  have a2 := HBY.cell (i := 2) rfl
  have a3 := HBY.cell (i := 3) rfl
  have a4 := HBY.cell (i := 4) rfl
  have a5 := HBY.cell (i := 5) rfl
  have a6 := HBY.cell (i := 6) rfl
  have a7 := HBY.cell (i := 7) rfl
  have a8 := HBY.cell (i := 8) rfl
  have al := HBY.lt
  (try simp only [GW.to] at a0 a1 a2 a3 a4 a5 a6 a7 a8 al)
  clear HBY
  by_cases hck : c.check = 0
  case neg =>
    have hc0 : (c.check != 0) = true := by simp [hck]
    generalize c.check = ck at *
    go_wp2_with fail
    refine (HF.out _).mono ?_
    rintro e wz ⟨rfl, hX⟩
    have Ez := Lib.hid (HEW4.out.trans (show Ext _ wz from hX))
    clear hX
    go_wp2_with fail
    go_ret
    exact Gives.bool rfl Ez.out
  case pos =>
    have hc0 : (c.check != 0) = false := by simp [hck]
    obtain ⟨⟨r0, r1⟩, -⟩ := Cnf.ranged (Cnf.check_zero hck).1
    obtain ⟨n, hn⟩ := Int.eq_ofNat_of_zero_le (show 0 ≤ c.frags by omega)
    have HNF := Lib.hid hn
    clear hn r0 r1
    have HMD2 := Lib.hid (fun g (he : Ext w g.w) => HMD.out g he hck)
    clear HMD hck
    generalize c.check = ck at *
    go_wp2_with fail
    refine (HMD2.out ⟨fun _ => 0, w4⟩ HEW4.out).mono ?_
    rintro e w5 ⟨own5, b, bt, rfl, m5, h5⟩
    have M5 := Lib.hid m5
    have H5 := Lib.hid h5
    clear m5 h5 a0 a1 a2 a3 a4 a5 a6 a7 a8 al HMD2 HCC HFW
    go_wp2_with fail
    have S5 := Lib.hid (show SvIn ⟨own5, w5⟩ b bt n (SpaceS.fresh c (TabS.fresh n)) [] [] [] (.slice none 0 0) (.slice none 0 0) (.slice none 0 0) from ⟨by have := H5.out; rw [HNF.out, Int.toNat_natCast] at this; exact this, fresh_whole c HNF.out, SJ.fresh _ _, MRow.nil _ _ _, MRow.nil _ _ _, MRow.nil _ _ _⟩)
    go_loopw [7, 8, 9, 10] (fun vo vs vn i wr => ∃ (k : Nat) (own : Nat → Nat) (S : SpaceS) (order since : List Int) (noted : List Bool), k ≤ l.length ∧ i = .int .i64 k ∧ Hid (Mod (fun x => x ≠ 0) ⟨fun _ => 0, w4⟩ ⟨own, wr⟩) ∧ Hid (SvIn ⟨own, wr⟩ b bt n S order since noted vo vs vn) ∧ Hid (0 ≤ S.count ∧ S.count ≤ 2 * k)) (fun _ _ _ i _ => l.length - (intOf i).toNat)
    case atStart => exact ⟨0, own5, _, _, _, _, Nat.zero_le _, rfl, Lib.hid (M5.out.mono (fun _ => False.elim)), S5, Lib.hid ⟨Int.le_refl _, Int.le_refl _⟩⟩
    case round =>
      clear M5 H5 S5
      obtain ⟨k, own6, S, order, since, noted, hk, rfl, M6, V6, HC6⟩ := hrel
      obtain ⟨w6, rfl⟩ : ∃ w6 : World, w6 = wr := ⟨_, rfl⟩
      have HE6 := Lib.hid ((nothingV M6.out (fun k _ => by simp)).toExt)
      by_cases hlt : k < l.length
      · have HL6 := HL.out.ext (HEW4.out.trans HE6.out)
        obtain ⟨bq, oq, hA, hq, hcq⟩ := HL6.cases (by rw [ops_length]; omega)
        have hcell : ∀ j v, (l[k]).cells[j]? = some v → w6.cell? ⟨bq, oq + k * 6 + j, none⟩ = some v := fun j v hj => by
          rw [Nat.add_assoc]
          refine hcq _ v ?_
          rw [flat_at OpS.cells_len l k j _ (List.getElem?_eq_getElem hlt) (by have := (List.getElem?_eq_some_iff.1 hj).1; exact this)]
          exact hj
        generalize l[k] = o at *
        have q0 : w6.cell? ⟨bq, oq + k * 6, none⟩ = some (.int .i64 o.kind) := hcell 0 _ rfl
        have q1 := hcell 1 _ rfl
        have q2 := hcell 2 _ rfl
        have q3 := hcell 3 _ rfl
        have q4 := hcell 4 _ rfl
        have q5 := hcell 5 _ rfl
        subst hA
        clear HL6 hcq hcell
        go_upto_region 13 with fail
        go_cut [11] (fun so wx => so = .pointer (some ⟨w6.heap.size, 0, none⟩) ∧ ∃ own7, Hid (Mod (fun _ => False) ⟨own6, w6⟩ ⟨own7, wx⟩ ∧ Blk ⟨own7, wx⟩ 9 w6.heap.size 88 o.cells))
        case first =>
          go_wp2_with fail
          go_meet
          exact ⟨rfl, _, Lib.hid ⟨Mod.ext (show Ext w6 _ by (repeat (first | (with_reducible assumption) | (with_reducible exact Ext.refl _) | (with_reducible exact Ext.more _ _ _ _) | apply Ext.alloc | refine Ext.setCell ?_ (by first | exact Nat.le_refl _ | exact Nat.le_add_right _ _ | assumption) _ | apply Ext.patch | apply Ext.drew | apply Ext.drewN))) 9, Blk.new ⟨own6, w6⟩ 9 88 o.cells⟩⟩
        case rest =>
        clear q0 q1 q2 q3 q4 q5 hq
        obtain ⟨rfl, own7, HO7⟩ := hcut
        obtain ⟨w7, rfl⟩ : ∃ w7 : World, w7 = wc := ⟨_, rfl⟩
        generalize w6.heap.size = bo at *
        have m7 := HO7.out.1
        have M7 := Lib.hid (M6.out.trans (m7.mono (S := fun x => x ≠ 0) (fun _ => False.elim)))
        have B7 := Lib.hid HO7.out.2
        have V7 := Lib.hid (V6.out.keep m7 (fun x hx => hx.elim))
        have HCX := Lib.hid (show 0 ≤ S.count ∧ S.count ≤ 1099511627776 from by have := HC6.out; omega)
        have HLX := Lib.hid (show S.line.length < 1000000 from by have := HC6.out; have := V6.out.ws.ln.len; omega)
        clear m7 HO7 M6 V6
        go_step
        go_step
        go_cut [7, 8, 9] (fun vo' vs' vn' wx => ∃ (own : Nat → Nat) (S' : SpaceS) (order' since' : List Int) (noted' : List Bool), Hid (Mod (fun x => x ≠ 0) ⟨fun _ => 0, w4⟩ ⟨own, wx⟩) ∧ Hid (SvIn ⟨own, wx⟩ b bt n S' order' since' noted' vo' vs' vn') ∧ Hid (0 ≤ S'.count ∧ S'.count ≤ 2 * ((k + 1 : Nat) : Int)))
        case first =>
          have o0 := B7.out.cell (i := 0) rfl
          have o1 := B7.out.cell (i := 1) rfl
          have o2 := B7.out.cell (i := 2) rfl
          have o3 := B7.out.cell (i := 3) rfl
          have o4 := B7.out.cell (i := 4) rfl
          have o5 := B7.out.cell (i := 5) rfl
          have ol := B7.out.lt
          (try simp only [GW.to] at o0 o1 o2 o3 o4 o5 ol)
          by_cases e0 : o.kind = 0
          · have d0 : (o.kind == 0) = true := by simp [e0]
            obtain ⟨⟨⟨gs, got, ga⟩, S'⟩, hr⟩ : ∃ r, ask S o.t o.frags o.spine o.sense = r := ⟨_, rfl⟩
            have hw := ask_whole V7.out.ws o.t o.frags o.spine o.sense
            have hsj := ask_sj V7.out.sj o.t o.frags o.spine o.sense
            have HASK := Lib.hid (space_ask_any o.t o.frags o.spine o.sense ⟨own7, w7⟩ 100 b bt S V7.out.sp (by decide) HCX.out HLX.out)
            rw [hr] at hw hsj HASK
            simp only at hw hsj HASK
            have HW := Lib.hid (And.intro hw.1 hw.2.2.2.2)
            have HSJ1 := Lib.hid (fun x : Unit => hsj.1)
            have HSJ2 := Lib.hid (fun x : Unit => hsj.2)
            have hol : order.length < 1000000 ∧ since.length < 1000000 ∧ noted.length < 1000000 := by have := V7.out.sj.len; have := HLX.out; omega
            clear hr hw hsj e0
            as_aux_lemma =>
              go_wp2_with fail
              refine HASK.out.mono ?_
              rintro e w10 ⟨v, own10, rfl, m10, ⟨gA, gc, rfl, gr⟩, h10⟩
              have MS := Lib.hid (M7.out.trans (m10.mono (S := fun x => x ≠ 0) (fun x hx => by unfold inst at hx; omega)))
              have RO := Lib.hid (V7.out.ro.keep m10 (by unfold inst; omega))
              have RS := Lib.hid (V7.out.rs.keep m10 (by unfold inst; omega))
              have RN := Lib.hid (V7.out.rn.keep m10 (by unfold inst; omega))
              have BS := Lib.hid (B7.out.keep m10 (by unfold inst; omega))
              have HS := Lib.hid h10
              have hfs := fun w => sgrant_state gs ga gA got.length gc w
              clear m10 h10 gr HASK M7 V7 B7 o0 o1 o2 o3 o4 o5 ol
              have o0 := BS.out.cell (i := 0) rfl
              have o1 := BS.out.cell (i := 1) rfl
              have o2 := BS.out.cell (i := 2) rfl
              have o3 := BS.out.cell (i := 3) rfl
              have o4 := BS.out.cell (i := 4) rfl
              have o5 := BS.out.cell (i := 5) rfl
              have ol := BS.out.lt
              (try simp only [GW.to] at o0 o1 o2 o3 o4 o5 ol)
              by_cases hgs : gs = 0
              · have dg : (gs == 0) = true := by simp [hgs]
                have HSJ := Lib.hid (HSJ1.out () hgs)
                clear hgs HSJ1 HSJ2
                obtain ⟨iI, hI, hIz, hIs, hIb⟩ := info_parts infoIntV
                obtain ⟨iB, hB, hBz, hBs, hBb⟩ := info_parts infoBoolV
                have HI := Lib.hid (And.intro hI (And.intro hIz (And.intro hIs hIb)))
                have HB := Lib.hid (And.intro hB (And.intro hBz (And.intro hBs hBb)))
                clear hI hIz hIs hIb hB hBz hBs hBb
                go_wp2_with (at_builtin; refine held ?_)
                unfold Held
                obtain ⟨own11, m11⟩ := Mod.ofExt (show Ext w10 (w10.alloc (.cells #[.int .i64 o.t] 3)) by (repeat (first | (with_reducible assumption) | (with_reducible exact Ext.refl _) | (with_reducible exact Ext.more _ _ _ _) | apply Ext.alloc | refine Ext.setCell ?_ (by first | exact Nat.le_refl _ | exact Nat.le_add_right _ _ | assumption) _ | apply Ext.patch | apply Ext.drew | apply Ext.drewN))) own10
                refine wpList_append_mrow own11 _ rfl (.tmp 70) (.tmp 73) 25 rfl 71 3 iI (.int .i64 0) Try.underlying25 HI.out.1 HI.out.2.1 HI.out.2.2.1 (by have := HI.out.2.2.2; omega) rfl _ _ rfl (RO.out.keep m11 id) ⟨w10.heap.size, 0, none⟩ 1 (.int .i64 o.t) rfl (cell_one_new w10 _ _ 0 _ rfl) rfl (by rw [List.length_map]; exact hol.1) (fun v1 own12 w12 m12 r12 => ?_)
                have M12 := Lib.hid ((MS.out.trans (m11.mono (S := fun x => x ≠ 0) (fun _ => False.elim))).trans (m12.mono (fun x hx => by omega)))
                have RO12 := Lib.hid r12
                have RS12 := Lib.hid ((RS.out.keep m11 id).keep m12 (by decide))
                have RN12 := Lib.hid ((RN.out.keep m11 id).keep m12 (by decide))
                have HS12 := Lib.hid ((HS.out.keepV m11 (fun x hx => hx.elim)).keepV m12 (fun x hx => by omega))
                clear m11 m12 r12 MS RO RS RN HS o0 o1 o2 o3 o4 o5 ol
                go_wp2_with (at_builtin; refine held ?_)
                unfold Held
                obtain ⟨own13, m13⟩ := Mod.ofExt (show Ext w12 (w12.alloc (.cells #[.int .i64 0] 3)) by (repeat (first | (with_reducible assumption) | (with_reducible exact Ext.refl _) | (with_reducible exact Ext.more _ _ _ _) | apply Ext.alloc | refine Ext.setCell ?_ (by first | exact Nat.le_refl _ | exact Nat.le_add_right _ _ | assumption) _ | apply Ext.patch | apply Ext.drew | apply Ext.drewN))) own12
                refine wpList_append_mrow own13 _ rfl (.tmp 75) (.tmp 76) 25 rfl 72 3 iI (.int .i64 0) Try.underlying25 HI.out.1 HI.out.2.1 HI.out.2.2.1 (by have := HI.out.2.2.2; omega) rfl _ _ rfl (RS12.out.keep m13 id) ⟨w12.heap.size, 0, none⟩ 1 (.int .i64 0) rfl (cell_one_new w12 _ _ 0 _ rfl) rfl (by rw [List.length_map]; exact hol.2.1) (fun v2 own14 w14 m14 r14 => ?_)
                have M14 := Lib.hid ((M12.out.trans (m13.mono (S := fun x => x ≠ 0) (fun _ => False.elim))).trans (m14.mono (fun x hx => by omega)))
                have RO14 := Lib.hid ((RO12.out.keep m13 id).keep m14 (by decide))
                have RS14 := Lib.hid r14
                have RN14 := Lib.hid ((RN12.out.keep m13 id).keep m14 (by decide))
                have HS14 := Lib.hid ((HS12.out.keepV m13 (fun x hx => hx.elim)).keepV m14 (fun x hx => by omega))
                clear m13 m14 r14 M12 RO12 RS12 RN12 HS12
                go_wp2_with (at_builtin; refine held ?_)
                unfold Held
                obtain ⟨own15, m15⟩ := Mod.ofExt (show Ext w14 (w14.alloc (.cells #[.bool false] 4)) by (repeat (first | (with_reducible assumption) | (with_reducible exact Ext.refl _) | (with_reducible exact Ext.more _ _ _ _) | apply Ext.alloc | refine Ext.setCell ?_ (by first | exact Nat.le_refl _ | exact Nat.le_add_right _ _ | assumption) _ | apply Ext.patch | apply Ext.drew | apply Ext.drewN))) own14
                refine wpList_append_mrow own15 _ rfl (.tmp 78) (.tmp 79) 27 rfl 73 4 iB (.bool false) Try.underlying27 HB.out.1 HB.out.2.1 HB.out.2.2.1 (by have := HB.out.2.2.2; omega) rfl _ _ rfl (RN14.out.keep m15 id) ⟨w14.heap.size, 0, none⟩ 1 (.bool false) rfl (cell_one_new w14 _ _ 0 _ rfl) rfl (by rw [List.length_map]; exact hol.2.2) (fun v3 own16 w16 m16 r16 => ?_)
                have M16 := Lib.hid ((M14.out.trans (m15.mono (S := fun x => x ≠ 0) (fun _ => False.elim))).trans (m16.mono (fun x hx => by omega)))
                have RO16 := Lib.hid ((RO14.out.keep m15 id).keep m16 (by decide))
                have RS16 := Lib.hid ((RS14.out.keep m15 id).keep m16 (by decide))
                have RN16 := Lib.hid r16
                have HS16 := Lib.hid ((HS14.out.keepV m15 (fun x hx => hx.elim)).keepV m16 (fun x hx => by omega))
                clear m15 m16 r16 M14 RO14 RS14 RN14 HS14
                go_wp2_with fail
                go_meet
                exact ⟨own16, S', order ++ [o.t], since ++ [0], noted ++ [false], M16, Lib.hid ⟨HS16.out, HW.out.1, HSJ.out, by rw [List.map_append]; exact RO16.out, by rw [List.map_append]; exact RS16.out, by rw [List.map_append]; exact RN16.out⟩, Lib.hid (by have := HW.out.2; have := HC6.out; omega)⟩
              · have dg : (gs == 0) = false := by simp [hgs]
                have HSJ := Lib.hid (HSJ2.out () hgs)
                clear hgs HSJ1 HSJ2
                go_wp2_with fail
                go_meet
                exact ⟨own10, S', order, since, noted, MS, Lib.hid ⟨HS.out, HW.out.1, HSJ.out, RO.out, RS.out, RN.out⟩, Lib.hid (by have := HW.out.2; have := HC6.out; omega)⟩
          have d0 : (o.kind == 0) = false := by simp [e0]
          by_cases e6 : o.kind = 6
          · have d6 : (o.kind == 6) = true := by simp [e6]
            have HW := Lib.hid (begin_whole V7.out.ws)
            have HCALL := Lib.hid (space_begin ⟨own7, w7⟩ 100 b bt S V7.out.sp (by decide) HCX.out)
            obtain ⟨An, cn, hvn, -, -⟩ := V7.out.rn.form
            rw [List.length_map] at hvn
            subst hvn
            have hnl : noted.length < 1000000 := by have := V7.out.sj.len; have := HLX.out; omega
            clear e0 e6
            as_aux_lemma =>
              go_wp2_with fail
              refine HCALL.out.mono ?_
              rintro e w10 ⟨rfl, own10, m10, h10⟩
              have MS := Lib.hid (M7.out.trans (m10.mono (S := fun x => x ≠ 0) (fun x hx => by unfold inst at hx; omega)))
              have RO := Lib.hid (V7.out.ro.keep m10 (by unfold inst; omega))
              have RS := Lib.hid (V7.out.rs.keep m10 (by unfold inst; omega))
              have RN := Lib.hid (V7.out.rn.keep m10 (by unfold inst; omega))
              have HS := Lib.hid h10
              have HSJ := Lib.hid (begin_sj V7.out.sj)
              clear m10 h10 HCALL M7 V7 o0 o1 o2 o3 o4 o5 ol
              go_wp2_with fail
              go_loopw [12] (fun j wr => ∃ (jn : Nat) (own : Nat → Nat), j = .int .i64 jn ∧ jn ≤ noted.length ∧ Hid (Mod (fun x => x ≠ 0) ⟨fun _ => 0, w4⟩ ⟨own, wr⟩) ∧ Hid (SpaceAt ⟨own, wr⟩ 100 b bt (beginS S)) ∧ Hid (MRow ⟨own, wr⟩ 71 3 _ (order.map (Value.int .i64))) ∧ Hid (MRow ⟨own, wr⟩ 72 3 _ (since.map (Value.int .i64))) ∧ Hid (MRow ⟨own, wr⟩ 73 4 (.slice An noted.length cn) ((mixL (noted.map fun _ => true) noted jn).map Value.bool))) (fun j _ => noted.length - (intOf j).toNat)
              case atStart => exact ⟨0, own10, rfl, Nat.zero_le _, MS, HS, RO, RS, Lib.hid (by rw [mixL_zero]; exact RN.out)⟩
              case round =>
                clear MS HS RO RS RN
                obtain ⟨jn, own11, rfl, hjn, MS, HS, RO, RS, RN⟩ := hrel
                obtain ⟨w11, rfl⟩ : ∃ w11 : World, w11 = wr := ⟨_, rfl⟩
                by_cases hj : jn < noted.length
                · have dj : decide ((jn : Int) < noted.length) = true := decide_eq_true (by omega)
                  obtain ⟨bn, on, rfl, -, hbl, hbo, hcell, hfr⟩ := RN.out.cell (i := jn) (by rw [List.length_map, mixL_len (by simp)]; exact hj)
                  rw [List.getElem?_map, mixL_get (by simp) hj, List.getElem?_eq_getElem hj] at hcell
                  simp only [Option.map_some] at hcell hbl hfr
                  have HBO := Lib.hid hbo
                  have HJ := Lib.hid hj
                  clear hbo
                  go_wp2_with fail
                  go_roundw
                  case rel =>
                    have mS : Mod (fun x => x = 73) ⟨own11, w11⟩ ⟨own11, w11.setCell ⟨bn, on + jn, none⟩ (.bool true)⟩ := Mod.set (g := ⟨own11, w11⟩) HBO.out
                    refine ⟨jn + 1, own11, by go_num, by have := HJ.out; omega, Lib.hid (MS.out.trans (mS.mono (fun x hx => by omega))), Lib.hid (HS.out.keepV mS (fun x hx => by omega)), Lib.hid (RO.out.keep mS (by decide)), Lib.hid (RS.out.keep mS (by decide)), Lib.hid ?_⟩
                    have h2 := RN.out.store (i := jn) (by rw [List.length_map, mixL_len (by simp)]; exact HJ.out) (.bool true)
                    rw [← List.map_set, mixL_set (by simp) HJ.out true (by rw [List.getElem?_map, List.getElem?_eq_getElem HJ.out]; rfl)] at h2
                    exact h2
                  case measure => have := HJ.out; simp [intOf]; omega
                · have dj : decide ((jn : Int) < noted.length) = false := decide_eq_false (by omega)
                  have dj' : decide (jn < noted.length) = false := decide_eq_false hj
                  have hje : jn = noted.length := by omega
                  have HR2 := Lib.hid (show MRow ⟨own11, w11⟩ 73 4 (.slice An noted.length cn) ((noted.map fun _ => true).map Value.bool) from by have := RN.out; rw [hje, mixL_all (by simp)] at this; exact this)
                  clear hj hje RN
                  go_wp2_with fail
                  go_meet
                  exact ⟨own11, beginS S, order, since, noted.map (fun _ => true), MS, Lib.hid ⟨HS.out, HW.out.1, HSJ.out, RO.out, RS.out, HR2.out⟩, Lib.hid (by have := HW.out.2.2; have := HC6.out; omega)⟩
          have d6 : (o.kind == 6) = false := by simp [e6]
          by_cases e10 : o.kind = 10
          · have d10 : (o.kind == 10) = true := by simp [e10]
            have HW := Lib.hid (end_whole V7.out.ws)
            have HCALL := Lib.hid (space_end ⟨own7, w7⟩ 100 b bt S V7.out.sp (by decide) HCX.out (fun e he => by
              obtain ⟨-, -, h1, h2⟩ := V7.out.ws.ln.ents e he
              have := HCX.out
              omega))
            have HBD := Lib.hid (show ∀ x ∈ since, 0 ≤ x ∧ x ≤ 1099511627776 from fun x hx => by
              rw [← V7.out.sj.sin] at hx
              obtain ⟨e, he, rfl⟩ := List.mem_map.1 hx
              obtain ⟨-, -, h1, h2⟩ := V7.out.ws.ln.ents e he
              have := HCX.out
              omega)
            obtain ⟨An, cn, hvn, -, -⟩ := V7.out.rn.form
            rw [List.length_map] at hvn
            subst hvn
            obtain ⟨Az, cz, hvs, -, -⟩ := V7.out.rs.form
            rw [List.length_map] at hvs
            subst hvs
            have hnl : noted.length < 1000000 := by have := V7.out.sj.len; have := HLX.out; omega
            have hsl : since.length = noted.length := by have := V7.out.sj.len; omega
            have HZL := Lib.hid (show (sinceE since noted).length = since.length from by unfold sinceE; rw [List.length_zipWith]; omega)
            have HSL := Lib.hid hsl
            clear e0 e6 e10 hsl
            as_aux_lemma =>
              go_wp2_with fail
              refine HCALL.out.mono ?_
              rintro e w10 ⟨rfl, own10, m10, h10⟩
              have MS := Lib.hid (M7.out.trans (m10.mono (S := fun x => x ≠ 0) (fun x hx => by unfold inst at hx; omega)))
              have RO := Lib.hid (V7.out.ro.keep m10 (by unfold inst; omega))
              have RS := Lib.hid (V7.out.rs.keep m10 (by unfold inst; omega))
              have RN := Lib.hid (V7.out.rn.keep m10 (by unfold inst; omega))
              have HS := Lib.hid h10
              have HSJ := Lib.hid (end_sj V7.out.sj)
              clear m10 h10 HCALL M7 V7 o0 o1 o2 o3 o4 o5 ol
              go_wp2_with fail
              go_loopw [13] (fun j wr => ∃ (jn : Nat) (own : Nat → Nat), j = .int .i64 jn ∧ jn ≤ noted.length ∧ Hid (Mod (fun x => x ≠ 0) ⟨fun _ => 0, w4⟩ ⟨own, wr⟩) ∧ Hid (SpaceAt ⟨own, wr⟩ 100 b bt (endS S)) ∧ Hid (MRow ⟨own, wr⟩ 71 3 _ (order.map (Value.int .i64))) ∧ Hid (MRow ⟨own, wr⟩ 72 3 (.slice Az since.length cz) ((mixL (sinceE since noted) since jn).map (Value.int .i64))) ∧ Hid (MRow ⟨own, wr⟩ 73 4 (.slice An noted.length cn) ((mixL (noted.map fun _ => false) noted jn).map Value.bool))) (fun j _ => noted.length - (intOf j).toNat)
              case atStart => exact ⟨0, own10, rfl, Nat.zero_le _, MS, HS, RO, Lib.hid (by rw [mixL_zero]; exact RS.out), Lib.hid (by rw [mixL_zero]; exact RN.out)⟩
              case round =>
                clear MS HS RO RS RN
                obtain ⟨jn, own11, rfl, hjn, MS, HS, RO, RS, RN⟩ := hrel
                obtain ⟨w11, rfl⟩ : ∃ w11 : World, w11 = wr := ⟨_, rfl⟩
                by_cases hj : jn < noted.length
                · have dj : decide ((jn : Int) < noted.length) = true := decide_eq_true (by omega)
                  have hj2 : jn < since.length := by have := HSL.out; omega
                  obtain ⟨bn, on, rfl, -, hbl, hbo, hcell, hfr⟩ := RN.out.cell (i := jn) (by rw [List.length_map, mixL_len (by simp)]; exact hj)
                  rw [List.getElem?_map, mixL_get (by simp) hj, List.getElem?_eq_getElem hj] at hcell
                  obtain ⟨bz, oz, rfl, -, hzl, hzo, hzcell, hzfr⟩ := RS.out.cell (i := jn) (by rw [List.length_map, mixL_len HZL.out]; exact hj2)
                  rw [List.getElem?_map, mixL_get HZL.out hj2, List.getElem?_eq_getElem hj2] at hzcell
                  simp only [Option.map_some] at hcell hbl hfr hzl hzcell hzfr
                  have hne : bz ≠ bn := fun e => by rw [e] at hzo; have : (72 : Nat) = 73 := hzo.symm.trans hbo; omega
                  have hne' : bn ≠ bz := fun e => hne e.symm
                  have hxb := HBD.out since[jn] (List.getElem_mem hj2)
                  have HSE := Lib.hid (show (sinceE since noted)[jn]? = some (if noted[jn] then since[jn] + 1 else since[jn]) from by
                    unfold sinceE
                    rw [List.getElem?_zipWith, List.getElem?_eq_getElem hj2, List.getElem?_eq_getElem hj])
                  have HSG := Lib.hid (List.getElem?_eq_getElem hj2)
                  have HBO := Lib.hid hbo
                  have HZO := Lib.hid hzo
                  have HJ := Lib.hid hj
                  have HJ2 := Lib.hid hj2
                  clear hbo hzo
                  generalize since[jn] = x at *
                  generalize noted[jn] = y at *
                  cases y
                  · go_wp2_with fail
                    go_roundw
                    case rel =>
                      have mS : Mod (fun x => x = 73) ⟨own11, w11⟩ ⟨own11, w11.setCell ⟨bn, on + jn, none⟩ (.bool false)⟩ := Mod.set (g := ⟨own11, w11⟩) HBO.out
                      refine ⟨jn + 1, own11, by go_num, by have := HJ.out; omega, Lib.hid (MS.out.trans (mS.mono (fun x hx => by omega))), Lib.hid (HS.out.keepV mS (fun x hx => by omega)), Lib.hid (RO.out.keep mS (by decide)), Lib.hid ?_, Lib.hid ?_⟩
                      · have h2 := RS.out.keep mS (by decide)
                        rw [mixL_same HZL.out HJ2.out (HSE.out.trans HSG.out.symm)] at h2
                        exact h2
                      · have h2 := RN.out.store (i := jn) (by rw [List.length_map, mixL_len (by simp)]; exact HJ.out) (.bool false)
                        rw [← List.map_set, mixL_set (by simp) HJ.out false (by rw [List.getElem?_map, List.getElem?_eq_getElem HJ.out]; rfl)] at h2
                        exact h2
                    case measure => have := HJ.out; simp [intOf]; omega
                  · go_wp2_with fail
                    go_roundw
                    case rel =>
                      have mZ : Mod (fun x => x = 72) ⟨own11, w11⟩ ⟨own11, w11.setCell ⟨bz, oz + jn, none⟩ (.int .i64 (x + 1))⟩ := Mod.set (g := ⟨own11, w11⟩) HZO.out
                      have mS : Mod (fun x => x = 73) ⟨own11, w11.setCell ⟨bz, oz + jn, none⟩ (.int .i64 (x + 1))⟩ ⟨own11, (w11.setCell ⟨bz, oz + jn, none⟩ (.int .i64 (x + 1))).setCell ⟨bn, on + jn, none⟩ (.bool false)⟩ := Mod.set (g := ⟨own11, w11.setCell ⟨bz, oz + jn, none⟩ (.int .i64 (x + 1))⟩) HBO.out
                      refine ⟨jn + 1, own11, by go_num, by have := HJ.out; omega, Lib.hid ((MS.out.trans (mZ.mono (fun x hx => by omega))).trans (mS.mono (fun x hx => by omega))), Lib.hid ((HS.out.keepV mZ (fun x hx => by omega)).keepV mS (fun x hx => by omega)), Lib.hid ((RO.out.keep mZ (by decide)).keep mS (by decide)), Lib.hid ?_, Lib.hid ?_⟩
                      · have h2 := (RS.out.store (i := jn) (by rw [List.length_map, mixL_len HZL.out]; exact HJ2.out) (.int .i64 (x + 1))).keep mS (by decide)
                        rw [← List.map_set, mixL_set HZL.out HJ2.out (x + 1) HSE.out] at h2
                        exact h2
                      · have h2 := (RN.out.keep mZ (by decide)).store (i := jn) (by rw [List.length_map, mixL_len (by simp)]; exact HJ.out) (.bool false)
                        rw [← List.map_set, mixL_set (by simp) HJ.out false (by rw [List.getElem?_map, List.getElem?_eq_getElem HJ.out]; rfl)] at h2
                        exact h2
                    case measure => have := HJ.out; simp [intOf]; omega
                · have dj : decide ((jn : Int) < noted.length) = false := decide_eq_false (by omega)
                  have dj' : decide (jn < noted.length) = false := decide_eq_false hj
                  have hje : jn = noted.length := by omega
                  have HR2 := Lib.hid (show MRow ⟨own11, w11⟩ 73 4 (.slice An noted.length cn) ((noted.map fun _ => false).map Value.bool) from by have := RN.out; rw [hje, mixL_all (by simp)] at this; exact this)
                  have HR3 := Lib.hid (show MRow ⟨own11, w11⟩ 72 3 (.slice Az since.length cz) ((sinceE since noted).map (Value.int .i64)) from by have := RS.out; rw [hje, ← HSL.out, mixL_all HZL.out] at this; exact this)
                  clear hj hje RN RS
                  go_wp2_with fail
                  go_meet
                  exact ⟨own11, endS S, order, sinceE since noted, noted.map (fun _ => false), MS, Lib.hid ⟨HS.out, HW.out.1, HSJ.out, RO.out, HR3.out, HR2.out⟩, Lib.hid (by have := HW.out.2.2; have := HC6.out; omega)⟩
          have d10 : (o.kind == 10) = false := by simp [e10]
          by_cases e9 : o.kind = 9
          · have d9 : (o.kind == 9) = true := by simp [e9]
            have HW := Lib.hid (sweep_whole V7.out.ws o.n o.sense)
            have HCALL := Lib.hid (space_sweep o.n o.sense ⟨own7, w7⟩ 100 b bt S V7.out.sp (by decide) HCX.out)
            clear e0 e6 e10 e9
            as_aux_lemma =>
              go_wp2_with fail
              refine HCALL.out.mono ?_
              rintro e w10 ⟨rfl, own10, m10, h10⟩
              have MS := Lib.hid (M7.out.trans (m10.mono (S := fun x => x ≠ 0) (fun x hx => by unfold inst at hx; omega)))
              have VS := Lib.hid (show SvIn ⟨own10, w10⟩ b bt n (sweepS S o.n o.sense) order since noted _ _ _ from ⟨h10, HW.out.1, sweep_sj V7.out.sj _ _, V7.out.ro.keep m10 (by unfold inst; omega), V7.out.rs.keep m10 (by unfold inst; omega), V7.out.rn.keep m10 (by unfold inst; omega)⟩)
              clear m10 h10 HCALL
              go_wp2_with fail
              go_meet
              exact ⟨own10, _, _, _, _, MS, VS, Lib.hid (by have := HW.out.2.2.2; have := HC6.out; omega)⟩
          have d9 : (o.kind == 9) = false := by simp [e9]
          by_cases e11 : o.kind = 11
          · have d11 : (o.kind == 11) = true := by simp [e11]
            have HW := Lib.hid (serve_whole V7.out.ws o.sense)
            have hsj := serve_sj V7.out.sj o.sense
            have HCALL := Lib.hid (fun (g : GW) (h : SpaceAt g 100 b bt S) => space_serve_any o.sense g 100 b bt S h (by decide) HCX.out (fun e he => (V7.out.ws.ln.ents e he).1))
            obtain ⟨r1, S', hr⟩ : ∃ r1 S', serve S o.sense = (r1, S') := ⟨_, _, rfl⟩
            rw [hr] at HW hsj HCALL
            simp only at HW hsj HCALL
            have HSJ1 := Lib.hid (fun x : Unit => hsj.1)
            have HSJ2 := Lib.hid (fun x : Unit => hsj.2)
            obtain ⟨W, hWq⟩ : ∃ W : Int, W = ((order.length : Nat) : Int) := ⟨_, rfl⟩
            have hWb : 0 ≤ W ∧ W < 1000000 := by have := V7.out.sj.len; have := HLX.out; omega
            have HWQ := Lib.hid hWq
            obtain ⟨bp, bk, bl, As, cs, cm, bs, h⟩ := V7.out.sp
            have HI := Lib.hid h
            have HWA := Lib.hid (sh_waits ⟨own7, w7⟩ (100 + 3) cm bp bk bl _ HI.out.line)
            rw [V7.out.sj.waits, ← hWq] at HWA
            unfold shelves at HWA
            obtain ⟨Ao, co, hvo, -, -⟩ := V7.out.ro.form
            rw [List.length_map] at hvo
            subst hvo
            obtain ⟨Az, cz, hvs, -, -⟩ := V7.out.rs.form
            rw [List.length_map] at hvs
            subst hvs
            obtain ⟨An, cn, hvn, -, -⟩ := V7.out.rn.form
            rw [List.length_map] at hvn
            subst hvn
            clear hr hsj h hWq e0 e6 e10 e9 e11
            have z0 := HI.out.blk.cell (i := 0) rfl
            have z1 := HI.out.blk.cell (i := 1) rfl
            have z2 := HI.out.blk.cell (i := 2) rfl
            have z3 := HI.out.blk.cell (i := 3) rfl
            have z4 := HI.out.blk.cell (i := 4) rfl
            have z5 := HI.out.blk.cell (i := 5) rfl
            have z6 := HI.out.blk.cell (i := 6) rfl
            have z7 := HI.out.blk.cell (i := 7) rfl
            have z8 := HI.out.blk.cell (i := 8) rfl
            have z9 := HI.out.blk.cell (i := 9) rfl
            have z10 := HI.out.blk.cell (i := 10) rfl
            have z11 := HI.out.blk.cell (i := 11) rfl
            have z12 := HI.out.blk.cell (i := 12) rfl
            have z13 := HI.out.blk.cell (i := 13) rfl
            have z14 := HI.out.blk.cell (i := 14) rfl
            have z15 := HI.out.blk.cell (i := 15) rfl
            have zl := HI.out.blk.lt
            (try simp only [GW.to] at z0 z1 z2 z3 z4 z5 z6 z7 z8 z9 z10 z11 z12 z13 z14 z15 zl)
            as_aux_lemma =>
              go_wp2_with fail
              refine HWA.out.mono ?_
              rintro e w8 ⟨rfl, hE⟩
              obtain ⟨own8, m8⟩ := Mod.ofExt (show Ext w7 w8 from hE) own7
              have M8 := Lib.hid (M7.out.trans (m8.mono (S := fun x => x ≠ 0) (fun _ => False.elim)))
              have V8 := Lib.hid (V7.out.keep m8 (fun x hx => hx.elim))
              have B8 := Lib.hid (B7.out.keep m8 id)
              clear hE m8 M7 V7 B7 HI HWA z0 z1 z2 z3 z4 z5 z6 z7 z8 z9 z10 z11 z12 z13 z14 z15 zl o0 o1 o2 o3 o4 o5 ol
              have o0 := B8.out.cell (i := 0) rfl
              have o1 := B8.out.cell (i := 1) rfl
              have o2 := B8.out.cell (i := 2) rfl
              have o3 := B8.out.cell (i := 3) rfl
              have o4 := B8.out.cell (i := 4) rfl
              have o5 := B8.out.cell (i := 5) rfl
              have ol := B8.out.lt
              (try simp only [GW.to] at o0 o1 o2 o3 o4 o5 ol)
              go_wp2_with fail
              refine (HCALL.out ⟨own8, w8⟩ V8.out.sp).mono ?_
              rintro e w10 ⟨rfl, own10, m10, h10⟩
              have MS := Lib.hid (M8.out.trans (m10.mono (S := fun x => x ≠ 0) (fun x hx => by unfold inst at hx; omega)))
              have RO := Lib.hid (V8.out.ro.keep m10 (by unfold inst; omega))
              have RS := Lib.hid (V8.out.rs.keep m10 (by unfold inst; omega))
              have RN := Lib.hid (V8.out.rn.keep m10 (by unfold inst; omega))
              have HS := Lib.hid h10
              obtain ⟨bp, bk, bl, As, cs, cm, bs, h⟩ := h10
              have HI := Lib.hid h
              have HWB := Lib.hid (fun w' (he : Ext w10 w') => show Calls Try.prog 63 #[shelves cm bp bk bl] w' (Gives (.int .i64 (Ent.wait S'.line)) w') from sh_waits ((⟨own10, w10⟩ : GW).to 0 w') (100 + 3) cm bp bk bl _ (h.line.keep (Mod.ext (T := fun _ => False) (g := ⟨own10, w10⟩) he 0) id id))
              unfold shelves at HWB
              clear h m10 HCALL M8 V8 B8 o0 o1 o2 o3 o4 o5 ol
              have z0 := HI.out.blk.cell (i := 0) rfl
              have z1 := HI.out.blk.cell (i := 1) rfl
              have z2 := HI.out.blk.cell (i := 2) rfl
              have z3 := HI.out.blk.cell (i := 3) rfl
              have z4 := HI.out.blk.cell (i := 4) rfl
              have z5 := HI.out.blk.cell (i := 5) rfl
              have z6 := HI.out.blk.cell (i := 6) rfl
              have z7 := HI.out.blk.cell (i := 7) rfl
              have z8 := HI.out.blk.cell (i := 8) rfl
              have z9 := HI.out.blk.cell (i := 9) rfl
              have z10 := HI.out.blk.cell (i := 10) rfl
              have z11 := HI.out.blk.cell (i := 11) rfl
              have z12 := HI.out.blk.cell (i := 12) rfl
              have z13 := HI.out.blk.cell (i := 13) rfl
              have z14 := HI.out.blk.cell (i := 14) rfl
              have z15 := HI.out.blk.cell (i := 15) rfl
              have zl := HI.out.blk.lt
              (try simp only [GW.to] at z0 z1 z2 z3 z4 z5 z6 z7 z8 z9 z10 z11 z12 z13 z14 z15 zl)
              cases r1
              · have HSJ := Lib.hid (HSJ1.out () rfl)
                have q1 : (W == W - 1) = false := beq_eq_false_iff_ne.2 (by omega)
                rw [HSJ.out.waits, ← HWQ.out] at HWB
                clear HSJ1 HSJ2
                go_wp2_with fail
                refine (HWB.out _ (Ext.refl _)).mono ?_
                rintro e w11 ⟨rfl, hE⟩
                obtain ⟨own11, m11⟩ := Mod.ofExt (show Ext w10 w11 from hE) own10
                have HE11 := Lib.hid (show Ext w10 w11 from hE)
                have HI2 := Lib.hid (HI.out.keep m11 (fun x hx => hx.elim))
                clear hE m11 z0 z1 z2 z3 z4 z5 z6 z7 z8 z9 z10 z11 z12 z13 z14 z15 zl
                have z0 := HI2.out.blk.cell (i := 0) rfl
                have z1 := HI2.out.blk.cell (i := 1) rfl
                have z2 := HI2.out.blk.cell (i := 2) rfl
                have z3 := HI2.out.blk.cell (i := 3) rfl
                have z4 := HI2.out.blk.cell (i := 4) rfl
                have z5 := HI2.out.blk.cell (i := 5) rfl
                have z6 := HI2.out.blk.cell (i := 6) rfl
                have z7 := HI2.out.blk.cell (i := 7) rfl
                have z8 := HI2.out.blk.cell (i := 8) rfl
                have z9 := HI2.out.blk.cell (i := 9) rfl
                have z10 := HI2.out.blk.cell (i := 10) rfl
                have z11 := HI2.out.blk.cell (i := 11) rfl
                have z12 := HI2.out.blk.cell (i := 12) rfl
                have z13 := HI2.out.blk.cell (i := 13) rfl
                have z14 := HI2.out.blk.cell (i := 14) rfl
                have z15 := HI2.out.blk.cell (i := 15) rfl
                have zl := HI2.out.blk.lt
                (try simp only [GW.to] at z0 z1 z2 z3 z4 z5 z6 z7 z8 z9 z10 z11 z12 z13 z14 z15 zl)
                go_wp2_with fail
                refine (HWB.out _ HE11.out).mono ?_
                rintro e w12 ⟨rfl, hE⟩
                obtain ⟨own12, m12⟩ := Mod.ofExt (HE11.out.trans (show Ext w11 w12 from hE)) own10
                have MT := Lib.hid (MS.out.trans (m12.mono (S := fun x => x ≠ 0) (fun _ => False.elim)))
                have VT := Lib.hid (show SvIn ⟨own12, w12⟩ b bt n S' order since noted (.slice Ao order.length co) (.slice Az since.length cz) (.slice An noted.length cn) from ⟨HS.out.keepV m12 (fun x hx => hx.elim), HW.out.1, HSJ.out, RO.out.keep m12 id, RS.out.keep m12 id, RN.out.keep m12 id⟩)
                clear hE m12 z0 z1 z2 z3 z4 z5 z6 z7 z8 z9 z10 z11 z12 z13 z14 z15 zl
                go_wp2_with fail
                go_meet
                exact ⟨own12, S', order, since, noted, MT, VT, Lib.hid (by have := HW.out.2.2.2.2; have := HC6.out; omega)⟩
              · obtain ⟨t, o', c', s', b', n', ho, hs, hn, hwt, hsj2, hlk⟩ := HSJ2.out () rfl
                have q1 : (((o'.length : Nat) : Int) == W - 1) = true := by
                  rw [HWQ.out, ho, List.length_cons]; simp
                have q5 : (((order.length : Nat) : Int) == 0) = false := beq_eq_false_iff_ne.2 (by rw [ho, List.length_cons]; omega)
                rw [hwt] at HWB
                have HO := Lib.hid ho
                have HSI := Lib.hid hs
                have HNO := Lib.hid hn
                have HSJ := Lib.hid (And.intro hsj2 hlk)
                clear HSJ1 HSJ2 ho hs hn hwt hsj2 hlk
                go_wp2_with fail
                refine (HWB.out _ (Ext.refl _)).mono ?_
                rintro e w11 ⟨rfl, hE⟩
                obtain ⟨own11, m11⟩ := Mod.ofExt (show Ext w10 w11 from hE) own10
                have M11 := Lib.hid (MS.out.trans (m11.mono (S := fun x => x ≠ 0) (fun _ => False.elim)))
                have RO11 := Lib.hid (RO.out.keep m11 id)
                have RS11 := Lib.hid (RS.out.keep m11 id)
                have RN11 := Lib.hid (RN.out.keep m11 id)
                have HS11 := Lib.hid (HS.out.keepV m11 (fun x hx => hx.elim))
                clear hE m11 MS RO RS RN HS HI HWB z0 z1 z2 z3 z4 z5 z6 z7 z8 z9 z10 z11 z12 z13 z14 z15 zl
                obtain ⟨b1, f1, rfl, -, hl1, -, hc1, -⟩ := RO11.out.cell (i := 0) (by rw [List.length_map, HO.out, List.length_cons]; omega)
                rw [HO.out, List.map_cons, List.getElem?_cons_zero] at hc1
                simp only [Nat.add_zero] at hl1 hc1
                have dl : decide ((0 : Int) < (order.length : Nat)) = true := decide_eq_true (by rw [HO.out, List.length_cons]; omega)
                have dl' : 0 < order.length := by rw [HO.out, List.length_cons]; omega
                obtain ⟨⟨⟨gs, got, ga⟩, S2⟩, hr⟩ : ∃ r, look S' t = r := ⟨_, rfl⟩
                have HLW := Lib.hid (look_whole HW.out.1 t)
                have HLK := Lib.hid (space_look t ⟨own11, w11⟩ 100 b bt S' HS11.out (by decide) (by have := HW.out.2.2.2.2; have := HCX.out; have := HC6.out; omega))
                rw [hr] at HLW HLK HSJ
                simp only at HLW HLK HSJ
                clear hr
                go_wp2_with fail
                refine HLK.out.mono ?_
                rintro e w12 ⟨v, own12, rfl, m12, ⟨gA, gc, rfl, gr⟩, h12⟩
                have M12 := Lib.hid (M11.out.trans (m12.mono (S := fun x => x ≠ 0) (fun x hx => by unfold inst at hx; omega)))
                have RO12 := Lib.hid (RO11.out.keep m12 (by unfold inst; omega))
                have RS12 := Lib.hid (RS11.out.keep m12 (by unfold inst; omega))
                have RN12 := Lib.hid (RN11.out.keep m12 (by unfold inst; omega))
                have HS12 := Lib.hid h12
                clear m12 h12 gr HLK M11 RO11 RS11 RN11 HS11 hc1 hl1
                obtain ⟨b2, f2, rfl, -, hl2, -, hc2, -⟩ := RS12.out.cell (i := 0) (by rw [List.length_map, HSI.out, List.length_cons]; omega)
                rw [HSI.out, List.map_cons, List.getElem?_cons_zero] at hc2
                simp only [Nat.add_zero] at hl2 hc2
                have ds : decide ((0 : Int) < (since.length : Nat)) = true := decide_eq_true (by rw [HSI.out, List.length_cons]; omega)
                have ds' : 0 < since.length := by rw [HSI.out, List.length_cons]; omega
                have dn' : 0 < noted.length := by rw [HNO.out, List.length_cons]; omega
                rcases HSJ.out.2 with hg | ⟨hg, hc⟩
                · have dg : (gs != 1) = false := by simp [hg]
                  clear hg
                  go_wp2_with fail
                  obtain ⟨own13, m13⟩ := Mod.ofExt (show Ext w12 (w12.alloc (.cells #[.int .i64 gs, .slice gA got.length gc, .int .i64 ga] 90)) by (repeat (first | (with_reducible assumption) | (with_reducible exact Ext.refl _) | (with_reducible exact Ext.more _ _ _ _) | apply Ext.alloc | refine Ext.setCell ?_ (by first | exact Nat.le_refl _ | exact Nat.le_add_right _ _ | assumption) _ | apply Ext.patch | apply Ext.drew | apply Ext.drewN))) own12
                  have M13 := Lib.hid (M12.out.trans (m13.mono (S := fun x => x ≠ 0) (fun _ => False.elim)))
                  have RO13 := Lib.hid (RO12.out.keep m13 id)
                  have RS13 := Lib.hid (RS12.out.keep m13 id)
                  have RN13 := Lib.hid (RN12.out.keep m13 id)
                  have HS13 := Lib.hid (HS12.out.keepV m13 (fun x hx => hx.elim))
                  clear m13 M12 RO12 RS12 RN12 HS12 hc2 hl2
                  generalize w12.alloc (.cells #[.int .i64 gs, .slice gA got.length gc, .int .i64 ga] 90) = w13 at *
                  obtain ⟨b3, f3, rfl, -, -, -, -, -⟩ := RN13.out.cell (i := 0) (by rw [List.length_map, HNO.out, List.length_cons]; omega)
                  have ho1 : order.length ≤ co ∧ co ≤ 9223372036854775807 := by
                    obtain ⟨A9, c9, e9, h1, h2⟩ := RO13.out.form
                    simp only [Value.slice.injEq] at e9
                    obtain ⟨-, -, rfl⟩ := e9
                    rw [List.length_map] at h1
                    exact ⟨h1, h2⟩
                  have ho2 : since.length ≤ cz ∧ cz ≤ 9223372036854775807 := by
                    obtain ⟨A9, c9, e9, h1, h2⟩ := RS13.out.form
                    simp only [Value.slice.injEq] at e9
                    obtain ⟨-, -, rfl⟩ := e9
                    rw [List.length_map] at h1
                    exact ⟨h1, h2⟩
                  have ho3 : noted.length ≤ cn ∧ cn ≤ 9223372036854775807 := by
                    obtain ⟨A9, c9, e9, h1, h2⟩ := RN13.out.form
                    simp only [Value.slice.injEq] at e9
                    obtain ⟨-, -, rfl⟩ := e9
                    rw [List.length_map] at h1
                    exact ⟨h1, h2⟩
                  have RT := Lib.hid (show MRow ⟨own13, w13⟩ 71 3 (.slice (if co = 1 then some ⟨b1, f1, none⟩ else some ⟨b1, f1 + 1, none⟩) (order.length - 1) (co - 1)) (o'.map (Value.int .i64)) from by have := RO13.out; rw [show order.map (Value.int .i64) = Value.int .i64 t :: o'.map (Value.int .i64) by rw [HO.out]; rfl] at this; exact this.tail2)
                  have ST := Lib.hid (show MRow ⟨own13, w13⟩ 72 3 (.slice (if cz = 1 then some ⟨b2, f2, none⟩ else some ⟨b2, f2 + 1, none⟩) (since.length - 1) (cz - 1)) (s'.map (Value.int .i64)) from by have := RS13.out; rw [show since.map (Value.int .i64) = Value.int .i64 c' :: s'.map (Value.int .i64) by rw [HSI.out]; rfl] at this; exact this.tail2)
                  have NT := Lib.hid (show MRow ⟨own13, w13⟩ 73 4 (.slice (if cn = 1 then some ⟨b3, f3, none⟩ else some ⟨b3, f3 + 1, none⟩) (noted.length - 1) (cn - 1)) (n'.map Value.bool) from by have := RN13.out; rw [show noted.map Value.bool = Value.bool b' :: n'.map Value.bool by rw [HNO.out]; rfl] at this; exact this.tail2)
                  clear RO13 RS13 RN13
                  refine wp_region_mixed [true, true, true, true, true, true, true, true, true] 0 9 (by kernel_rfl) (by kernel_rfl) (by kernel_rfl) ?_ (by decide) (by decide) (by decide) (by kernel_rfl) ?_
                  · intro c a d v w h; cases d <;> exact h
                  intro X00
                  simp only [pickOps]
                  repeat (go_big_quiet_step (fail))
                  refine wpQuiet_nil (fun X0 => ?_)
                  clear X00
                  refine wpAnyM_done (by kernel_rfl) (fun X0' => ?_) _
                  obtain ⟨w14, hw14⟩ : ∃ w14 : World, w14 = (w13.patch X0).patch X0' := ⟨_, rfl⟩
                  rw [← hw14]
                  obtain ⟨own14, m14⟩ := Mod.ofExt (show Ext w13 w14 from by rw [hw14]; exact Ext.trans ⟨X0, rfl⟩ ⟨X0', rfl⟩) own13
                  have HM14 := Lib.hid m14
                  clear hw14 m14 ho1 ho2 ho3
                  generalize (if co = 1 then some (⟨b1, f1, none⟩ : Addr) else some ⟨b1, f1 + 1, none⟩) = a1 at *
                  generalize (if cz = 1 then some (⟨b2, f2, none⟩ : Addr) else some ⟨b2, f2 + 1, none⟩) = a2 at *
                  generalize (if cn = 1 then some (⟨b3, f3, none⟩ : Addr) else some ⟨b3, f3 + 1, none⟩) = a3 at *
                  go_wp2_with fail
                  go_meet
                  have m14 := HM14.out
                  exact ⟨own14, S2, o', s', n', Lib.hid (M13.out.trans (m14.mono (S := fun x => x ≠ 0) (fun _ => False.elim))), Lib.hid ⟨HS13.out.keepV m14 (fun x hx => hx.elim), HLW.out.1, HSJ.out.1, RT.out.keep m14 id, ST.out.keep m14 id, NT.out.keep m14 id⟩, Lib.hid (by have h1 := HW.out.2.2.2.2; have h2 := HLW.out.2.2.2; have := HC6.out; omega)⟩
                · have dg : (gs != 1) = true := by simp [hg]
                  have dg2 : (gs != 2) = false := by simp [hg]
                  have dc : decide (c' < 2) = false := decide_eq_false (by omega)
                  clear hg hc
                  go_wp2_with fail
                  obtain ⟨own13, m13⟩ := Mod.ofExt (show Ext w12 (w12.alloc (.cells #[.int .i64 gs, .slice gA got.length gc, .int .i64 ga] 90)) by (repeat (first | (with_reducible assumption) | (with_reducible exact Ext.refl _) | (with_reducible exact Ext.more _ _ _ _) | apply Ext.alloc | refine Ext.setCell ?_ (by first | exact Nat.le_refl _ | exact Nat.le_add_right _ _ | assumption) _ | apply Ext.patch | apply Ext.drew | apply Ext.drewN))) own12
                  have M13 := Lib.hid (M12.out.trans (m13.mono (S := fun x => x ≠ 0) (fun _ => False.elim)))
                  have RO13 := Lib.hid (RO12.out.keep m13 id)
                  have RS13 := Lib.hid (RS12.out.keep m13 id)
                  have RN13 := Lib.hid (RN12.out.keep m13 id)
                  have HS13 := Lib.hid (HS12.out.keepV m13 (fun x hx => hx.elim))
                  clear m13 M12 RO12 RS12 RN12 HS12 hc2 hl2
                  generalize w12.alloc (.cells #[.int .i64 gs, .slice gA got.length gc, .int .i64 ga] 90) = w13 at *
                  obtain ⟨b3, f3, rfl, -, -, -, -, -⟩ := RN13.out.cell (i := 0) (by rw [List.length_map, HNO.out, List.length_cons]; omega)
                  have ho1 : order.length ≤ co ∧ co ≤ 9223372036854775807 := by
                    obtain ⟨A9, c9, e9, h1, h2⟩ := RO13.out.form
                    simp only [Value.slice.injEq] at e9
                    obtain ⟨-, -, rfl⟩ := e9
                    rw [List.length_map] at h1
                    exact ⟨h1, h2⟩
                  have ho2 : since.length ≤ cz ∧ cz ≤ 9223372036854775807 := by
                    obtain ⟨A9, c9, e9, h1, h2⟩ := RS13.out.form
                    simp only [Value.slice.injEq] at e9
                    obtain ⟨-, -, rfl⟩ := e9
                    rw [List.length_map] at h1
                    exact ⟨h1, h2⟩
                  have ho3 : noted.length ≤ cn ∧ cn ≤ 9223372036854775807 := by
                    obtain ⟨A9, c9, e9, h1, h2⟩ := RN13.out.form
                    simp only [Value.slice.injEq] at e9
                    obtain ⟨-, -, rfl⟩ := e9
                    rw [List.length_map] at h1
                    exact ⟨h1, h2⟩
                  have RT := Lib.hid (show MRow ⟨own13, w13⟩ 71 3 (.slice (if co = 1 then some ⟨b1, f1, none⟩ else some ⟨b1, f1 + 1, none⟩) (order.length - 1) (co - 1)) (o'.map (Value.int .i64)) from by have := RO13.out; rw [show order.map (Value.int .i64) = Value.int .i64 t :: o'.map (Value.int .i64) by rw [HO.out]; rfl] at this; exact this.tail2)
                  have ST := Lib.hid (show MRow ⟨own13, w13⟩ 72 3 (.slice (if cz = 1 then some ⟨b2, f2, none⟩ else some ⟨b2, f2 + 1, none⟩) (since.length - 1) (cz - 1)) (s'.map (Value.int .i64)) from by have := RS13.out; rw [show since.map (Value.int .i64) = Value.int .i64 c' :: s'.map (Value.int .i64) by rw [HSI.out]; rfl] at this; exact this.tail2)
                  have NT := Lib.hid (show MRow ⟨own13, w13⟩ 73 4 (.slice (if cn = 1 then some ⟨b3, f3, none⟩ else some ⟨b3, f3 + 1, none⟩) (noted.length - 1) (cn - 1)) (n'.map Value.bool) from by have := RN13.out; rw [show noted.map Value.bool = Value.bool b' :: n'.map Value.bool by rw [HNO.out]; rfl] at this; exact this.tail2)
                  clear RO13 RS13 RN13
                  refine wp_region_mixed [true, true, true, true, true, true, true, true, true] 0 9 (by kernel_rfl) (by kernel_rfl) (by kernel_rfl) ?_ (by decide) (by decide) (by decide) (by kernel_rfl) ?_
                  · intro c a d v w h; cases d <;> exact h
                  intro X00
                  simp only [pickOps]
                  repeat (go_big_quiet_step (fail))
                  refine wpQuiet_nil (fun X0 => ?_)
                  clear X00
                  refine wpAnyM_done (by kernel_rfl) (fun X0' => ?_) _
                  obtain ⟨w14, hw14⟩ : ∃ w14 : World, w14 = (w13.patch X0).patch X0' := ⟨_, rfl⟩
                  rw [← hw14]
                  obtain ⟨own14, m14⟩ := Mod.ofExt (show Ext w13 w14 from by rw [hw14]; exact Ext.trans ⟨X0, rfl⟩ ⟨X0', rfl⟩) own13
                  have HM14 := Lib.hid m14
                  clear hw14 m14 ho1 ho2 ho3
                  generalize (if co = 1 then some (⟨b1, f1, none⟩ : Addr) else some ⟨b1, f1 + 1, none⟩) = a1 at *
                  generalize (if cz = 1 then some (⟨b2, f2, none⟩ : Addr) else some ⟨b2, f2 + 1, none⟩) = a2 at *
                  generalize (if cn = 1 then some (⟨b3, f3, none⟩ : Addr) else some ⟨b3, f3 + 1, none⟩) = a3 at *
                  go_wp2_with fail
                  go_meet
                  have m14 := HM14.out
                  exact ⟨own14, S2, o', s', n', Lib.hid (M13.out.trans (m14.mono (S := fun x => x ≠ 0) (fun _ => False.elim))), Lib.hid ⟨HS13.out.keepV m14 (fun x hx => hx.elim), HLW.out.1, HSJ.out.1, RT.out.keep m14 id, ST.out.keep m14 id, NT.out.keep m14 id⟩, Lib.hid (by have h1 := HW.out.2.2.2.2; have h2 := HLW.out.2.2.2; have := HC6.out; omega)⟩
          have d11 : (o.kind == 11) = false := by simp [e11]
          clear e0 e9 e6 e10 e11
          go_wp2_with fail
          go_meet
          exact ⟨own7, S, _, _, _, M7, V7, Lib.hid (by have := HC6.out; omega)⟩
        case rest =>
          clear M7 B7 V7 HCX HLX HC6
          obtain ⟨own10, S', order', since', noted', M10, V10, HC7⟩ := hcut
          have HWN := Lib.hid V10.out.sj.waits
          obtain ⟨bp, bk, bl, As, cs, cm, bs, h⟩ := V10.out.sp
          have HI := Lib.hid h
          clear h
          have HWA := Lib.hid (sh_waits ⟨own10, wc⟩ (100 + 3) cm bp bk bl _ HI.out.line)
          rw [HWN.out] at HWA
          unfold shelves at HWA
          obtain ⟨Ao, co, hvo, -, -⟩ := V10.out.ro.form
          rw [List.length_map] at hvo
          subst hvo
          have z0 := HI.out.blk.cell (i := 0) rfl
          have z1 := HI.out.blk.cell (i := 1) rfl
          have z2 := HI.out.blk.cell (i := 2) rfl
          have z3 := HI.out.blk.cell (i := 3) rfl
          have z4 := HI.out.blk.cell (i := 4) rfl
          have z5 := HI.out.blk.cell (i := 5) rfl
          have z6 := HI.out.blk.cell (i := 6) rfl
          have z7 := HI.out.blk.cell (i := 7) rfl
          have z8 := HI.out.blk.cell (i := 8) rfl
          have z9 := HI.out.blk.cell (i := 9) rfl
          have z10 := HI.out.blk.cell (i := 10) rfl
          have z11 := HI.out.blk.cell (i := 11) rfl
          have z12 := HI.out.blk.cell (i := 12) rfl
          have z13 := HI.out.blk.cell (i := 13) rfl
          have z14 := HI.out.blk.cell (i := 14) rfl
          have z15 := HI.out.blk.cell (i := 15) rfl
          have zl := HI.out.blk.lt
          (try simp only [GW.to] at z0 z1 z2 z3 z4 z5 z6 z7 z8 z9 z10 z11 z12 z13 z14 z15 zl)
          as_aux_lemma =>
            go_wp2_with fail
            refine HWA.out.mono ?_
            rintro e w11 ⟨rfl, hE⟩
            obtain ⟨own11, m11⟩ := Mod.ofExt (show Ext wc w11 from hE) own10
            have M11 := Lib.hid (M10.out.trans (m11.mono (S := fun x => x ≠ 0) (fun _ => False.elim)))
            have V11 := Lib.hid (V10.out.keep m11 (fun x hx => hx.elim))
            clear m11 hE M10 V10 HI HWA z0 z1 z2 z3 z4 z5 z6 z7 z8 z9 z10 z11 z12 z13 z14 z15 zl
            go_wp2_with fail
            go_roundw
            case rel => exact ⟨k + 1, own11, S', order', since', noted', by omega, by go_num, M11, V11, HC7⟩
            case measure => simp [intOf]; omega
      · obtain rfl : k = l.length := by omega
        have dk : decide ((l.length : Int) < l.length) = false := by simp
        go_wp2_with fail
        refine (HF.out _).mono ?_
        rintro e wz ⟨rfl, hX⟩
        have Ez := Lib.hid ((HEW4.out.trans HE6.out).trans (show Ext _ wz from hX))
        clear hX
        go_wp2_with fail
        go_ret
        exact Gives.bool rfl Ez.out
end Go.Proofs.Ytmgkfpmmlibmcaa
