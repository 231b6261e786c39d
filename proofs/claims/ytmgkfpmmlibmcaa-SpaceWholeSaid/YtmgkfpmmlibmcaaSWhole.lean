/-
  spolaw21.SpaceWhole.
-/
import Derived.Test.YtmgkfpmmlibmcaaSWholeQ
import Derived.Test.YtmgkfpmmlibmcaaSpOpen
import Derived.Test.YtmgkfpmmlibmcaaRefChk
import Derived.Test.YtmgkfpmmlibmcaaPlan1
namespace Go.Proofs.Ytmgkfpmmlibmcaa
open Go Go.RowKit
set_option linter.unusedVariables false
set_option linter.unnecessarySimpa false
set_option linter.unusedSimpArgs false
set_option maxHeartbeats 4000000
theorem infoBoolW : (Try.prog.info? 4).map (fun i => (i.zero, i.size, i.bytes)) = some (some (.bool false), 1, 1) := by kernel_rfl
theorem made_metW {k : Nat} (hk : k ≤ 1048576) : ∀ w, (Instr.makeSlice 27 (.int .i64 (k : Int)) (.int .i64 (k : Int))).run Try.prog w = .ok (.slice (some ⟨w.heap.size, 0, none⟩) k k) (w.alloc (.cells (Array.replicate k (Value.bool false)) 4)) := by
  have hz := infoBoolW
  cases hi : Try.prog.info? 4 with
  | none => rw [hi] at hz; cases hz
  | some i0 =>
    rw [hi] at hz
    simp only [Option.map_some, Option.some.injEq, Prod.mk.injEq] at hz
    obtain ⟨hz0, hz1, hz2⟩ := hz
    intro w
    have hmk := run_made (P := Try.prog) 27 4 i0 _ 1 1 Try.underlying27 hi hz0 hz1 hz2 k (by omega) (by omega) w
    rw [hmk]
    rw [show (Value.bool false).cells = #[Value.bool false] from rfl, made_one, List.toArray_replicate]
theorem bools_new (t : Nat) (g : GW) (n : Nat) : Blk (g.to t (g.w.alloc (.cells (Array.replicate n (Value.bool false)) 4))) t g.w.heap.size 4 ((List.replicate n false).map Value.bool) := by
  have h := Blk.new g t 4 ((List.replicate n false).map Value.bool)
  rw [List.map_replicate] at h ⊢
  rw [List.toArray_replicate] at h
  exact h
theorem nothingW {T : Nat → Prop} {g g' : GW} (h : Mod T g g') (hn : ∀ k, k < g.w.heap.size → ¬ T (g.own k)) : Mod (fun _ => False) g g' := ⟨h.os, h.tape, h.output, h.size, h.own, fun k hk _ => h.block k hk (hn k hk)⟩
/-- What was granted in a round. -/
def WGot (n : Nat) (kind : Int) (S : SpaceS) (out : List Bool) (gs : Int) (got : List Int) : Prop :=
  (gs = 1 → ∀ x ∈ got, ∃ a : Nat, x = a ∧ a < n) ∧ (gs = 1 → kind = 0 → got.Nodup ∧ ∀ x ∈ got, out.getD x.toNat false = false ∧ S.tab.state x = 2)
def WOut (n : Nat) (S : SpaceS) (out : List Bool) : Prop := out.length = n ∧ ∀ a : Nat, out.getD a false = true → S.tab.state a = 2
theorem WOut.keep {n : Nat} {S S' : SpaceS} {out : List Bool} (h : WOut n S out) (hk : Keeps2 S S') : WOut n S' out := ⟨h.1, fun a ha => hk a (h.2 a ha)⟩
theorem WOut.tab {n : Nat} {S S' : SpaceS} {out : List Bool} (h : WOut n S out) (hk : S'.tab = S.tab) : WOut n S' out := ⟨h.1, fun a ha => by rw [hk]; exact h.2 a ha⟩
theorem getD_set_b (out : List Bool) (a b : Nat) (v : Bool) : (out.set a v).getD b false = if a = b ∧ a < out.length then v else out.getD b false := by
  rw [List.getD_eq_getElem?_getD, List.getD_eq_getElem?_getD, List.getElem?_set]
  by_cases h : a = b
  · subst h
    by_cases h2 : a < out.length
    · rw [if_pos rfl, if_pos h2, if_pos ⟨rfl, h2⟩]; rfl
    · rw [if_pos rfl, if_neg h2, if_neg (fun h3 => h2 h3.2), List.getElem?_eq_none (by omega)]
  · rw [if_neg h, if_neg (fun h3 => h h3.1)]
/-- A grant is stored. -/
theorem gput {g : GW} {bg : Nat} {T : TypeId} {a b c : Value} (h : Blk g 9 bg T [a, b, c]) (v0 v1 v2 : Value) : Mod (fun x => x = 9) g ⟨g.own, ((g.w.setCell ⟨bg, 0, none⟩ v0).setCell ⟨bg, 1, none⟩ v1).setCell ⟨bg, 2, none⟩ v2⟩ ∧ Blk ⟨g.own, ((g.w.setCell ⟨bg, 0, none⟩ v0).setCell ⟨bg, 1, none⟩ v1).setCell ⟨bg, 2, none⟩ v2⟩ 9 bg T [v0, v1, v2] :=
  ⟨Mod.st (Mod.st (Mod.st Mod.self h.own) h.own) h.own, ((h.set 0 v0).set 1 v1).set 2 v2⟩
theorem gput_other {g : GW} {bg bo : Nat} {T : TypeId} {vs : List Value} (h : Blk g 9 bo T vs) (hb : bg ≠ bo) (v0 v1 v2 : Value) : Blk ⟨g.own, ((g.w.setCell ⟨bg, 0, none⟩ v0).setCell ⟨bg, 1, none⟩ v1).setCell ⟨bg, 2, none⟩ v2⟩ 9 bo T vs := ((h.setOther 0 v0 hb).setOther 1 v1 hb).setOther 2 v2 hb
theorem SpaceAt.keepW {T : Nat → Prop} {g g' : GW} {b bt : Nat} {S : SpaceS} (h : SpaceAt g 100 b bt S) (m : Mod T g g') (hT : ∀ x, T x → x < 100 ∨ 160 ≤ x) : SpaceAt g' 100 b bt S := by
  obtain ⟨bp, bk, bl, As, cs, cm, bs, h⟩ := h
  exact ⟨bp, bk, bl, As, cs, cm, bs, h.keep m (fun x hx => by have := hT x hx; omega)⟩
theorem WGot.ask {n : Nat} {S S' : SpaceS} {out : List Bool} {gs : Int} {got : List Int} {fr : Int} (ho : WOut n S out) (h : gs = 1 → (got.length : Int) = fr ∧ Fresh S S' n got) (kind : Int) : WGot n kind S' out gs got :=
  ⟨fun h1 x hx => by obtain ⟨a, e, ha, -⟩ := (h h1).2.2 x hx; exact ⟨a, e, ha⟩, fun h1 _ => ⟨(h h1).2.1, fun x hx => by
    obtain ⟨a, rfl, ha, h2, h3⟩ := (h h1).2.2 x hx
    refine ⟨?_, h3⟩
    rw [Int.toNat_natCast]
    cases hb : out.getD a false
    · rfl
    · exact absurd (ho.2 a hb) h2⟩⟩
theorem WGot.none (n : Nat) (kind : Int) (S : SpaceS) (out : List Bool) : WGot n kind S out 0 [] := ⟨fun h => absurd h (by decide), fun h => absurd h (by decide)⟩
set_option maxRecDepth 100000 in
theorem swhole_any (c : Cnf) (A : Option Addr) (cap : Nat) (l : List OpS) (w : World) (hc : c.Ok w) (hl : CellsAt w A (l.flatMap OpS.cells)) (hlm : l.length ≤ 9223372036854775807) :
    Calls Try.prog 9 #[c.val, .slice A l.length cap] w (Gives (.bool true) w) := by
  have HF := Lib.hid (fun w => first21_any w)
  have HFW := Lib.hid (fun w' (he : Ext w w') => few_any c w' (hc.ext he))
  have HRC := Lib.hid (fun w' (he : Ext w w') => rcheck_any c w' (hc.ext he))
  have HCC := Lib.hid (fun w' (he : Ext w w') => check_any c w' (hc.ext he))
  have HMD := Lib.hid (fun g (he : Ext w g.w) (hk : c.check = 0) => made_any c 100 g (hc.ext he) hk (by decide))
  have HL := Lib.hid hl
  unfold Cnf.val at HFW HRC HCC HMD ⊢
  obtain ⟨wb, hwb⟩ : ∃ wb, wb = w.alloc (.cells #[.int .i64 c.frags, .int .i64 c.spine, .int .i64 c.globals, .int .i64 c.threads, .int .i64 c.locals, .int .i64 c.cache, .int .i64 c.stack, .int .i64 c.low, .slice c.A c.shapes.length c.cap] 24) := ⟨_, rfl⟩
  have HE0 := Lib.hid (show Ext w wb from by rw [hwb]; exact (show Ext w _ by (repeat (first | (with_reducible assumption) | (with_reducible exact Ext.refl _) | (with_reducible exact Ext.more _ _ _ _) | apply Ext.alloc | refine Ext.setCell ?_ (by first | exact Nat.le_refl _ | exact Nat.le_add_right _ _ | assumption) _ | apply Ext.patch | apply Ext.drew | apply Ext.drewN))))
  have HBX := Lib.hid (show Blk ⟨fun _ => 0, wb⟩ 0 w.heap.size 24 [.int .i64 c.frags, .int .i64 c.spine, .int .i64 c.globals, .int .i64 c.threads, .int .i64 c.locals, .int .i64 c.cache, .int .i64 c.stack, .int .i64 c.low, .slice c.A c.shapes.length c.cap] from by rw [hwb]; exact ⟨World.row_alloc_new _, rfl⟩)
  have HX := Lib.hid (fun w' (he : Ext wb w') => show Blk ⟨fun _ => 0, w'⟩ 0 w.heap.size 24 [.int .i64 c.frags, .int .i64 c.spine, .int .i64 c.globals, .int .i64 c.threads, .int .i64 c.locals, .int .i64 c.cache, .int .i64 c.stack, .int .i64 c.low, .slice c.A c.shapes.length c.cap] from ⟨(he.heap _ HBX.out.lt).trans HBX.out.row, rfl⟩)
  clear hc hl
  go_enter Try.func9, Try.ntmps9
  go_wp2_with fail
  rw [← hwb]
  clear hwb
  refine (HF.out _).mono ?_
  rintro e w1 ⟨rfl, hE⟩
  have HE1 := Lib.hid (show Ext wb w1 from hE)
  clear hE
  have HBY := HX.out _ HE1.out
  have a0 := HBY.cell (i := 0) rfl
  have a1 := HBY.cell (i := 1) rfl
  have a2 := HBY.cell (i := 2) rfl
  have a3 := HBY.cell (i := 3) rfl
  have a4 := HBY.cell (i := 4) rfl
  have a5 := HBY.cell (i := 5) rfl
  have a6 := HBY.cell (i := 6) rfl
  have a7 := HBY.cell (i := 7) rfl
  have a8 := HBY.cell (i := 8) rfl
  have al := HBY.lt
  (try simp only [GW.to] at a0 a1 a2 a3 a4 a5 a6 a7 a8 al)
  clear HBY
  go_wp2_with fail
  refine (HRC.out _ (HE0.out.trans HE1.out)).mono ?_
  rintro e w2 ⟨rfl, hE⟩
  have HE2 := Lib.hid (HE1.out.trans (show Ext w1 w2 from hE))
  have HEW2 := Lib.hid (HE0.out.trans HE2.out)
  clear hE HE1 a0 a1 a2 a3 a4 a5 a6 a7 a8 al
  have HBY := HX.out _ HE2.out
  have a0 := HBY.cell (i := 0) rfl
  have a1 := HBY.cell (i := 1) rfl
  have a2 := HBY.cell (i := 2) rfl
  have a3 := HBY.cell (i := 3) rfl
  have a4 := HBY.cell (i := 4) rfl
  have a5 := HBY.cell (i := 5) rfl
  have a6 := HBY.cell (i := 6) rfl
  have a7 := HBY.cell (i := 7) rfl
  have a8 := HBY.cell (i := 8) rfl
  have al := HBY.lt
  (try simp only [GW.to] at a0 a1 a2 a3 a4 a5 a6 a7 a8 al)
  clear HBY
  by_cases hck : c.check = 0
  case neg =>
    have hc0 : (c.check != 0) = true := by simp [hck]
    generalize c.check = ck at *
    go_wp2_with fail
    refine (HF.out _).mono ?_
    rintro e wz ⟨rfl, hX⟩
    have Ez := Lib.hid (HEW2.out.trans (show Ext _ wz from hX))
    clear hX
    go_wp2_with fail
    go_ret
    exact Gives.bool rfl Ez.out
  case pos =>
    have hc0 : (c.check != 0) = false := by simp [hck]
    obtain ⟨⟨r0, r1⟩, -⟩ := Cnf.ranged (Cnf.check_zero hck).1
    obtain ⟨n, hn⟩ := Int.eq_ofNat_of_zero_le (show 0 ≤ c.frags by omega)
    have HNF := Lib.hid hn
    have hn4 : 1 ≤ n ∧ n ≤ 1024 := by omega
    clear hn r0 r1
    have HMD2 := Lib.hid (fun g (he : Ext w g.w) => HMD.out g he hck)
    rw [hck] at HCC
    clear HMD hck
    generalize c.check = ck at *
    go_wp2_with fail
    refine (HFW.out _ HEW2.out).mono ?_
    rintro e w3 ⟨rfl, hE⟩
    have HE3 := Lib.hid (HE2.out.trans (show Ext w2 w3 from hE))
    have HEW3 := Lib.hid (HE0.out.trans HE3.out)
    clear hE HE2 HEW2 a0 a1 a2 a3 a4 a5 a6 a7 a8 al hc0
    have HBY := HX.out _ HE3.out
    have a0 := HBY.cell (i := 0) rfl
    have a1 := HBY.cell (i := 1) rfl
    have a2 := HBY.cell (i := 2) rfl
    have a3 := HBY.cell (i := 3) rfl
    have a4 := HBY.cell (i := 4) rfl
    have a5 := HBY.cell (i := 5) rfl
    have a6 := HBY.cell (i := 6) rfl
    have a7 := HBY.cell (i := 7) rfl
    have a8 := HBY.cell (i := 8) rfl
    have al := HBY.lt
    (try simp only [GW.to] at a0 a1 a2 a3 a4 a5 a6 a7 a8 al)
    clear HBY
    cases hf : Few c
    case false =>
      clear hf
      go_wp2_with fail
      refine (HF.out _).mono ?_
      rintro e wz ⟨rfl, hX⟩
      have Ez := Lib.hid (HEW3.out.trans (show Ext _ wz from hX))
      clear hX
      go_wp2_with fail
      go_ret
      exact Gives.bool rfl Ez.out
    case true =>
    clear hf
    by_cases h300 : 300 < l.length
    · have hd : decide ((300 : Int) < l.length) = true := decide_eq_true (by omega)
      have hd' : decide (300 < l.length) = true := decide_eq_true h300
      go_wp2_with fail
      refine (HF.out _).mono ?_
      rintro e wz ⟨rfl, hX⟩
      have Ez := Lib.hid (HEW3.out.trans (show Ext _ wz from hX))
      clear hX
      go_wp2_with fail
      go_ret
      exact Gives.bool rfl Ez.out
    have hd : decide ((300 : Int) < l.length) = false := decide_eq_false (by omega)
    have hd' : decide (300 < l.length) = false := decide_eq_false h300
    go_wp2_with fail
    refine (HCC.out _ HEW3.out).mono ?_
    rintro e w4 ⟨rfl, hE⟩
    have HE4 := Lib.hid (HE3.out.trans (show Ext w3 w4 from hE))
    have HEW4 := Lib.hid (HE0.out.trans HE4.out)
    clear hE HE3 HEW3 a0 a1 a2 a3 a4 a5 a6 a7 a8 al
    have HBY := HX.out _ HE4.out
    have a0 := HBY.cell (i := 0) rfl
    have a1 := HBY.cell (i := 1) rfl
    have a2 := HBY.cell (i := 2) rfl
    have a3 := HBY.cell (i := 3) rfl
    have a4 := HBY.cell (i := 4) rfl
    have a5 := HBY.cell (i := 5) rfl
    have a6 := HBY.cell (i := 6) rfl
    have a7 := HBY.cell (i := 7) rfl
    have a8 := HBY.cell (i := 8) rfl
    have al := HBY.lt
    (try simp only [GW.to] at a0 a1 a2 a3 a4 a5 a6 a7 a8 al)
    clear HBY
    go_wp2_with fail
    refine (HMD2.out ⟨fun _ => 0, w4⟩ HEW4.out).mono ?_
    rintro e w5 ⟨own5, b, bt, rfl, m5, h5⟩
    have M5 := Lib.hid m5
    have H5 := Lib.hid h5
    have HE5 := Lib.hid (HE4.out.trans m5.toExt)
    clear m5 h5 a0 a1 a2 a3 a4 a5 a6 a7 a8 al HMD2 HCC HFW HRC
    have HBY := HX.out _ HE5.out
    have a0 := HBY.cell (i := 0) rfl
    have a1 := HBY.cell (i := 1) rfl
    have a2 := HBY.cell (i := 2) rfl
    have a3 := HBY.cell (i := 3) rfl
    have a4 := HBY.cell (i := 4) rfl
    have a5 := HBY.cell (i := 5) rfl
    have a6 := HBY.cell (i := 6) rfl
    have a7 := HBY.cell (i := 7) rfl
    have a8 := HBY.cell (i := 8) rfl
    have al := HBY.lt
    (try simp only [GW.to] at a0 a1 a2 a3 a4 a5 a6 a7 a8 al)
    clear HBY
    rw [HNF.out] at a0
    have hmk := made_metW (k := n) (by omega)
    go_wp2_with fail
    clear hmk a0 a1 a2 a3 a4 a5 a6 a7 a8 al
    obtain ⟨ownA, HA0⟩ : ∃ ownA, Hid (Mod (fun x => x ≠ 0) ⟨fun _ => 0, w4⟩ ⟨ownA, w5.alloc (.cells (Array.replicate n (Value.bool false)) 4)⟩ ∧ SpaceAt ⟨ownA, w5.alloc (.cells (Array.replicate n (Value.bool false)) 4)⟩ 100 b bt (SpaceS.fresh c (TabS.fresh n)) ∧ Blk ⟨ownA, w5.alloc (.cells (Array.replicate n (Value.bool false)) 4)⟩ 70 w5.heap.size 4 ((List.replicate n false).map Value.bool)) := by
      have ma : Mod (fun _ => False) ⟨own5, w5⟩ ((⟨own5, w5⟩ : GW).to 70 (w5.alloc (.cells (Array.replicate n (Value.bool false)) 4))) := Mod.ext (show Ext w5 _ by (repeat (first | (with_reducible assumption) | (with_reducible exact Ext.refl _) | (with_reducible exact Ext.more _ _ _ _) | apply Ext.alloc | refine Ext.setCell ?_ (by first | exact Nat.le_refl _ | exact Nat.le_add_right _ _ | assumption) _ | apply Ext.patch | apply Ext.drew | apply Ext.drewN))) 70
      have h6 := H5.out
      rw [HNF.out, Int.toNat_natCast] at h6
      obtain ⟨bp, bk, bl, As, cs, cm, bs, h6⟩ := h6
      exact ⟨_, Lib.hid ⟨(M5.out.trans ma).mono (fun _ => False.elim), ⟨bp, bk, bl, As, cs, cm, bs, h6.keep ma (fun x hx => hx.elim)⟩, bools_new 70 ⟨own5, w5⟩ n⟩⟩
    generalize w5.alloc (.cells (Array.replicate n (Value.bool false)) 4) = wA at *
    generalize w5.heap.size = br at *
    clear M5 H5
    go_loopw [8] (fun i wr => ∃ (k : Nat) (own : Nat → Nat) (S : SpaceS) (out : List Bool), k ≤ l.length ∧ i = .int .i64 k ∧ Hid (Mod (fun x => x ≠ 0) ⟨fun _ => 0, w4⟩ ⟨own, wr⟩) ∧ Hid (SpaceAt ⟨own, wr⟩ 100 b bt S) ∧ Hid (WS S n) ∧ Hid (0 ≤ S.count ∧ S.count ≤ k) ∧ Hid (Blk ⟨own, wr⟩ 70 br 4 (out.map Value.bool)) ∧ Hid (WOut n S out)) (fun i _ => l.length - (intOf i).toNat)
    case atStart => exact ⟨0, ownA, _, _, Nat.zero_le _, rfl, Lib.hid HA0.out.1, Lib.hid HA0.out.2.1, Lib.hid (fresh_whole c HNF.out), Lib.hid ⟨Int.le_refl _, Int.le_refl _⟩, Lib.hid HA0.out.2.2, Lib.hid ⟨by simp, fun a ha => by
      rw [List.getD_eq_getElem?_getD, List.getElem?_replicate] at ha
      split at ha <;> cases ha⟩⟩
    case round =>
      clear HA0
      obtain ⟨k, own6, S, out, hk, rfl, M6, H6, WS6, HC6, O6, HO6⟩ := hrel
      obtain ⟨w6, rfl⟩ : ∃ w6 : World, w6 = wr := ⟨_, rfl⟩
      have HE6 := Lib.hid ((nothingW M6.out (fun k _ => by simp)).toExt)
      by_cases hlt : k < l.length
      · have HL6 := HL.out.ext (HEW4.out.trans HE6.out)
        obtain ⟨bq, oq, hA, hq, hcq⟩ := HL6.cases (by rw [ops_length]; omega)
        have hcell : ∀ j v, (l[k]).cells[j]? = some v → w6.cell? ⟨bq, oq + k * 6 + j, none⟩ = some v := fun j v hj => by
          rw [Nat.add_assoc]
          refine hcq _ v ?_
          rw [flat_at OpS.cells_len l k j _ (List.getElem?_eq_getElem hlt) (by have := (List.getElem?_eq_some_iff.1 hj).1; exact this)]
          exact hj
        generalize l[k] = o at *
        have q0 : w6.cell? ⟨bq, oq + k * 6, none⟩ = some (.int .i64 o.kind) := hcell 0 _ rfl
        have q1 := hcell 1 _ rfl
        have q2 := hcell 2 _ rfl
        have q3 := hcell 3 _ rfl
        have q4 := hcell 4 _ rfl
        have q5 := hcell 5 _ rfl
        subst hA
        clear HL6 hcq hcell
        go_wp2_with fail
        clear q0 q1 q2 q3 q4 q5
        obtain ⟨own7, HO7⟩ : ∃ own7, Hid (Mod (fun _ => False) ⟨own6, w6⟩ ⟨own7, w6.alloc (.cells #[.int .i64 o.kind, .int .i64 o.t, .int .i64 o.frags, .int .i64 o.spine, .int .i64 o.n, .bool o.sense] 88)⟩ ∧ Blk ⟨own7, w6.alloc (.cells #[.int .i64 o.kind, .int .i64 o.t, .int .i64 o.frags, .int .i64 o.spine, .int .i64 o.n, .bool o.sense] 88)⟩ 9 w6.heap.size 88 o.cells) :=
          ⟨_, Lib.hid ⟨Mod.ext (show Ext w6 _ by (repeat (first | (with_reducible assumption) | (with_reducible exact Ext.refl _) | (with_reducible exact Ext.more _ _ _ _) | apply Ext.alloc | refine Ext.setCell ?_ (by first | exact Nat.le_refl _ | exact Nat.le_add_right _ _ | assumption) _ | apply Ext.patch | apply Ext.drew | apply Ext.drewN))) 9, Blk.new ⟨own6, w6⟩ 9 88 o.cells⟩⟩
        generalize w6.alloc (.cells #[.int .i64 o.kind, .int .i64 o.t, .int .i64 o.frags, .int .i64 o.spine, .int .i64 o.n, .bool o.sense] 88) = w7 at *
        generalize w6.heap.size = bo at *
        have m7 := HO7.out.1
        have M7 := Lib.hid (M6.out.trans (m7.mono (S := fun x => x ≠ 0) (fun _ => False.elim)))
        have B7 := Lib.hid HO7.out.2
        have O7 := Lib.hid (O6.out.keep m7 id)
        obtain ⟨bp, bk, bl, As, cs, cm, bs, h7⟩ := H6.out
        have H7 := Lib.hid (h7.keep m7 (fun x hx => hx.elim))
        clear m7 h7 HO7 M6 H6 O6 hq
        have HFR := Lib.hid (fun X => show Calls Try.prog 67 #[shelves cm bp bk bl] (w7.patch X) (Gives (.int .i64 S.pool.free) (w7.patch X)) from sh_free ((⟨own7, w7⟩ : GW).pt X) (100 + 1) cm bp bk bl _ (H7.out.pool.keep (Mod.pt (Mod.refl (fun _ => False) _) X) id))
        have HWA := Lib.hid (fun X => show Calls Try.prog 63 #[shelves cm bp bk bl] (w7.patch X) (Gives (.int .i64 (Ent.wait S.line)) (w7.patch X)) from sh_waits ((⟨own7, w7⟩ : GW).pt X) (100 + 3) cm bp bk bl _ (H7.out.line.keep (Mod.pt (Mod.refl (fun _ => False) _) X) id id))
        unfold shelves at HFR HWA
        have z0 := H7.out.blk.cell (i := 0) rfl
        have z1 := H7.out.blk.cell (i := 1) rfl
        have z2 := H7.out.blk.cell (i := 2) rfl
        have z3 := H7.out.blk.cell (i := 3) rfl
        have z4 := H7.out.blk.cell (i := 4) rfl
        have z5 := H7.out.blk.cell (i := 5) rfl
        have z6 := H7.out.blk.cell (i := 6) rfl
        have z7 := H7.out.blk.cell (i := 7) rfl
        have z8 := H7.out.blk.cell (i := 8) rfl
        have z9 := H7.out.blk.cell (i := 9) rfl
        have z10 := H7.out.blk.cell (i := 10) rfl
        have z11 := H7.out.blk.cell (i := 11) rfl
        have z12 := H7.out.blk.cell (i := 12) rfl
        have z13 := H7.out.blk.cell (i := 13) rfl
        have z14 := H7.out.blk.cell (i := 14) rfl
        have z15 := H7.out.blk.cell (i := 15) rfl
        have zl := H7.out.blk.lt
        (try simp only [GW.to] at z0 z1 z2 z3 z4 z5 z6 z7 z8 z9 z10 z11 z12 z13 z14 z15 zl)
        go_wp2_with fail
        refine wp_region_mixed [true, true, true, true, true, true, true, true, true, true, true, true] 0 12 (by kernel_rfl) (by kernel_rfl) (by kernel_rfl) ?_ (by decide) (by decide) (by decide) (by kernel_rfl) ?_
        · intro c a d v w h; cases d <;> exact h
        intro X00
        simp only [pickOps]
        repeat (go_big_quiet_step (first | (go_at_call 67; exact Calls.added (HFR.out _)) | (go_at_call 63; exact Calls.added (HWA.out _))))
        refine wpQuiet_nil (fun X0 => ?_)
        clear X00
        refine wpAnyM_done (by kernel_rfl) (fun X0' => ?_) _
        obtain ⟨w8, hw8⟩ : ∃ w8 : World, w8 = (w7.patch X0).patch X0' := ⟨_, rfl⟩
        rw [← hw8]
        obtain ⟨own8, m8⟩ := Mod.ofExt (show Ext w7 w8 from by rw [hw8]; exact Ext.trans ⟨X0, rfl⟩ ⟨X0', rfl⟩) own7
        have M8 := Lib.hid (M7.out.trans (m8.mono (S := fun x => x ≠ 0) (fun _ => False.elim)))
        have B8 := Lib.hid (B7.out.keep m8 id)
        have O8 := Lib.hid (O7.out.keep m8 id)
        have H8 := Lib.hid (H7.out.keep m8 (fun x hx => hx.elim))
        clear hw8 m8 M7 B7 O7 H7 HFR HWA z0 z1 z2 z3 z4 z5 z6 z7 z8 z9 z10 z11 z12 z13 z14 z15 zl
        go_upto_region 14 with fail
        go_cut [12] (fun sg wx => sg = .pointer (some ⟨w8.heap.size, 0, none⟩) ∧ ∃ own9, Hid (Mod (fun _ => False) ⟨own8, w8⟩ ⟨own9, wx⟩ ∧ Blk ⟨own9, wx⟩ 9 w8.heap.size 90 [.int .i64 0, .slice none 0 0, .int .i64 0]))
        case first =>
          go_wp2_with fail
          go_meet
          exact ⟨rfl, _, Lib.hid ⟨Mod.ext (show Ext w8 _ by (repeat (first | (with_reducible assumption) | (with_reducible exact Ext.refl _) | (with_reducible exact Ext.more _ _ _ _) | apply Ext.alloc | refine Ext.setCell ?_ (by first | exact Nat.le_refl _ | exact Nat.le_add_right _ _ | assumption) _ | apply Ext.patch | apply Ext.drew | apply Ext.drewN))) 9, Blk.new ⟨own8, w8⟩ 9 90 [.int .i64 0, .slice none 0 0, .int .i64 0]⟩⟩
        case rest =>
        obtain ⟨rfl, own9, HO9⟩ := hcut
        obtain ⟨w9, rfl⟩ : ∃ w9 : World, w9 = wc := ⟨_, rfl⟩
        have hbg : w8.heap.size ≠ bo := fun e => by have := B8.out.lt; simp only at this; omega
        generalize w8.heap.size = bg at *
        have m9 := HO9.out.1
        have M9 := Lib.hid (M8.out.trans (m9.mono (S := fun x => x ≠ 0) (fun _ => False.elim)))
        have G9 := Lib.hid HO9.out.2
        have B9 := Lib.hid (B8.out.keep m9 id)
        have O9 := Lib.hid (O8.out.keep m9 id)
        have H9 := Lib.hid (show SpaceAt ⟨own9, w9⟩ 100 b bt S from ⟨_, _, _, _, _, _, _, H8.out.keep m9 (fun x hx => hx.elim)⟩)
        have HCX := Lib.hid (show 0 ≤ S.count ∧ S.count ≤ 1099511627776 from by have := HC6.out; omega)
        have HLX := Lib.hid (show S.line.length < 1000000 from by have := HC6.out; have := WS6.out.ln.len; omega)
        clear m9 HO9 M8 B8 O8 H8
        go_step
        go_step
        go_cut [] (fun wx => ∃ (own : Nat → Nat) (S' : SpaceS) (out' : List Bool) (gs ga : Int) (gA : Option Addr) (gc : Nat) (got : List Int), Hid (Mod (fun x => x ≠ 0) ⟨fun _ => 0, w4⟩ ⟨own, wx⟩) ∧ Hid (SpaceAt ⟨own, wx⟩ 100 b bt S') ∧ Hid (WS S' n) ∧ Hid (0 ≤ S'.count ∧ S'.count ≤ ((k + 1 : Nat) : Int)) ∧ Hid (Blk ⟨own, wx⟩ 70 br 4 (out'.map Value.bool)) ∧ Hid (WOut n S' out') ∧ Hid (Blk ⟨own, wx⟩ 9 bo 88 o.cells) ∧ Hid (Blk ⟨own, wx⟩ 9 bg 90 [.int .i64 gs, .slice gA got.length gc, .int .i64 ga]) ∧ Hid (Row ⟨own, wx⟩ 0 3 1 (.slice gA got.length gc) got.length (got.map (Value.int .i64))) ∧ Hid (WGot n o.kind S' out' gs got))
        case first =>
          have o0 := B9.out.cell (i := 0) rfl
          have o1 := B9.out.cell (i := 1) rfl
          have o2 := B9.out.cell (i := 2) rfl
          have o3 := B9.out.cell (i := 3) rfl
          have o4 := B9.out.cell (i := 4) rfl
          have o5 := B9.out.cell (i := 5) rfl
          have ol := B9.out.lt
          (try simp only [GW.to] at o0 o1 o2 o3 o4 o5 ol)
          have g0 := G9.out.cell (i := 0) rfl
          have g1 := G9.out.cell (i := 1) rfl
          have g2 := G9.out.cell (i := 2) rfl
          have gf0 := G9.out.live 0
          have gf1 := G9.out.live 1
          have gf2 := G9.out.live 2
          have gl := G9.out.lt
          (try simp only [GW.to] at g0 g1 g2 gf0 gf1 gf2 gl)
          by_cases e0 : o.kind = 0
          · have d0 : (o.kind == 0) = true := by simp [e0]
            obtain ⟨⟨⟨gs, got, ga⟩, S'⟩, hr⟩ : ∃ r, ask S o.t o.frags o.spine o.sense = r := ⟨_, rfl⟩
            have hw := ask_whole WS6.out o.t o.frags o.spine o.sense
            have HASK := Lib.hid (space_ask_any o.t o.frags o.spine o.sense ⟨own9, w9⟩ 100 b bt S H9.out (by decide) HCX.out HLX.out)
            rw [hr] at hw HASK
            simp only at hw HASK
            obtain ⟨hw1, hw2, hw3, hw4, hw5⟩ := hw
            have HW := Lib.hid (And.intro hw1 (And.intro hw2 (And.intro hw4 hw5)))
            have HW3 := Lib.hid hw3
            have HE0K := Lib.hid e0
            clear hr hw1 hw2 hw3 hw4 hw5 e0
            as_aux_lemma =>
              go_wp2_with fail
              refine HASK.out.mono ?_
              rintro e w10 ⟨v, own10, rfl, m10, ⟨gA, gc, rfl, gr⟩, h10⟩
              have B10 := Lib.hid (B9.out.keep m10 (by unfold inst; omega))
              have G10 := Lib.hid (G9.out.keep m10 (by unfold inst; omega))
              obtain ⟨wS, hwS⟩ : ∃ wS, wS = ((w10.setCell ⟨bg, 0, none⟩ (.int .i64 gs)).setCell ⟨bg, 1, none⟩ (.slice gA got.length gc)).setCell ⟨bg, 2, none⟩ (.int .i64 ga) := ⟨_, rfl⟩
              obtain ⟨p1, p2⟩ := gput G10.out (.int .i64 gs) (.slice gA got.length gc) (.int .i64 ga)
              have p3 := gput_other B10.out hbg (.int .i64 gs) (.slice gA got.length gc) (.int .i64 ga)
              simp only at p1 p2 p3
              rw [← hwS] at p1 p2 p3
              have MS := Lib.hid ((M9.out.trans (m10.mono (S := fun x => x ≠ 0) (fun x hx => by unfold inst at hx; omega))).trans (p1.mono (fun x hx => by omega)))
              have BS := Lib.hid p3
              have GS := Lib.hid p2
              have OS := Lib.hid ((O9.out.keep m10 (by unfold inst; omega)).keep p1 (by decide))
              have HS := Lib.hid (SpaceAt.keepW h10 p1 (fun x hx => by omega))
              have RS := Lib.hid (gr.keep p1 (by decide))
              have hbs : bg ≠ b := by
                obtain ⟨bp, bk, bl, As, cs, cm, bs, h10⟩ := h10
                exact G10.out.ne h10.blk (by decide)
              have hbs' : b ≠ bg := fun e => hbs e.symm
              have hbg' : bo ≠ bg := fun e => hbg e.symm
              obtain ⟨bp, bk, bl, As, cs, cm, bs, h10⟩ := h10
              have H10i := Lib.hid h10
              clear h10 m10 gr HASK M9 B9 G9 O9 H9 o0 o1 o2 o3 o4 o5 ol g0 g1 g2 gl gf0 gf1 gf2 p1 p2 p3
              have g0 := G10.out.cell (i := 0) rfl
              have g1 := G10.out.cell (i := 1) rfl
              have g2 := G10.out.cell (i := 2) rfl
              have gf0 := G10.out.live 0
              have gf1 := G10.out.live 1
              have gf2 := G10.out.live 2
              have gl := G10.out.lt
              (try simp only [GW.to] at g0 g1 g2 gf0 gf1 gf2 gl)
              have o0 := B10.out.cell (i := 0) rfl
              have o1 := B10.out.cell (i := 1) rfl
              have o2 := B10.out.cell (i := 2) rfl
              have o3 := B10.out.cell (i := 3) rfl
              have o4 := B10.out.cell (i := 4) rfl
              have o5 := B10.out.cell (i := 5) rfl
              have ol := B10.out.lt
              (try simp only [GW.to] at o0 o1 o2 o3 o4 o5 ol)
              have z0 := H10i.out.blk.cell (i := 0) rfl
              have z1 := H10i.out.blk.cell (i := 1) rfl
              have z2 := H10i.out.blk.cell (i := 2) rfl
              have z3 := H10i.out.blk.cell (i := 3) rfl
              have z4 := H10i.out.blk.cell (i := 4) rfl
              have z5 := H10i.out.blk.cell (i := 5) rfl
              have z6 := H10i.out.blk.cell (i := 6) rfl
              have z7 := H10i.out.blk.cell (i := 7) rfl
              have z8 := H10i.out.blk.cell (i := 8) rfl
              have z9 := H10i.out.blk.cell (i := 9) rfl
              have z10 := H10i.out.blk.cell (i := 10) rfl
              have z11 := H10i.out.blk.cell (i := 11) rfl
              have z12 := H10i.out.blk.cell (i := 12) rfl
              have z13 := H10i.out.blk.cell (i := 13) rfl
              have z14 := H10i.out.blk.cell (i := 14) rfl
              have z15 := H10i.out.blk.cell (i := 15) rfl
              have zl := H10i.out.blk.lt
              (try simp only [GW.to] at z0 z1 z2 z3 z4 z5 z6 z7 z8 z9 z10 z11 z12 z13 z14 z15 zl)
              have hl3 : gs = 1 → ((got.length : Int) != o.frags) = false := fun h => by rw [(HW.out.2.2.1 h).1]; simp
              have HRES := Lib.hid (show WOut n S' out ∧ WGot n o.kind S' out gs got from ⟨HO6.out.keep HW.out.2.1, WGot.ask HO6.out HW.out.2.2.1 o.kind⟩)
              have HCN := Lib.hid (show 0 ≤ S'.count ∧ S'.count ≤ ((k + 1 : Nat) : Int) from by have := HW.out.2.2.2; have := HC6.out; omega)
              by_cases hwt : 0 < Ent.wait S.line
              · have dw : decide ((0 : Int) < (Ent.wait S.line : Nat)) = true := decide_eq_true (by omega)
                have dw' : decide (0 < Ent.wait S.line) = true := decide_eq_true hwt
                obtain ⟨bp2, bk2, bl2, As2, cs2, cm2, bs2, hS2⟩ := HS.out
                have HFR := Lib.hid (sh_free ⟨_, wS⟩ (100 + 1) cm bp bk bl S'.pool (H10i.out.pool.keep (g' := ⟨own10, wS⟩) (S := fun x => x = 9) (by
                  have := (gput G10.out (.int .i64 gs) (.slice gA got.length gc) (.int .i64 ga)).1
                  simp only at this
                  rw [← hwS] at this
                  exact this) (by decide)))
                rw [HW3.out hwt] at HFR
                unfold shelves at HFR
                clear hS2 hwt
                go_wp2_with fail
                rw [← hwS]
                refine HFR.out.mono ?_
                rintro e wT ⟨rfl, hE⟩
                obtain ⟨ownT, mT⟩ := Mod.ofExt (show Ext wS wT from hE) own10
                have MT := Lib.hid (MS.out.trans (mT.mono (S := fun x => x ≠ 0) (fun _ => False.elim)))
                have BT := Lib.hid (BS.out.keep mT id)
                have GT := Lib.hid (GS.out.keep mT id)
                have OT := Lib.hid (OS.out.keep mT id)
                have HT := Lib.hid (HS.out.keepW mT (fun x hx => hx.elim))
                have RT := Lib.hid (RS.out.keep mT id)
                clear mT hE MS BS GS OS HS RS HFR hwS g0 g1 g2 gl gf0 gf1 gf2 o0 o1 o2 o3 o4 o5 ol z0 z1 z2 z3 z4 z5 z6 z7 z8 z9 z10 z11 z12 z13 z14 z15 zl
                have g0 := GT.out.cell (i := 0) rfl
                have g1 := GT.out.cell (i := 1) rfl
                have g2 := GT.out.cell (i := 2) rfl
                have gl := GT.out.lt
                (try simp only [GW.to] at g0 g1 g2 gl)
                have o0 := BT.out.cell (i := 0) rfl
                have o1 := BT.out.cell (i := 1) rfl
                have o2 := BT.out.cell (i := 2) rfl
                have o3 := BT.out.cell (i := 3) rfl
                have o4 := BT.out.cell (i := 4) rfl
                have o5 := BT.out.cell (i := 5) rfl
                have ol := BT.out.lt
                (try simp only [GW.to] at o0 o1 o2 o3 o4 o5 ol)
                by_cases hgs : gs = 1
                · have dg : (gs == 1) = true := by simp [hgs]
                  have hl4 := hl3 hgs
                  clear hgs hl3
                  go_wp2_with fail
                  go_meet
                  exact ⟨ownT, S', out, gs, ga, gA, gc, got, MT, HT, Lib.hid HW.out.1, HCN, OT, Lib.hid HRES.out.1, BT, GT, RT, Lib.hid HRES.out.2⟩
                · have dg : (gs == 1) = false := by simp [hgs]
                  clear hgs hl3
                  go_wp2_with fail
                  go_meet
                  exact ⟨ownT, S', out, gs, ga, gA, gc, got, MT, HT, Lib.hid HW.out.1, HCN, OT, Lib.hid HRES.out.1, BT, GT, RT, Lib.hid HRES.out.2⟩
              · have dw : decide ((0 : Int) < (Ent.wait S.line : Nat)) = false := decide_eq_false (by omega)
                have dw' : decide (0 < Ent.wait S.line) = false := decide_eq_false hwt
                clear hwt
                by_cases hgs : gs = 1
                · have dg : (gs == 1) = true := by simp [hgs]
                  have hl4 := hl3 hgs
                  clear hgs hl3
                  go_wp2_with fail
                  go_meet
                  rw [← hwS]
                  exact ⟨own10, S', out, gs, ga, gA, gc, got, MS, HS, Lib.hid HW.out.1, HCN, OS, Lib.hid HRES.out.1, BS, GS, RS, Lib.hid HRES.out.2⟩
                · have dg : (gs == 1) = false := by simp [hgs]
                  clear hgs hl3
                  go_wp2_with fail
                  go_meet
                  rw [← hwS]
                  exact ⟨own10, S', out, gs, ga, gA, gc, got, MS, HS, Lib.hid HW.out.1, HCN, OS, Lib.hid HRES.out.1, BS, GS, RS, Lib.hid HRES.out.2⟩
          have d0 : (o.kind == 0) = false := by simp [e0]
          by_cases e2 : o.kind = 2
          · have d2 : (o.kind == 2) = true := by simp [e2]
            obtain ⟨⟨⟨gs, got, ga⟩, S'⟩, hr⟩ : ∃ r, look S o.t = r := ⟨_, rfl⟩
            have hw := look_whole WS6.out o.t
            have HASK := Lib.hid (space_look o.t ⟨own9, w9⟩ 100 b bt S H9.out (by decide) HCX.out)
            rw [hr] at hw HASK
            simp only at hw HASK
            have HW := Lib.hid hw
            have HE0K := Lib.hid e0
            clear hr hw e0 e2
            as_aux_lemma =>
              go_wp2_with fail
              refine HASK.out.mono ?_
              rintro e w10 ⟨v, own10, rfl, m10, ⟨gA, gc, rfl, gr⟩, h10⟩
              have B10 := Lib.hid (B9.out.keep m10 (by unfold inst; omega))
              have G10 := Lib.hid (G9.out.keep m10 (by unfold inst; omega))
              obtain ⟨wS, hwS⟩ : ∃ wS, wS = ((w10.setCell ⟨bg, 0, none⟩ (.int .i64 gs)).setCell ⟨bg, 1, none⟩ (.slice gA got.length gc)).setCell ⟨bg, 2, none⟩ (.int .i64 ga) := ⟨_, rfl⟩
              obtain ⟨p1, p2⟩ := gput G10.out (.int .i64 gs) (.slice gA got.length gc) (.int .i64 ga)
              have p3 := gput_other B10.out hbg (.int .i64 gs) (.slice gA got.length gc) (.int .i64 ga)
              simp only at p1 p2 p3
              rw [← hwS] at p1 p2 p3
              have MS := Lib.hid ((M9.out.trans (m10.mono (S := fun x => x ≠ 0) (fun x hx => by unfold inst at hx; omega))).trans (p1.mono (fun x hx => by omega)))
              have BS := Lib.hid p3
              have GS := Lib.hid p2
              have OS := Lib.hid ((O9.out.keep m10 (by unfold inst; omega)).keep p1 (by decide))
              have HS := Lib.hid (SpaceAt.keepW h10 p1 (fun x hx => by omega))
              have RS := Lib.hid (gr.keep p1 (by decide))
              clear h10 m10 gr HASK M9 B9 G9 O9 H9 o0 o1 o2 o3 o4 o5 ol g0 g1 g2 gl gf0 gf1 gf2 p1 p2 p3
              have g0 := G10.out.cell (i := 0) rfl
              have g1 := G10.out.cell (i := 1) rfl
              have g2 := G10.out.cell (i := 2) rfl
              have gf0 := G10.out.live 0
              have gf1 := G10.out.live 1
              have gf2 := G10.out.live 2
              have gl := G10.out.lt
              (try simp only [GW.to] at g0 g1 g2 gf0 gf1 gf2 gl)
              go_wp2_with fail
              go_meet
              rw [← hwS]
              exact ⟨own10, S', out, gs, ga, gA, gc, got, MS, HS, Lib.hid HW.out.1, Lib.hid (by have := HW.out.2.2.2; have := HC6.out; omega), OS, Lib.hid (HO6.out.tab HW.out.2.1), BS, GS, RS, Lib.hid ⟨HW.out.2.2.1, fun _ h => absurd h HE0K.out⟩⟩
          have d2 : (o.kind == 2) = false := by simp [e2]
          by_cases e3 : o.kind = 3
          · have d3 : (o.kind == 3) = true := by simp [e3]
            have HW := Lib.hid (drain_whole WS6.out o.t)
            have HCALL := Lib.hid (space_drain o.t ⟨own9, w9⟩ 100 b bt S H9.out (by decide) HCX.out)
            clear e0 e2 e3
            as_aux_lemma =>
              go_wp2_with fail
              refine HCALL.out.mono ?_
              rintro e w10 ⟨rfl, own10, m10, h10⟩
              have MS := Lib.hid (M9.out.trans (m10.mono (S := fun x => x ≠ 0) (fun x hx => by unfold inst at hx; omega)))
              have BS := Lib.hid (B9.out.keep m10 (by unfold inst; omega))
              have GS := Lib.hid (G9.out.keep m10 (by unfold inst; omega))
              have OS := Lib.hid (O9.out.keep m10 (by unfold inst; omega))
              have HS := Lib.hid h10
              clear m10 h10 HCALL M9 B9 G9 O9 H9 o0 o1 o2 o3 o4 o5 ol g0 g1 g2 gl gf0 gf1 gf2
              go_wp2_with fail
              go_meet
              exact ⟨own10, _, out, 0, 0, none, 0, [], MS, HS, Lib.hid HW.out.1, Lib.hid (by have := HW.out.2.2; have := HC6.out; omega), OS, Lib.hid (HO6.out.keep HW.out.2.1), BS, GS, Lib.hid (Row.nil _ _ _ _), Lib.hid (WGot.none _ _ _ _)⟩
          have d3 : (o.kind == 3) = false := by simp [e3]
          by_cases e9 : o.kind = 9
          · have d9 : (o.kind == 9) = true := by simp [e9]
            have HW := Lib.hid (sweep_whole WS6.out o.n o.sense)
            have HCALL := Lib.hid (space_sweep o.n o.sense ⟨own9, w9⟩ 100 b bt S H9.out (by decide) HCX.out)
            clear e0 e2 e3 e9
            cases hsw : sweeps S o.n o.sense
            · rw [hsw] at HCALL HW
              have HTQ := Lib.hid (HW.out.2.2.1 rfl)
              clear hsw
              as_aux_lemma =>
                go_wp2_with fail
                refine HCALL.out.mono ?_
                rintro e w10 ⟨rfl, own10, m10, h10⟩
                have MS := Lib.hid (M9.out.trans (m10.mono (S := fun x => x ≠ 0) (fun x hx => by unfold inst at hx; omega)))
                have BS := Lib.hid (B9.out.keep m10 (by unfold inst; omega))
                have GS := Lib.hid (G9.out.keep m10 (by unfold inst; omega))
                have OS := Lib.hid (O9.out.keep m10 (by unfold inst; omega))
                have HS := Lib.hid h10
                clear m10 h10 HCALL M9 B9 G9 O9 H9 o0 o1 o2 o3 o4 o5 ol g0 g1 g2 gl gf0 gf1 gf2
                go_wp2_with fail
                go_meet
                exact ⟨own10, _, out, 0, 0, none, 0, [], MS, HS, Lib.hid HW.out.1, Lib.hid (by have := HW.out.2.2.2; have := HC6.out; omega), OS, Lib.hid (HO6.out.tab HTQ.out), BS, GS, Lib.hid (Row.nil _ _ _ _), Lib.hid (WGot.none _ _ _ _)⟩
            · rw [hsw] at HCALL HW
              clear hsw
              obtain ⟨a, hna, han, hst⟩ := HW.out.2.1 rfl
              have HST := Lib.hid hst
              have hou := HO6.out.1
              rw [hna] at o4 HCALL
              have HNA := Lib.hid hna
              have q1 : decide ((a : Int) < 0) = false := decide_eq_false (by omega)
              have q2 : decide ((n : Int) ≤ (a : Int)) = false := decide_eq_false (by omega)
              have q2' : decide (n ≤ a) = false := decide_eq_false (by omega)
              clear hna hst
              as_aux_lemma =>
                go_wp2_with fail
                refine HCALL.out.mono ?_
                rintro e w10 ⟨rfl, own10, m10, h10⟩
                have MS := Lib.hid (M9.out.trans (m10.mono (S := fun x => x ≠ 0) (fun x hx => by unfold inst at hx; omega)))
                have BS := Lib.hid (B9.out.keep m10 (by unfold inst; omega))
                have GS := Lib.hid (G9.out.keep m10 (by unfold inst; omega))
                have OS := Lib.hid (O9.out.keep m10 (by unfold inst; omega))
                have HS := Lib.hid h10
                have HEB := Lib.hid (show Ext wb w10 from HE4.out.trans (nothingW MS.out (fun k _ => by simp)).toExt)
                clear m10 h10 HCALL M9 B9 G9 O9 H9 o0 o1 o2 o3 o4 o5 ol g0 g1 g2 gl gf0 gf1 gf2
                have o0 := BS.out.cell (i := 0) rfl
                have o1 := BS.out.cell (i := 1) rfl
                have o2 := BS.out.cell (i := 2) rfl
                have o3 := BS.out.cell (i := 3) rfl
                have o4 := BS.out.cell (i := 4) rfl
                have o5 := BS.out.cell (i := 5) rfl
                have ol := BS.out.lt
                (try simp only [GW.to] at o0 o1 o2 o3 o4 o5 ol)
                rw [HNA.out] at o4
                have HBY := HX.out _ HEB.out
                have c0 := HBY.cell (i := 0) rfl
                have cl := HBY.lt
                simp only at c0 cl
                rw [HNF.out] at c0
                have a0 := OS.out.cell (i := a) (v := .bool (out.getD a false)) (by rw [List.getElem?_map, List.getD_eq_getElem?_getD, List.getElem?_eq_getElem (by omega)]; rfl)
                have af := OS.out.live a
                have al := OS.out.lt
                simp only at a0 af al
                clear HBY
                go_wp2_with fail
                go_meet
                have mS : Mod (fun x => x = 70) ⟨own10, w10⟩ ⟨own10, w10.setCell ⟨br, a, none⟩ (.bool false)⟩ := Mod.set (g := ⟨own10, w10⟩) OS.out.own
                have OS2 := OS.out.set a (.bool false)
                rw [← List.map_set] at OS2
                exact ⟨own10, _, out.set a false, 0, 0, none, 0, [], Lib.hid (MS.out.trans (mS.mono (fun x hx => by omega))), Lib.hid (HS.out.keepW mS (fun x hx => by omega)), Lib.hid (by have := HW.out.1; rw [HNA.out] at this; exact this), Lib.hid (by have h1 := HW.out.2.2.2; have := HC6.out; rw [HNA.out] at h1; omega), Lib.hid OS2, Lib.hid ⟨by simpa using hou, fun q hq => by
                  rw [getD_set_b] at hq
                  split at hq
                  · cases hq
                  · rename_i hne
                    have h1 : q ≠ a := fun e => hne ⟨e.symm, by omega⟩
                    have h2 := HST.out q h1
                    rw [HNA.out] at h2
                    rw [h2]
                    exact HO6.out.2 q hq⟩, Lib.hid (BS.out.keep mS (by decide)), Lib.hid (GS.out.keep mS (by decide)), Lib.hid (Row.nil _ _ _ _), Lib.hid (WGot.none _ _ _ _)⟩
          have d9 : (o.kind == 9) = false := by simp [e9]
          by_cases e6 : o.kind = 6
          · have d6 : (o.kind == 6) = true := by simp [e6]
            have HW := Lib.hid (begin_whole WS6.out)
            have HCALL := Lib.hid (space_begin ⟨own9, w9⟩ 100 b bt S H9.out (by decide) HCX.out)
            clear e0 e2 e3 e9 e6
            as_aux_lemma =>
              go_wp2_with fail
              refine HCALL.out.mono ?_
              rintro e w10 ⟨rfl, own10, m10, h10⟩
              have MS := Lib.hid (M9.out.trans (m10.mono (S := fun x => x ≠ 0) (fun x hx => by unfold inst at hx; omega)))
              have BS := Lib.hid (B9.out.keep m10 (by unfold inst; omega))
              have GS := Lib.hid (G9.out.keep m10 (by unfold inst; omega))
              have OS := Lib.hid (O9.out.keep m10 (by unfold inst; omega))
              have HS := Lib.hid h10
              clear m10 h10 HCALL M9 B9 G9 O9 H9 o0 o1 o2 o3 o4 o5 ol g0 g1 g2 gl gf0 gf1 gf2
              go_wp2_with fail
              go_meet
              exact ⟨own10, _, out, 0, 0, none, 0, [], MS, HS, Lib.hid HW.out.1, Lib.hid (by have := HW.out.2.2; have := HC6.out; omega), OS, Lib.hid (HO6.out.tab HW.out.2.1), BS, GS, Lib.hid (Row.nil _ _ _ _), Lib.hid (WGot.none _ _ _ _)⟩
          have d6 : (o.kind == 6) = false := by simp [e6]
          by_cases e10 : o.kind = 10
          · have d10 : (o.kind == 10) = true := by simp [e10]
            have HW := Lib.hid (end_whole WS6.out)
            have HCALL := Lib.hid (space_end ⟨own9, w9⟩ 100 b bt S H9.out (by decide) HCX.out (fun e he => by
              obtain ⟨-, -, h1, h2⟩ := WS6.out.ln.ents e he
              have := HCX.out
              omega))
            clear e0 e2 e3 e9 e6 e10
            as_aux_lemma =>
              go_wp2_with fail
              refine HCALL.out.mono ?_
              rintro e w10 ⟨rfl, own10, m10, h10⟩
              have MS := Lib.hid (M9.out.trans (m10.mono (S := fun x => x ≠ 0) (fun x hx => by unfold inst at hx; omega)))
              have BS := Lib.hid (B9.out.keep m10 (by unfold inst; omega))
              have GS := Lib.hid (G9.out.keep m10 (by unfold inst; omega))
              have OS := Lib.hid (O9.out.keep m10 (by unfold inst; omega))
              have HS := Lib.hid h10
              clear m10 h10 HCALL M9 B9 G9 O9 H9 o0 o1 o2 o3 o4 o5 ol g0 g1 g2 gl gf0 gf1 gf2
              go_wp2_with fail
              go_meet
              exact ⟨own10, _, out, 0, 0, none, 0, [], MS, HS, Lib.hid HW.out.1, Lib.hid (by have := HW.out.2.2; have := HC6.out; omega), OS, Lib.hid (HO6.out.tab HW.out.2.1), BS, GS, Lib.hid (Row.nil _ _ _ _), Lib.hid (WGot.none _ _ _ _)⟩
          have d10 : (o.kind == 10) = false := by simp [e10]
          by_cases e11 : o.kind = 11
          · have d11 : (o.kind == 11) = true := by simp [e11]
            have HW := Lib.hid (serve_whole WS6.out o.sense)
            have HCALL := Lib.hid (space_serve_any o.sense ⟨own9, w9⟩ 100 b bt S H9.out (by decide) HCX.out (fun e he => (WS6.out.ln.ents e he).1))
            clear e0 e2 e3 e9 e6 e10 e11
            obtain ⟨r1, S', hr⟩ : ∃ r1 S', serve S o.sense = (r1, S') := ⟨_, _, rfl⟩
            rw [hr] at HW HCALL
            clear hr
            simp only at HW HCALL
            as_aux_lemma =>
              go_wp2_with fail
              refine HCALL.out.mono ?_
              rintro e w10 ⟨rfl, own10, m10, h10⟩
              have MS := Lib.hid (M9.out.trans (m10.mono (S := fun x => x ≠ 0) (fun x hx => by unfold inst at hx; omega)))
              have BS := Lib.hid (B9.out.keep m10 (by unfold inst; omega))
              have GS := Lib.hid (G9.out.keep m10 (by unfold inst; omega))
              have OS := Lib.hid (O9.out.keep m10 (by unfold inst; omega))
              have HS := Lib.hid h10
              obtain ⟨bp, bk, bl, As, cs, cm, bs, h10⟩ := h10
              have HI := Lib.hid h10
              clear m10 h10 HCALL M9 B9 G9 O9 H9 o0 o1 o2 o3 o4 o5 ol g0 g1 g2 gl gf0 gf1 gf2
              have HWA := Lib.hid (sh_waits ⟨own10, w10⟩ (100 + 3) cm bp bk bl _ HI.out.line)
              unfold shelves at HWA
              have z0 := HI.out.blk.cell (i := 0) rfl
              have z1 := HI.out.blk.cell (i := 1) rfl
              have z2 := HI.out.blk.cell (i := 2) rfl
              have z3 := HI.out.blk.cell (i := 3) rfl
              have z4 := HI.out.blk.cell (i := 4) rfl
              have z5 := HI.out.blk.cell (i := 5) rfl
              have z6 := HI.out.blk.cell (i := 6) rfl
              have z7 := HI.out.blk.cell (i := 7) rfl
              have z8 := HI.out.blk.cell (i := 8) rfl
              have z9 := HI.out.blk.cell (i := 9) rfl
              have z10 := HI.out.blk.cell (i := 10) rfl
              have z11 := HI.out.blk.cell (i := 11) rfl
              have z12 := HI.out.blk.cell (i := 12) rfl
              have z13 := HI.out.blk.cell (i := 13) rfl
              have z14 := HI.out.blk.cell (i := 14) rfl
              have z15 := HI.out.blk.cell (i := 15) rfl
              have zl := HI.out.blk.lt
              (try simp only [GW.to] at z0 z1 z2 z3 z4 z5 z6 z7 z8 z9 z10 z11 z12 z13 z14 z15 zl)
              go_wp2_with fail
              refine HWA.out.mono ?_
              rintro e w11 ⟨rfl, hE⟩
              obtain ⟨own11, m11⟩ := Mod.ofExt (show Ext w10 w11 from hE) own10
              have MS2 := Lib.hid (MS.out.trans (m11.mono (S := fun x => x ≠ 0) (fun _ => False.elim)))
              have BS2 := Lib.hid (BS.out.keep m11 id)
              have GS2 := Lib.hid (GS.out.keep m11 id)
              have OS2 := Lib.hid (OS.out.keep m11 id)
              have HI2 := Lib.hid (HI.out.keep m11 (fun x hx => hx.elim))
              have hwx := HW.out.2.2.1
              have hwy := HW.out.2.2.2.1
              have q1 : decide ((Ent.wait S.line : Int) < (Ent.wait S'.line : Nat)) = false := decide_eq_false (by omega)
              have q1' : decide (Ent.wait S.line < Ent.wait S'.line) = false := decide_eq_false (by omega)
              clear m11 hE MS BS GS OS HS HI HWA z0 z1 z2 z3 z4 z5 z6 z7 z8 z9 z10 z11 z12 z13 z14 z15 zl
              have HWA := Lib.hid (sh_waits ⟨own11, w11⟩ (100 + 3) cm bp bk bl _ HI2.out.line)
              unfold shelves at HWA
              have z0 := HI2.out.blk.cell (i := 0) rfl
              have z1 := HI2.out.blk.cell (i := 1) rfl
              have z2 := HI2.out.blk.cell (i := 2) rfl
              have z3 := HI2.out.blk.cell (i := 3) rfl
              have z4 := HI2.out.blk.cell (i := 4) rfl
              have z5 := HI2.out.blk.cell (i := 5) rfl
              have z6 := HI2.out.blk.cell (i := 6) rfl
              have z7 := HI2.out.blk.cell (i := 7) rfl
              have z8 := HI2.out.blk.cell (i := 8) rfl
              have z9 := HI2.out.blk.cell (i := 9) rfl
              have z10 := HI2.out.blk.cell (i := 10) rfl
              have z11 := HI2.out.blk.cell (i := 11) rfl
              have z12 := HI2.out.blk.cell (i := 12) rfl
              have z13 := HI2.out.blk.cell (i := 13) rfl
              have z14 := HI2.out.blk.cell (i := 14) rfl
              have z15 := HI2.out.blk.cell (i := 15) rfl
              have zl := HI2.out.blk.lt
              (try simp only [GW.to] at z0 z1 z2 z3 z4 z5 z6 z7 z8 z9 z10 z11 z12 z13 z14 z15 zl)
              go_wp2_with fail
              refine HWA.out.mono ?_
              rintro e w12 ⟨rfl, hE⟩
              obtain ⟨own12, m12⟩ := Mod.ofExt (show Ext w11 w12 from hE) own11
              have MS := Lib.hid (MS2.out.trans (m12.mono (S := fun x => x ≠ 0) (fun _ => False.elim)))
              have BS := Lib.hid (BS2.out.keep m12 id)
              have GS := Lib.hid (GS2.out.keep m12 id)
              have OS := Lib.hid (OS2.out.keep m12 id)
              have HS := Lib.hid (show SpaceAt ⟨own12, w12⟩ 100 b bt S' from ⟨_, _, _, _, _, _, _, HI2.out.keep m12 (fun x hx => hx.elim)⟩)
              have hws := HC6.out
              have hwl : (Ent.wait S.line : Int) ≤ 1000 := by
                have h1 := WS6.out.ln.len
                have h2 : Ent.wait S.line ≤ S.line.length := List.countP_le_length
                omega
              have q3 : decide ((Ent.wait S'.line : Int) < (Ent.wait S.line : Int) - 1) = false := decide_eq_false (by omega)
              clear m12 hE MS2 BS2 GS2 OS2 HI2 HWA z0 z1 z2 z3 z4 z5 z6 z7 z8 z9 z10 z11 z12 z13 z14 z15 zl
              go_wp2_with fail
              go_meet
              exact ⟨own12, S', out, 0, 0, none, 0, [], MS, HS, Lib.hid HW.out.1, Lib.hid (by have := HW.out.2.2.2.2; omega), OS, Lib.hid (HO6.out.keep HW.out.2.1), BS, GS, Lib.hid (Row.nil _ _ _ _), Lib.hid (WGot.none _ _ _ _)⟩
          have d11 : (o.kind == 11) = false := by simp [e11]
          clear e0 e2 e3 e9 e6 e10 e11
          go_wp2_with fail
          go_meet
          exact ⟨own9, S, out, 0, 0, none, 0, [], M9, H9, WS6, Lib.hid (by have := HC6.out; omega), O9, HO6, B9, G9, Lib.hid (Row.nil _ _ _ _), Lib.hid (WGot.none _ _ _ _)⟩
        case rest =>
          clear M9 B9 G9 O9 H9 HCX HLX WS6 HC6 HO6
          obtain ⟨own10, S', out', gs, ga, gA, gc, got, M10, H10, WS7, HC7, O10, HO7, B10, G10, R10, HG⟩ := hcut
          have HCT := Lib.hid WS7.out.wt.counts
          go_wp2_with fail
          go_loopw [13] (fun j wr => ∃ (jn : Nat) (own : Nat → Nat) (out2 : List Bool), j = .int .i64 jn ∧ jn ≤ got.length ∧ Hid (Mod (fun x => x ≠ 0) ⟨fun _ => 0, w4⟩ ⟨own, wr⟩) ∧ Hid (SpaceAt ⟨own, wr⟩ 100 b bt S') ∧ Hid (Blk ⟨own, wr⟩ 70 br 4 (out2.map Value.bool)) ∧ Hid (WOut n S' out2) ∧ Hid (Blk ⟨own, wr⟩ 9 bo 88 o.cells) ∧ Hid (Blk ⟨own, wr⟩ 9 bg 90 [.int .i64 gs, .slice gA got.length gc, .int .i64 ga]) ∧ Hid (Row ⟨own, wr⟩ 0 3 1 (.slice gA got.length gc) got.length (got.map (Value.int .i64))) ∧ Hid (gs = 1 → o.kind = 0 → ∀ i : Nat, jn ≤ i → i < got.length → out2.getD (got.getD i 0).toNat false = false)) (fun j _ => got.length - (intOf j).toNat)
          case atStart => exact ⟨0, own10, out', rfl, Nat.zero_le _, M10, H10, O10, HO7, B10, G10, R10, Lib.hid (fun h1 h2 i _ hi => by
            refine ((HG.out.2 h1 h2).2 (got.getD i 0) ?_).1
            rw [List.getD_eq_getElem?_getD, List.getElem?_eq_getElem hi]
            exact List.getElem_mem hi)⟩
          case round =>
            clear M10 H10 O10 HO7 B10 G10 R10
            obtain ⟨jn, own11, out2, rfl, hjn, M, H, O, HO, B, G, R, HF0⟩ := hrel
            obtain ⟨w11, rfl⟩ : ∃ w11 : World, w11 = wr := ⟨_, rfl⟩
            have g0 := G.out.cell (i := 0) rfl
            have g1 := G.out.cell (i := 1) rfl
            have g2 := G.out.cell (i := 2) rfl
            have gl := G.out.lt
            (try simp only [GW.to] at g0 g1 g2 gl)
            have HEB := Lib.hid (show Ext wb w11 from HE4.out.trans (nothingW M.out (fun k _ => by simp)).toExt)
            have HBY := HX.out _ HEB.out
            have c0 := HBY.cell (i := 0) rfl
            have cl := HBY.lt
            simp only at c0 cl
            rw [HNF.out] at c0
            clear HBY
            by_cases hgj : gs = 1 ∧ jn < got.length
            · obtain ⟨hgs, hj⟩ := hgj
              have dg : (gs == 1) = true := by simp [hgs]
              have dj : decide ((jn : Int) < got.length) = true := decide_eq_true (by omega)
              have dj' : decide (jn < got.length) = true := decide_eq_true hj
              obtain ⟨rb, rfl, hrl, -, hrc, -⟩ := R.out.block (by omega)
              have hmem : got.getD jn 0 ∈ got := by
                rw [List.getD_eq_getElem?_getD, List.getElem?_eq_getElem hj]
                exact List.getElem_mem hj
              obtain ⟨a, hxa, han⟩ := HG.out.1 hgs _ hmem
              have r0 := hrc jn (.int .i64 a) (by
                rw [← hxa, List.getElem?_map, List.getD_eq_getElem?_getD, List.getElem?_eq_getElem hj]; rfl)
              simp only at r0 hrl
              have q1 : decide ((a : Int) < 0) = false := decide_eq_false (by omega)
              have q2 : decide ((n : Int) ≤ (a : Int)) = false := decide_eq_false (by omega)
              have q2' : decide (n ≤ a) = false := decide_eq_false (by omega)
              have hol := HO.out.1
              have a0 := O.out.cell (i := a) (v := .bool (out2.getD a false)) (by rw [List.getElem?_map, List.getD_eq_getElem?_getD, List.getElem?_eq_getElem (by omega)]; rfl)
              have af := O.out.live a
              have al := O.out.lt
              simp only at a0 af al
              have o0 := B.out.cell (i := 0) rfl
              have o1 := B.out.cell (i := 1) rfl
              have o2 := B.out.cell (i := 2) rfl
              have o3 := B.out.cell (i := 3) rfl
              have o4 := B.out.cell (i := 4) rfl
              have o5 := B.out.cell (i := 5) rfl
              have ol := B.out.lt
              (try simp only [GW.to] at o0 o1 o2 o3 o4 o5 ol)
              obtain ⟨bp, bk, bl, As, cs, cm, bs, h⟩ := H.out
              have HTS := Lib.hid (show Calls Try.prog 69 #[.pointer (some ⟨bt, 0, none⟩), .int .i64 a] w11 (fun e w' => e = .returned (.int .i64 (S'.tab.state a)) ∧ w11 = w') from tab_state ⟨own11, w11⟩ (100 + 50) bt a S'.tab h.tab)
              have hj9 : jn < 9223372036854775807 := by
                obtain ⟨A9, c9, e9, h9, h9', -⟩ := R.out.form
                omega
              have HGS := Lib.hid hgs
              have HXA := Lib.hid hxa
              have HJ := Lib.hid hj
              clear h hrc hmem hgs hxa hj
              have HEND := Lib.hid (show ∃ own12, Mod (fun x => x ≠ 0) ⟨fun _ => 0, w4⟩ ⟨own12, w11.setCell ⟨br, a, none⟩ (.bool (((S'.tab.state a : Nat) : Int) == 2))⟩ ∧ SpaceAt ⟨own12, w11.setCell ⟨br, a, none⟩ (.bool (((S'.tab.state a : Nat) : Int) == 2))⟩ 100 b bt S' ∧ Blk ⟨own12, w11.setCell ⟨br, a, none⟩ (.bool (((S'.tab.state a : Nat) : Int) == 2))⟩ 70 br 4 ((out2.set a (((S'.tab.state a : Nat) : Int) == 2)).map Value.bool) ∧ Blk ⟨own12, w11.setCell ⟨br, a, none⟩ (.bool (((S'.tab.state a : Nat) : Int) == 2))⟩ 9 bo 88 o.cells ∧ Blk ⟨own12, w11.setCell ⟨br, a, none⟩ (.bool (((S'.tab.state a : Nat) : Int) == 2))⟩ 9 bg 90 [.int .i64 gs, .slice (some ⟨rb, 0, none⟩) got.length gc, .int .i64 ga] ∧ Row ⟨own12, w11.setCell ⟨br, a, none⟩ (.bool (((S'.tab.state a : Nat) : Int) == 2))⟩ 0 3 1 (.slice (some ⟨rb, 0, none⟩) got.length gc) got.length (got.map (Value.int .i64)) from by
                have mS : Mod (fun x => x = 70) ⟨own11, w11⟩ ⟨own11, w11.setCell ⟨br, a, none⟩ (.bool (((S'.tab.state a : Nat) : Int) == 2))⟩ := Mod.set (g := ⟨own11, w11⟩) O.out.own
                have h2 := O.out.set a (.bool (((S'.tab.state a : Nat) : Int) == 2))
                rw [← List.map_set] at h2
                exact ⟨own11, M.out.trans (mS.mono (fun x hx => by omega)), H.out.keepW mS (fun x hx => by omega), h2, B.out.keep mS (by decide), G.out.keep mS (by decide), R.out.keep mS (by decide)⟩)
              have HWO := Lib.hid (show WOut n S' (out2.set a (((S'.tab.state a : Nat) : Int) == 2)) from ⟨by simpa using hol, fun q hq => by
                rw [getD_set_b] at hq
                split at hq
                · rename_i h3
                  have h4 : ((S'.tab.state a : Nat) : Int) = 2 := by simpa using hq
                  rw [← h3.1]; omega
                · exact HO.out.2 q hq⟩)
              have HFN := Lib.hid (show gs = 1 → o.kind = 0 → ∀ i : Nat, jn + 1 ≤ i → i < got.length → (out2.set a (((S'.tab.state a : Nat) : Int) == 2)).getD (got.getD i 0).toNat false = false from fun h1 h2 i hi1 hi2 => by
                rw [getD_set_b, if_neg (fun h3 => ?_)]
                · exact HF0.out h1 h2 i (by omega) hi2
                · have hnd := (HG.out.2 h1 h2).1
                  have e1 : got.getD i 0 = got.getD jn 0 := by
                    obtain ⟨a2, e2, -⟩ := HG.out.1 h1 (got.getD i 0) (by
                      rw [List.getD_eq_getElem?_getD, List.getElem?_eq_getElem hi2]
                      exact List.getElem_mem hi2)
                    have := h3.1
                    have h5 := HXA.out
                    rw [e2] at this ⊢
                    rw [h5]
                    omega
                  rw [List.getD_eq_getElem?_getD, List.getD_eq_getElem?_getD, List.getElem?_eq_getElem hi2, List.getElem?_eq_getElem HJ.out] at e1
                  simp only [Option.getD_some] at e1
                  have := (List.getElem_inj hnd).1 e1
                  omega)
              by_cases e0 : o.kind = 0
              · have d0 : (o.kind == 0) = true := by simp [e0]
                have hst : S'.tab.state a = 2 := by
                  have := ((HG.out.2 HGS.out e0).2 _ (show got.getD jn 0 ∈ got by
                    rw [List.getD_eq_getElem?_getD, List.getElem?_eq_getElem HJ.out]
                    exact List.getElem_mem HJ.out)).2
                  rw [HXA.out] at this
                  exact this
                have hof : out2.getD a false = false := by
                  have := HF0.out HGS.out e0 jn (Nat.le_refl _) HJ.out
                  rw [HXA.out, Int.toNat_natCast] at this
                  exact this
                rw [hof] at a0
                rw [hst] at HTS HEND HWO HFN
                rw [show ((2 : Nat) : Int) = 2 from rfl] at HTS HEND HWO HFN
                rw [show ((2 : Int) == 2) = true from rfl] at HEND HWO HFN
                clear hof hst e0
                as_aux_lemma =>
                  go_wp2_with fail
                  refine HTS.out.mono ?_
                  rintro e wv ⟨rfl, rfl⟩
                  go_wp2_with fail
                  refine HTS.out.mono ?_
                  rintro e wv ⟨rfl, rfl⟩
                  go_wp2_with fail
                  go_roundw
                  case rel =>
                    obtain ⟨own12, e1, e2, e3, e4, e5, e6⟩ := HEND.out
                    exact ⟨jn + 1, own12, _, by go_num, by have := HJ.out; omega, Lib.hid e1, Lib.hid e2, Lib.hid e3, HWO, Lib.hid e4, Lib.hid e5, Lib.hid e6, HFN⟩
                  case measure => have := HJ.out; simp [intOf]; omega
              · have d0 : (o.kind == 0) = false := by simp [e0]
                clear e0
                as_aux_lemma =>
                  go_wp2_with fail
                  refine HTS.out.mono ?_
                  rintro e wv ⟨rfl, rfl⟩
                  go_wp2_with fail
                  go_roundw
                  case rel =>
                    obtain ⟨own12, e1, e2, e3, e4, e5, e6⟩ := HEND.out
                    exact ⟨jn + 1, own12, _, by go_num, by have := HJ.out; omega, Lib.hid e1, Lib.hid e2, Lib.hid e3, HWO, Lib.hid e4, Lib.hid e5, Lib.hid e6, HFN⟩
                  case measure => have := HJ.out; simp [intOf]; omega
            · obtain ⟨bp, bk, bl, As, cs, cm, bs, h⟩ := H.out
              have HI := Lib.hid h
              clear h
              have HCNT := Lib.hid (tab_counts ⟨own11, w11⟩ (100 + 50) bt S'.tab HI.out.tab)
              have ht1 := HCT.out.1
              have ht2 := HCT.out.2
              generalize S'.tab.cnt 0 = t0 at *
              generalize S'.tab.cnt 1 = t1 at *
              generalize S'.tab.cnt 2 = t2 at *
              have hsum : ((t0 : Int) + (t1 : Int) + (t2 : Int) != (n : Int)) = false := by
                have : (t0 : Int) + (t1 : Int) + (t2 : Int) = n := by omega
                rw [this]; simp
              have HFRV := Lib.hid ht2
              clear ht2
              by_cases hgs : gs = 1
              · have dg : (gs == 1) = true := by simp [hgs]
                have hj : ¬ jn < got.length := fun h => hgj ⟨hgs, h⟩
                have dj : decide ((jn : Int) < got.length) = false := decide_eq_false (by omega)
                have dj' : decide (jn < got.length) = false := decide_eq_false hj
                clear hgs hgj hj
                as_aux_lemma =>
                  go_wp2_with fail
                  refine HCNT.out.mono ?_
                  rintro e w12 ⟨rfl, hE⟩
                  obtain ⟨own12, m12⟩ := Mod.ofExt (show Ext w11 w12 from hE) own11
                  have M2 := Lib.hid (M.out.trans (m12.mono (S := fun x => x ≠ 0) (fun _ => False.elim)))
                  have O2 := Lib.hid (O.out.keep m12 id)
                  have HI2 := Lib.hid (HI.out.keep m12 (fun x hx => hx.elim))
                  have HEB2 := Lib.hid (show Ext wb w12 from HEB.out.trans (show Ext w11 w12 from hE))
                  have HFR := Lib.hid (sh_free ⟨own12, w12⟩ (100 + 1) cm bp bk bl S'.pool HI2.out.pool)
                  rw [HFRV.out] at HFR
                  unfold shelves at HFR
                  have HBY := HX.out _ HEB2.out
                  clear m12 hE M O H HI HCNT HEB c0 cl g0 g1 g2 gl
                  have c0 := HBY.cell (i := 0) rfl
                  have cl := HBY.lt
                  simp only at c0 cl
                  rw [HNF.out] at c0
                  clear HBY
                  have z0 := HI2.out.blk.cell (i := 0) rfl
                  have z1 := HI2.out.blk.cell (i := 1) rfl
                  have z2 := HI2.out.blk.cell (i := 2) rfl
                  have z3 := HI2.out.blk.cell (i := 3) rfl
                  have z4 := HI2.out.blk.cell (i := 4) rfl
                  have z5 := HI2.out.blk.cell (i := 5) rfl
                  have z6 := HI2.out.blk.cell (i := 6) rfl
                  have z7 := HI2.out.blk.cell (i := 7) rfl
                  have z8 := HI2.out.blk.cell (i := 8) rfl
                  have z9 := HI2.out.blk.cell (i := 9) rfl
                  have z10 := HI2.out.blk.cell (i := 10) rfl
                  have z11 := HI2.out.blk.cell (i := 11) rfl
                  have z12 := HI2.out.blk.cell (i := 12) rfl
                  have z13 := HI2.out.blk.cell (i := 13) rfl
                  have z14 := HI2.out.blk.cell (i := 14) rfl
                  have z15 := HI2.out.blk.cell (i := 15) rfl
                  have zl := HI2.out.blk.lt
                  (try simp only [GW.to] at z0 z1 z2 z3 z4 z5 z6 z7 z8 z9 z10 z11 z12 z13 z14 z15 zl)
                  go_wp2_with fail
                  refine HFR.out.mono ?_
                  rintro e w13 ⟨rfl, hE⟩
                  obtain ⟨own13, m13⟩ := Mod.ofExt (show Ext w12 w13 from hE) own12
                  have M3 := Lib.hid (M2.out.trans (m13.mono (S := fun x => x ≠ 0) (fun _ => False.elim)))
                  have O3 := Lib.hid (O2.out.keep m13 id)
                  have H3 := Lib.hid (show SpaceAt ⟨own13, w13⟩ 100 b bt S' from ⟨_, _, _, _, _, _, _, HI2.out.keep m13 (fun x hx => hx.elim)⟩)
                  clear m13 hE M2 O2 HI2 HEB2 HFR c0 cl z0 z1 z2 z3 z4 z5 z6 z7 z8 z9 z10 z11 z12 z13 z14 z15 zl
                  go_wp2_with fail
                  go_roundw
                  case rel => exact ⟨k + 1, own13, S', out2, by omega, by go_num, M3, H3, WS7, HC7, O3, HO⟩
                  case measure => simp [intOf]; omega
              · have dg : (gs == 1) = false := by simp [hgs]
                clear hgs hgj
                as_aux_lemma =>
                  go_wp2_with fail
                  refine HCNT.out.mono ?_
                  rintro e w12 ⟨rfl, hE⟩
                  obtain ⟨own12, m12⟩ := Mod.ofExt (show Ext w11 w12 from hE) own11
                  have M2 := Lib.hid (M.out.trans (m12.mono (S := fun x => x ≠ 0) (fun _ => False.elim)))
                  have O2 := Lib.hid (O.out.keep m12 id)
                  have HI2 := Lib.hid (HI.out.keep m12 (fun x hx => hx.elim))
                  have HEB2 := Lib.hid (show Ext wb w12 from HEB.out.trans (show Ext w11 w12 from hE))
                  have HFR := Lib.hid (sh_free ⟨own12, w12⟩ (100 + 1) cm bp bk bl S'.pool HI2.out.pool)
                  rw [HFRV.out] at HFR
                  unfold shelves at HFR
                  have HBY := HX.out _ HEB2.out
                  clear m12 hE M O H HI HCNT HEB c0 cl g0 g1 g2 gl
                  have c0 := HBY.cell (i := 0) rfl
                  have cl := HBY.lt
                  simp only at c0 cl
                  rw [HNF.out] at c0
                  clear HBY
                  have z0 := HI2.out.blk.cell (i := 0) rfl
                  have z1 := HI2.out.blk.cell (i := 1) rfl
                  have z2 := HI2.out.blk.cell (i := 2) rfl
                  have z3 := HI2.out.blk.cell (i := 3) rfl
                  have z4 := HI2.out.blk.cell (i := 4) rfl
                  have z5 := HI2.out.blk.cell (i := 5) rfl
                  have z6 := HI2.out.blk.cell (i := 6) rfl
                  have z7 := HI2.out.blk.cell (i := 7) rfl
                  have z8 := HI2.out.blk.cell (i := 8) rfl
                  have z9 := HI2.out.blk.cell (i := 9) rfl
                  have z10 := HI2.out.blk.cell (i := 10) rfl
                  have z11 := HI2.out.blk.cell (i := 11) rfl
                  have z12 := HI2.out.blk.cell (i := 12) rfl
                  have z13 := HI2.out.blk.cell (i := 13) rfl
                  have z14 := HI2.out.blk.cell (i := 14) rfl
                  have z15 := HI2.out.blk.cell (i := 15) rfl
                  have zl := HI2.out.blk.lt
                  (try simp only [GW.to] at z0 z1 z2 z3 z4 z5 z6 z7 z8 z9 z10 z11 z12 z13 z14 z15 zl)
                  go_wp2_with fail
                  refine HFR.out.mono ?_
                  rintro e w13 ⟨rfl, hE⟩
                  obtain ⟨own13, m13⟩ := Mod.ofExt (show Ext w12 w13 from hE) own12
                  have M3 := Lib.hid (M2.out.trans (m13.mono (S := fun x => x ≠ 0) (fun _ => False.elim)))
                  have O3 := Lib.hid (O2.out.keep m13 id)
                  have H3 := Lib.hid (show SpaceAt ⟨own13, w13⟩ 100 b bt S' from ⟨_, _, _, _, _, _, _, HI2.out.keep m13 (fun x hx => hx.elim)⟩)
                  clear m13 hE M2 O2 HI2 HEB2 HFR c0 cl z0 z1 z2 z3 z4 z5 z6 z7 z8 z9 z10 z11 z12 z13 z14 z15 zl
                  go_wp2_with fail
                  go_roundw
                  case rel => exact ⟨k + 1, own13, S', out2, by omega, by go_num, M3, H3, WS7, HC7, O3, HO⟩
                  case measure => simp [intOf]; omega
      · obtain rfl : k = l.length := by omega
        have dk : decide ((l.length : Int) < l.length) = false := by simp
        go_wp2_with fail
        refine (HF.out _).mono ?_
        rintro e wz ⟨rfl, hX⟩
        have Ez := Lib.hid ((HEW4.out.trans HE6.out).trans (show Ext _ wz from hX))
        clear hX
        go_wp2_with fail
        go_ret
        exact Gives.bool rfl Ez.out
end Go.Proofs.Ytmgkfpmmlibmcaa
