import Derived.Test.YtoaehfdjffejeaaGreatKL15
import Derived.Deep.DeepCutAuto
/-
  Packed: Plan3, Whole, Obj, Object, Sentinel, AreaOf, OpSize, Mode, Laid, Array.
-/
open Go.Ext renaming alloc → zA, patch → zP, drew → zD, drewN → zN, more → zM, refl → zR, setCell → zS
open Nat renaming le_refl → zL, le_add_right → zK
/-
  plan.fields, plan.whole.
-/
namespace Go.Proofs.YtoaehfdjffejeaaGreat
open Go Go.RowKit

set_option maxHeartbeats 1000000 in
theorem fields_any (s : Shp) (frag : Int) (b : Nat) (t : TypeId) (vs : List Value) (w : World) (hs : s.Ok w) (hb : w.heap[b]? = some (.cells vs.toArray t)) (hv : vs.length = 8) (hn : ∀ a, s.A = some a → 0 < s.refs.length → b ≠ a.block) :
    Calls Tryz.prog 153 #[s.val, .int .i64 frag, .pointer (some ⟨b, 0, none⟩)] w (fun e w' => e = .returned (.tuple #[]) ∧ ∃ X, w' = (w.putBlk b (.cells (putFields s frag vs s.refs.length).toArray t)).patch X) := by
  have hl : s.refs.length ≤ 140737488355328 := hs.max
  have hbs := (Array.getElem?_eq_some_iff.1 hb).1
  obtain ⟨arr, A, cap, refs⟩ := s
  unfold Shp.val
  simp only at hl hn ⊢
  go_enter Tryz.func153, Tryz.ntmps153
  go_wp2_with fail
  go_loopw [14] (fun i wr => ∃ k : Nat, k ≤ refs.length ∧ i = .int .i64 k ∧ ∃ w1, w1 = w.putBlk b (.cells (putFields ⟨arr, A, cap, refs⟩ frag vs k).toArray t) ∧ Ext (w1.alloc (.cells #[.bool arr, .slice A refs.length cap] 73)) wr) (fun i _ => refs.length - (intOf i).toNat)
  case atStart => exact ⟨0, Nat.zero_le _, rfl, w, (World.putBlk_self _ hb).symm, by (repeat (first | (with_reducible (first | assumption | exact zR _ | exact zM _ _ _ _)) | apply zA | refine zS ?_ (by first | exact zL _ | exact zK _ _ | assumption) _ | apply zP | apply zD | apply zN))⟩
  case round =>
    obtain ⟨k, hk, rfl, w1, hw1, X, rfl⟩ := hrel
    have hs1 : (⟨arr, A, cap, refs⟩ : Shp).Ok w1 := by rw [hw1]; exact hs.putBlk hn
    have HW := Lib.hid hw1
    have hsz : w.heap.size = w1.heap.size := by rw [hw1, World.size_putBlk]
    rw [hsz]
    have HZ := Lib.hid hsz
    by_cases hlt : k < refs.length
    · have HP := Lib.hid (fun w' (he : Ext w1 w') => place_any ⟨arr, A, cap, refs⟩ k w' (hs1.ext he) (by omega) (by omega))
      have HR := Lib.hid (show w1.heap[b]? = some (.cells (putFields ⟨arr, A, cap, refs⟩ frag vs k).toArray t) by rw [hw1, World.row_put _ hbs])
      have HB := Lib.hid (show b < w1.heap.size by rw [hw1, World.size_putBlk]; exact hbs)
      have HL := Lib.hid (putFields_length ⟨arr, A, cap, refs⟩ frag vs k)
      have HN := Lib.hid (@putFields_no ⟨arr, A, cap, refs⟩ frag vs k)
      have HY := Lib.hid (@putFields_yes ⟨arr, A, cap, refs⟩ frag vs k)
      obtain ⟨q, o, hA, hq, hcell⟩ := hs1.refs.cases (by simp; omega)
      have g0 := hcell k (.bool (refs.getD k false)) (by simp [List.getD, List.getElem?_eq_getElem hlt])
      have HX := Lib.hid hn
      simp only at hA
      unfold Shp.val Shp.place at HP
      subst hA
      simp only at HP
      generalize refs.getD k false = x at *
      clear hw1 hb hs hs1 hcell hn hbs hsz
      go_wp2_with fail
      refine (HP.out _ (by (repeat (first | (with_reducible (first | assumption | exact zR _ | exact zM _ _ _ _)) | apply zA | refine zS ?_ (by first | exact zL _ | exact zK _ _ | assumption) _ | apply zP | apply zD | apply zN)))).mono ?_
      cases hf : Shp.hasField ⟨arr, some ⟨q, o, none⟩, cap, refs⟩ k
      · rintro e w2 ⟨rfl, X2, rfl⟩
        have HT2 := Lib.hid (HN.out (by rw [hf]; simp))
        clear hf
        go_wp2_with fail
        go_roundw
        case rel => exact ⟨k + 1, by omega, by go_num, w1, by rw [HW.out, HT2.out], by (repeat (first | (with_reducible (first | assumption | exact zR _ | exact zM _ _ _ _)) | apply zA | refine zS ?_ (by first | exact zL _ | exact zK _ _ | assumption) _ | apply zP | apply zD | apply zN))⟩
        case measure => simp [intOf]; omega
      · rintro e w2 ⟨rfl, X2, rfl⟩
        by_cases hp : Shp.placeF k = frag
        · have HT2 := Lib.hid (HY.out ⟨hf, hp⟩)
          clear hf
          rw [hp]
          clear hp
          obtain ⟨m, hm, hm8⟩ : ∃ m : Nat, Shp.placeW k = m ∧ m < 8 := ⟨(Shp.placeW k).toNat, by have := Shp.placeW_bd k (by omega); omega, by have := Shp.placeW_bd k (by omega); omega⟩
          rw [hm]
          have HM := Lib.hid hm
          clear hm
          go_wp2_with fail
          have hb1 := HB.out
          have hc1 : w1.cell? ⟨b, m, none⟩ = some ((putFields ⟨arr, some ⟨q, o, none⟩, cap, refs⟩ frag vs k)[m]'(by rw [HL.out]; omega)) := row_cell HR.out (List.getElem?_eq_getElem _)
          have hf1 : w1.frozen? ⟨b, m, none⟩ = false := row_live HR.out
          generalize (putFields ⟨arr, some ⟨q, o, none⟩, cap, refs⟩ frag vs k)[m]'(by rw [HL.out]; omega) = z at hc1
          refine wp_forget (base := w1.alloc (.cells #[.bool arr, .slice (some ⟨q, o, none⟩) refs.length cap] 73)) (by (repeat (first | (with_reducible (first | assumption | exact zR _ | exact zM _ _ _ _)) | apply zA | refine zS ?_ (by first | exact zL _ | exact zK _ _ | assumption) _ | apply zP | apply zD | apply zN))) (fun Z => ?_)
          clear HP HN HY X X2
          obtain ⟨r1, r2, hbl⟩ : ∃ r1 r2, wBlank x = .complex .f64 r1 r2 := by cases x <;> exact ⟨_, _, rfl⟩
          have HBL := Lib.hid hbl
          clear hbl
          refine wp_region_mixed [true, true, true, true, true, true, false] 1 6 (by kernel_rfl) (by kernel_rfl) (by kernel_rfl) ?_ (by decide) (by decide) (by decide) (by kernel_rfl) ?_
          · intro c a d v w h; cases d <;> exact h
          intro X00
          simp only [pickOps]
          repeat (go_big_quiet_step ((go_at_call 159; exact Calls.added2 (blank_any _ _))))
          refine wpQuiet_nil (fun X0 => ?_)
          clear X00
          refine wpAnyM_last 6 _ (by kernel_rfl) (by kernel_rfl) rfl rfl (fun X1 K Q' hK => ?_)
          go_simp
          rw [HBL.out]; go_simp
          refine hK _ _ (fun X2 => ?_)
          clear hK K Q'
          go_wp2_with fail
          go_roundw
          case rel => exact ⟨k + 1, by omega, by go_num, w1.setCell ⟨b, m, none⟩ (.complex .f64 r1 r2), by rw [World.setCell_row _ HR.out, HT2.out, HM.out, HBL.out, List.setIfInBounds_toArray, Int.toNat_natCast, HW.out, World.putBlk_putBlk], by (repeat (first | (with_reducible (first | assumption | exact zR _ | exact zM _ _ _ _)) | apply zA | refine zS ?_ (by first | exact zL _ | exact zK _ _ | assumption) _ | apply zP | apply zD | apply zN))⟩
          case measure => simp [intOf]; omega
        · have HT2 := Lib.hid (HN.out (fun h => hp h.2))
          clear hf
          go_wp2_with fail
          go_roundw
          case rel => exact ⟨k + 1, by omega, by go_num, w1, by rw [HW.out, HT2.out], by (repeat (first | (with_reducible (first | assumption | exact zR _ | exact zM _ _ _ _)) | apply zA | refine zS ?_ (by first | exact zL _ | exact zK _ _ | assumption) _ | apply zP | apply zD | apply zN))⟩
          case measure => simp [intOf]; omega
    · obtain rfl : k = refs.length := by omega
      go_wp2_with fail
      refine bodyPost_end (results_none rfl _ _ _) rfl ⟨rfl, ?_⟩
      have he : Ext w1 ((w1.alloc (.cells #[.bool arr, .slice A refs.length cap] 73)).patch X) := by (repeat (first | (with_reducible (first | assumption | exact zR _ | exact zM _ _ _ _)) | apply zA | refine zS ?_ (by first | exact zL _ | exact zK _ _ | assumption) _ | apply zP | apply zD | apply zN))
      exact HW.out ▸ he
end Go.Proofs.YtoaehfdjffejeaaGreat

/-
  plan.whole.
-/
namespace Go.Proofs.YtoaehfdjffejeaaGreat
open Go Go.RowKit

theorem infoWrite : (Tryz.prog.info? 170).map (fun i => (i.zero, i.size, i.bytes)) = some (some (.agg #[.int .i64 0, .complex .f64 0 0]), 2, 24) := by kernel_rfl

set_option maxRecDepth 100000 in
theorem index8_lit (x0 x1 x2 x3 x4 x5 x6 x7 : Value) (w : World) :
    (Instr.index 221 (.agg #[x0, x1, x2, x3, x4, x5, x6, x7]) (.int .i64 ((0 : Nat) : Int))).run Tryz.prog w = .ok x0 w ∧
    (Instr.index 221 (.agg #[x0, x1, x2, x3, x4, x5, x6, x7]) (.int .i64 ((1 : Nat) : Int))).run Tryz.prog w = .ok x1 w ∧
    (Instr.index 221 (.agg #[x0, x1, x2, x3, x4, x5, x6, x7]) (.int .i64 ((2 : Nat) : Int))).run Tryz.prog w = .ok x2 w ∧
    (Instr.index 221 (.agg #[x0, x1, x2, x3, x4, x5, x6, x7]) (.int .i64 ((3 : Nat) : Int))).run Tryz.prog w = .ok x3 w ∧
    (Instr.index 221 (.agg #[x0, x1, x2, x3, x4, x5, x6, x7]) (.int .i64 ((4 : Nat) : Int))).run Tryz.prog w = .ok x4 w ∧
    (Instr.index 221 (.agg #[x0, x1, x2, x3, x4, x5, x6, x7]) (.int .i64 ((5 : Nat) : Int))).run Tryz.prog w = .ok x5 w ∧
    (Instr.index 221 (.agg #[x0, x1, x2, x3, x4, x5, x6, x7]) (.int .i64 ((6 : Nat) : Int))).run Tryz.prog w = .ok x6 w ∧
    (Instr.index 221 (.agg #[x0, x1, x2, x3, x4, x5, x6, x7]) (.int .i64 ((7 : Nat) : Int))).run Tryz.prog w = .ok x7 w :=
  ⟨by kernel_rfl, by kernel_rfl, by kernel_rfl, by kernel_rfl, by kernel_rfl, by kernel_rfl, by kernel_rfl, by kernel_rfl⟩
theorem index8 (f : Nat → Nat × Nat) (k : Nat) (hk : k < 8) (w : World) : (Instr.index 221 (.agg #[cx (f 0), cx (f 1), cx (f 2), cx (f 3), cx (f 4), cx (f 5), cx (f 6), cx (f 7)]) (.int .i64 k)).run Tryz.prog w = .ok (cx (f k)) w := by
  obtain ⟨h0, h1, h2, h3, h4, h5, h6, h7⟩ := index8_lit (cx (f 0)) (cx (f 1)) (cx (f 2)) (cx (f 3)) (cx (f 4)) (cx (f 5)) (cx (f 6)) (cx (f 7)) w
  rcases (show k = 0 ∨ k = 1 ∨ k = 2 ∨ k = 3 ∨ k = 4 ∨ k = 5 ∨ k = 6 ∨ k = 7 by omega) with rfl | rfl | rfl | rfl | rfl | rfl | rfl | rfl
  · exact h0
  · exact h1
  · exact h2
  · exact h3
  · exact h4
  · exact h5
  · exact h6
  · exact h7

theorem row_round {w0 wr w1 w3 : World} {l v' : Value} {base m bb : Nat} {T : TypeId} {size : Nat} {xs : List Value} {o : Obj} (HR : wr.ownsRow base T size l m xs) (HX : Ext w0 wr) (HB : wr.heap[bb]? = some o) (HD : l.ownBlock ≠ some bb) (hg : w1.grownBy w3 l.ownBlock) (he : Ext wr w1) (hb0 : w0.heap.size ≤ base) (hblk : v'.ownBlock = l.ownBlock ∨ v'.ownBlock = some w1.heap.size) :
    Ext w0 w3 ∧ w3.heap[bb]? = some o ∧ v'.ownBlock ≠ some bb ∧ wr.heap.size ≤ w3.heap.size := by
  have h1 := he.size
  have hb : bb < wr.heap.size := (Array.getElem?_eq_some_iff.1 HB).1
  refine ⟨ext_grown (HX.trans he) hg (fun k hk => Nat.le_trans hb0 (HR.lt k hk).1), ?_, ?_, Nat.le_trans h1 hg.size⟩
  · rw [hg.block bb (by omega) (fun e => HD e.symm), he.heap bb hb, HB]
  · rcases hblk with h | h
    · rw [h]; exact HD
    · rw [h]; intro e; injection e with e; omega

def WholeGot (w0 : World) (base : Nat) (n : Nat) (xs : List Value) (i : Int) (f : Nat → Nat × Nat) (w : World) (e : Ending) (w' : World) : Prop :=
  ∃ v', e = .returned v' ∧ w'.ownsRow base 170 2 v' (n + 8) (xs ++ writes i f 8) ∧ Ext w0 w' ∧ w.heap.size ≤ w'.heap.size

set_option maxHeartbeats 4000000 in
set_option maxRecDepth 20000 in
theorem lay_any (c : Cnf) (v : Value) (n : Nat) (xs : List Value) (i : Int) (f : Nat → Nat × Nat) (w w0 : World) (base : Nat) (hc : c.Ok w0) (hi : fragOk c i = true) (he : Ext w0 w) (hb0 : w0.heap.size ≤ base) (hbase : base ≤ w.heap.size) (hown : w.ownsRow base 170 2 v n xs) (hn : n ≤ 1000000) (hf : c.frags ≤ 1099511627776) :
    Calls Tryz.prog 154 #[c.val, v, .int .i64 i, .agg (cxs f).toArray] w (WholeGot w0 base n xs i f w) := by
  obtain ⟨i0, hi0, hz0, hz1, hz2⟩ := info_parts infoWrite
  have hi' : c.check = 0 ∧ 0 ≤ i ∧ i < c.frags := by simpa [fragOk] using hi
  have HF := Lib.hid (fun (k : Nat) (hk : k < 8) w' (he' : Ext w0 w') => show Calls Tryz.prog 146 #[c.val, .int .i64 i, .int .i64 k] w' (Gives (.tuple #[.int .i64 (i * 8 + k), .int .i64 0]) w') from (show cFrag c i k = Value.tuple #[.int .i64 (i * 8 + k), .int .i64 0] by unfold cFrag; rw [if_pos ⟨hi'.1, hi'.2.1, hi'.2.2, by omega, by omega⟩]) ▸ frag_any c i k w' (hc.ext he'))
  have HE := Lib.hid he
  have HO := Lib.hid hown
  have hi1 := hi'.2.1
  have hi2 : i ≤ 1099511627776 := by omega
  clear hi hi' hown he hc hf
  unfold Cnf.val at HF ⊢
  rw [show (cxs f).toArray = #[cx (f 0), cx (f 1), cx (f 2), cx (f 3), cx (f 4), cx (f 5), cx (f 6), cx (f 7)] from rfl]
  unfold cx
  go_enter Tryz.func154, Tryz.ntmps154
  go_wp2_with fail
  go_loopw [1, 14] (fun l j wr => ∃ k : Nat, k ≤ 8 ∧ j = .int .i64 k ∧ wr.ownsRow base 170 2 l (n + k) (xs ++ writes i f k) ∧ Ext w0 wr ∧ wr.heap[w.heap.size]? = some (.cells #[.int .i64 c.frags, .int .i64 c.spine, .int .i64 c.globals, .int .i64 c.threads, .int .i64 c.locals, .int .i64 c.cache, .int .i64 c.stack, .int .i64 c.low, .slice c.A c.shapes.length c.cap] 46) ∧ l.ownBlock ≠ some w.heap.size ∧ w.heap.size ≤ wr.heap.size) (fun _ i _ => 8 - (intOf i).toNat)
  case atStart => exact ⟨0, Nat.zero_le _, rfl, by simpa [writes] using own_ext HO.out (show Ext w _ by (repeat (first | (with_reducible (first | assumption | exact zR _ | exact zM _ _ _ _)) | apply zA | refine zS ?_ (by first | exact zL _ | exact zK _ _ | assumption) _ | apply zP | apply zD | apply zN))), HE.out.trans (by (repeat (first | (with_reducible (first | assumption | exact zR _ | exact zM _ _ _ _)) | apply zA | refine zS ?_ (by first | exact zL _ | exact zK _ _ | assumption) _ | apply zP | apply zD | apply zN))), by rw [World.row_alloc_past _ (by rw [World.size_alloc]; omega)]; exact World.row_alloc_new _, fun h => by have := (HO.out.lt _ h).2; omega, Ext.size (by (repeat (first | (with_reducible (first | assumption | exact zR _ | exact zM _ _ _ _)) | apply zA | refine zS ?_ (by first | exact zL _ | exact zK _ _ | assumption) _ | apply zP | apply zD | apply zN)))⟩
  case round =>
    obtain ⟨k, hk, rfl, hrow, hext, hbox, hdis, hsz⟩ := hrel
    have HR := Lib.hid hrow
    have HX := Lib.hid hext
    have HB := Lib.hid hbox
    have HD := Lib.hid hdis
    by_cases hlt : k < 8
    · have hbb : w.heap.size < wr.heap.size := (Array.getElem?_eq_some_iff.1 hbox).1
      have g0 : wr.cell? ⟨w.heap.size, 0, none⟩ = some (.int .i64 c.frags) := by simp only [World.cell?, hbox]; rfl
      have g1 : wr.cell? ⟨w.heap.size, 1, none⟩ = some (.int .i64 c.spine) := by simp only [World.cell?, hbox]; rfl
      have g2 : wr.cell? ⟨w.heap.size, 2, none⟩ = some (.int .i64 c.globals) := by simp only [World.cell?, hbox]; rfl
      have g3 : wr.cell? ⟨w.heap.size, 3, none⟩ = some (.int .i64 c.threads) := by simp only [World.cell?, hbox]; rfl
      have g4 : wr.cell? ⟨w.heap.size, 4, none⟩ = some (.int .i64 c.locals) := by simp only [World.cell?, hbox]; rfl
      have g5 : wr.cell? ⟨w.heap.size, 5, none⟩ = some (.int .i64 c.cache) := by simp only [World.cell?, hbox]; rfl
      have g6 : wr.cell? ⟨w.heap.size, 6, none⟩ = some (.int .i64 c.stack) := by simp only [World.cell?, hbox]; rfl
      have g7 : wr.cell? ⟨w.heap.size, 7, none⟩ = some (.int .i64 c.low) := by simp only [World.cell?, hbox]; rfl
      have g8 : wr.cell? ⟨w.heap.size, 8, none⟩ = some (.slice c.A c.shapes.length c.cap) := by simp only [World.cell?, hbox]; rfl
      have HS := Lib.hid hsz
      have HBA := Lib.hid (Nat.le_trans hbase hsz)
      clear hbase
      clear hrow hext hbox hdis hsz
      generalize w.heap.size = bb at *
      have hx := fun w => index8 f k hlt w
      unfold cx at hx
      generalize hfk : f k = fk at hx
      have HK := Lib.hid hfk
      clear hfk
      go_wp2_with fail
      refine (HF.out k hlt _ HX.out).mono ?_
      rintro e w1 ⟨rfl, X1, rfl⟩
      go_wp2_with (at_builtin; refine wpList_append_own_at _ rfl (.tmp 25) (.tmp 29) 76 rfl base 170 i0 (.agg #[.int .i64 0, .complex .f64 0 0]) 2 24 Tryz.underlying76 hi0 hz0 hz1 hz2 rfl (by decide) _ (n + k) _ rfl (own_ext HR.out (show Ext wr _ by (repeat (first | (with_reducible (first | assumption | exact zR _ | exact zM _ _ _ _)) | apply zA | refine zS ?_ (by first | exact zL _ | exact zK _ _ | assumption) _ | apply zP | apply zD | apply zN)))) _ 1 1 [.int .i64 (i * 8 + k), .complex .f64 fk.1 fk.2] rfl rfl (news_new _ _ _) (by intro u hu; simp at hu; rcases hu with rfl | rfl <;> rfl) (by unfold maxLen; omega) (by omega) (Nat.le_trans (HBA.out) (Ext.size (show Ext wr _ by (repeat (first | (with_reducible (first | assumption | exact zR _ | exact zM _ _ _ _)) | apply zA | refine zS ?_ (by first | exact zL _ | exact zK _ _ | assumption) _ | apply zP | apply zD | apply zN))))) ?_; intro v' w3 hown3 hgrow3 _ hblk3)
      obtain ⟨r1, r2, r3, r4⟩ := row_round HR.out HX.out HB.out HD.out hgrow3 (show Ext wr _ by (repeat (first | (with_reducible (first | assumption | exact zR _ | exact zM _ _ _ _)) | apply zA | refine zS ?_ (by first | exact zL _ | exact zK _ _ | assumption) _ | apply zP | apply zD | apply zN))) hb0 hblk3
      refine ⟨⟨k + 1, by omega, by go_num, ?_, r1, r2, r3, Nat.le_trans HS.out r4⟩, by simp [intOf]; omega⟩
      rw [writes, HK.out, ← List.append_assoc]
      exact hown3
    · obtain rfl : k = 8 := by omega
      go_wp2_with fail
      go_ret
      exact ⟨_, rfl, HR.out, HX.out, hsz⟩
end Go.Proofs.YtoaehfdjffejeaaGreat

/-
  What a new object's fragments hold. No program here.
-/
namespace Go
open Go.RowKit

def cxOf : Value → Nat × Nat
  | .complex _ a b => (a, b)
  | _ => (0, 0)
def IsCx (v : Value) : Prop := ∃ a b, v = .complex .f64 a b
theorem IsCx.cx {v : Value} (h : IsCx v) : Go.cx (cxOf v) = v := by
  obtain ⟨a, b, rfl⟩ := h
  rfl
theorem isCx_none : IsCx wNone := ⟨_, _, rfl⟩
theorem isCx_zero : IsCx wZero := ⟨_, _, rfl⟩
theorem isCx_ref (i : Int) : IsCx (wRef i) := by unfold wRef; split <;> exact ⟨_, _, rfl⟩
theorem isCx_head (k m : Int) : IsCx (wHead k m) := by unfold wHead; split <;> exact ⟨_, _, rfl⟩
theorem isCx_blank (b : Bool) : IsCx (wBlank b) := by cases b <;> exact ⟨_, _, rfl⟩
theorem isCx_put (s : Shp) (frag : Int) (vs : List Value) (h : ∀ v ∈ vs, IsCx v) : ∀ k, ∀ v ∈ putFields s frag vs k, IsCx v
  | 0 => h
  | k + 1 => fun v hv => by
    unfold putFields at hv
    split at hv
    · rcases List.mem_or_eq_of_mem_set hv with hv | rfl
      · exact isCx_put s frag vs h k v hv
      · exact isCx_blank _
    · exact isCx_put s frag vs h k v hv
def rowF (l : List Value) (k : Nat) : Nat × Nat := cxOf (l.getD k wZero)
theorem cxs_rowF {l : List Value} (hl : l.length = 8) (h : ∀ v ∈ l, IsCx v) : cxs (rowF l) = l := by
  apply List.ext_getElem?
  intro k
  unfold cxs
  rw [List.getElem?_map]
  by_cases hk : k < 8
  · rw [List.getElem?_range hk, List.getElem?_eq_getElem (by omega)]
    simp only [Option.map_some, Option.some.injEq, rowF, List.getD, List.getElem?_eq_getElem (show k < l.length by omega), Option.getD_some]
    exact (h _ (List.getElem_mem _)).cx
  · rw [List.getElem?_eq_none (by simp; omega), List.getElem?_eq_none (by omega)]
    rfl

def objInit (kind : Int) (got : List Int) (side : Bool) (j : Nat) : List Value :=
  [if j + 1 < got.length then wRef (got.getD (j + 1) 0) else wNone, if j = 0 then wHead kind (if side then 1 else 0) else wZero, wZero, wZero, wZero, wZero, wZero, wZero]
def objRow (s : Shp) (kind : Int) (got : List Int) (side : Bool) (j : Nat) : List Value := putFields s j (objInit kind got side j) s.refs.length
theorem objRow_length (s : Shp) (kind : Int) (got : List Int) (side : Bool) (j : Nat) : (objRow s kind got side j).length = 8 := putFields_length _ _ _ _
theorem objRow_cx (s : Shp) (kind : Int) (got : List Int) (side : Bool) (j : Nat) : ∀ v ∈ objRow s kind got side j, IsCx v := by
  refine isCx_put _ _ _ (fun v hv => ?_) _
  simp only [objInit, List.mem_cons, List.not_mem_nil, or_false] at hv
  rcases hv with rfl | rfl | rfl | rfl | rfl | rfl | rfl | rfl
  · split
    · exact isCx_ref _
    · exact isCx_none
  · split
    · exact isCx_head _ _
    · exact isCx_zero
  all_goals exact isCx_zero
def objWrites (s : Shp) (kind : Int) (got : List Int) (side : Bool) : Nat → List Value
  | 0 => []
  | j + 1 => objWrites s kind got side j ++ writes (got.getD j 0) (rowF (objRow s kind got side j)) 8
end Go

/-
  plan.Object.
-/
namespace Go.Proofs.YtoaehfdjffejeaaGreat
open Go Go.RowKit

def ObjGot (c : Cnf) (kind : Int) (got : List Int) (w : World) (e : Ending) (w' : World) : Prop :=
  ∃ (s' : Shp) (l : Value) (n : Nat), e = .returned (.tuple #[l, .int .i64 (wrongE c (c.shapeAt kind).isSome s' 0 false got)]) ∧ (s'.arr, s'.refs) = (c.shapeAt kind).getD (false, []) ∧
    w'.ownsRow w.heap.size 170 2 l n (if wrongE c (c.shapeAt kind).isSome s' 0 false got = 0 then objWrites s' kind got (isSide got) got.length else []) ∧ Ext w w'

theorem wrongE_fine {c : Cnf} {is : Bool} {s : Shp} {n : Int} {array : Bool} {got : List Int} (h : wrongE c is s n array got = 0) :
    c.check = 0 ∧ got.all (fragOk c) = true ∧ is = true ∧ s.arr = array ∧ (got.length : Int) = s.size n ∧ 1 ≤ s.size n ∧ twiceIn got = false := by
  unfold wrongE at h
  split at h
  · omega
  split at h
  · omega
  split at h
  · omega
  split at h
  · omega
  rename_i h1 h2 h3 h4
  have h5 : 1 ≤ s.size n := by
    have hd := sData_bd n
    unfold Shp.size at h3 ⊢
    split
    · rw [if_pos (by assumption)] at h3; omega
    · split
      · omega
      · split
        · omega
        · have : 0 ≤ s.len := by unfold Shp.len; omega
          omega
  refine ⟨?_, ?_, ?_, ?_, ?_, h5, ?_⟩
  · exact Decidable.byContradiction fun h => h1 (Or.inl h)
  · cases hg : got.all (fragOk c)
    · exact absurd (Or.inr hg) h1
    · rfl
  · cases is
    · exact absurd (Or.inl rfl) h2
    · rfl
  · exact Decidable.byContradiction fun h => h2 (Or.inr h)
  · exact Decidable.byContradiction fun h => h4 (Or.inl h)
  · cases ht : twiceIn got
    · rfl
    · exact absurd (Or.inr ht) h4

structure ObjSt (c : Cnf) (kind : Int) (got : List Int) (w : World) (j : Nat) (l : Value) (s : Shp) (bs bw : Nat) (vs : List Value) (wr : World) : Prop where
  lt : j < got.length
  box : wr.heap[w.heap.size]? = some (.cells #[.int .i64 c.frags, .int .i64 c.spine, .int .i64 c.globals, .int .i64 c.threads, .int .i64 c.locals, .int .i64 c.cache, .int .i64 c.stack, .int .i64 c.low, .slice c.A c.shapes.length c.cap] 46)
  sblk : wr.heap[bs]? = some (.cells #[.bool s.arr, .slice s.A s.refs.length s.cap] 73)
  wblk : wr.heap[bw]? = some (.cells vs.toArray 221)
  vlen : vs.length = 8
  sok : s.Ok wr
  sne : ∀ a, s.A = some a → 0 < s.refs.length → a.block < bw
  ext : Ext w wr
  own : wr.ownsRow (bw + 1) 170 2 l (8 * j) (objWrites s kind got (isSide got) j)
  lt1 : w.heap.size < bs
  lt2 : bs < bw
  what : (s.arr, s.refs) = (c.shapeAt kind).getD (false, [])
  fine : wrongE c (c.shapeAt kind).isSome s 0 false got = 0
theorem ObjSt.put {c : Cnf} {kind : Int} {got : List Int} {w : World} {j : Nat} {l : Value} {s : Shp} {bs bw : Nat} {vs : List Value} {wr : World} (h : ObjSt c kind got w j l s bs bw vs wr) (L : List Value) (hL : L.length = 8) :
    ObjSt c kind got w j l s bs bw L (wr.putBlk bw (.cells L.toArray 221)) := by
  have hb := (Array.getElem?_eq_some_iff.1 h.wblk).1
  have h1 := h.lt1
  have h2 := h.lt2
  refine { lt := h.lt, box := ?_, sblk := ?_, wblk := World.row_put _ hb, vlen := hL, sok := h.sok.putBlk (fun a ha hr => by have := h.sne a ha hr; omega), sne := h.sne, ext := ?_, own := ?_, lt1 := h1, lt2 := h2, what := h.what, fine := h.fine }
  · rw [World.row_put_other _ (by omega)]; exact h.box
  · rw [World.row_put_other _ (by omega)]; exact h.sblk
  · obtain ⟨b1, b2, b3, _, _⟩ := h.ext.below
    exact ext_of_below ⟨b1, b2, b3, by rw [World.size_putBlk]; exact h.ext.size, fun k hk => by rw [World.row_put_other _ (by omega)]; exact h.ext.heap k hk⟩
  · obtain ⟨o1, o2⟩ := h.own
    refine ⟨o1, ?_⟩
    rcases o2 with ⟨hv, hn⟩ | ⟨g, cap, cur, hv, hbg, hh, r⟩
    · exact Or.inl ⟨hv, hn⟩
    · exact Or.inr ⟨g, cap, cur, hv, hbg, by rw [World.row_put_other _ (by omega)]; exact hh, r⟩
theorem ObjSt.patch {c : Cnf} {kind : Int} {got : List Int} {w : World} {j : Nat} {l : Value} {s : Shp} {bs bw : Nat} {vs : List Value} {wr : World} (h : ObjSt c kind got w j l s bs bw vs wr) (X : Extra) : ObjSt c kind got w j l s bs bw vs (wr.patch X) := by
  have hb := (Array.getElem?_eq_some_iff.1 h.wblk).1
  have hb1 := (Array.getElem?_eq_some_iff.1 h.box).1
  have hb2 := (Array.getElem?_eq_some_iff.1 h.sblk).1
  exact { lt := h.lt, box := by rw [World.heap_patch _ _ _ hb1]; exact h.box, sblk := by rw [World.heap_patch _ _ _ hb2]; exact h.sblk, wblk := by rw [World.heap_patch _ _ _ hb]; exact h.wblk, vlen := h.vlen, sok := h.sok.ext ⟨X, rfl⟩, sne := h.sne, ext := h.ext.patch X, own := own_ext h.own ⟨X, rfl⟩, lt1 := h.lt1, lt2 := h.lt2, what := h.what, fine := h.fine }
theorem ObjSt.lay {c : Cnf} {kind : Int} {got : List Int} {w : World} {j : Nat} {l : Value} {s : Shp} {bs bw : Nat} {vs : List Value} {wr : World} (h : ObjSt c kind got w j l s bs bw vs wr) {l' : Value} {w' : World} (he : Ext (wr.upTo (bw + 1)) w') (ho : w'.ownsRow (bw + 1) 170 2 l' (8 * (j + 1)) (objWrites s kind got (isSide got) (j + 1))) (hj : j + 1 < got.length) :
    ObjSt c kind got w (j + 1) l' s bs bw vs w' := by
  have hb := (Array.getElem?_eq_some_iff.1 h.wblk).1
  have h1 := h.lt1
  have h2 := h.lt2
  have hz := World.size_upTo wr (n := bw + 1) (by omega)
  exact { lt := hj, box := by rw [he.heap _ (by omega), World.heap_upTo _ (by omega)]; exact h.box, sblk := by rw [he.heap _ (by omega), World.heap_upTo _ (by omega)]; exact h.sblk,
          wblk := by rw [he.heap _ (by omega), World.heap_upTo _ (by omega)]; exact h.wblk, vlen := h.vlen, sok := (h.sok.upTo (by omega) (fun a ha hr => Nat.lt_succ_of_lt (h.sne a ha hr))).ext he, sne := h.sne, ext := (h.ext.upTo (by omega) (by omega)).trans he, own := ho, lt1 := h1, lt2 := h2, what := h.what, fine := h.fine }
theorem infoWords : (Tryz.prog.info? 221).map (·.size) = some 8 := by kernel_rfl
def objHead (kind : Int) (got : List Int) (j : Nat) : List Value := [wNone, if j = 0 then wHead kind (if isSide got then 1 else 0) else wZero, wZero, wZero, wZero, wZero, wZero, wZero]
theorem objHead_no {kind : Int} {got : List Int} {j : Nat} (h : ¬ j = 0) : objHead kind got j = [.complex .f64 0 4607182418800017408, .complex .f64 0 0, .complex .f64 0 0, .complex .f64 0 0, .complex .f64 0 0, .complex .f64 0 0, .complex .f64 0 0, .complex .f64 0 0] := by unfold objHead; rw [if_neg h]; rfl
theorem objHead_yes {kind : Int} {got : List Int} {p q : Nat} (h : wHead kind (if isSide got then 1 else 0) = .complex .f64 p q) : objHead kind got 0 = List.set [.complex .f64 0 4607182418800017408, .complex .f64 0 0, .complex .f64 0 0, .complex .f64 0 0, .complex .f64 0 0, .complex .f64 0 0, .complex .f64 0 0, .complex .f64 0 0] 1 (.complex .f64 p q) := by unfold objHead; rw [if_pos rfl, h]; rfl
theorem objInit_no {kind : Int} {got : List Int} {j : Nat} (h : ¬ j + 1 < got.length) : objInit kind got (isSide got) j = objHead kind got j := by unfold objInit objHead; rw [if_neg h]
theorem objInit_yes {kind : Int} {got : List Int} {j : Nat} {y : Int} {p q : Nat} (h : j + 1 < got.length) (hy : got.getD (j + 1) 0 = y) (hp : wRef y = .complex .f64 p q) : objInit kind got (isSide got) j = (objHead kind got j).set 0 (.complex .f64 p q) := by unfold objInit objHead; rw [if_pos h, hy, hp]; rfl
theorem objInit_length (kind : Int) (got : List Int) (side : Bool) (j : Nat) : (objInit kind got side j).length = 8 := rfl
def ObjAt (c : Cnf) (kind : Int) (A : Option Addr) (cap : Nat) (got : List Int) (w : World) (a : Act) (wr : World) : Prop :=
  ∃ (j : Nat) (l : Value) (s : Shp) (bs bw : Nat) (vs : List Value) (u4 u5 u6 u7 u9 u13 u14 u15 u16 u17 u18 u19 u20 u21 u22 u23 u24 u25 u26 u27 u28 u29 u30 u31 u32 u33 u34 u35 u36 u37 u38 u39 u40 u41 u42 u43 u44 u45 u46 u47 u48 u49 u50 u51 u52 u53 u54 u55 u56 u57 u58 u59 u60 u61 u62 u63 u64 : Value), a = { tmps := #[(.agg #[.int .i64 c.frags, .int .i64 c.spine, .int .i64 c.globals, .int .i64 c.threads, .int .i64 c.locals, .int .i64 c.cache, .int .i64 c.stack, .int .i64 c.low, .slice c.A c.shapes.length c.cap]), .int .i64 kind, .slice A got.length cap, .pointer (some ⟨w.heap.size, 0, none⟩), u4, u5, u6, u7, .pointer (some ⟨bs, 0, none⟩), u9, l, .pointer (some ⟨bw, 0, none⟩), .int .i64 j, u13, u14, u15, u16, u17, u18, u19, u20, u21, u22, u23, u24, u25, u26, u27, u28, u29, u30, u31, u32, u33, u34, u35, u36, u37, u38, u39, u40, u41, u42, u43, u44, u45, u46, u47, u48, u49, u50, u51, u52, u53, u54, u55, u56, u57, u58, u59, u60, u61, u62, u63, u64], defers := [] } ∧ ObjSt c kind got w j l s bs bw vs wr

set_option maxRecDepth 20000 in
set_option maxHeartbeats 4000000 in
theorem object_any (c : Cnf) (kind : Int) (A : Option Addr) (cap : Nat) (got : List Int) (w : World) (hc : c.Ok w) (hg : CellsAt w A (got.map (Value.int .i64))) (hl : got.length ≤ 1000) (hw : ∀ x ∈ got, -9223372036854775808 ≤ x ∧ x ≤ 9223372036854775807) :
    Calls Tryz.prog 115 #[c.val, .int .i64 kind, .slice A got.length cap] w (ObjGot c kind got w) := by
  have HW := Lib.hid (fun w' (he : Ext w w') => wrong_any c kind 0 false A cap got w' (hc.ext he) (hg.ext he) (by omega) hw)
  unfold Cnf.val at HW ⊢
  go_enter Tryz.func115, Tryz.ntmps115
  go_wp2_with fail
  refine wp_scope_from 0 (ObjAt c kind A cap got w) (fun a _ => got.length - (intOf (a.tmps.getD 12 undef)).toNat) rfl ?_ ?_
  · rintro a wr ⟨j, l, s, bs, bw, vs, u4, u5, u6, u7, u9, u13, u14, u15, u16, u17, u18, u19, u20, u21, u22, u23, u24, u25, u26, u27, u28, u29, u30, u31, u32, u33, u34, u35, u36, u37, u38, u39, u40, u41, u42, u43, u44, u45, u46, u47, u48, u49, u50, u51, u52, u53, u54, u55, u56, u57, u58, u59, u60, u61, u62, u63, u64, rfl, hst⟩
    obtain ⟨arr, A', cap', refs⟩ := s
    have HST := Lib.hid hst
    have hj := hst.lt
    have HG := Lib.hid hg
    have HSD := Lib.hid (fun w' (he : Ext w w') => side_any A cap got w' (hg.ext he) (by omega) hw)
    have HCO := Lib.hid hc
    clear hg hw hc
    clear hst
    go_wp2_with fail
    refine (none_any _).mono ?_
    rintro e w1 ⟨rfl, X1, rfl⟩
    unfold wNone
    go_upto_if 26 with (refine wpList_store_blk rfl 221 (.tmp 11) (.tmp 24) rfl bw [.complex .f64 0 4607182418800017408, .complex .f64 0 0, .complex .f64 0 0, .complex .f64 0 0, .complex .f64 0 0, .complex .f64 0 0, .complex .f64 0 0, .complex .f64 0 0] rfl rfl _ _ HST.out.wblk infoWords HST.out.vlen (by intro v hv; simp at hv; rcases hv with rfl | rfl <;> rfl) ?_)
    have HS1 := Lib.hid ((HST.out.put [.complex .f64 0 4607182418800017408, .complex .f64 0 0, .complex .f64 0 0, .complex .f64 0 0, .complex .f64 0 0, .complex .f64 0 0, .complex .f64 0 0, .complex .f64 0 0] rfl).patch X1)
    generalize (wr.putBlk bw (.cells (List.toArray [.complex .f64 0 4607182418800017408, .complex .f64 0 0, .complex .f64 0 0, .complex .f64 0 0, .complex .f64 0 0, .complex .f64 0 0, .complex .f64 0 0, .complex .f64 0 0]) 221)).patch X1 = wr1 at *
    clear HST
    go_cut [] (fun wx => ObjSt c kind got w j l ⟨arr, A', cap', refs⟩ bs bw (objHead kind got j) wx)
    case first =>
      by_cases h0 : j = 0
      · subst h0
        go_wp2_with fail
        refine (head_any _ _ _).mono ?_
        obtain ⟨p1, p2, hp⟩ := isCx_head kind 0
        rw [hp]
        have HP := Lib.hid hp
        clear hp
        rintro e w2 ⟨rfl, X2, rfl⟩
        go_wp2_with (refine wpList_store_one rfl 24 (.tmp 29) (.tmp 28) rfl bw 1 (.complex .f64 p1 p2) rfl rfl _ _ HS1.out.wblk (by kernel_rfl) (by decide) ⟨_, _, rfl⟩ ?_)
        have HS2 := Lib.hid ((HS1.out.put [.complex .f64 0 4607182418800017408, .complex .f64 p1 p2, .complex .f64 0 0, .complex .f64 0 0, .complex .f64 0 0, .complex .f64 0 0, .complex .f64 0 0, .complex .f64 0 0] rfl).patch X2)
        generalize (wr1.putBlk bw (.cells (List.toArray [.complex .f64 0 4607182418800017408, .complex .f64 p1 p2, .complex .f64 0 0, .complex .f64 0 0, .complex .f64 0 0, .complex .f64 0 0, .complex .f64 0 0, .complex .f64 0 0]) 221)).patch X2 = wr2 at *
        go_wp2_with fail
        refine (HSD.out _ HS2.out.ext).mono ?_
        rintro e w3 ⟨rfl, X3, rfl⟩
        have HS3 := Lib.hid (HS2.out.patch X3)
        generalize wr2.patch X3 = wr3 at *
        cases hsd : isSide got
        · have HQ := Lib.hid hsd
          clear hsd
          go_wp2_with fail
          go_meet
          rw [objHead_yes (by rw [HQ.out]; exact HP.out)]
          exact HS3.out
        · have HQ := Lib.hid hsd
          clear hsd
          go_wp2_with fail
          refine (head_any _ _ _).mono ?_
          obtain ⟨q1, q2, hq⟩ := isCx_head kind 1
          rw [hq]
          have HP1 := Lib.hid hq
          clear hq
          rintro e w4 ⟨rfl, X4, rfl⟩
          go_wp2_with (refine wpList_store_one rfl 24 (.tmp 34) (.tmp 33) rfl bw 1 (.complex .f64 q1 q2) rfl rfl _ _ HS3.out.wblk (by kernel_rfl) (show 1 < List.length (_ :: _ :: _ :: _ :: _ :: _ :: _ :: _ :: []) from (by decide : 1 < 8)) ⟨_, _, rfl⟩ ?_)
          go_meet
          rw [objHead_yes (by rw [HQ.out]; exact HP1.out)]
          exact (HS3.out.put _ rfl).patch X4
      · go_wp2_with fail
        go_meet
        rw [objHead_no h0]
        exact HS1.out
    case rest =>
      have HS2 := Lib.hid hcut
      clear hcut HS1
      go_upto_if 39 with fail
      go_cut [] (fun wx => ObjSt c kind got w j l ⟨arr, A', cap', refs⟩ bs bw (objInit kind got (isSide got) j) wx)
      case first =>
        by_cases h1 : j + 1 < got.length
        · obtain ⟨q, o, rfl, hq, hcell⟩ := ints_at (HG.out.ext HS2.out.ext) hj
          have k1 := hcell (j + 1) h1
          generalize hy : got.getD (j + 1) 0 = y at k1
          have HY := Lib.hid hy
          clear hy hcell
          go_wp2_with fail
          refine (ref_any _ _).mono ?_
          obtain ⟨p1, p2, hp⟩ := isCx_ref y
          rw [hp]
          have HP := Lib.hid hp
          clear hp
          rintro e w1 ⟨rfl, X2, rfl⟩
          go_wp2_with (refine wpList_store_one rfl 24 (.tmp 46) (.tmp 45) rfl bw 0 (.complex .f64 p1 p2) rfl rfl _ _ HS2.out.wblk (by kernel_rfl) (show 0 < (objHead kind got j).length from (by decide : 0 < 8)) ⟨_, _, rfl⟩ ?_)
          go_meet
          rw [objInit_yes h1 HY.out HP.out]
          exact (HS2.out.put _ rfl).patch X2
        · go_wp2_with fail
          go_meet
          rw [objInit_no h1]
          exact HS2.out
      case rest =>
        have HS3 := Lib.hid hcut
        clear hcut HS2
        have s0 : wc.cell? ⟨bs, 0, none⟩ = some (.bool arr) := (by simp only [World.cell?, HS3.out.sblk]; rfl)
        have s1 : wc.cell? ⟨bs, 1, none⟩ = some (.slice A' refs.length cap') := (by simp only [World.cell?, HS3.out.sblk]; rfl)
        have hbs : bs < wc.heap.size := (Array.getElem?_eq_some_iff.1 HS3.out.sblk).1
        have HFL := Lib.hid (fields_any ⟨arr, A', cap', refs⟩ j bw _ _ wc HS3.out.sok HS3.out.wblk (objInit_length _ _ _ _) (fun a ha hr => by have := HS3.out.sne a ha hr; omega))
        unfold Shp.val at HFL
        go_wp2_with fail
        refine HFL.out.mono ?_
        rintro e w4 ⟨rfl, X4, rfl⟩
        have HS4 := Lib.hid ((HS3.out.put (putFields ⟨arr, A', cap', refs⟩ j (objInit kind got (isSide got) j) refs.length) (putFields_length _ _ _ _)).patch X4)
        generalize (wc.putBlk bw (.cells (putFields ⟨arr, A', cap', refs⟩ j (objInit kind got (isSide got) j) refs.length).toArray 221)).patch X4 = wf at *
        clear s0 s1 hbs HFL HS3
        have hrow := objRow_cx ⟨arr, A', cap', refs⟩ kind got (isSide got) j
        have hrl := objRow_length ⟨arr, A', cap', refs⟩ kind got (isSide got) j
        have hwr : objWrites ⟨arr, A', cap', refs⟩ kind got (isSide got) (j + 1) = objWrites ⟨arr, A', cap', refs⟩ kind got (isSide got) j ++ writes (got.getD j 0) (rowF (objRow ⟨arr, A', cap', refs⟩ kind got (isSide got) j)) 8 := rfl
        have hre := cxs_rowF hrl hrow
        rw [show putFields ⟨arr, A', cap', refs⟩ j (objInit kind got (isSide got) j) refs.length = objRow ⟨arr, A', cap', refs⟩ kind got (isSide got) j from rfl, ← hre] at HS4
        generalize rowF (objRow ⟨arr, A', cap', refs⟩ kind got (isSide got) j) = f at *
        have HWR := Lib.hid hwr
        clear hrow hrl hwr hre
        obtain ⟨q, o, rfl, hq, hcell⟩ := ints_at (HG.out.ext HS4.out.ext) hj
        have k0 := hcell j hj
        have hfj : fragOk c (got.getD j 0) = true := List.all_eq_true.1 (wrongE_fine HS4.out.fine).2.1 _ (by rw [List.getD_eq_getElem?_getD, List.getElem?_eq_getElem hj]; exact List.getElem_mem hj)
        generalize got.getD j 0 = y at *
        have g0 : wf.cell? ⟨w.heap.size, 0, none⟩ = some (.int .i64 c.frags) := (by simp only [World.cell?, HS4.out.box]; rfl)
        have g1 : wf.cell? ⟨w.heap.size, 1, none⟩ = some (.int .i64 c.spine) := (by simp only [World.cell?, HS4.out.box]; rfl)
        have g2 : wf.cell? ⟨w.heap.size, 2, none⟩ = some (.int .i64 c.globals) := (by simp only [World.cell?, HS4.out.box]; rfl)
        have g3 : wf.cell? ⟨w.heap.size, 3, none⟩ = some (.int .i64 c.threads) := (by simp only [World.cell?, HS4.out.box]; rfl)
        have g4 : wf.cell? ⟨w.heap.size, 4, none⟩ = some (.int .i64 c.locals) := (by simp only [World.cell?, HS4.out.box]; rfl)
        have g5 : wf.cell? ⟨w.heap.size, 5, none⟩ = some (.int .i64 c.cache) := (by simp only [World.cell?, HS4.out.box]; rfl)
        have g6 : wf.cell? ⟨w.heap.size, 6, none⟩ = some (.int .i64 c.stack) := (by simp only [World.cell?, HS4.out.box]; rfl)
        have g7 : wf.cell? ⟨w.heap.size, 7, none⟩ = some (.int .i64 c.low) := (by simp only [World.cell?, HS4.out.box]; rfl)
        have g8 : wf.cell? ⟨w.heap.size, 8, none⟩ = some (.slice c.A c.shapes.length c.cap) := (by simp only [World.cell?, HS4.out.box]; rfl)
        have v0 : wf.cell? ⟨bw, 0, none⟩ = some (.complex .f64 (f 0).1 (f 0).2) := (by simp only [World.cell?, HS4.out.wblk]; rfl)
        have v1 : wf.cell? ⟨bw, 1, none⟩ = some (.complex .f64 (f 1).1 (f 1).2) := (by simp only [World.cell?, HS4.out.wblk]; rfl)
        have v2 : wf.cell? ⟨bw, 2, none⟩ = some (.complex .f64 (f 2).1 (f 2).2) := (by simp only [World.cell?, HS4.out.wblk]; rfl)
        have v3 : wf.cell? ⟨bw, 3, none⟩ = some (.complex .f64 (f 3).1 (f 3).2) := (by simp only [World.cell?, HS4.out.wblk]; rfl)
        have v4 : wf.cell? ⟨bw, 4, none⟩ = some (.complex .f64 (f 4).1 (f 4).2) := (by simp only [World.cell?, HS4.out.wblk]; rfl)
        have v5 : wf.cell? ⟨bw, 5, none⟩ = some (.complex .f64 (f 5).1 (f 5).2) := (by simp only [World.cell?, HS4.out.wblk]; rfl)
        have v6 : wf.cell? ⟨bw, 6, none⟩ = some (.complex .f64 (f 6).1 (f 6).2) := (by simp only [World.cell?, HS4.out.wblk]; rfl)
        have v7 : wf.cell? ⟨bw, 7, none⟩ = some (.complex .f64 (f 7).1 (f 7).2) := (by simp only [World.cell?, HS4.out.wblk]; rfl)
        have hbw : bw < wf.heap.size := (Array.getElem?_eq_some_iff.1 HS4.out.wblk).1
        have hbx : w.heap.size < wf.heap.size := (Array.getElem?_eq_some_iff.1 HS4.out.box).1
        have hb1 := HS4.out.lt1
        have hb2 := HS4.out.lt2
        have hsz := World.size_upTo wf (n := bw + 1) (by omega)
        have hfr : c.frags ≤ 1099511627776 := by have := (Cnf.ranged (Cnf.check_zero (wrongE_fine HS4.out.fine).1).1).1.2; omega
        have HLY := Lib.hid (fun X => lay_any c l (8 * j) (objWrites ⟨arr, A', cap', refs⟩ kind got (isSide got) j) y f (wf.patch X) (wf.upTo (bw + 1)) (bw + 1) (HCO.out.ext (HS4.out.ext.upTo (by omega) (by omega))) hfj ((ext_upTo wf (by omega)).patch X) (by omega) (by rw [World.size_patch]; omega) (own_ext HS4.out.own ⟨X, rfl⟩) (by omega) hfr)
        unfold Cnf.val at HLY
        clear hb1 hb2 hsz hfr hfj hcell
        go_wp2_with fail
        refine wp_region_mixed [true, true, true, true, true, true, true, false, false] 2 7 (by kernel_rfl) (by kernel_rfl) (by kernel_rfl) ?_ (by decide) (by decide) (by decide) (by kernel_rfl) ?_
        · intro c a d v w h; cases d <;> exact h
        intro X00
        simp only [pickOps]
        repeat (go_big_quiet_step (fail))
        refine wpQuiet_nil (fun X0 => ?_)
        clear X00
        refine wpAnyM_tailL rfl (by kernel_rfl) (fun X2 => ?_)
        simp only [List.drop_succ_cons, List.drop_zero]
        go_wp2_with fail
        refine (HLY.out _).mono ?_
        rintro e w6 ⟨v', rfl, hown, hE6, hz6⟩
        rw [← HWR.out] at hown
        have HOW := Lib.hid (show w6.ownsRow (bw + 1) 170 2 v' (8 * (j + 1)) (objWrites ⟨arr, A', cap', refs⟩ kind got (isSide got) (j + 1)) from hown)
        have HX6 := Lib.hid (show Ext (wf.upTo (bw + 1)) w6 from hE6)
        clear hown hE6 hz6 g0 g1 g2 g3 g4 g5 g6 g7 g8 v0 v1 v2 v3 v4 v5 v6 v7
        by_cases h1 : j + 1 < got.length
        · go_wp2_with fail
          go_step3
          refine ⟨rfl, ⟨j + 1, v', ⟨arr, A', cap', refs⟩, bs, bw, cxs f, _, _, _, _, _, _, _, _, _, _, _, _, _, _, _, _, _, _, _, _, _, _, _, _, _, _, _, _, _, _, _, _, _, _, _, _, _, _, _, _, _, _, _, _, _, _, _, _, _, _, _, _, _, _, _, _, _, rfl, HS4.out.lay HX6.out HOW.out h1⟩, ?_⟩
          simp [intOf]
          omega
        · have hb1 := HS4.out.lt1
          have hb2 := HS4.out.lt2
          have hlen : got.length = j + 1 := by omega
          have HLN := Lib.hid hlen
          clear hlen
          go_wp2_with fail
          rw [Exit.jump_ret]
          go_ret2
          exact ⟨⟨arr, A', cap', refs⟩, v', 8 * (j + 1), by rw [HS4.out.fine]; rfl, HS4.out.what, by rw [if_pos HS4.out.fine, HLN.out]; exact own_lower HOW.out (by omega), (HS4.out.ext.upTo (by omega) (by omega)).trans HX6.out⟩
  · intro H
    go_wp2_with fail
    refine (HW.out _ (by (repeat (first | (with_reducible (first | assumption | exact zR _ | exact zM _ _ _ _)) | apply zA | refine zS ?_ (by first | exact zL _ | exact zK _ _ | assumption) _ | apply zP | apply zD | apply zN)))).mono ?_
    rintro e w1 ⟨s, rfl, hs, hok, X1, rfl⟩
    have HS := Lib.hid hs
    have HO := Lib.hid hok
    clear hs hok
    by_cases hE : wrongE c (c.shapeAt kind).isSome s 0 false got = 0
    · rw [hE]
      have HE := Lib.hid hE
      have HH := Lib.hid H
      clear hE H
      obtain ⟨arr, A', cap', refs⟩ := s
      unfold Shp.val
      simp only
      go_wp2_with fail
      go_step3
      have hf := wrongE_fine HE.out
      have hz : (w.alloc (.cells #[.int .i64 c.frags, .int .i64 c.spine, .int .i64 c.globals, .int .i64 c.threads, .int .i64 c.locals, .int .i64 c.cache, .int .i64 c.stack, .int .i64 c.low, .slice c.A c.shapes.length c.cap] 46)).heap.size = w.heap.size + 1 := World.size_alloc _ _
      have hp := World.size_patch (w.alloc (.cells #[.int .i64 c.frags, .int .i64 c.spine, .int .i64 c.globals, .int .i64 c.threads, .int .i64 c.locals, .int .i64 c.cache, .int .i64 c.stack, .int .i64 c.low, .slice c.A c.shapes.length c.cap] 46)) X1
      refine (show ∀ (a : Act) (w : World), Code.wp _ _ _ a w → _ from by assumption) _ _ (HH.out _ _ ⟨0, .slice none 0 0, ⟨arr, A', cap', refs⟩, _, _, [.complex .f64 0 0, .complex .f64 0 0, .complex .f64 0 0, .complex .f64 0 0, .complex .f64 0 0, .complex .f64 0 0, .complex .f64 0 0, .complex .f64 0 0], _, _, _, _, _, _, _, _, _, _, _, _, _, _, _, _, _, _, _, _, _, _, _, _, _, _, _, _, _, _, _, _, _, _, _, _, _, _, _, _, _, _, _, _, _, _, _, _, _, _, _, _, _, _, _, _, _, rfl, ?_⟩)
      generalize hq : (w.alloc (.cells #[.int .i64 c.frags, .int .i64 c.spine, .int .i64 c.globals, .int .i64 c.threads, .int .i64 c.locals, .int .i64 c.cache, .int .i64 c.stack, .int .i64 c.low, .slice c.A c.shapes.length c.cap] 46)).patch X1 = wq at *
      have ha1 := fun o => World.size_alloc wq o
      refine { lt := by omega, box := ?_, sblk := ?_, wblk := ?_, vlen := rfl, sok := HO.out.ext (by (repeat (first | (with_reducible (first | assumption | exact zR _ | exact zM _ _ _ _)) | apply zA | refine zS ?_ (by first | exact zL _ | exact zK _ _ | assumption) _ | apply zP | apply zD | apply zN))), sne := fun a ha hr => ?_, ext := ?_, own := ?_, lt1 := by omega, lt2 := Nat.lt_succ_self _, what := HS.out, fine := HE.out }
      · rw [World.row_alloc_past _ (by rw [World.size_alloc]; omega), World.row_alloc_past _ (by omega), ← hq, World.heap_patch _ _ _ (by omega), World.row_alloc_new]
      · rw [World.row_alloc_past _ (by rw [World.size_alloc]; omega), World.row_alloc_new]
      · rw [← World.size_alloc wq, World.row_alloc_new]
      · obtain ⟨b, o, hA, hb, _⟩ := HO.out.refs.cases (by simpa using hr)
        rw [ha] at hA
        cases hA
        exact Nat.lt_succ_of_lt hb
      · rw [← hq]; exact (by (repeat (first | (with_reducible (first | assumption | exact zR _ | exact zM _ _ _ _)) | apply zA | refine zS ?_ (by first | exact zL _ | exact zK _ _ | assumption) _ | apply zP | apply zD | apply zN)))
      · exact ⟨rfl, Or.inl ⟨rfl, rfl⟩⟩
    · have HE := Lib.hid hE
      obtain ⟨arr, A', cap', refs⟩ := s
      unfold Shp.val
      simp only
      generalize hv : wrongE c (c.shapeAt kind).isSome ⟨arr, A', cap', refs⟩ 0 false got = ev at hE ⊢
      have HV := Lib.hid hv
      clear hv H
      go_wp2_with fail
      rw [Exit.jump_ret]
      go_ret2
      exact ⟨⟨arr, A', cap', refs⟩, .slice none 0 0, 0, by rw [HV.out]; rfl, HS.out, by rw [if_neg HE.out]; exact ⟨rfl, Or.inl ⟨rfl, rfl⟩⟩, by (repeat (first | (with_reducible (first | assumption | exact zR _ | exact zM _ _ _ _)) | apply zA | refine zS ?_ (by first | exact zL _ | exact zK _ _ | assumption) _ | apply zP | apply zD | apply zN))⟩
end Go.Proofs.YtoaehfdjffejeaaGreat

/-
  plan.sentinel.
-/
namespace Go.Proofs.YtoaehfdjffejeaaGreat
open Go Go.RowKit
set_option linter.unusedVariables false
set_option linter.unnecessarySimpa false
set_option linter.unusedSimpArgs false
set_option maxHeartbeats 4000000
def sentIn (got : List Int) (j : Nat) : Value := if j + 1 < got.length then wRef (got.getD (j + 1) 0) else wNone
def sentWords (kind n m : Int) (got : List Int) (at_ : Int) : List Value := [wNone, wHead kind 0, wWhole n, wWhole m] ++
  (if m = 0 then [sentIn got 0, sentIn got 1, sentIn got 2, sentIn got 3] else if m = 1 then [wWhole at_, wZero, wZero, wZero] else [wRef (got.getD 1 0), wZero, wZero, wZero])
def sentTo (p1 q1 p2 q2 p3 q3 : Nat) (got : List Int) : Nat → List Value
  | 0 => [.complex .f64 0 4607182418800017408, .complex .f64 p1 q1, .complex .f64 p2 q2, .complex .f64 p3 q3, .complex .f64 0 0, .complex .f64 0 0, .complex .f64 0 0, .complex .f64 0 0]
  | 1 => [.complex .f64 0 4607182418800017408, .complex .f64 p1 q1, .complex .f64 p2 q2, .complex .f64 p3 q3, sentIn got 0, .complex .f64 0 0, .complex .f64 0 0, .complex .f64 0 0]
  | 2 => [.complex .f64 0 4607182418800017408, .complex .f64 p1 q1, .complex .f64 p2 q2, .complex .f64 p3 q3, sentIn got 0, sentIn got 1, .complex .f64 0 0, .complex .f64 0 0]
  | 3 => [.complex .f64 0 4607182418800017408, .complex .f64 p1 q1, .complex .f64 p2 q2, .complex .f64 p3 q3, sentIn got 0, sentIn got 1, sentIn got 2, .complex .f64 0 0]
  | _ => [.complex .f64 0 4607182418800017408, .complex .f64 p1 q1, .complex .f64 p2 q2, .complex .f64 p3 q3, sentIn got 0, sentIn got 1, sentIn got 2, sentIn got 3]
end Go.Proofs.YtoaehfdjffejeaaGreat

/-
  area.Of: what an address is of.
-/
namespace Go.Proofs.YtoaehfdjffejeaaGreat
open Go Go.RowKit
set_option linter.unusedVariables false

def cOf (c : Cnf) (a : Int) : Int × Int × Int :=
  if a < 0 ∨ ¬ c.check = 0 then (0, 0, 0)
  else if a < c.frags * 8 then (1, a / 8, a % 8)
  else if a < c.frags * 8 + c.spine then (2, 0, a - c.frags * 8)
  else if a < c.frags * 8 + c.spine + c.spine then (3, 0, a - c.frags * 8 - c.spine)
  else if a < c.frags * 8 + c.spine + c.spine + c.globals then (4, 0, a - c.frags * 8 - c.spine - c.spine)
  else (0, 0, 0)
def tri (p : Int × Int × Int) : Value := .tuple #[.int .i64 p.1, .int .i64 p.2.1, .int .i64 p.2.2]
def ofIn (a0 a1 a2 a3 a : Int) : Int × Int × Int :=
  if a < 0 then (0, 0, 0) else if a < a0 then (1, a / 8, a % 8) else if a < a0 + a1 then (2, 0, a - a0) else if a < a0 + a1 + a2 then (3, 0, a - a0 - a1)
  else if a < a0 + a1 + a2 + a3 then (4, 0, a - a0 - a1 - a2) else (0, 0, 0)

end Go.Proofs.YtoaehfdjffejeaaGreat

/-
  shape.Spine, op.size.
-/
namespace Go.Proofs.YtoaehfdjffejeaaGreat
open Go Go.RowKit
set_option linter.unusedVariables false

set_option maxHeartbeats 1000000 in
theorem sspine_any (s : Shp) (n : Int) (w : World) (hs : s.Ok w) : Calls Tryz.prog 129 #[s.val, .int .i64 n] w (Gives (.int .i64 (s.spine n)) w) := by
  have hl : s.refs.length ≤ 140737488355328 := hs.max
  have hc := fun w' (he : Ext w w') => may_any s w' (hs.ext he)
  obtain ⟨arr, A, cap, refs⟩ := s
  unfold Shp.val at hc ⊢
  simp only at hl hc ⊢
  cases hm : Shp.may ⟨arr, A, cap, refs⟩
  · rw [hm] at hc
    have HC := Lib.hid hc
    clear hc
    have HV := Lib.hid (show Shp.spine ⟨arr, A, cap, refs⟩ n = 0 by simp [Shp.spine, hm])
    clear hm
    go_enter Tryz.func129, Tryz.ntmps129
    go_wp2_with (go_at_call 69; refine (HC.out _ (by (repeat (first | (with_reducible (first | assumption | exact zR _ | exact zM _ _ _ _)) | apply zA | refine zS ?_ (by first | exact zL _ | exact zK _ _ | assumption) _ | apply zP | apply zD | apply zN)))).mono ?_; rintro e w1 ⟨rfl, X1, rfl⟩)
    go_ret
    exact Gives.int HV.out.symm (by (repeat (first | (with_reducible (first | assumption | exact zR _ | exact zM _ _ _ _)) | apply zA | refine zS ?_ (by first | exact zL _ | exact zK _ _ | assumption) _ | apply zP | apply zD | apply zN)))
  · rw [hm] at hc
    have HC := Lib.hid hc
    have HM := Lib.hid hm
    clear hc hm
    cases arr
    · have HV := Lib.hid (show Shp.spine ⟨false, A, cap, refs⟩ n = 0 by simp [Shp.spine])
      go_enter Tryz.func129, Tryz.ntmps129
      go_wp2_with (go_at_call 69; refine (HC.out _ (by (repeat (first | (with_reducible (first | assumption | exact zR _ | exact zM _ _ _ _)) | apply zA | refine zS ?_ (by first | exact zL _ | exact zK _ _ | assumption) _ | apply zP | apply zD | apply zN)))).mono ?_; rintro e w1 ⟨rfl, X1, rfl⟩)
      go_ret
      exact Gives.int HV.out.symm (by (repeat (first | (with_reducible (first | assumption | exact zR _ | exact zM _ _ _ _)) | apply zA | refine zS ?_ (by first | exact zL _ | exact zK _ _ | assumption) _ | apply zP | apply zD | apply zN)))
    · have hb := sData_bd n
      by_cases h4 : sData n ≤ 4
      · have HV := Lib.hid (show Shp.spine ⟨true, A, cap, refs⟩ n = 0 by unfold Shp.spine; rw [if_pos (by simp [h4])])
        go_enter Tryz.func129, Tryz.ntmps129
        go_wp2_with (first | (go_at_call 69; refine (HC.out _ (by (repeat (first | (with_reducible (first | assumption | exact zR _ | exact zM _ _ _ _)) | apply zA | refine zS ?_ (by first | exact zL _ | exact zK _ _ | assumption) _ | apply zP | apply zD | apply zN)))).mono ?_; rintro e w1 ⟨rfl, X1, rfl⟩) | (go_at_call 156; refine (data_any _ _).mono ?_; rintro e w1 ⟨rfl, X1, rfl⟩))
        go_ret
        exact Gives.int HV.out.symm (by (repeat (first | (with_reducible (first | assumption | exact zR _ | exact zM _ _ _ _)) | apply zA | refine zS ?_ (by first | exact zL _ | exact zK _ _ | assumption) _ | apply zP | apply zD | apply zN)))
      · have HV := Lib.hid (show Shp.spine ⟨true, A, cap, refs⟩ n = sData n + 2 by unfold Shp.spine; rw [if_neg (by simp [h4, HM.out])])
        go_enter Tryz.func129, Tryz.ntmps129
        go_wp2_with (first | (go_at_call 69; refine (HC.out _ (by (repeat (first | (with_reducible (first | assumption | exact zR _ | exact zM _ _ _ _)) | apply zA | refine zS ?_ (by first | exact zL _ | exact zK _ _ | assumption) _ | apply zP | apply zD | apply zN)))).mono ?_; rintro e w1 ⟨rfl, X1, rfl⟩) | (go_at_call 156; refine (data_any _ _).mono ?_; rintro e w1 ⟨rfl, X1, rfl⟩))
        go_ret
        exact Gives.int HV.out.symm (by (repeat (first | (with_reducible (first | assumption | exact zR _ | exact zM _ _ _ _)) | apply zA | refine zS ?_ (by first | exact zL _ | exact zK _ _ | assumption) _ | apply zP | apply zD | apply zN)))

set_option maxHeartbeats 1000000 in
theorem opSize_1 (s : Shp) (a b d n : Int) (x y : Nat) (w : World) (hs : s.Ok w) : Calls Tryz.prog 128 #[s.val, .agg #[.int .i64 1, .int .i64 a, .int .i64 b, .int .i64 d, .int .i64 n, .complex .f64 x y]] w (Gives (.int .i64 (s.size 0)) w) := by
  have HC := Lib.hid (fun w' (he : Ext w w') => size_any s 0 w' (hs.ext he))
  obtain ⟨arr, A, cap, refs⟩ := s
  unfold Shp.val at HC ⊢
  simp only at HC ⊢
  go_enter Tryz.func128, Tryz.ntmps128
  go_wp2_with (go_at_call 161; refine (HC.out _ (by (repeat (first | (with_reducible (first | assumption | exact zR _ | exact zM _ _ _ _)) | apply zA | refine zS ?_ (by first | exact zL _ | exact zK _ _ | assumption) _ | apply zP | apply zD | apply zN)))).mono ?_; rintro e w1 ⟨rfl, X1, rfl⟩)
  go_ret
  exact Gives.mk rfl (by (repeat (first | (with_reducible (first | assumption | exact zR _ | exact zM _ _ _ _)) | apply zA | refine zS ?_ (by first | exact zL _ | exact zK _ _ | assumption) _ | apply zP | apply zD | apply zN)))

end Go.Proofs.YtoaehfdjffejeaaGreat

/-
  plan.mode, plan.begins.
-/
namespace Go.Proofs.YtoaehfdjffejeaaGreat
open Go Go.RowKit
set_option linter.unusedVariables false

def modeOf (d : Int) (got : List Int) : Int := if d ≤ 4 then 0 else if isSide got = true then 2 else 1
def beginsAt (c : Cnf) (at_ n : Int) : Bool := ((cOf c at_).1 == 2 || (cOf c at_).1 == 3) && decide ((cOf c at_).2.2 + n ≤ c.spine)
end Go.Proofs.YtoaehfdjffejeaaGreat

/-
  What a new object's writes are, word by word. No program here.
-/
namespace Go
open Go.RowKit
end Go

/-
  Merged: XArray, XArrP.
-/
/-
  plan.Array.
-/
namespace Go.Proofs.YtoaehfdjffejeaaGreat
open Go Go.RowKit
set_option linter.unusedVariables false
set_option linter.unnecessarySimpa false
set_option linter.unusedSimpArgs false
def arrMode (n : Int) (got : List Int) : Int := modeOf (sData n) got
def arrE (c : Cnf) (is : Bool) (s : Shp) (n : Int) (got : List Int) (at_ : Int) : Int :=
  if wrongE c is s n true got = 0 then (if (decide (arrMode n got = 1) && !beginsAt c at_ (s.spine n)) = true then 2 else 0) else wrongE c is s n true got
def dataF (s : Shp) : Nat → Nat × Nat := fun _ => cxOf (wBlank (s.refs.getD 0 false))
def fragWrites (f0 f : Nat → Nat × Nat) (got : List Int) : Nat → List Value
  | 0 => []
  | j + 1 => fragWrites f0 f got j ++ writes (got.getD j 0) (if j = 0 then f0 else f) 8
def spineW (got : List Int) (at_ : Int) : Nat → List Value
  | 0 => [.int .i64 at_, wRef (got.getD 0 0), .int .i64 (at_ + 1), wWhole ((got.length : Int) - 1)]
  | k + 1 => spineW got at_ k ++ [.int .i64 (at_ + 2 + k), wRef (got.getD (k + 1) 0)]
def sentF (kind n at_ : Int) (got : List Int) : Nat → Nat × Nat := rowF (sentWords kind n (arrMode n got) got at_)
def arrFrags (s : Shp) (kind n at_ : Int) (got : List Int) (j : Nat) : List Value := fragWrites (sentF kind n at_ got) (dataF s) got j
def arrWrites (s : Shp) (kind n at_ : Int) (got : List Int) : List Value := arrFrags s kind n at_ got got.length ++ if arrMode n got = 1 then spineW got at_ (got.length - 1) else []
def arrLen (n : Int) (got : List Int) : Nat := 8 * got.length + if arrMode n got = 1 then got.length + 1 else 0
def ArrGot (c : Cnf) (kind n : Int) (got : List Int) (at_ : Int) (w : World) (e : Ending) (w' : World) : Prop :=
  ∃ (s' : Shp) (l : Value) (m : Nat), e = .returned (.tuple #[l, .int .i64 (arrE c (c.shapeAt kind).isSome s' n got at_)]) ∧ (s'.arr, s'.refs) = (c.shapeAt kind).getD (false, []) ∧
    w'.ownsRow w.heap.size 170 2 l m (if arrE c (c.shapeAt kind).isSome s' n got at_ = 0 then arrWrites s' kind n at_ got else []) ∧ Ext w w'
structure ArrSt (c : Cnf) (kind n at_ : Int) (got : List Int) (w : World) (j : Nat) (l : Value) (s : Shp) (bd bs : Nat) (vs : List Value) (wr : World) : Prop where
  box : wr.heap[w.heap.size]? = some (.cells #[.int .i64 c.frags, .int .i64 c.spine, .int .i64 c.globals, .int .i64 c.threads, .int .i64 c.locals, .int .i64 c.cache, .int .i64 c.stack, .int .i64 c.low, .slice c.A c.shapes.length c.cap] 46)
  dblk : wr.heap[bd]? = some (.cells vs.toArray 221)
  sblk : wr.heap[bs]? = some (.cells #[.bool s.arr, .slice s.A s.refs.length s.cap] 73)
  vlen : vs.length = 8
  vcx : ∀ v ∈ vs, IsCx v
  sok : s.Ok wr
  slt : ∀ a, s.A = some a → 0 < s.refs.length → a.block < bs
  ext : Ext w wr
  own : wr.ownsRow (bs + 1) 170 2 l (8 * j) (arrFrags s kind n at_ got j)
  lt1 : w.heap.size < bd
  lt2 : bd < bs
  what : (s.arr, s.refs) = (c.shapeAt kind).getD (false, [])
  fine0 : wrongE c (c.shapeAt kind).isSome s n true got = 0
def ArrAt (c : Cnf) (kind n at_ : Int) (A : Option Addr) (cap : Nat) (got : List Int) (w : World) (a : Act) (wr : World) : Prop :=
  ∃ (j : Nat) (l : Value) (s : Shp) (bd bs : Nat) (u : Nat → Value), a = { tmps := #[(.agg #[.int .i64 c.frags, .int .i64 c.spine, .int .i64 c.globals, .int .i64 c.threads, .int .i64 c.locals, .int .i64 c.cache, .int .i64 c.stack, .int .i64 c.low, .slice c.A c.shapes.length c.cap]), .int .i64 kind, .int .i64 n, .slice A got.length cap, .int .i64 at_, .pointer (some ⟨w.heap.size, 0, none⟩), u 6, u 7, u 8, u 9, u 10, u 11, l, .pointer (some ⟨bd, 0, none⟩), .int .i64 (arrMode n got), .int .i64 j, .pointer (some ⟨bs, 0, none⟩), .int .i64 0, u 18, u 19, u 20, u 21, u 22, u 23, u 24, u 25, u 26, u 27, u 28, u 29, u 30, u 31, u 32, u 33, u 34, u 35, u 36, u 37, u 38, u 39, u 40, u 41, u 42, u 43, u 44, u 45, u 46, u 47, u 48, u 49, u 50, u 51, u 52, u 53, u 54, u 55, u 56, u 57, u 58, u 59, u 60, u 61, u 62, u 63, u 64, u 65, u 66, u 67, u 68, u 69, u 70, u 71, u 72, u 73, u 74, u 75, u 76, u 77, u 78, u 79, u 80, u 81, u 82, u 83, u 84, u 85, u 86, u 87, u 88, u 89, u 90, u 91, u 92, u 93, u 94, u 95, u 96, u 97, u 98, u 99, u 100, u 101, u 102, u 103, u 104, u 105, u 106, u 107, u 108, u 109, u 110, u 111, u 112, u 113, u 114, u 115, u 116, u 117, u 118, u 119, u 120, u 121], defers := [] } ∧ 1 ≤ j ∧ j ≤ got.length ∧ arrE c (c.shapeAt kind).isSome s n got at_ = 0 ∧ ArrSt c kind n at_ got w j l s bd bs (cxs (dataF s)) wr
def dataTo (b : Value) (k : Nat) : List Value := List.replicate k b ++ List.replicate (8 - k) wZero
end Go.Proofs.YtoaehfdjffejeaaGreat
/-
  Merged: XArrP.
-/
/-
  What a new array's writes are, word by word. No walk here.
-/
namespace Go.Proofs.YtoaehfdjffejeaaGreat
open Go Go.RowKit
set_option linter.unusedVariables false
def spineV (got : List Int) (k : Nat) : Value := if k = 0 then wRef (got.getD 0 0) else if k = 1 then wWhole ((got.length : Int) - 1) else wRef (got.getD (k - 1) 0)
def runTo (l : List Int) (k : Nat) : Bool := (List.range k).all fun i => decide (l.getD (i + 1) 0 = l.getD 0 0 + (i + 1 : Nat))
end Go.Proofs.YtoaehfdjffejeaaGreat

