/-
  CoreCounts: the walk.
-/
import Derived.Test.YthebmcbpmboblaaCountsP
import Derived.Test.YthebmcbpmboblaaPlan1
import Derived.Laws.BitsLemmas
namespace Go.Proofs.Ythebmcbpmboblaa
open Go Go.RowKit
set_option linter.unusedVariables false
set_option linter.unnecessarySimpa false
set_option linter.unusedSimpArgs false
set_option maxHeartbeats 4000000
theorem white_no (g : GW) (tt bt : Nat) (i : Int) (sense : Bool) (T : TabS) (h : TabAt g tt bt T) (hh : T.head i = false) :
    Calls Try.prog 153 #[.agg #[.pointer (some ⟨bt, 0, none⟩)], .int .i64 i, .bool sense] g.w (Gives (.bool false) g.w) := by
  have HH := Lib.hid (fun w' (he : Ext g.w w') => hh ▸ tab_head (g.to 9 w') tt bt i T (h.keep (Mod.ext (T := fun _ => False) he 9) id))
  clear h hh
  go_enter Try.func153, Try.ntmps153
  go_wp2_with fail
  refine (HH.out _ (by (repeat (first | (with_reducible assumption) | (with_reducible exact Ext.refl _) | (with_reducible exact Ext.more _ _ _ _) | apply Ext.alloc | refine Ext.setCell ?_ (by first | exact Nat.le_refl _ | exact Nat.le_add_right _ _ | assumption) _ | apply Ext.patch | apply Ext.drew | apply Ext.drewN)))).mono ?_
  rintro e w1 ⟨rfl, rfl⟩
  go_wp2_with fail
  go_ret
  exact Gives.bool rfl (by (repeat (first | (with_reducible assumption) | (with_reducible exact Ext.refl _) | (with_reducible exact Ext.more _ _ _ _) | apply Ext.alloc | refine Ext.setCell ?_ (by first | exact Nat.le_refl _ | exact Nat.le_add_right _ _ | assumption) _ | apply Ext.patch | apply Ext.drew | apply Ext.drewN)))
/-- No head is there: nothing becomes grey. -/
theorem grey_no (g : GW) (t tt b bt bp : Nat) (i n : Int) (sense : Bool) (T : TabS) (h : Blk g t b 46 [.pointer (some ⟨bt, 0, none⟩), .pointer (some ⟨bp, 0, none⟩), .int .i64 n]) (hT : TabAt g tt bt T) (ht : tt ≠ t) (hh : T.head i = false) (hn : 0 ≤ n ∧ n ≤ 1099511627776) :
    Calls Try.prog 71 #[.pointer (some ⟨b, 0, none⟩), .int .i64 i, .bool sense] g.w (Does (.bool false) g (fun x => x = t) (fun g' => Blk g' t b 46 [.pointer (some ⟨bt, 0, none⟩), .pointer (some ⟨bp, 0, none⟩), .int .i64 (n + 1)])) := by
  obtain ⟨n0, n1⟩ := hn
  have M0 := Lib.hid (show Mod (fun x => x = t) g ⟨g.own, g.w.setCell ⟨b, 2, none⟩ (.int .i64 (n + 1))⟩ from Mod.set h.own)
  have B0 := Lib.hid (h.set 2 (.int .i64 (n + 1)))
  have HW := Lib.hid (white_no ⟨g.own, g.w.setCell ⟨b, 2, none⟩ (.int .i64 (n + 1))⟩ tt bt i sense T (hT.keep M0.out ht) hh)
  have a0 := h.cell (i := 0) rfl
  have a1 := h.cell (i := 1) rfl
  have a2 := h.cell (i := 2) rfl
  have af2 := h.live 2
  have al := h.lt
  (try simp only [GW.to] at a0 a1 a2 af2 al)
  clear h hT hh
  go_enter Try.func71, Try.ntmps71
  go_wp2_with fail
  refine HW.out.mono ?_
  rintro e w1 ⟨rfl, hX⟩
  obtain ⟨own1, m1⟩ := Mod.ofExt (show Ext _ w1 from hX) g.own
  have M1 := Lib.hid (M0.out.trans (m1.mono (fun x hx => hx.elim)))
  have B1 := Lib.hid (B0.out.keep m1 id)
  clear m1 hX
  go_wp2_with fail
  go_ret
  exact Does.of ⟨own1, w1⟩ rfl rfl M1.out B1.out
section
variable {g g' : GW} {B b bm bs bt bp bsp bh : Nat} {K : CoreS} {cm : Cnf}
theorem CoreIn.withMem (h : CoreIn g B b K bm bs bt bp bsp bh cm) {M : MemS} (m : Mod (fun x => x = B + 62) g g') (hm : MemAt g' (B + 62) bm M) : CoreIn g' B b { K with mem := M } bm bs bt bp bsp bh cm :=
  ⟨h.blk.keep m (by omega), hm, h.sh.keep m (by omega), h.pile.keep m (by omega), h.sp.keep m (fun x hx => by omega), h.hand.keep m (by omega), h.cnf.keep m (by omega), h.same⟩
theorem CoreIn.withHand (h : CoreIn g B b K bm bs bt bp bsp bh cm) {H : HandS} (m : Mod (fun x => x = B + 63) g g') (hm : HandAt g' (B + 63) bh H) : CoreIn g' B b { K with hand := H } bm bs bt bp bsp bh cm :=
  ⟨h.blk.keep m (by omega), h.mem.keep m (by omega), h.sh.keep m (by omega), h.pile.keep m (by omega), h.sp.keep m (fun x hx => by omega), hm, h.cnf.keep m (by omega), h.same⟩
theorem CoreIn.withSh (h : CoreIn g B b K bm bs bt bp bsp bh cm) {n : Int} (m : Mod (fun x => x = B + 60) g g') (hm : Blk g' (B + 60) bs 46 [.pointer (some ⟨bt, 0, none⟩), .pointer (some ⟨bp, 0, none⟩), .int .i64 n]) : CoreIn g' B b { K with n := n } bm bs bt bp bsp bh cm :=
  ⟨h.blk.keep m (by omega), h.mem.keep m (by omega), hm, h.pile.keep m (by omega), h.sp.keep m (fun x hx => by omega), h.hand.keep m (by omega), h.cnf.keep m (by omega), h.same⟩
theorem CoreIn.withSp (h : CoreIn g B b K bm bs bt bp bsp bh cm) {S : SpaceS} (m : Mod (inst B) g g') (hm : SpaceAt g' B bsp bt S) : CoreIn g' B b { K with sp := S } bm bs bt bp bsp bh cm :=
  ⟨h.blk.keep m (fun hx => by have := hx.2; omega), h.mem.keep m (fun hx => by have := hx.2; omega), h.sh.keep m (fun hx => by have := hx.2; omega), h.pile.keep m (fun hx => by have := hx.2; omega), hm, h.hand.keep m (fun hx => by have := hx.2; omega), h.cnf.keep m (fun hx => by have := hx.2; omega), h.same⟩
end
theorem memLaid_count' (c : Cnf) (k : Nat) : (memLaid c k).count = 0 := by
  induction k with
  | zero => rfl
  | succ k ih =>
    rw [memLaid_succ]
    unfold MemS.lay
    split
    · exact ih
    · exact ih
/-- What is true of the core at every step. -/
structure CntOk (K : CoreS) (k : Nat) : Prop where
  sum : CoreS.count K = k
  c1 : 0 ≤ K.mem.count
  c2 : 0 ≤ K.n
  c3 : 0 ≤ K.sp.count
  c4 : 0 ≤ K.hand.count
  sp : KOk K.sp
  line : K.sp.line.length ≤ k
theorem ask_line (S : SpaceS) (t fr sp : Int) (b : Bool) : (ask S t fr sp b).2.line.length ≤ S.line.length + 1 := by
  unfold ask
  split
  · exact Nat.le_succ _
  · split
    · exact Nat.le_succ _
    · split
      · simp
      · exact Nat.le_succ _
theorem ask_cnt' (S : SpaceS) (t fr sp : Int) (b : Bool) : (ask S t fr sp b).2.count = S.count + 1 := by
  unfold ask
  split
  · rfl
  · split
    · rfl
    · split <;> rfl
theorem CntOk.read {K : CoreS} {k : Nat} (h : CntOk K k) : CntOk { K with mem := K.mem.tick } (k + 1) := by
  obtain ⟨h1, h2, h3, h4, h5, h6, h7⟩ := h
  refine ⟨?_, ?_, h3, h4, h5, h6, by show K.sp.line.length ≤ k + 1; omega⟩
  · unfold CoreS.count at h1 ⊢
    show K.mem.count + 1 + K.n + K.sp.count + K.hand.count = _
    omega
  · show 0 ≤ K.mem.count + 1
    omega
theorem CntOk.grey {K : CoreS} {k : Nat} (h : CntOk K k) : CntOk { K with n := K.n + 1 } (k + 1) := by
  obtain ⟨h1, h2, h3, h4, h5, h6, h7⟩ := h
  refine ⟨?_, h2, ?_, h4, h5, h6, by show K.sp.line.length ≤ k + 1; omega⟩
  · unfold CoreS.count at h1 ⊢
    show K.mem.count + (K.n + 1) + K.sp.count + K.hand.count = _
    omega
  · show 0 ≤ K.n + 1
    omega
theorem CntOk.looked {K : CoreS} {k : Nat} (h : CntOk K k) : CntOk { K with hand := K.hand.tick } (k + 1) := by
  obtain ⟨h1, h2, h3, h4, h5, h6, h7⟩ := h
  refine ⟨?_, h2, h3, h4, ?_, h6, by show K.sp.line.length ≤ k + 1; omega⟩
  · unfold CoreS.count at h1 ⊢
    show K.mem.count + K.n + K.sp.count + (K.hand.count + 1) = _
    omega
  · show 0 ≤ K.hand.count + 1
    omega
theorem CntOk.asked {K : CoreS} {k : Nat} (h : CntOk K k) : CntOk { K with sp := (ask K.sp 0 1 0 true).2 } (k + 1) := by
  obtain ⟨h1, h2, h3, h4, h5, h6, h7⟩ := h
  have hc := ask_cnt' K.sp 0 1 0 true
  have hl := ask_line K.sp 0 1 0 true
  refine ⟨?_, h2, h3, ?_, h5, (ask_one K.sp h6).1, by show (ask K.sp 0 1 0 true).2.line.length ≤ k + 1; omega⟩
  · unfold CoreS.count at h1 ⊢
    show K.mem.count + K.n + (ask K.sp 0 1 0 true).2.count + K.hand.count = _
    omega
  · show 0 ≤ (ask K.sp 0 1 0 true).2.count
    omega
theorem CntOk.le_100 {K : CoreS} {k : Nat} (h : CntOk K k) : (0 ≤ K.mem.count ∧ K.mem.count ≤ k) ∧ (0 ≤ K.n ∧ K.n ≤ k) ∧ (0 ≤ K.sp.count ∧ K.sp.count ≤ k) ∧ (0 ≤ K.hand.count ∧ K.hand.count ≤ k) := by
  obtain ⟨h1, h2, h3, h4, h5, -, -⟩ := h
  unfold CoreS.count at h1
  omega
theorem and3 (x : Int) : ∃ n : Nat, n ≤ 3 ∧ bits .and .i64 x 3 = n := by
  have e : bits .and .i64 x 3 = IntKind.i64.wrap (((BitVec.ofInt 64 x).toNat &&& (BitVec.ofInt 64 3).toNat : Nat) : Int) := by
    simp only [bits, BitVec.toNat_and]
    rfl
  have h3 : (BitVec.ofInt 64 3).toNat = 3 := by decide
  have hle : ((BitVec.ofInt 64 x).toNat &&& (BitVec.ofInt 64 3).toNat) ≤ 3 := by rw [h3]; exact Nat.and_le_right
  refine ⟨_, hle, ?_⟩
  rw [e]
  generalize ((BitVec.ofInt 64 x).toNat &&& (BitVec.ofInt 64 3).toNat) = n at *
  rw [IntKind.wrap_i64]
  omega
set_option maxRecDepth 100000 in
theorem counts_any (c : Cnf) (A : Option Addr) (cap nl : Nat) (l : List Int) (w : World) (hc : c.Ok w) (hl : CellsAt w A (l.map (Value.int .i64))) (hnl : l.length = nl) (hlm : nl ≤ 9223372036854775807) (hw : ∀ x ∈ l, -9223372036854775808 ≤ x ∧ x ≤ 9223372036854775807) :
    Calls Try.prog 13 #[c.val, .slice A nl cap] w (Gives (.bool true) w) := by
  have HF := Lib.hid (fun w => first22_any w)
  have HFW := Lib.hid (fun w' (he : Ext w w') => few_any c w' (hc.ext he))
  have HC := Lib.hid hc
  have HL := Lib.hid hl
  have HLM := Lib.hid hlm
  have HNL := Lib.hid hnl
  have HWB := Lib.hid hw
  unfold Cnf.val at HFW ⊢
  obtain ⟨own0, m0, b0⟩ : ∃ own0, Mod (fun _ => False) ⟨fun _ => 0, w⟩ ⟨own0, w.alloc (.cells #[.int .i64 c.frags, .int .i64 c.spine, .int .i64 c.globals, .int .i64 c.threads, .int .i64 c.locals, .int .i64 c.cache, .int .i64 c.stack, .int .i64 c.low, .slice c.A c.shapes.length c.cap] 24)⟩ ∧ Blk ⟨own0, w.alloc (.cells #[.int .i64 c.frags, .int .i64 c.spine, .int .i64 c.globals, .int .i64 c.threads, .int .i64 c.locals, .int .i64 c.cache, .int .i64 c.stack, .int .i64 c.low, .slice c.A c.shapes.length c.cap] 24)⟩ 9 w.heap.size 24 [.int .i64 c.frags, .int .i64 c.spine, .int .i64 c.globals, .int .i64 c.threads, .int .i64 c.locals, .int .i64 c.cache, .int .i64 c.stack, .int .i64 c.low, .slice c.A c.shapes.length c.cap] := ⟨_, Mod.ext (g := ⟨fun _ => 0, w⟩) (by (repeat (first | (with_reducible assumption) | (with_reducible exact Ext.refl _) | (with_reducible exact Ext.more _ _ _ _) | apply Ext.alloc | refine Ext.setCell ?_ (by first | exact Nat.le_refl _ | exact Nat.le_add_right _ _ | assumption) _ | apply Ext.patch | apply Ext.drew | apply Ext.drewN))) 9, Blk.new ⟨fun _ => 0, w⟩ 9 24 [.int .i64 c.frags, .int .i64 c.spine, .int .i64 c.globals, .int .i64 c.threads, .int .i64 c.locals, .int .i64 c.cache, .int .i64 c.stack, .int .i64 c.low, .slice c.A c.shapes.length c.cap]⟩
  have M0 := Lib.hid m0
  have B0 := Lib.hid b0
  clear hc m0 b0 hl hlm hnl hw
  go_enter Try.func13, Try.ntmps13
  go_wp2_with fail
  refine (HF.out _).mono ?_
  rintro e w1 ⟨rfl, hX⟩
  obtain ⟨own1, m1⟩ := Mod.ofExt (show Ext _ w1 from hX) own0
  have M1 := Lib.hid (M0.out.trans m1)
  have B1 := Lib.hid (B0.out.keep m1 id)
  clear m1 hX
  have a0 := B1.out.cell (i := 0) rfl
  have a1 := B1.out.cell (i := 1) rfl
  have a2 := B1.out.cell (i := 2) rfl
  have a3 := B1.out.cell (i := 3) rfl
  have a4 := B1.out.cell (i := 4) rfl
  have a5 := B1.out.cell (i := 5) rfl
  have a6 := B1.out.cell (i := 6) rfl
  have a7 := B1.out.cell (i := 7) rfl
  have a8 := B1.out.cell (i := 8) rfl
  have al := B1.out.lt
  (try simp only [GW.to] at a0 a1 a2 a3 a4 a5 a6 a7 a8 al)
  go_wp2_with fail
  refine (HFW.out _ M1.out.toExt).mono ?_
  rintro e w2 ⟨rfl, hX⟩
  obtain ⟨own2, m2⟩ := Mod.ofExt (show Ext w1 w2 from hX) own1
  have M2 := Lib.hid (M1.out.trans m2)
  have B2 := Lib.hid (B1.out.keep m2 id)
  clear m2 hX a0 a1 a2 a3 a4 a5 a6 a7 a8 al
  have a0 := B2.out.cell (i := 0) rfl
  have a1 := B2.out.cell (i := 1) rfl
  have a2 := B2.out.cell (i := 2) rfl
  have a3 := B2.out.cell (i := 3) rfl
  have a4 := B2.out.cell (i := 4) rfl
  have a5 := B2.out.cell (i := 5) rfl
  have a6 := B2.out.cell (i := 6) rfl
  have a7 := B2.out.cell (i := 7) rfl
  have a8 := B2.out.cell (i := 8) rfl
  have al := B2.out.lt
  (try simp only [GW.to] at a0 a1 a2 a3 a4 a5 a6 a7 a8 al)
  cases hf : Few c
  case false =>
    clear hf
    go_wp2_with fail
    refine (HF.out _).mono ?_
    rintro e w9 ⟨rfl, hX⟩
    have E9 := Lib.hid (show Ext _ w9 from hX)
    clear hX
    go_wp2_with fail
    go_ret
    exact Gives.bool rfl (M2.out.toExt.trans E9.out)
  case true =>
    clear hf HFW
    by_cases h100 : (100 : Int) < (nl : Int)
    · go_wp2_with fail
      refine (HF.out _).mono ?_
      rintro e w9 ⟨rfl, hX⟩
      have E9 := Lib.hid (show Ext _ w9 from hX)
      clear hX
      go_wp2_with fail
      go_ret
      exact Gives.bool rfl (M2.out.toExt.trans E9.out)
    · have hd100 : decide ((100 : Int) < (nl : Int)) = false := decide_eq_false h100
      have HN100 := Lib.hid (show (nl : Int) ≤ 100 by omega)
      have HNW := Lib.hid (core_new c 100 ⟨fun k => if k = w.heap.size then 9 else 0, w2⟩ (HC.out.ext M2.out.toExt) (by omega) (fun k _ => by simp only; split <;> omega))
      unfold Cnf.val at HNW
      clear h100
      go_wp2_with fail
      refine HNW.out.mono ?_
      rintro e w3 hh
      unfold CoreMade at hh
      by_cases hck : c.check = 0
      case neg =>
        rw [if_neg hck] at hh
        obtain ⟨rfl, hX⟩ := hh
        obtain ⟨own3, m3⟩ := Mod.ofExt (show Ext w2 w3 from hX) own2
        have M3 := Lib.hid (M2.out.trans m3)
        clear m3 hX HNW a0 a1 a2 a3 a4 a5 a6 a7 a8 al
        have hc0 : (c.check != 0) = true := by simp [hck]
        clear hck
        generalize c.check = ck at *
        go_wp2_with fail
        refine (HF.out _).mono ?_
        rintro e w9 ⟨rfl, hX⟩
        have E9 := Lib.hid (show Ext _ w9 from hX)
        clear hX
        go_wp2_with fail
        go_ret
        exact Gives.bool rfl (M3.out.toExt.trans E9.out)
      case pos =>
        rw [if_pos hck] at hh
        obtain ⟨own3, b, rfl, m3, h3⟩ := hh
        have M3 := Lib.hid m3
        obtain ⟨bm, bs, bt, bp, bsp, bh, cm, h3⟩ := h3
        have H3 := Lib.hid h3
        have E2 := Lib.hid M2.out.toExt
        have HTB := Lib.hid (fun w => shade_table bt w)
        clear m3 h3 HNW a0 a1 a2 a3 a4 a5 a6 a7 a8 al M0 B0 M1 B1 M2 B2 hck
        have y0 := H3.out.blk.cell (i := 0) rfl
        have y1 := H3.out.blk.cell (i := 1) rfl
        have y2 := H3.out.blk.cell (i := 2) rfl
        have y3 := H3.out.blk.cell (i := 3) rfl
        have y4 := H3.out.blk.cell (i := 4) rfl
        have y5 := H3.out.blk.cell (i := 5) rfl
        have y6 := H3.out.blk.cell (i := 6) rfl
        have y7 := H3.out.blk.cell (i := 7) rfl
        have y8 := H3.out.blk.cell (i := 8) rfl
        have y9 := H3.out.blk.cell (i := 9) rfl
        have y10 := H3.out.blk.cell (i := 10) rfl
        have y11 := H3.out.blk.cell (i := 11) rfl
        have y12 := H3.out.blk.cell (i := 12) rfl
        have yl := H3.out.blk.lt
        (try simp only [GW.to] at y0 y1 y2 y3 y4 y5 y6 y7 y8 y9 y10 y11 y12 yl)
        have s0 := H3.out.sh.cell (i := 0) rfl
        have s1 := H3.out.sh.cell (i := 1) rfl
        have s2 := H3.out.sh.cell (i := 2) rfl
        have sl := H3.out.sh.lt
        (try simp only [GW.to] at s0 s1 s2 sl)
        go_wp2_with fail
        refine (HTB.out _).mono ?_
        rintro e w4 ⟨rfl, hX⟩
        obtain ⟨own4, m4⟩ := Mod.ofExt (show Ext w3 w4 from hX) own3
        have M4 := Lib.hid ((M3.out.trans m4).mono (S := instC 100) (fun x hx => hx.elim))
        have H4 := Lib.hid (H3.out.keep m4 (fun x hx => hx.elim))
        clear m4 hX y0 y1 y2 y3 y4 y5 y6 y7 y8 y9 y10 y11 y12 yl s0 s1 s2 sl M3 H3
        have y0 := H4.out.blk.cell (i := 0) rfl
        have y1 := H4.out.blk.cell (i := 1) rfl
        have y2 := H4.out.blk.cell (i := 2) rfl
        have y3 := H4.out.blk.cell (i := 3) rfl
        have y4 := H4.out.blk.cell (i := 4) rfl
        have y5 := H4.out.blk.cell (i := 5) rfl
        have y6 := H4.out.blk.cell (i := 6) rfl
        have y7 := H4.out.blk.cell (i := 7) rfl
        have y8 := H4.out.blk.cell (i := 8) rfl
        have y9 := H4.out.blk.cell (i := 9) rfl
        have y10 := H4.out.blk.cell (i := 10) rfl
        have y11 := H4.out.blk.cell (i := 11) rfl
        have y12 := H4.out.blk.cell (i := 12) rfl
        have yl := H4.out.blk.lt
        (try simp only [GW.to] at y0 y1 y2 y3 y4 y5 y6 y7 y8 y9 y10 y11 y12 yl)
        go_wp2_with fail
        have K0 := Lib.hid (show CntOk (CoreS.fresh c) 0 from ⟨by unfold CoreS.count; rw [show (CoreS.fresh c).mem.count = 0 from memLaid_count' c _]; rfl, by rw [show (CoreS.fresh c).mem.count = 0 from memLaid_count' c _]; decide, Int.le_refl _, Int.le_refl _, Int.le_refl _, fresh_ok c, Nat.le_refl _⟩)
        clear y0 y1 y2 y3 y4 y5 y6 y7 y8 y9 y10 y11 y12 yl
        go_loopw [7] (fun i wr => ∃ (k : Nat) (own : Nat → Nat) (K : CoreS), k ≤ nl ∧ i = .int .i64 k ∧ Hid (Mod (instC 100) ⟨fun k => if k = w.heap.size then 9 else 0, w2⟩ ⟨own, wr⟩) ∧ Hid (CoreIn ⟨own, wr⟩ 100 b K bm bs bt bp bsp bh cm) ∧ Hid (CntOk K k)) (fun i _ => nl - (intOf i).toNat)
        case atStart => exact ⟨0, own4, _, Nat.zero_le _, rfl, M4, H4, K0⟩
        case round =>
          obtain ⟨k, own5, K, hk, rfl, M5, H5, KO⟩ := hrel
          obtain ⟨w5, rfl⟩ : ∃ w5 : World, w5 = wr := ⟨_, rfl⟩
          clear M4 H4 K0
          have E5 := Lib.hid (show Ext w2 w5 from (M5.out.nothing (fun j _ hj => by simp only [instC] at hj; split at hj <;> omega)).toExt)
          by_cases hlt : k < nl
          · obtain ⟨q, oq, rfl, hq, hcq⟩ := ints_at (HL.out.ext (E2.out.trans E5.out)) (by rw [HNL.out]; exact hlt)
            have hk100 : (k : Int) < 100 := by have := HN100.out; omega
            have hkl : k < l.length := by rw [HNL.out]; exact hlt
            have hk100 : (k : Int) < 100 := by have := HN100.out; omega
            have hxq := hcq k hkl
            generalize l[k]?.getD 0 = x at *
            generalize l.getD k 0 = x at *
            have HK1 := Lib.hid hk100
            have hwr : wrap64 ((k : Int) + 1) = (k : Int) + 1 := by simp only [wrap64]; omega
            obtain ⟨r, hr3, hbits⟩ := and3 x
            clear hcq hkl
            have y0 := H5.out.blk.cell (i := 0) rfl
            have y1 := H5.out.blk.cell (i := 1) rfl
            have y2 := H5.out.blk.cell (i := 2) rfl
            have y3 := H5.out.blk.cell (i := 3) rfl
            have y4 := H5.out.blk.cell (i := 4) rfl
            have y5 := H5.out.blk.cell (i := 5) rfl
            have y6 := H5.out.blk.cell (i := 6) rfl
            have y7 := H5.out.blk.cell (i := 7) rfl
            have y8 := H5.out.blk.cell (i := 8) rfl
            have y9 := H5.out.blk.cell (i := 9) rfl
            have y10 := H5.out.blk.cell (i := 10) rfl
            have y11 := H5.out.blk.cell (i := 11) rfl
            have y12 := H5.out.blk.cell (i := 12) rfl
            have yl := H5.out.blk.lt
            (try simp only [GW.to] at y0 y1 y2 y3 y4 y5 y6 y7 y8 y9 y10 y11 y12 yl)
            rcases (show r = 0 ∨ r = 1 ∨ r = 2 ∨ r = 3 by omega) with rfl | rfl | rfl | rfl
            · rw [show ((0 : Nat) : Int) = 0 from rfl] at hbits
              go_wp2_with fail
              refine wp_region_mixed [true, true, true, true, true, true, true, true, false] 1 8 (by kernel_rfl) (by kernel_rfl) (by kernel_rfl) ?_ (by decide) (by decide) (by decide) (by kernel_rfl) ?_
              · intro c a d v w h; cases d <;> exact h
              intro X00
              simp only [pickOps]
              repeat (go_big_quiet_step (fail))
              refine wpQuiet_nil (fun X0 => ?_)
              clear X00
              refine wpAnyM_tailL rfl (by kernel_rfl) (fun X2 => ?_)
              simp only [List.drop_succ_cons, List.drop_zero]
              go_wp2_with fail
              refine ((mem_read ((⟨own5, w5⟩ : GW).pt _) (100 + 62) bm x _ (H5.out.mem.pt _) (by have := KO.out.le_100; have := HK1.out; omega)).mono (R' := fun e w6 => ∃ v own6, e = .returned v ∧ Mod (fun x => x = 100 + 62) ((⟨own5, w5⟩ : GW).pt _) ⟨own6, w6⟩ ∧ MemAt ⟨own6, w6⟩ (100 + 62) bm K.mem.tick) (fun e w6 ⟨h1, own6, h2, h3⟩ => ⟨_, own6, h1, h2, h3⟩)).mono ?_
              rintro e w6 ⟨v6, own6, rfl, m6, x6⟩
              have M6 := Lib.hid ((Mod.pt M5.out _).trans (m6.mono (fun x (hx : x = 100 + 62) => (⟨by omega, by omega⟩ : instC 100 x))))
              have H6 := Lib.hid ((H5.out.keep (Mod.pt (Mod.refl (fun _ => False) _) _) (fun x hx => hx.elim)).withMem m6 x6)
              have KO6 := Lib.hid KO.out.read
              clear m6 x6
              have HCN := Lib.hid (show Calls Try.prog 20 #[.pointer (some ⟨b, 0, none⟩)] w6 (Gives (.int .i64 ((k : Int) + 1)) w6) from by
                have hle := KO6.out.le_100
                have := core_count ⟨own6, w6⟩ 100 b ({ K with mem := K.mem.tick }) ⟨_, _, _, _, _, _, _, H6.out⟩ (by have := HK1.out; omega) (by have := HK1.out; omega) (by have := HK1.out; omega) (by have := HK1.out; omega)
                rw [KO6.out.sum, show ((k + 1 : Nat) : Int) = (k : Int) + 1 by omega] at this
                exact this)
              go_wp2_with fail
              refine HCN.out.mono ?_
              rintro e w7 ⟨rfl, hX⟩
              obtain ⟨own7, m7⟩ := Mod.ofExt (show Ext w6 w7 from hX) own6
              have M7 := Lib.hid (M6.out.trans (m7.mono (fun x hx => hx.elim)))
              have H7 := Lib.hid (H6.out.keep m7 (fun x hx => hx.elim))
              clear m7 hX HCN
              go_wp2_with fail
              go_roundw
              case rel => exact ⟨k + 1, own7, { K with mem := K.mem.tick }, by omega, by first | go_num | simp, M7, H7, KO6⟩
              case measure => simp [intOf]; omega
            · rw [show ((1 : Nat) : Int) = 1 from rfl] at hbits
              obtain ⟨qp, qk, ql, qA, qc, qm, qs, hsp⟩ := H5.out.sp
              have HTA := Lib.hid hsp.tab
              clear hsp
              go_wp2_with fail
              refine wp_region_mixed [true, true, true, true, true, true, true, true, false] 1 8 (by kernel_rfl) (by kernel_rfl) (by kernel_rfl) ?_ (by decide) (by decide) (by decide) (by kernel_rfl) ?_
              · intro c a d v w h; cases d <;> exact h
              intro X00
              simp only [pickOps]
              repeat (go_big_quiet_step (fail))
              refine wpQuiet_nil (fun X0 => ?_)
              clear X00
              refine wpAnyM_tailL rfl (by kernel_rfl) (fun X2 => ?_)
              simp only [List.drop_succ_cons, List.drop_zero]
              go_wp2_with fail
              refine (grey_no ((⟨own5, w5⟩ : GW).pt _) (100 + 60) (100 + 50) bs bt bp x K.n true K.sp.tab (H5.out.sh.pt _) (HTA.out.pt _) (by omega) (KO.out.sp.head x) (by have := KO.out.le_100; have := HK1.out; omega)).mono ?_
              rintro e w6 ⟨rfl, own6, m6, x6⟩
              have M6 := Lib.hid ((Mod.pt M5.out _).trans (m6.mono (fun x (hx : x = 100 + 60) => (⟨by omega, by omega⟩ : instC 100 x))))
              have H6 := Lib.hid ((H5.out.keep (Mod.pt (Mod.refl (fun _ => False) _) _) (fun x hx => hx.elim)).withSh m6 x6)
              have KO6 := Lib.hid KO.out.grey
              clear m6 x6
              have HCN := Lib.hid (show Calls Try.prog 20 #[.pointer (some ⟨b, 0, none⟩)] w6 (Gives (.int .i64 ((k : Int) + 1)) w6) from by
                have hle := KO6.out.le_100
                have := core_count ⟨own6, w6⟩ 100 b ({ K with n := K.n + 1 }) ⟨_, _, _, _, _, _, _, H6.out⟩ (by have := HK1.out; omega) (by have := HK1.out; omega) (by have := HK1.out; omega) (by have := HK1.out; omega)
                rw [KO6.out.sum, show ((k + 1 : Nat) : Int) = (k : Int) + 1 by omega] at this
                exact this)
              go_wp2_with fail
              refine HCN.out.mono ?_
              rintro e w7 ⟨rfl, hX⟩
              obtain ⟨own7, m7⟩ := Mod.ofExt (show Ext w6 w7 from hX) own6
              have M7 := Lib.hid (M6.out.trans (m7.mono (fun x hx => hx.elim)))
              have H7 := Lib.hid (H6.out.keep m7 (fun x hx => hx.elim))
              clear m7 hX HCN
              go_wp2_with fail
              go_roundw
              case rel => exact ⟨k + 1, own7, { K with n := K.n + 1 }, by omega, by first | go_num | simp, M7, H7, KO6⟩
              case measure => simp [intOf]; omega
            · rw [show ((2 : Nat) : Int) = 2 from rfl] at hbits
              have KO6 := Lib.hid KO.out.asked
              have HA1 := Lib.hid (ask_one K.sp KO.out.sp).2
              have HAK := Lib.hid (space_ask 0 1 0 true ⟨own5, w5⟩ 100 bsp bt K.sp H5.out.sp (by omega) (by have := KO.out.le_100; have := HK1.out; omega) (by have := KO.out.line; have := HK1.out; omega) (by decide) (by decide))
              go_wp2_with fail
              refine HAK.out.mono ?_
              rintro e v6 ⟨v, ownv, rfl, m6, ⟨A6, c6, rfl, r6⟩, h6⟩
              have Hv := Lib.hid (H5.out.withSp m6 h6)
              have Mv := Lib.hid (M5.out.trans (m6.mono (fun x (hx : inst 100 x) => (⟨hx.1, by have := hx.2; omega⟩ : instC 100 x))))
              clear m6 h6 HAK y0 y1 y2 y3 y4 y5 y6 y7 y8 y9 y10 y11 y12 yl
              generalize ask K.sp 0 1 0 true = rr at *
              obtain ⟨⟨gst, got, gat⟩, S6⟩ := rr
              simp only at r6 HA1 KO6 Hv ⊢
              by_cases hst : gst = 1
              · subst hst
                obtain ⟨x', hgot, hstate⟩ := HA1.out rfl
                subst hgot
                obtain ⟨q6, o6, rfl, hq6, hc6⟩ := ints_at r6.cells (k := 0) (by simp)
                have hc60 := hc6 0 (by simp)
                have HS2 := Lib.hid hstate
                simp only [List.length_singleton, List.getElem?_cons_zero, Option.getD_some, List.getD_cons_zero, Nat.add_zero] at hc60 hq6 ⊢
                clear hc6 r6 hstate HA1
                have y0 := Hv.out.blk.cell (i := 0) rfl
                have y1 := Hv.out.blk.cell (i := 1) rfl
                have y2 := Hv.out.blk.cell (i := 2) rfl
                have y3 := Hv.out.blk.cell (i := 3) rfl
                have y4 := Hv.out.blk.cell (i := 4) rfl
                have y5 := Hv.out.blk.cell (i := 5) rfl
                have y6 := Hv.out.blk.cell (i := 6) rfl
                have y7 := Hv.out.blk.cell (i := 7) rfl
                have y8 := Hv.out.blk.cell (i := 8) rfl
                have y9 := Hv.out.blk.cell (i := 9) rfl
                have y10 := Hv.out.blk.cell (i := 10) rfl
                have y11 := Hv.out.blk.cell (i := 11) rfl
                have y12 := Hv.out.blk.cell (i := 12) rfl
                have yl := Hv.out.blk.lt
                (try simp only [GW.to] at y0 y1 y2 y3 y4 y5 y6 y7 y8 y9 y10 y11 y12 yl)
                have s0 := Hv.out.sh.cell (i := 0) rfl
                have s1 := Hv.out.sh.cell (i := 1) rfl
                have s2 := Hv.out.sh.cell (i := 2) rfl
                have sl := Hv.out.sh.lt
                (try simp only [GW.to] at s0 s1 s2 sl)
                clear y0 y1 y2 y3 y4 y5 y6 y7 y8 y9 y10 y11 y12 yl s0 s1 s2 sl
                obtain ⟨own6, m6, g6⟩ : ∃ own6, Mod (fun _ => False) ⟨ownv, v6⟩ ⟨own6, v6.alloc (.cells #[.int .i64 1, .slice (some ⟨q6, o6, none⟩) 1 c6, .int .i64 gat] 111)⟩ ∧ Blk ⟨own6, v6.alloc (.cells #[.int .i64 1, .slice (some ⟨q6, o6, none⟩) 1 c6, .int .i64 gat] 111)⟩ 9 v6.heap.size 111 [.int .i64 1, .slice (some ⟨q6, o6, none⟩) 1 c6, .int .i64 gat] := ⟨_, Mod.ext (g := ⟨ownv, v6⟩) (by (repeat (first | (with_reducible assumption) | (with_reducible exact Ext.refl _) | (with_reducible exact Ext.more _ _ _ _) | apply Ext.alloc | refine Ext.setCell ?_ (by first | exact Nat.le_refl _ | exact Nat.le_add_right _ _ | assumption) _ | apply Ext.patch | apply Ext.drew | apply Ext.drewN))) 9, Blk.new ⟨ownv, v6⟩ 9 111 [.int .i64 1, .slice (some ⟨q6, o6, none⟩) 1 c6, .int .i64 gat]⟩
                have hcx := (m6.toExt.cell hq6).trans hc60
                have hcl := Nat.lt_of_lt_of_le hq6 m6.toExt.size
                simp only at hcx hcl
                go_wp2_with fail
                have M6a := Lib.hid (Mv.out.trans (m6.mono (fun x hx => hx.elim)))
                have H6a := Lib.hid (Hv.out.keep m6 (fun x hx => hx.elim))
                have G6 := Lib.hid g6
                clear m6 g6 hq6 hc60 Mv Hv
                generalize v6.heap.size = p6 at *
                generalize v6.alloc (.cells #[.int .i64 1, .slice (some ⟨q6, o6, none⟩) 1 c6, .int .i64 gat] 111) = w6' at *
                obtain ⟨qp, qk, ql, qA, qc, qm, qs, hsp⟩ := H6a.out.sp
                have HST := Lib.hid (fun X => (show Calls Try.prog 72 #[.pointer (some ⟨bt, 0, none⟩), .int .i64 x'] ((⟨own6, w6'⟩ : GW).pt X).w (Gives (.int .i64 ((2 : Nat) : Int)) _) from HS2.out ▸ same_gives (tab_state ((⟨own6, w6'⟩ : GW).pt X) (100 + 50) bt x' S6.tab (hsp.tab.pt X))))
                rw [show ((2 : Nat) : Int) = 2 from rfl] at HST
                clear hsp
                have y0 := H6a.out.blk.cell (i := 0) rfl
                have y1 := H6a.out.blk.cell (i := 1) rfl
                have y2 := H6a.out.blk.cell (i := 2) rfl
                have y3 := H6a.out.blk.cell (i := 3) rfl
                have y4 := H6a.out.blk.cell (i := 4) rfl
                have y5 := H6a.out.blk.cell (i := 5) rfl
                have y6 := H6a.out.blk.cell (i := 6) rfl
                have y7 := H6a.out.blk.cell (i := 7) rfl
                have y8 := H6a.out.blk.cell (i := 8) rfl
                have y9 := H6a.out.blk.cell (i := 9) rfl
                have y10 := H6a.out.blk.cell (i := 10) rfl
                have y11 := H6a.out.blk.cell (i := 11) rfl
                have y12 := H6a.out.blk.cell (i := 12) rfl
                have yl := H6a.out.blk.lt
                (try simp only [GW.to] at y0 y1 y2 y3 y4 y5 y6 y7 y8 y9 y10 y11 y12 yl)
                have s0 := H6a.out.sh.cell (i := 0) rfl
                have s1 := H6a.out.sh.cell (i := 1) rfl
                have s2 := H6a.out.sh.cell (i := 2) rfl
                have sl := H6a.out.sh.lt
                (try simp only [GW.to] at s0 s1 s2 sl)
                have x0 := G6.out.cell (i := 0) rfl
                have x1 := G6.out.cell (i := 1) rfl
                have x2 := G6.out.cell (i := 2) rfl
                have xl := G6.out.lt
                (try simp only [GW.to] at x0 x1 x2 xl)
                refine wp_region_mixed [true, true, true, true, true, true, true, true, true, true, true, true, true, true, true, true, true, true, true, true, true, true, true, true, true] 0 25 (by kernel_rfl) (by kernel_rfl) (by kernel_rfl) ?_ (by decide) (by decide) (by decide) (by kernel_rfl) ?_
                · intro c a d v w h; cases d <;> exact h
                intro X00
                simp only [pickOps]
                repeat (go_big_quiet_step (first | (go_at_call 18; exact Calls.added (HTB.out _)) | (go_at_call 72; exact Calls.added (HST.out _))))
                refine wpQuiet_nil (fun X0 => ?_)
                clear X00
                refine wpAnyM_done (by kernel_rfl) (fun X0' => ?_) _
                generalize hW : World.patch (World.patch w6' _) _ = w6
                have hX : Ext w6' w6 := by rw [← hW]; exact Ext.trans ⟨_, rfl⟩ ⟨_, rfl⟩
                clear hW
                obtain ⟨own6b, m6b⟩ := Mod.ofExt hX own6
                obtain ⟨own6, rfl⟩ : ∃ own6, own6 = own6b := ⟨_, rfl⟩
                have M6 := Lib.hid (M6a.out.trans (m6b.mono (fun x hx => hx.elim)))
                have H6 := Lib.hid (H6a.out.keep m6b (fun x hx => hx.elim))
                clear m6b hX y0 y1 y2 y3 y4 y5 y6 y7 y8 y9 y10 y11 y12 yl s0 s1 s2 sl x0 x1 x2 xl hcx hcl M6a H6a HST G6
                have HCN := Lib.hid (show Calls Try.prog 20 #[.pointer (some ⟨b, 0, none⟩)] w6 (Gives (.int .i64 ((k : Int) + 1)) w6) from by
                  have hle := KO6.out.le_100
                  have := core_count ⟨own6, w6⟩ 100 b ({ K with sp := S6 }) ⟨_, _, _, _, _, _, _, H6.out⟩ (by have := HK1.out; omega) (by have := HK1.out; omega) (by have := HK1.out; omega) (by have := HK1.out; omega)
                  rw [KO6.out.sum, show ((k + 1 : Nat) : Int) = (k : Int) + 1 by omega] at this
                  exact this)
                go_wp2_with fail
                refine HCN.out.mono ?_
                rintro e w7 ⟨rfl, hX⟩
                obtain ⟨own7, m7⟩ := Mod.ofExt (show Ext w6 w7 from hX) own6
                have M7 := Lib.hid (M6.out.trans (m7.mono (fun x hx => hx.elim)))
                have H7 := Lib.hid (H6.out.keep m7 (fun x hx => hx.elim))
                clear m7 hX HCN
                go_wp2_with fail
                go_roundw
                case rel => exact ⟨k + 1, own7, { K with sp := S6 }, by omega, by first | go_num | simp, M7, H7, KO6⟩
                case measure => simp [intOf]; omega
              · have hst1 : (gst == 1) = false := by simpa using hst
                clear hst r6 HA1
                generalize got.length = ng at *
                obtain ⟨own6, m6, g6⟩ : ∃ own6, Mod (fun _ => False) ⟨ownv, v6⟩ ⟨own6, v6.alloc (.cells #[.int .i64 gst, .slice A6 ng c6, .int .i64 gat] 111)⟩ ∧ Blk ⟨own6, v6.alloc (.cells #[.int .i64 gst, .slice A6 ng c6, .int .i64 gat] 111)⟩ 9 v6.heap.size 111 [.int .i64 gst, .slice A6 ng c6, .int .i64 gat] := ⟨_, Mod.ext (g := ⟨ownv, v6⟩) (by (repeat (first | (with_reducible assumption) | (with_reducible exact Ext.refl _) | (with_reducible exact Ext.more _ _ _ _) | apply Ext.alloc | refine Ext.setCell ?_ (by first | exact Nat.le_refl _ | exact Nat.le_add_right _ _ | assumption) _ | apply Ext.patch | apply Ext.drew | apply Ext.drewN))) 9, Blk.new ⟨ownv, v6⟩ 9 111 [.int .i64 gst, .slice A6 ng c6, .int .i64 gat]⟩
                go_wp2_with fail
                have M6a := Lib.hid (Mv.out.trans (m6.mono (fun x hx => hx.elim)))
                have H6a := Lib.hid (Hv.out.keep m6 (fun x hx => hx.elim))
                have G6 := Lib.hid g6
                clear m6 g6 Mv Hv
                generalize v6.heap.size = p6 at *
                generalize v6.alloc (.cells #[.int .i64 gst, .slice A6 ng c6, .int .i64 gat] 111) = w6' at *
                have x0 := G6.out.cell (i := 0) rfl
                have x1 := G6.out.cell (i := 1) rfl
                have x2 := G6.out.cell (i := 2) rfl
                have xl := G6.out.lt
                (try simp only [GW.to] at x0 x1 x2 xl)
                refine wp_region_mixed [true, true, true, true, true, true, true, true, true, true, true, true, true, true, true, true, true, true, true, true, true, true, true, true, true] 0 25 (by kernel_rfl) (by kernel_rfl) (by kernel_rfl) ?_ (by decide) (by decide) (by decide) (by kernel_rfl) ?_
                · intro c a d v w h; cases d <;> exact h
                intro X00
                simp only [pickOps]
                repeat (go_big_quiet_step (fail))
                refine wpQuiet_nil (fun X0 => ?_)
                clear X00
                refine wpAnyM_done (by kernel_rfl) (fun X0' => ?_) _
                generalize hW : World.patch (World.patch w6' _) _ = w6
                have hX : Ext w6' w6 := by rw [← hW]; exact Ext.trans ⟨_, rfl⟩ ⟨_, rfl⟩
                clear hW
                obtain ⟨own6b, m6b⟩ := Mod.ofExt hX own6
                obtain ⟨own6, rfl⟩ : ∃ own6, own6 = own6b := ⟨_, rfl⟩
                have M6 := Lib.hid (M6a.out.trans (m6b.mono (fun x hx => hx.elim)))
                have H6 := Lib.hid (H6a.out.keep m6b (fun x hx => hx.elim))
                clear m6b hX x0 x1 x2 xl M6a H6a G6
                have HCN := Lib.hid (show Calls Try.prog 20 #[.pointer (some ⟨b, 0, none⟩)] w6 (Gives (.int .i64 ((k : Int) + 1)) w6) from by
                  have hle := KO6.out.le_100
                  have := core_count ⟨own6, w6⟩ 100 b ({ K with sp := S6 }) ⟨_, _, _, _, _, _, _, H6.out⟩ (by have := HK1.out; omega) (by have := HK1.out; omega) (by have := HK1.out; omega) (by have := HK1.out; omega)
                  rw [KO6.out.sum, show ((k + 1 : Nat) : Int) = (k : Int) + 1 by omega] at this
                  exact this)
                go_wp2_with fail
                refine HCN.out.mono ?_
                rintro e w7 ⟨rfl, hX⟩
                obtain ⟨own7, m7⟩ := Mod.ofExt (show Ext w6 w7 from hX) own6
                have M7 := Lib.hid (M6.out.trans (m7.mono (fun x hx => hx.elim)))
                have H7 := Lib.hid (H6.out.keep m7 (fun x hx => hx.elim))
                clear m7 hX HCN
                go_wp2_with fail
                go_roundw
                case rel => exact ⟨k + 1, own7, { K with sp := S6 }, by omega, by first | go_num | simp, M7, H7, KO6⟩
                case measure => simp [intOf]; omega
            · rw [show ((3 : Nat) : Int) = 3 from rfl] at hbits
              go_wp2_with fail
              refine (hand_look ⟨own5, w5⟩ (100 + 63) bh _ H5.out.hand (by have := KO.out.le_100; have := HK1.out; omega)).mono ?_
              rintro e w6 ⟨rfl, own6, m6, x6⟩
              have M6 := Lib.hid (M5.out.trans (m6.mono (fun x (hx : x = 100 + 63) => (⟨by omega, by omega⟩ : instC 100 x))))
              have H6 := Lib.hid (H5.out.withHand m6 x6)
              have KO6 := Lib.hid KO.out.looked
              clear m6 x6
              have HCN := Lib.hid (show Calls Try.prog 20 #[.pointer (some ⟨b, 0, none⟩)] w6 (Gives (.int .i64 ((k : Int) + 1)) w6) from by
                have hle := KO6.out.le_100
                have := core_count ⟨own6, w6⟩ 100 b ({ K with hand := K.hand.tick }) ⟨_, _, _, _, _, _, _, H6.out⟩ (by have := HK1.out; omega) (by have := HK1.out; omega) (by have := HK1.out; omega) (by have := HK1.out; omega)
                rw [KO6.out.sum, show ((k + 1 : Nat) : Int) = (k : Int) + 1 by omega] at this
                exact this)
              go_wp2_with fail
              refine HCN.out.mono ?_
              rintro e w7 ⟨rfl, hX⟩
              obtain ⟨own7, m7⟩ := Mod.ofExt (show Ext w6 w7 from hX) own6
              have M7 := Lib.hid (M6.out.trans (m7.mono (fun x hx => hx.elim)))
              have H7 := Lib.hid (H6.out.keep m7 (fun x hx => hx.elim))
              clear m7 hX HCN
              go_wp2_with fail
              go_roundw
              case rel => exact ⟨k + 1, own7, { K with hand := K.hand.tick }, by omega, by first | go_num | simp, M7, H7, KO6⟩
              case measure => simp [intOf]; omega
          · have hkn : ¬ (k : Int) < nl := by omega
            clear hlt
            go_wp2_with fail
            refine (HF.out _).mono ?_
            rintro e w9 ⟨rfl, hX⟩
            have E9 := Lib.hid (show Ext _ w9 from hX)
            clear hX
            go_wp2_with fail
            go_ret
            exact Gives.bool rfl ((E2.out.trans E5.out).trans E9.out)
end Go.Proofs.Ythebmcbpmboblaa
