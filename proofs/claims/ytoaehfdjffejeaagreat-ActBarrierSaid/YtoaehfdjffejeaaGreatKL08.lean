import Derived.Test.YtoaehfdjffejeaaGreatKL07
/-
  Packed: SpaceC.
-/
open Go.Ext renaming alloc → zA, patch → zP, drew → zD, drewN → zN, more → zM, refl → zR, setCell → zS
open Nat renaming le_refl → zL, le_add_right → zK
/-
  space: Ask.
-/
namespace Go
open Go.RowKit
theorem PoolS.taken_some {p : PoolS} {k : Int} (h1 : 1 ≤ k) (h2 : k ≤ (p.free : Int)) : ∃ l, p.taken k = some l := by
  unfold taken
  rw [if_neg (by omega)]
  cases p.run k with
  | none => exact ⟨_, rfl⟩
  | some a => exact ⟨_, rfl⟩
def SpaceS.tick (S : SpaceS) : SpaceS := { S with count := S.count + 1 }
theorem Mod.ofExt {w w' : World} (h : Ext w w') (own : Nat → Nat) : ∃ own', Mod (fun _ => False) ⟨own, w⟩ ⟨own', w'⟩ := ⟨_, Mod.ext (g := ⟨own, w⟩) h 0⟩
theorem put3 {T : Nat → Prop} {g : GW} {o : Nat → Nat} {w : World} {X : Nat} {v0 v1 v2 : Value} (M : Mod T g ⟨o, w⟩) (hX : g.w.heap.size ≤ X) (h9 : o X = 9) :
    Mod T g ⟨o, ((w.setCell ⟨X, 0, none⟩ v0).setCell ⟨X, 1, none⟩ v1).setCell ⟨X, 2, none⟩ v2⟩ ∧ Mod (fun x => x = 9) ⟨o, w⟩ ⟨o, ((w.setCell ⟨X, 0, none⟩ v0).setCell ⟨X, 1, none⟩ v1).setCell ⟨X, 2, none⟩ v2⟩ :=
  ⟨Mod.stn (Mod.stn (Mod.stn M hX) hX) hX, Mod.st (Mod.st (Mod.st (Mod.refl _ _) h9) h9) h9⟩
theorem Row.none {g : GW} {t : Nat} {E : TypeId} {size n c : Nat} {xs : List Value} (h : Row g t E size (.slice none n c) n xs) : n = 0 ∧ c = 0 := by
  rcases h.row.2 with ⟨hv, hn⟩ | ⟨b, cap, cur, hv, _⟩
  · injection hv with _ h1 h2
    exact ⟨h1, h2⟩
  · injection hv with h1
    cases h1
end Go
namespace Go.Proofs.YtoaehfdjffejeaaGreat
open Go Go.RowKit
set_option linter.unusedVariables false
set_option linter.unnecessarySimpa false
set_option linter.unusedSimpArgs false
set_option maxHeartbeats 4000000

abbrev AskR := (Int × List Int × Int) × SpaceS
def noStock : StockS := ⟨[], 0⟩
def stockOf (S : SpaceS) (t : Int) : StockS := S.stocks.getD t.toNat noStock
def askOwn (S : SpaceS) (t fr : Int) (sense : Bool) : SpaceS :=
  { S with stocks := S.stocks.set t.toNat ⟨(stockOf S t).l.drop fr.toNat, (stockOf S t).most⟩, tab := S.tab.setAll ((stockOf S t).l.take fr.toNat) 2 sense }
def askGot (S : SpaceS) (fr : Int) : List Int := (S.pool.taken fr).getD []
def askMore (S : SpaceS) (t fr sp : Int) : List Int := (takesS S (askGot S fr) sp).pool.lowOnes ((stockOf S t).most - (stockOf S t).l.length)
def askAll (S : SpaceS) (t fr sp : Int) (sense : Bool) : SpaceS :=
  { takesS S (askGot S fr) sp with
    pool := (takesS S (askGot S fr) sp).pool.takes (askMore S t fr sp)
    tab := ((takesS S (askGot S fr) sp).tab.setAll (askGot S fr) 2 sense).setAll (askMore S t fr sp) 1 sense
    stocks := S.stocks.set t.toNat ⟨(stockOf S t).l ++ askMore S t fr sp, (stockOf S t).most⟩ }
def askNo (S : SpaceS) (t fr sp : Int) : Bool := !inB t S.stocks.length || decide (fr < 1) || decide (sp < 0) || decide (0 ≤ placeOf (ofB t) S.line)
def ask (S : SpaceS) (t fr sp : Int) (sense : Bool) : AskR :=
  if askNo S t fr sp then ((3, [], -1), S.tick)
  else if sp = 0 ∧ fr ≤ (stockOf S t).l.length then ((1, (stockOf S t).l.take fr.toNat, -1), askOwn S.tick t fr sense)
  else if 0 < Ent.wait S.line ∨ S.fits fr sp = false then ((0, [], -1), { S.tick with line := S.line ++ [Ent.asked t fr sp] })
  else ((1, askGot S fr, takesAt S (askGot S fr) sp), askAll S.tick t fr sp sense)
def GrantIs (r : Int × List Int × Int) (v : Value) (g' : GW) : Prop := ∃ A c, v = .agg #[.int .i64 r.1, .slice A r.2.1.length c, .int .i64 r.2.2] ∧ Row g' 0 3 1 (.slice A r.2.1.length c) r.2.1.length (r.2.1.map (Value.int .i64))

set_option maxRecDepth 100000 in
theorem space_ask_any (t fr sp : Int) (sense : Bool) (g : GW) (B b bt : Nat) (S : SpaceS) (h : SpaceAt g B b bt S) (hB : 100 ≤ B) (hc : 0 ≤ S.count ∧ S.count ≤ 1099511627776) (hL : S.line.length < 1000000) :
    Calls Tryz.prog 137 #[.pointer (some ⟨b, 0, none⟩), .int .i64 t, .int .i64 fr, .int .i64 sp, .bool sense] g.w (Makes g (inst B) (fun v g' => GrantIs (ask S t fr sp sense).1 v g' ∧ SpaceAt g' B b bt (ask S t fr sp sense).2)) := by
  obtain ⟨bp, bk, bl, A, cs, cm, bs, h⟩ := h
  obtain ⟨hc0, hc1⟩ := hc
  have H := Lib.hid h
  obtain ⟨a0, a1, a2, a3, a4, a5, a6, a7, a8, a9, a10, a11, a12, a13, a14, a15, al⟩ := h.blk.c16
  have af3 := h.blk.live 3
  (try simp only [GW.to] at a0 a1 a2 a3 a4 a5 a6 a7 a8 a9 a10 a11 a12 a13 a14 a15 af3 al)
  clear h
  go_enter Tryz.func137, Tryz.ntmps137
  go_wp2_with fail
  obtain ⟨own0, m0, b0, h0⟩ : ∃ own0, Mod (inst B) g ⟨own0, (g.w.setCell ⟨b, 3, none⟩ (.int .i64 (S.count + 1))).alloc (.cells #[.int .i64 0, .slice none 0 0, .int .i64 0] 116)⟩ ∧ Blk ⟨own0, (g.w.setCell ⟨b, 3, none⟩ (.int .i64 (S.count + 1))).alloc (.cells #[.int .i64 0, .slice none 0 0, .int .i64 0] 116)⟩ 9 g.w.heap.size 116 [.int .i64 0, .slice none 0 0, .int .i64 0] ∧ SpaceIn ⟨own0, (g.w.setCell ⟨b, 3, none⟩ (.int .i64 (S.count + 1))).alloc (.cells #[.int .i64 0, .slice none 0 0, .int .i64 0] 116)⟩ B b bt S.tick bp bk bl A cs cm bs := by
    have m1 : Mod (inst B) g ⟨g.own, g.w.setCell ⟨b, 3, none⟩ (.int .i64 (S.count + 1))⟩ := Mod.set (by rw [H.out.blk.own]; exact ⟨by omega, by omega⟩)
    have hE : Ext (g.w.setCell ⟨b, 3, none⟩ (.int .i64 (S.count + 1))) ((g.w.setCell ⟨b, 3, none⟩ (.int .i64 (S.count + 1))).alloc (.cells #[.int .i64 0, .slice none 0 0, .int .i64 0] 116)) := by (repeat (first | (with_reducible (first | assumption | exact zR _ | exact zM _ _ _ _)) | apply zA | refine zS ?_ (by first | exact zL _ | exact zK _ _ | assumption) _ | apply zP | apply zD | apply zN))
    have b1 := Blk.new (⟨g.own, g.w.setCell ⟨b, 3, none⟩ (.int .i64 (S.count + 1))⟩ : GW) 9 116 [.int .i64 0, .slice none 0 0, .int .i64 0]
    simp only [World.size_setCell] at b1
    exact ⟨_, m1.trans (Mod.ext hE 9), b1, H.out.tick.keep (Mod.ext (T := fun _ => False) hE 9) (fun x hx => hx.elim)⟩
  generalize (g.w.setCell ⟨b, 3, none⟩ (.int .i64 (S.count + 1))).alloc (.cells #[.int .i64 0, .slice none 0 0, .int .i64 0] 116) = W0 at *
  have M0 := Lib.hid m0
  have B0 := Lib.hid b0
  have H0 := Lib.hid h0
  have hBX := Lib.hid (Nat.le_refl g.w.heap.size)
  have HI := Lib.hid (show inB t S.tick.stocks.length = inB t S.stocks.length from rfl)
  have hAsk := Lib.hid (show ask S t fr sp sense = ask S t fr sp sense from rfl)
  clear m0 b0 h0 a0 a1 a2 a3 a4 a5 a6 a7 a8 a9 a10 a11 a12 a13 a14 a15 af3 al
  have HST := Lib.hid (space_stock t H0.out)
  rw [HI.out] at HST
  cases hin : inB t S.stocks.length
  · have hno : askNo S t fr sp = true := by unfold askNo; rw [hin]; rfl
    have HK := Lib.hid (show ask S t fr sp sense = ((3, [], -1), S.tick) by unfold ask; rw [hno]; rfl)
    rw [hin] at HST
    clear hin hno
    refine HST.out.mono ?_
    rintro e w' ⟨rfl, rfl⟩
    obtain ⟨a0, a1, a2, a3, a4, a5, a6, a7, a8, a9, a10, a11, a12, a13, a14, a15, al⟩ := H0.out.blk.c16
    (try simp only [GW.to] at a0 a1 a2 a3 a4 a5 a6 a7 a8 a9 a10 a11 a12 a13 a14 a15 al)
    go_wp2_with fail
    refine (line_Of ⟨own0, W0⟩ (B + 3) bl _ S.line H0.out.line).mono ?_
    rintro e w1 ⟨v, own1, rfl, m1, r, ok, rfl, hn, hp⟩
    have M1 := Lib.hid (M0.out.trans (m1.mono (fun x hx => hx.elim)))
    have B1 := Lib.hid (B0.out.keep m1 id)
    have H1 := Lib.hid (H0.out.keep m1 (fun x hx => hx.elim))
    clear m1 a0 a1 a2 a3 a4 a5 a6 a7 a8 a9 a10 a11 a12 a13 a14 a15 al
    by_cases hi : placeOf (ofB t) S.line < 0
    · obtain ⟨rfl, rfl⟩ := hn hi
      clear hn hp hi
      go_wp2_with fail
      refine (space_none 3 _).mono ?_
      rintro e wz ⟨rfl, hX⟩
      obtain ⟨ownz, mz⟩ := Mod.ofExt ((show Ext w1 _ by (repeat (first | (with_reducible (first | assumption | exact zR _ | exact zM _ _ _ _)) | apply zA | refine zS ?_ (by first | exact zL _ | exact zK _ _ | assumption) _ | apply zP | apply zD | apply zN))).trans (show Ext _ wz from hX)) own1
      have Mz := Lib.hid (M1.out.trans (mz.mono (fun x hx => hx.elim)))
      have Bz := Lib.hid (B1.out.keep mz id)
      have Hz := Lib.hid (H1.out.keep mz (fun x hx => hx.elim))
      clear mz hX
      obtain ⟨y0, y1, y2, yl⟩ := Bz.out.c3
      have yf0 := Bz.out.live 0
      have yf1 := Bz.out.live 1
      have yf2 := Bz.out.live 2
      (try simp only [GW.to] at y0 y1 y2 yf0 yf1 yf2 yl)
      go_wp2_with fail
      refine bodyPost_ret (v := .agg #[.int .i64 3, .slice none 0 0, .int .i64 (-1)]) (by simp [results, Tryz.results137, go_sem, y0, y1, y2]) rfl ?_
      obtain ⟨p1, p2⟩ := put3 (v0 := .int .i64 3) (v1 := .slice none 0 0) (v2 := .int .i64 (-1)) Mz.out (Nat.le_refl _) Bz.out.own
      refine ⟨_, ownz, rfl, p1, ?_, ?_⟩
      · rw [HK.out]; exact ⟨none, 0, rfl, Row.nil _ _ _ _⟩
      · rw [HK.out]; exact ⟨_, _, _, _, _, _, _, Hz.out.keep p2 (fun x (hx : x = 9) => by omega)⟩
    · obtain ⟨rfl, ee, A', c', hL', rfl, hr⟩ := hp (by show 0 ≤ placeOf (ofB t) S.line; omega)
      clear hn hi hL' hr
      go_wp2_with fail
      refine (space_none 3 _).mono ?_
      rintro e wz ⟨rfl, hX⟩
      obtain ⟨ownz, mz⟩ := Mod.ofExt ((show Ext w1 _ by (repeat (first | (with_reducible (first | assumption | exact zR _ | exact zM _ _ _ _)) | apply zA | refine zS ?_ (by first | exact zL _ | exact zK _ _ | assumption) _ | apply zP | apply zD | apply zN))).trans (show Ext _ wz from hX)) own1
      have Mz := Lib.hid (M1.out.trans (mz.mono (fun x hx => hx.elim)))
      have Bz := Lib.hid (B1.out.keep mz id)
      have Hz := Lib.hid (H1.out.keep mz (fun x hx => hx.elim))
      clear mz hX
      obtain ⟨y0, y1, y2, yl⟩ := Bz.out.c3
      have yf0 := Bz.out.live 0
      have yf1 := Bz.out.live 1
      have yf2 := Bz.out.live 2
      (try simp only [GW.to] at y0 y1 y2 yf0 yf1 yf2 yl)
      go_wp2_with fail
      refine bodyPost_ret (v := .agg #[.int .i64 3, .slice none 0 0, .int .i64 (-1)]) (by simp [results, Tryz.results137, go_sem, y0, y1, y2]) rfl ?_
      obtain ⟨p1, p2⟩ := put3 (v0 := .int .i64 3) (v1 := .slice none 0 0) (v2 := .int .i64 (-1)) Mz.out (Nat.le_refl _) Bz.out.own
      refine ⟨_, ownz, rfl, p1, ?_, ?_⟩
      · rw [HK.out]; exact ⟨none, 0, rfl, Row.nil _ _ _ _⟩
      · rw [HK.out]; exact ⟨_, _, _, _, _, _, _, Hz.out.keep p2 (fun x (hx : x = 9) => by omega)⟩
  · obtain ⟨kt, rfl, hkt⟩ := inB_true hin
    obtain ⟨x, hbx⟩ : ∃ x, bs[kt]? = some x := ⟨_, List.getElem?_eq_getElem (by rw [H0.out.blen]; exact hkt)⟩
    rw [hin, Int.toNat_natCast, if_pos rfl, show bs.getD kt 0 = x by rw [List.getD_eq_getElem?_getD, hbx]; rfl] at HST
    have hk16 : kt < 16 := by have := H0.out.few; have h2 : S.tick.stocks.length = S.stocks.length := rfl; omega
    refine HST.out.mono ?_
    rintro e w' ⟨rfl, rfl⟩
    obtain ⟨a0, a1, a2, a3, a4, a5, a6, a7, a8, a9, a10, a11, a12, a13, a14, a15, al⟩ := H0.out.blk.c16
    (try simp only [GW.to] at a0 a1 a2 a3 a4 a5 a6 a7 a8 a9 a10 a11 a12 a13 a14 a15 al)
    go_wp2_with fail
    refine (line_Of ⟨own0, W0⟩ (B + 3) bl _ S.line H0.out.line).mono ?_
    rintro e w1 ⟨v, own1, rfl, m1, r, ok, rfl, hn, hp⟩
    have M1 := Lib.hid (M0.out.trans (m1.mono (fun x hx => hx.elim)))
    have B1 := Lib.hid (B0.out.keep m1 id)
    have H1 := Lib.hid (H0.out.keep m1 (fun x hx => hx.elim))
    clear m1 a0 a1 a2 a3 a4 a5 a6 a7 a8 a9 a10 a11 a12 a13 a14 a15 al
    by_cases hi : placeOf (ofB kt) S.line < 0
    case neg =>
      obtain ⟨rfl, ee, A', c', hL', rfl, hr⟩ := hp (by show 0 ≤ placeOf (ofB kt) S.line; omega)
      have hno : askNo S kt fr sp = true := by unfold askNo; rw [decide_eq_true (show 0 ≤ placeOf (ofB kt) S.line by omega)]; simp
      have HK := Lib.hid (show ask S kt fr sp sense = ((3, [], -1), S.tick) by unfold ask; rw [hno]; rfl)
      clear hn hi hL' hr hno hin
      by_cases h1 : fr < 1
      · go_wp2_with fail
        refine (space_none 3 _).mono ?_
        rintro e wz ⟨rfl, hX⟩
        obtain ⟨ownz, mz⟩ := Mod.ofExt ((show Ext w1 _ by (repeat (first | (with_reducible (first | assumption | exact zR _ | exact zM _ _ _ _)) | apply zA | refine zS ?_ (by first | exact zL _ | exact zK _ _ | assumption) _ | apply zP | apply zD | apply zN))).trans (show Ext _ wz from hX)) own1
        have Mz := Lib.hid (M1.out.trans (mz.mono (fun x hx => hx.elim)))
        have Bz := Lib.hid (B1.out.keep mz id)
        have Hz := Lib.hid (H1.out.keep mz (fun x hx => hx.elim))
        clear mz hX
        obtain ⟨y0, y1, y2, yl⟩ := Bz.out.c3
        have yf0 := Bz.out.live 0
        have yf1 := Bz.out.live 1
        have yf2 := Bz.out.live 2
        (try simp only [GW.to] at y0 y1 y2 yf0 yf1 yf2 yl)
        go_wp2_with fail
        refine bodyPost_ret (v := .agg #[.int .i64 3, .slice none 0 0, .int .i64 (-1)]) (by simp [results, Tryz.results137, go_sem, y0, y1, y2]) rfl ?_
        obtain ⟨p1, p2⟩ := put3 (v0 := .int .i64 3) (v1 := .slice none 0 0) (v2 := .int .i64 (-1)) Mz.out (Nat.le_refl _) Bz.out.own
        refine ⟨_, ownz, rfl, p1, ?_, ?_⟩
        · rw [HK.out]; exact ⟨none, 0, rfl, Row.nil _ _ _ _⟩
        · rw [HK.out]; exact ⟨_, _, _, _, _, _, _, Hz.out.keep p2 (fun x (hx : x = 9) => by omega)⟩
      · by_cases h2 : sp < 0
        · go_wp2_with fail
          refine (space_none 3 _).mono ?_
          rintro e wz ⟨rfl, hX⟩
          obtain ⟨ownz, mz⟩ := Mod.ofExt ((show Ext w1 _ by (repeat (first | (with_reducible (first | assumption | exact zR _ | exact zM _ _ _ _)) | apply zA | refine zS ?_ (by first | exact zL _ | exact zK _ _ | assumption) _ | apply zP | apply zD | apply zN))).trans (show Ext _ wz from hX)) own1
          have Mz := Lib.hid (M1.out.trans (mz.mono (fun x hx => hx.elim)))
          have Bz := Lib.hid (B1.out.keep mz id)
          have Hz := Lib.hid (H1.out.keep mz (fun x hx => hx.elim))
          clear mz hX
          obtain ⟨y0, y1, y2, yl⟩ := Bz.out.c3
          have yf0 := Bz.out.live 0
          have yf1 := Bz.out.live 1
          have yf2 := Bz.out.live 2
          (try simp only [GW.to] at y0 y1 y2 yf0 yf1 yf2 yl)
          go_wp2_with fail
          refine bodyPost_ret (v := .agg #[.int .i64 3, .slice none 0 0, .int .i64 (-1)]) (by simp [results, Tryz.results137, go_sem, y0, y1, y2]) rfl ?_
          obtain ⟨p1, p2⟩ := put3 (v0 := .int .i64 3) (v1 := .slice none 0 0) (v2 := .int .i64 (-1)) Mz.out (Nat.le_refl _) Bz.out.own
          refine ⟨_, ownz, rfl, p1, ?_, ?_⟩
          · rw [HK.out]; exact ⟨none, 0, rfl, Row.nil _ _ _ _⟩
          · rw [HK.out]; exact ⟨_, _, _, _, _, _, _, Hz.out.keep p2 (fun x (hx : x = 9) => by omega)⟩
        · go_wp2_with fail
          refine (space_none 3 _).mono ?_
          rintro e wz ⟨rfl, hX⟩
          obtain ⟨ownz, mz⟩ := Mod.ofExt ((show Ext w1 _ by (repeat (first | (with_reducible (first | assumption | exact zR _ | exact zM _ _ _ _)) | apply zA | refine zS ?_ (by first | exact zL _ | exact zK _ _ | assumption) _ | apply zP | apply zD | apply zN))).trans (show Ext _ wz from hX)) own1
          have Mz := Lib.hid (M1.out.trans (mz.mono (fun x hx => hx.elim)))
          have Bz := Lib.hid (B1.out.keep mz id)
          have Hz := Lib.hid (H1.out.keep mz (fun x hx => hx.elim))
          clear mz hX
          obtain ⟨y0, y1, y2, yl⟩ := Bz.out.c3
          have yf0 := Bz.out.live 0
          have yf1 := Bz.out.live 1
          have yf2 := Bz.out.live 2
          (try simp only [GW.to] at y0 y1 y2 yf0 yf1 yf2 yl)
          go_wp2_with fail
          refine bodyPost_ret (v := .agg #[.int .i64 3, .slice none 0 0, .int .i64 (-1)]) (by simp [results, Tryz.results137, go_sem, y0, y1, y2]) rfl ?_
          obtain ⟨p1, p2⟩ := put3 (v0 := .int .i64 3) (v1 := .slice none 0 0) (v2 := .int .i64 (-1)) Mz.out (Nat.le_refl _) Bz.out.own
          refine ⟨_, ownz, rfl, p1, ?_, ?_⟩
          · rw [HK.out]; exact ⟨none, 0, rfl, Row.nil _ _ _ _⟩
          · rw [HK.out]; exact ⟨_, _, _, _, _, _, _, Hz.out.keep p2 (fun x (hx : x = 9) => by omega)⟩
    case pos =>
      obtain ⟨rfl, rfl⟩ := hn hi
      clear hn hp
      by_cases h1 : fr < 1
      · have hno : askNo S kt fr sp = true := by unfold askNo; rw [decide_eq_true h1]; simp
        have HK := Lib.hid (show ask S kt fr sp sense = ((3, [], -1), S.tick) by unfold ask; rw [hno]; rfl)
        clear hno hin hi
        go_wp2_with fail
        refine (space_none 3 _).mono ?_
        rintro e wz ⟨rfl, hX⟩
        obtain ⟨ownz, mz⟩ := Mod.ofExt ((show Ext w1 _ by (repeat (first | (with_reducible (first | assumption | exact zR _ | exact zM _ _ _ _)) | apply zA | refine zS ?_ (by first | exact zL _ | exact zK _ _ | assumption) _ | apply zP | apply zD | apply zN))).trans (show Ext _ wz from hX)) own1
        have Mz := Lib.hid (M1.out.trans (mz.mono (fun x hx => hx.elim)))
        have Bz := Lib.hid (B1.out.keep mz id)
        have Hz := Lib.hid (H1.out.keep mz (fun x hx => hx.elim))
        clear mz hX
        obtain ⟨y0, y1, y2, yl⟩ := Bz.out.c3
        have yf0 := Bz.out.live 0
        have yf1 := Bz.out.live 1
        have yf2 := Bz.out.live 2
        (try simp only [GW.to] at y0 y1 y2 yf0 yf1 yf2 yl)
        go_wp2_with fail
        refine bodyPost_ret (v := .agg #[.int .i64 3, .slice none 0 0, .int .i64 (-1)]) (by simp [results, Tryz.results137, go_sem, y0, y1, y2]) rfl ?_
        obtain ⟨p1, p2⟩ := put3 (v0 := .int .i64 3) (v1 := .slice none 0 0) (v2 := .int .i64 (-1)) Mz.out (Nat.le_refl _) Bz.out.own
        refine ⟨_, ownz, rfl, p1, ?_, ?_⟩
        · rw [HK.out]; exact ⟨none, 0, rfl, Row.nil _ _ _ _⟩
        · rw [HK.out]; exact ⟨_, _, _, _, _, _, _, Hz.out.keep p2 (fun x (hx : x = 9) => by omega)⟩
      · by_cases h2 : sp < 0
        · have hno : askNo S kt fr sp = true := by unfold askNo; rw [decide_eq_true h2]; simp
          have HK := Lib.hid (show ask S kt fr sp sense = ((3, [], -1), S.tick) by unfold ask; rw [hno]; rfl)
          clear hno hin hi
          go_wp2_with fail
          refine (space_none 3 _).mono ?_
          rintro e wz ⟨rfl, hX⟩
          obtain ⟨ownz, mz⟩ := Mod.ofExt ((show Ext w1 _ by (repeat (first | (with_reducible (first | assumption | exact zR _ | exact zM _ _ _ _)) | apply zA | refine zS ?_ (by first | exact zL _ | exact zK _ _ | assumption) _ | apply zP | apply zD | apply zN))).trans (show Ext _ wz from hX)) own1
          have Mz := Lib.hid (M1.out.trans (mz.mono (fun x hx => hx.elim)))
          have Bz := Lib.hid (B1.out.keep mz id)
          have Hz := Lib.hid (H1.out.keep mz (fun x hx => hx.elim))
          clear mz hX
          obtain ⟨y0, y1, y2, yl⟩ := Bz.out.c3
          have yf0 := Bz.out.live 0
          have yf1 := Bz.out.live 1
          have yf2 := Bz.out.live 2
          (try simp only [GW.to] at y0 y1 y2 yf0 yf1 yf2 yl)
          go_wp2_with fail
          refine bodyPost_ret (v := .agg #[.int .i64 3, .slice none 0 0, .int .i64 (-1)]) (by simp [results, Tryz.results137, go_sem, y0, y1, y2]) rfl ?_
          obtain ⟨p1, p2⟩ := put3 (v0 := .int .i64 3) (v1 := .slice none 0 0) (v2 := .int .i64 (-1)) Mz.out (Nat.le_refl _) Bz.out.own
          refine ⟨_, ownz, rfl, p1, ?_, ?_⟩
          · rw [HK.out]; exact ⟨none, 0, rfl, Row.nil _ _ _ _⟩
          · rw [HK.out]; exact ⟨_, _, _, _, _, _, _, Hz.out.keep p2 (fun x (hx : x = 9) => by omega)⟩
        · have hno : askNo S kt fr sp = false := by unfold askNo; rw [hin, decide_eq_false h1, decide_eq_false h2, decide_eq_false (by omega)]; rfl
          obtain ⟨s, hsk⟩ : ∃ s, S.stocks[kt]? = some s := ⟨_, List.getElem?_eq_getElem hkt⟩
          have HSO := Lib.hid (show stockOf S kt = s by unfold stockOf; rw [Int.toNat_natCast, List.getD_eq_getElem?_getD, hsk]; rfl)
          obtain ⟨own2, m2⟩ := Mod.ofExt (show Ext w1 (w1.alloc (.cells #[.int .i64 0, .int .i64 0, .int .i64 0, .int .i64 0, .int .i64 0, .int .i64 0, .slice none 0 0] 175)) by (repeat (first | (with_reducible (first | assumption | exact zR _ | exact zM _ _ _ _)) | apply zA | refine zS ?_ (by first | exact zL _ | exact zK _ _ | assumption) _ | apply zP | apply zD | apply zN))) own1
          have M2 := Lib.hid (M1.out.trans (m2.mono (fun x hx => hx.elim)))
          have B2 := Lib.hid (B1.out.keep m2 id)
          have H2 := Lib.hid (H1.out.keep m2 (fun x hx => hx.elim))
          clear m2 hin
          obtain ⟨a0, a1, a2, a3, a4, a5, a6, a7, a8, a9, a10, a11, a12, a13, a14, a15, al⟩ := H2.out.blk.c16
          (try simp only [GW.to] at a0 a1 a2 a3 a4 a5 a6 a7 a8 a9 a10 a11 a12 a13 a14 a15 al)
          by_cases hz : sp = 0
          · have hz0 : (sp == 0) = true := by simp [hz]
            by_cases hle : fr ≤ (s.l.length : Int)
            · obtain ⟨k, rfl⟩ := Int.eq_ofNat_of_zero_le (show 0 ≤ fr by omega)
              have HK := Lib.hid (show ask S kt k sp sense = ((1, s.l.take k, -1), askOwn S.tick kt k sense) by unfold ask; rw [hno, if_neg (by simp), if_pos ⟨hz, by rw [HSO.out]; exact hle⟩, HSO.out, Int.toNat_natCast])
              have HKS := Lib.hid (show askOwn S.tick kt k sense = { S.tick with stocks := S.stocks.set kt ⟨s.l.drop k, s.most⟩, tab := S.tab.setAll (s.l.take k) 2 sense } by
                unfold askOwn
                rw [show stockOf S.tick kt = s from HSO.out, Int.toNat_natCast, Int.toNat_natCast]
                rfl)
              have HTY := Lib.hid (fun g' (hh : StockAt g' (B + 10 + kt) x s) => stock_take_yes g' (B + 10 + kt) x k s hh (by omega) (by omega) (by omega))
              have hkl : k ≤ s.l.length := by omega
              clear hno hz hle
              go_wp2_with fail
              generalize w1.alloc (.cells #[.int .i64 0, .int .i64 0, .int .i64 0, .int .i64 0, .int .i64 0, .int .i64 0, .slice none 0 0] 175) = w2 at *
              refine (HTY.out ⟨own2, w2⟩ (H2.out.stock kt x s hbx hsk)).mono ?_
              rintro e w5 ⟨v, own5, rfl, m5, s5, rfl, k5, r5⟩
              obtain ⟨s5A, c5, rfl⟩ := own_form r5.row
              have M5 := Lib.hid (M2.out.trans (m5.mono (fun y (hy : y = B + 10 + kt) => (⟨by omega, by omega⟩ : inst B y))))
              have B5 := Lib.hid (B2.out.keep m5 (by omega))
              have R5 := Lib.hid r5
              have H5 := Lib.hid (H2.out.withStock hkt hbx m5 k5)
              have HLk := Lib.hid (show (s.l.take k).length = k by simp; omega)
              have hk8 := H2.out.stock kt x s hbx hsk
              have hk9 := hk8.most
              have hk10 := hk8.len
              clear m5 r5 k5 hk8 a0 a1 a2 a3 a4 a5 a6 a7 a8 a9 a10 a11 a12 a13 a14 a15 al
              go_wp2_with fail
              have HSET := Lib.hid (space_set 2 sense s5A c5 (s.l.take k) H5.out R5.out.seg hB (by rw [HLk.out]; omega))
              rw [HLk.out] at HSET
              refine HSET.out.mono ?_
              rintro e w6 ⟨rfl, own6, m6, h6⟩
              have M6 := Lib.hid (M5.out.trans (m6.mono (fun y (hy : y = B + 50) => (⟨by omega, by omega⟩ : inst B y))))
              have B6 := Lib.hid (B5.out.keep m6 (by omega))
              have R6 := Lib.hid (R5.out.keep m6 (by omega))
              have H6 := Lib.hid h6
              clear m6 h6
              obtain ⟨y0, y1, y2, yl⟩ := B6.out.c3
              have yf0 := B6.out.live 0
              have yf1 := B6.out.live 1
              have yf2 := B6.out.live 2
              (try simp only [GW.to] at y0 y1 y2 yf0 yf1 yf2 yl)
              go_wp2_with fail
              refine bodyPost_ret (v := .agg #[.int .i64 1, .slice s5A k c5, .int .i64 (-1)]) (by simp [results, Tryz.results137, go_sem, y0, y1, y2]) rfl ?_
              obtain ⟨p1, p2⟩ := put3 (v0 := .int .i64 1) (v1 := .slice s5A k c5) (v2 := .int .i64 (-1)) M6.out (Nat.le_refl _) B6.out.own
              refine ⟨_, own6, rfl, p1, ?_, ?_⟩
              · rw [HK.out]; exact ⟨s5A, c5, by simp only [HLk.out], by simp only [HLk.out]; exact R6.out.keep p2 (by omega)⟩
              · rw [HK.out, HKS.out]; exact ⟨_, _, _, _, _, _, _, H6.out.keep p2 (fun x (hx : x = 9) => by omega)⟩
            · have hown : ¬ (sp = 0 ∧ fr ≤ ((stockOf S kt).l.length : Int)) := by rw [HSO.out]; omega
              have HTN := Lib.hid (fun g' (hh : StockAt g' (B + 10 + kt) x s) => stock_take_no g' (B + 10 + kt) x fr s hh (by omega))
              clear hz hle
              go_wp2_with fail
              generalize w1.alloc (.cells #[.int .i64 0, .int .i64 0, .int .i64 0, .int .i64 0, .int .i64 0, .int .i64 0, .slice none 0 0] 175) = w2 at *
              refine (HTN.out ⟨own2, w2⟩ (H2.out.stock kt x s hbx hsk)).mono ?_
              rintro e w' ⟨rfl, rfl⟩
              go_wp2_with fail
              refine (sh_waits ⟨own2, w2⟩ (B + 3) cm bp bk bl S.line H2.out.line).mono ?_
              rintro e w3 ⟨rfl, hX⟩
              obtain ⟨own3, m3⟩ := Mod.ofExt (show Ext w2 w3 from hX) own2
              have M3 := Lib.hid (M2.out.trans (m3.mono (fun x hx => hx.elim)))
              have B3 := Lib.hid (B2.out.keep m3 id)
              have H3 := Lib.hid (H2.out.keep m3 (fun x hx => hx.elim))
              clear m3 hX a0 a1 a2 a3 a4 a5 a6 a7 a8 a9 a10 a11 a12 a13 a14 a15 al
              by_cases hw : 0 < Ent.wait S.line
              · have hwd : decide ((0 : Int) < (Ent.wait S.line : Nat)) = true := decide_eq_true (by omega)
                have HK := Lib.hid (show ask S kt fr sp sense = ((0, [], -1), { S.tick with line := S.line ++ [Ent.asked kt fr sp] }) by unfold ask; rw [hno, if_neg (by simp), if_neg hown, if_pos (Or.inl hw)])
                have hwd2 : decide (0 < Ent.wait S.line) = true := decide_eq_true hw
                clear hno hown
                obtain ⟨a0, a1, a2, a3, a4, a5, a6, a7, a8, a9, a10, a11, a12, a13, a14, a15, al⟩ := H3.out.blk.c16
                (try simp only [GW.to] at a0 a1 a2 a3 a4 a5 a6 a7 a8 a9 a10 a11 a12 a13 a14 a15 al)
                go_wp2_with fail
                refine (line_add ⟨own3, w3⟩ (B + 3) bl kt fr sp S.line H3.out.line hi hL (by omega)).mono ?_
                rintro e w7 ⟨rfl, own7, m7, l7⟩
                have M7 := Lib.hid (M3.out.trans (m7.mono (fun x (hx : x = B + 3) => (⟨by omega, by omega⟩ : inst B x))))
                have B7 := Lib.hid (B3.out.keep m7 (by omega))
                have H7 := Lib.hid (H3.out.withLine (m7.mono (fun x hx => Or.inl hx)) l7)
                clear m7 l7 a0 a1 a2 a3 a4 a5 a6 a7 a8 a9 a10 a11 a12 a13 a14 a15 al
                go_wp2_with fail
                refine (space_none 0 _).mono ?_
                rintro e wz ⟨rfl, hX⟩
                obtain ⟨ownz, mz⟩ := Mod.ofExt ((show Ext w7 _ by (repeat (first | (with_reducible (first | assumption | exact zR _ | exact zM _ _ _ _)) | apply zA | refine zS ?_ (by first | exact zL _ | exact zK _ _ | assumption) _ | apply zP | apply zD | apply zN))).trans (show Ext _ wz from hX)) own7
                have Mz := Lib.hid (M7.out.trans (mz.mono (fun x hx => hx.elim)))
                have Bz := Lib.hid (B7.out.keep mz id)
                have Hz := Lib.hid (H7.out.keep mz (fun x hx => hx.elim))
                clear mz hX
                obtain ⟨y0, y1, y2, yl⟩ := Bz.out.c3
                have yf0 := Bz.out.live 0
                have yf1 := Bz.out.live 1
                have yf2 := Bz.out.live 2
                (try simp only [GW.to] at y0 y1 y2 yf0 yf1 yf2 yl)
                go_wp2_with fail
                refine bodyPost_ret (v := .agg #[.int .i64 0, .slice none 0 0, .int .i64 (-1)]) (by simp [results, Tryz.results137, go_sem, y0, y1, y2]) rfl ?_
                obtain ⟨p1, p2⟩ := put3 (v0 := .int .i64 0) (v1 := .slice none 0 0) (v2 := .int .i64 (-1)) Mz.out (Nat.le_refl _) Bz.out.own
                refine ⟨_, ownz, rfl, p1, ?_, ?_⟩
                · rw [HK.out]; exact ⟨none, 0, rfl, Row.nil _ _ _ _⟩
                · rw [HK.out]; exact ⟨_, _, _, _, _, _, _, Hz.out.keep p2 (fun x (hx : x = 9) => by omega)⟩
              · have hwd : decide ((0 : Int) < (Ent.wait S.line : Nat)) = false := decide_eq_false (by omega)
                obtain ⟨a0, a1, a2, a3, a4, a5, a6, a7, a8, a9, a10, a11, a12, a13, a14, a15, al⟩ := H3.out.blk.c16
                (try simp only [GW.to] at a0 a1 a2 a3 a4 a5 a6 a7 a8 a9 a10 a11 a12 a13 a14 a15 al)
                go_wp2_with fail
                refine (sh_fits fr sp H3.out).mono ?_
                rw [show S.tick.fits fr sp = S.fits fr sp from rfl]
                rintro e w4 ⟨rfl, hX⟩
                obtain ⟨own4, m4⟩ := Mod.ofExt (show Ext w3 w4 from hX) own3
                have M4 := Lib.hid (M3.out.trans (m4.mono (fun x hx => hx.elim)))
                have B4 := Lib.hid (B3.out.keep m4 id)
                have H4 := Lib.hid (H3.out.keep m4 (fun x hx => hx.elim))
                clear m4 hX a0 a1 a2 a3 a4 a5 a6 a7 a8 a9 a10 a11 a12 a13 a14 a15 al
                cases hft : S.fits fr sp
                · have HK := Lib.hid (show ask S kt fr sp sense = ((0, [], -1), { S.tick with line := S.line ++ [Ent.asked kt fr sp] }) by unfold ask; rw [hno, if_neg (by simp), if_neg hown, if_pos (Or.inr hft)])
                  clear hw hno hown hft
                  obtain ⟨a0, a1, a2, a3, a4, a5, a6, a7, a8, a9, a10, a11, a12, a13, a14, a15, al⟩ := H4.out.blk.c16
                  (try simp only [GW.to] at a0 a1 a2 a3 a4 a5 a6 a7 a8 a9 a10 a11 a12 a13 a14 a15 al)
                  go_wp2_with fail
                  refine (line_add ⟨own4, w4⟩ (B + 3) bl kt fr sp S.line H4.out.line hi hL (by omega)).mono ?_
                  rintro e w7 ⟨rfl, own7, m7, l7⟩
                  have M7 := Lib.hid (M4.out.trans (m7.mono (fun x (hx : x = B + 3) => (⟨by omega, by omega⟩ : inst B x))))
                  have B7 := Lib.hid (B4.out.keep m7 (by omega))
                  have H7 := Lib.hid (H4.out.withLine (m7.mono (fun x hx => Or.inl hx)) l7)
                  clear m7 l7 a0 a1 a2 a3 a4 a5 a6 a7 a8 a9 a10 a11 a12 a13 a14 a15 al
                  go_wp2_with fail
                  refine (space_none 0 _).mono ?_
                  rintro e wz ⟨rfl, hX⟩
                  obtain ⟨ownz, mz⟩ := Mod.ofExt ((show Ext w7 _ by (repeat (first | (with_reducible (first | assumption | exact zR _ | exact zM _ _ _ _)) | apply zA | refine zS ?_ (by first | exact zL _ | exact zK _ _ | assumption) _ | apply zP | apply zD | apply zN))).trans (show Ext _ wz from hX)) own7
                  have Mz := Lib.hid (M7.out.trans (mz.mono (fun x hx => hx.elim)))
                  have Bz := Lib.hid (B7.out.keep mz id)
                  have Hz := Lib.hid (H7.out.keep mz (fun x hx => hx.elim))
                  clear mz hX
                  obtain ⟨y0, y1, y2, yl⟩ := Bz.out.c3
                  have yf0 := Bz.out.live 0
                  have yf1 := Bz.out.live 1
                  have yf2 := Bz.out.live 2
                  (try simp only [GW.to] at y0 y1 y2 yf0 yf1 yf2 yl)
                  go_wp2_with fail
                  refine bodyPost_ret (v := .agg #[.int .i64 0, .slice none 0 0, .int .i64 (-1)]) (by simp [results, Tryz.results137, go_sem, y0, y1, y2]) rfl ?_
                  obtain ⟨p1, p2⟩ := put3 (v0 := .int .i64 0) (v1 := .slice none 0 0) (v2 := .int .i64 (-1)) Mz.out (Nat.le_refl _) Bz.out.own
                  refine ⟨_, ownz, rfl, p1, ?_, ?_⟩
                  · rw [HK.out]; exact ⟨none, 0, rfl, Row.nil _ _ _ _⟩
                  · rw [HK.out]; exact ⟨_, _, _, _, _, _, _, Hz.out.keep p2 (fun x (hx : x = 9) => by omega)⟩
                · have HFT := Lib.hid hft
                  have hfree : fr ≤ (S.pool.free : Int) := by
                    unfold SpaceS.fits at hft
                    simp only [Bool.and_eq_true, decide_eq_true_eq] at hft
                    exact hft.1
                  have hnw : ¬ (0 < Ent.wait S.line ∨ S.fits fr sp = false) := by rw [hft]; simp [hw]
                  clear hw hft
                  obtain ⟨got, hgot⟩ := PoolS.taken_some (p := S.pool) (k := fr) (by omega) hfree
                  have HG1 := Lib.hid (show askGot S.tick fr = got by unfold askGot; show ((S.pool.taken fr).getD []) = got; rw [hgot]; rfl)
                  have HG2 := Lib.hid (show askGot S fr = got by unfold askGot; rw [hgot]; rfl)
                  have HGL := Lib.hid (show got.length ≤ 1024 from Nat.le_trans (PoolS.taken_len hgot) H4.out.pool.len)
                  have HK := Lib.hid (show ask S kt fr sp sense = ((1, got, takesAt S got sp), askAll S.tick kt fr sp sense) by unfold ask; rw [hno, if_neg (by simp), if_neg hown, if_neg hnw, HG2.out])
                  have HKS := Lib.hid (show askAll S.tick kt fr sp sense = { takesS S.tick got sp with pool := (takesS S.tick got sp).pool.takes ((takesS S.tick got sp).pool.lowOnes (s.most - s.l.length)), tab := ((takesS S.tick got sp).tab.setAll got 2 sense).setAll ((takesS S.tick got sp).pool.lowOnes (s.most - s.l.length)) 1 sense, stocks := S.stocks.set kt ⟨s.l ++ (takesS S.tick got sp).pool.lowOnes (s.most - s.l.length), s.most⟩ } by
                    unfold askAll askMore
                    rw [HG1.out, show stockOf S.tick kt = s from HSO.out]
                    rfl)
                  have HSD := Lib.hid (fits_side HFT.out hgot H4.out.pool.len H4.out.coil.ok)
                  have HTK := Lib.hid (fun (hh : SpaceIn ⟨own4, w4⟩ B b bt S.tick bp bk bl A cs cm bs) => sh_takes fr sp got hh hB hgot ⟨by omega, HSD.out⟩)
                  clear hgot hno hown hnw hfree HSD
                  obtain ⟨a0, a1, a2, a3, a4, a5, a6, a7, a8, a9, a10, a11, a12, a13, a14, a15, al⟩ := H4.out.blk.c16
                  (try simp only [GW.to] at a0 a1 a2 a3 a4 a5 a6 a7 a8 a9 a10 a11 a12 a13 a14 a15 al)
                  go_wp2_with fail
                  refine (HTK.out H4.out).mono ?_
                  rintro e w5 ⟨v, own5, rfl, m5, s5, c5, rfl, r5, h5⟩
                  have M5 := Lib.hid (M4.out.trans (m5.mono (fun x (hx : x = B + 1 ∨ x = B + 2) => (⟨by omega, by omega⟩ : inst B x))))
                  have B5 := Lib.hid (B4.out.keep m5 (by omega))
                  have R5 := Lib.hid r5
                  have H5 := Lib.hid h5
                  clear m5 r5 h5 a0 a1 a2 a3 a4 a5 a6 a7 a8 a9 a10 a11 a12 a13 a14 a15 al
                  go_wp2_with fail
                  refine (space_set 2 sense s5 c5 got H5.out R5.out.seg hB (by have := HGL.out; omega)).mono ?_
                  rintro e w6 ⟨rfl, own6, m6, h6⟩
                  have M6 := Lib.hid (M5.out.trans (m6.mono (fun x (hx : x = B + 50) => (⟨by omega, by omega⟩ : inst B x))))
                  have B6 := Lib.hid (B5.out.keep m6 (by omega))
                  have R6 := Lib.hid (R5.out.keep m6 (by omega))
                  have H6 := Lib.hid h6
                  clear m6 h6
                  obtain ⟨a0, a1, a2, a3, a4, a5, a6, a7, a8, a9, a10, a11, a12, a13, a14, a15, al⟩ := H6.out.blk.c16
                  (try simp only [GW.to] at a0 a1 a2 a3 a4 a5 a6 a7 a8 a9 a10 a11 a12 a13 a14 a15 al)
                  have HS6 := Lib.hid (show StockAt ⟨own6, w6⟩ (B + 10 + kt) x s from H6.out.stock kt x s hbx hsk)
                  have hmo := HS6.out.most
                  have hml := HS6.out.len
                  have HRM := Lib.hid (fun X => stock_room ((⟨own6, w6⟩ : GW).pt X) (B + 10 + kt) x s (HS6.out.pt X))
                  go_wp2_with fail
                  refine wp_region_mixed [true, true, true, true, true, true, true, false, false] 2 7 (by kernel_rfl) (by kernel_rfl) (by kernel_rfl) ?_ (by decide) (by decide) (by decide) (by kernel_rfl) ?_
                  · intro c a d v w h; cases d <;> exact h
                  intro X00
                  simp only [pickOps]
                  repeat (go_big_quiet_step ((go_at_call 171; exact Calls.added (HRM.out _))))
                  refine wpQuiet_nil (fun X0 => ?_)
                  clear X00
                  refine wpAnyM_tailL rfl (by kernel_rfl) (fun X2 => ?_)
                  simp only [List.drop_succ_cons, List.drop_zero]
                  go_wp2_with fail
                  refine (pool_low ((⟨own6, w6⟩ : GW).pt _) (B + 1) bp (s.most - s.l.length) _ (H6.out.pool.pt _) (by omega) (by omega)).mono ?_
                  rintro e w7 ⟨v7, own7, rfl, m7, p7, r7⟩
                  obtain ⟨A7, c7, rfl⟩ := own_form r7.row
                  have hlm : ((takesS S.tick got sp).pool.lowOnes (s.most - s.l.length)).length ≤ (s.most - s.l.length).toNat := (PoolS.lowGo_len _ _ _).1
                  have M7 := Lib.hid ((Mod.pt M6.out _).trans (m7.mono (fun x (hx : x = B + 1) => (⟨by omega, by omega⟩ : inst B x))))
                  have B7 := Lib.hid ((B6.out.pt _).keep m7 (by omega))
                  have R7 := Lib.hid ((R6.out.ptx _).keep m7 (by omega))
                  have H7 := Lib.hid ((H6.out.keep (Mod.pt (Mod.refl (fun _ => False) _) _) (fun x hx => hx.elim)).withPool m7 p7)
                  have Q7 := Lib.hid r7
                  clear m7 p7 r7 a0 a1 a2 a3 a4 a5 a6 a7 a8 a9 a10 a11 a12 a13 a14 a15 al
                  simp only at H7 Q7
                  generalize (takesS S.tick got sp).pool.lowOnes (s.most - s.l.length) = more at *
                  generalize hmn : more.length = nm at *
                  have HNM := Lib.hid hmn
                  clear hmn
                  go_wp2_with fail
                  have HSET := Lib.hid (space_set 1 sense A7 c7 more H7.out Q7.out.seg hB (by rw [HNM.out]; omega))
                  rw [HNM.out] at HSET
                  refine HSET.out.mono ?_
                  rintro e w8 ⟨rfl, own8, m8, h8⟩
                  have M8 := Lib.hid (M7.out.trans (m8.mono (fun x (hx : x = B + 50) => (⟨by omega, by omega⟩ : inst B x))))
                  have B8 := Lib.hid (B7.out.keep m8 (by omega))
                  have R8 := Lib.hid (R7.out.keep m8 (by omega))
                  have Q8 := Lib.hid (Q7.out.keep m8 (by omega))
                  have H8 := Lib.hid h8
                  have HS8 := Lib.hid (show StockAt ⟨own8, w8⟩ (B + 10 + kt) x s from H8.out.stock kt x s hbx hsk)
                  clear m8 h8
                  go_wp2_with fail
                  have HPUT := Lib.hid (stock_put ⟨own8, w8⟩ (B + 10 + kt) x A7 c7 more s HS8.out Q8.out.cells (fun e => by subst e; have := Q8.out.none; exact ⟨List.length_eq_zero_iff.1 (by rw [HNM.out]; exact this.1), this.2⟩) (by rw [HNM.out]; omega))
                  rw [HNM.out] at HPUT
                  refine HPUT.out.mono ?_
                  rintro e w9 ⟨rfl, own9, m9, s9⟩
                  have M9 := Lib.hid (M8.out.trans (m9.mono (fun y (hy : y = B + 10 + kt) => (⟨by omega, by omega⟩ : inst B y))))
                  have B9 := Lib.hid (B8.out.keep m9 (by omega))
                  have R9 := Lib.hid (R8.out.keep m9 (by omega))
                  have H9 := Lib.hid (H8.out.withStock hkt hbx m9 s9)
                  clear m9 s9
                  obtain ⟨y0, y1, y2, yl⟩ := B9.out.c3
                  have yf0 := B9.out.live 0
                  have yf1 := B9.out.live 1
                  have yf2 := B9.out.live 2
                  (try simp only [GW.to] at y0 y1 y2 yf0 yf1 yf2 yl)
                  go_wp2_with fail
                  refine bodyPost_ret (v := .agg #[.int .i64 1, .slice s5 got.length c5, .int .i64 (takesAt S.tick got sp)]) (by simp [results, Tryz.results137, go_sem, y0, y1, y2]) rfl ?_
                  obtain ⟨p1, p2⟩ := put3 (v0 := .int .i64 1) (v1 := .slice s5 got.length c5) (v2 := .int .i64 (takesAt S.tick got sp)) M9.out (Nat.le_refl _) B9.out.own
                  refine ⟨_, own9, rfl, p1, ?_, ?_⟩
                  · rw [HK.out]; exact ⟨s5, c5, rfl, R9.out.keep p2 (by omega)⟩
                  · rw [HK.out, HKS.out]; exact ⟨_, _, _, _, _, _, _, H9.out.keep p2 (fun x (hx : x = 9) => by omega)⟩
          · have hz0 : (sp == 0) = false := by simp [hz]
            have hown : ¬ (sp = 0 ∧ fr ≤ ((stockOf S kt).l.length : Int)) := by omega
            clear hz
            go_wp2_with fail
            generalize w1.alloc (.cells #[.int .i64 0, .int .i64 0, .int .i64 0, .int .i64 0, .int .i64 0, .int .i64 0, .slice none 0 0] 175) = w2 at *
            refine (sh_waits ⟨own2, w2⟩ (B + 3) cm bp bk bl S.line H2.out.line).mono ?_
            rintro e w3 ⟨rfl, hX⟩
            obtain ⟨own3, m3⟩ := Mod.ofExt (show Ext w2 w3 from hX) own2
            have M3 := Lib.hid (M2.out.trans (m3.mono (fun x hx => hx.elim)))
            have B3 := Lib.hid (B2.out.keep m3 id)
            have H3 := Lib.hid (H2.out.keep m3 (fun x hx => hx.elim))
            clear m3 hX a0 a1 a2 a3 a4 a5 a6 a7 a8 a9 a10 a11 a12 a13 a14 a15 al
            by_cases hw : 0 < Ent.wait S.line
            · have hwd : decide ((0 : Int) < (Ent.wait S.line : Nat)) = true := decide_eq_true (by omega)
              have HK := Lib.hid (show ask S kt fr sp sense = ((0, [], -1), { S.tick with line := S.line ++ [Ent.asked kt fr sp] }) by unfold ask; rw [hno, if_neg (by simp), if_neg hown, if_pos (Or.inl hw)])
              have hwd2 : decide (0 < Ent.wait S.line) = true := decide_eq_true hw
              clear hno hown
              obtain ⟨a0, a1, a2, a3, a4, a5, a6, a7, a8, a9, a10, a11, a12, a13, a14, a15, al⟩ := H3.out.blk.c16
              (try simp only [GW.to] at a0 a1 a2 a3 a4 a5 a6 a7 a8 a9 a10 a11 a12 a13 a14 a15 al)
              go_wp2_with fail
              refine (line_add ⟨own3, w3⟩ (B + 3) bl kt fr sp S.line H3.out.line hi hL (by omega)).mono ?_
              rintro e w7 ⟨rfl, own7, m7, l7⟩
              have M7 := Lib.hid (M3.out.trans (m7.mono (fun x (hx : x = B + 3) => (⟨by omega, by omega⟩ : inst B x))))
              have B7 := Lib.hid (B3.out.keep m7 (by omega))
              have H7 := Lib.hid (H3.out.withLine (m7.mono (fun x hx => Or.inl hx)) l7)
              clear m7 l7 a0 a1 a2 a3 a4 a5 a6 a7 a8 a9 a10 a11 a12 a13 a14 a15 al
              go_wp2_with fail
              refine (space_none 0 _).mono ?_
              rintro e wz ⟨rfl, hX⟩
              obtain ⟨ownz, mz⟩ := Mod.ofExt ((show Ext w7 _ by (repeat (first | (with_reducible (first | assumption | exact zR _ | exact zM _ _ _ _)) | apply zA | refine zS ?_ (by first | exact zL _ | exact zK _ _ | assumption) _ | apply zP | apply zD | apply zN))).trans (show Ext _ wz from hX)) own7
              have Mz := Lib.hid (M7.out.trans (mz.mono (fun x hx => hx.elim)))
              have Bz := Lib.hid (B7.out.keep mz id)
              have Hz := Lib.hid (H7.out.keep mz (fun x hx => hx.elim))
              clear mz hX
              obtain ⟨y0, y1, y2, yl⟩ := Bz.out.c3
              have yf0 := Bz.out.live 0
              have yf1 := Bz.out.live 1
              have yf2 := Bz.out.live 2
              (try simp only [GW.to] at y0 y1 y2 yf0 yf1 yf2 yl)
              go_wp2_with fail
              refine bodyPost_ret (v := .agg #[.int .i64 0, .slice none 0 0, .int .i64 (-1)]) (by simp [results, Tryz.results137, go_sem, y0, y1, y2]) rfl ?_
              obtain ⟨p1, p2⟩ := put3 (v0 := .int .i64 0) (v1 := .slice none 0 0) (v2 := .int .i64 (-1)) Mz.out (Nat.le_refl _) Bz.out.own
              refine ⟨_, ownz, rfl, p1, ?_, ?_⟩
              · rw [HK.out]; exact ⟨none, 0, rfl, Row.nil _ _ _ _⟩
              · rw [HK.out]; exact ⟨_, _, _, _, _, _, _, Hz.out.keep p2 (fun x (hx : x = 9) => by omega)⟩
            · have hwd : decide ((0 : Int) < (Ent.wait S.line : Nat)) = false := decide_eq_false (by omega)
              obtain ⟨a0, a1, a2, a3, a4, a5, a6, a7, a8, a9, a10, a11, a12, a13, a14, a15, al⟩ := H3.out.blk.c16
              (try simp only [GW.to] at a0 a1 a2 a3 a4 a5 a6 a7 a8 a9 a10 a11 a12 a13 a14 a15 al)
              go_wp2_with fail
              refine (sh_fits fr sp H3.out).mono ?_
              rw [show S.tick.fits fr sp = S.fits fr sp from rfl]
              rintro e w4 ⟨rfl, hX⟩
              obtain ⟨own4, m4⟩ := Mod.ofExt (show Ext w3 w4 from hX) own3
              have M4 := Lib.hid (M3.out.trans (m4.mono (fun x hx => hx.elim)))
              have B4 := Lib.hid (B3.out.keep m4 id)
              have H4 := Lib.hid (H3.out.keep m4 (fun x hx => hx.elim))
              clear m4 hX a0 a1 a2 a3 a4 a5 a6 a7 a8 a9 a10 a11 a12 a13 a14 a15 al
              cases hft : S.fits fr sp
              · have HK := Lib.hid (show ask S kt fr sp sense = ((0, [], -1), { S.tick with line := S.line ++ [Ent.asked kt fr sp] }) by unfold ask; rw [hno, if_neg (by simp), if_neg hown, if_pos (Or.inr hft)])
                clear hw hno hown hft
                obtain ⟨a0, a1, a2, a3, a4, a5, a6, a7, a8, a9, a10, a11, a12, a13, a14, a15, al⟩ := H4.out.blk.c16
                (try simp only [GW.to] at a0 a1 a2 a3 a4 a5 a6 a7 a8 a9 a10 a11 a12 a13 a14 a15 al)
                go_wp2_with fail
                refine (line_add ⟨own4, w4⟩ (B + 3) bl kt fr sp S.line H4.out.line hi hL (by omega)).mono ?_
                rintro e w7 ⟨rfl, own7, m7, l7⟩
                have M7 := Lib.hid (M4.out.trans (m7.mono (fun x (hx : x = B + 3) => (⟨by omega, by omega⟩ : inst B x))))
                have B7 := Lib.hid (B4.out.keep m7 (by omega))
                have H7 := Lib.hid (H4.out.withLine (m7.mono (fun x hx => Or.inl hx)) l7)
                clear m7 l7 a0 a1 a2 a3 a4 a5 a6 a7 a8 a9 a10 a11 a12 a13 a14 a15 al
                go_wp2_with fail
                refine (space_none 0 _).mono ?_
                rintro e wz ⟨rfl, hX⟩
                obtain ⟨ownz, mz⟩ := Mod.ofExt ((show Ext w7 _ by (repeat (first | (with_reducible (first | assumption | exact zR _ | exact zM _ _ _ _)) | apply zA | refine zS ?_ (by first | exact zL _ | exact zK _ _ | assumption) _ | apply zP | apply zD | apply zN))).trans (show Ext _ wz from hX)) own7
                have Mz := Lib.hid (M7.out.trans (mz.mono (fun x hx => hx.elim)))
                have Bz := Lib.hid (B7.out.keep mz id)
                have Hz := Lib.hid (H7.out.keep mz (fun x hx => hx.elim))
                clear mz hX
                obtain ⟨y0, y1, y2, yl⟩ := Bz.out.c3
                have yf0 := Bz.out.live 0
                have yf1 := Bz.out.live 1
                have yf2 := Bz.out.live 2
                (try simp only [GW.to] at y0 y1 y2 yf0 yf1 yf2 yl)
                go_wp2_with fail
                refine bodyPost_ret (v := .agg #[.int .i64 0, .slice none 0 0, .int .i64 (-1)]) (by simp [results, Tryz.results137, go_sem, y0, y1, y2]) rfl ?_
                obtain ⟨p1, p2⟩ := put3 (v0 := .int .i64 0) (v1 := .slice none 0 0) (v2 := .int .i64 (-1)) Mz.out (Nat.le_refl _) Bz.out.own
                refine ⟨_, ownz, rfl, p1, ?_, ?_⟩
                · rw [HK.out]; exact ⟨none, 0, rfl, Row.nil _ _ _ _⟩
                · rw [HK.out]; exact ⟨_, _, _, _, _, _, _, Hz.out.keep p2 (fun x (hx : x = 9) => by omega)⟩
              · have HFT := Lib.hid hft
                have hfree : fr ≤ (S.pool.free : Int) := by
                  unfold SpaceS.fits at hft
                  simp only [Bool.and_eq_true, decide_eq_true_eq] at hft
                  exact hft.1
                have hnw : ¬ (0 < Ent.wait S.line ∨ S.fits fr sp = false) := by rw [hft]; simp [hw]
                clear hw hft
                obtain ⟨got, hgot⟩ := PoolS.taken_some (p := S.pool) (k := fr) (by omega) hfree
                have HG1 := Lib.hid (show askGot S.tick fr = got by unfold askGot; show ((S.pool.taken fr).getD []) = got; rw [hgot]; rfl)
                have HG2 := Lib.hid (show askGot S fr = got by unfold askGot; rw [hgot]; rfl)
                have HGL := Lib.hid (show got.length ≤ 1024 from Nat.le_trans (PoolS.taken_len hgot) H4.out.pool.len)
                have HK := Lib.hid (show ask S kt fr sp sense = ((1, got, takesAt S got sp), askAll S.tick kt fr sp sense) by unfold ask; rw [hno, if_neg (by simp), if_neg hown, if_neg hnw, HG2.out])
                have HKS := Lib.hid (show askAll S.tick kt fr sp sense = { takesS S.tick got sp with pool := (takesS S.tick got sp).pool.takes ((takesS S.tick got sp).pool.lowOnes (s.most - s.l.length)), tab := ((takesS S.tick got sp).tab.setAll got 2 sense).setAll ((takesS S.tick got sp).pool.lowOnes (s.most - s.l.length)) 1 sense, stocks := S.stocks.set kt ⟨s.l ++ (takesS S.tick got sp).pool.lowOnes (s.most - s.l.length), s.most⟩ } by
                  unfold askAll askMore
                  rw [HG1.out, show stockOf S.tick kt = s from HSO.out]
                  rfl)
                have HSD := Lib.hid (fits_side HFT.out hgot H4.out.pool.len H4.out.coil.ok)
                have HTK := Lib.hid (fun (hh : SpaceIn ⟨own4, w4⟩ B b bt S.tick bp bk bl A cs cm bs) => sh_takes fr sp got hh hB hgot ⟨by omega, HSD.out⟩)
                clear hgot hno hown hnw hfree HSD
                obtain ⟨a0, a1, a2, a3, a4, a5, a6, a7, a8, a9, a10, a11, a12, a13, a14, a15, al⟩ := H4.out.blk.c16
                (try simp only [GW.to] at a0 a1 a2 a3 a4 a5 a6 a7 a8 a9 a10 a11 a12 a13 a14 a15 al)
                go_wp2_with fail
                refine (HTK.out H4.out).mono ?_
                rintro e w5 ⟨v, own5, rfl, m5, s5, c5, rfl, r5, h5⟩
                have M5 := Lib.hid (M4.out.trans (m5.mono (fun x (hx : x = B + 1 ∨ x = B + 2) => (⟨by omega, by omega⟩ : inst B x))))
                have B5 := Lib.hid (B4.out.keep m5 (by omega))
                have R5 := Lib.hid r5
                have H5 := Lib.hid h5
                clear m5 r5 h5 a0 a1 a2 a3 a4 a5 a6 a7 a8 a9 a10 a11 a12 a13 a14 a15 al
                go_wp2_with fail
                refine (space_set 2 sense s5 c5 got H5.out R5.out.seg hB (by have := HGL.out; omega)).mono ?_
                rintro e w6 ⟨rfl, own6, m6, h6⟩
                have M6 := Lib.hid (M5.out.trans (m6.mono (fun x (hx : x = B + 50) => (⟨by omega, by omega⟩ : inst B x))))
                have B6 := Lib.hid (B5.out.keep m6 (by omega))
                have R6 := Lib.hid (R5.out.keep m6 (by omega))
                have H6 := Lib.hid h6
                clear m6 h6
                obtain ⟨a0, a1, a2, a3, a4, a5, a6, a7, a8, a9, a10, a11, a12, a13, a14, a15, al⟩ := H6.out.blk.c16
                (try simp only [GW.to] at a0 a1 a2 a3 a4 a5 a6 a7 a8 a9 a10 a11 a12 a13 a14 a15 al)
                have HS6 := Lib.hid (show StockAt ⟨own6, w6⟩ (B + 10 + kt) x s from H6.out.stock kt x s hbx hsk)
                have hmo := HS6.out.most
                have hml := HS6.out.len
                have HRM := Lib.hid (fun X => stock_room ((⟨own6, w6⟩ : GW).pt X) (B + 10 + kt) x s (HS6.out.pt X))
                go_wp2_with fail
                refine wp_region_mixed [true, true, true, true, true, true, true, false, false] 2 7 (by kernel_rfl) (by kernel_rfl) (by kernel_rfl) ?_ (by decide) (by decide) (by decide) (by kernel_rfl) ?_
                · intro c a d v w h; cases d <;> exact h
                intro X00
                simp only [pickOps]
                repeat (go_big_quiet_step ((go_at_call 171; exact Calls.added (HRM.out _))))
                refine wpQuiet_nil (fun X0 => ?_)
                clear X00
                refine wpAnyM_tailL rfl (by kernel_rfl) (fun X2 => ?_)
                simp only [List.drop_succ_cons, List.drop_zero]
                go_wp2_with fail
                refine (pool_low ((⟨own6, w6⟩ : GW).pt _) (B + 1) bp (s.most - s.l.length) _ (H6.out.pool.pt _) (by omega) (by omega)).mono ?_
                rintro e w7 ⟨v7, own7, rfl, m7, p7, r7⟩
                obtain ⟨A7, c7, rfl⟩ := own_form r7.row
                have hlm : ((takesS S.tick got sp).pool.lowOnes (s.most - s.l.length)).length ≤ (s.most - s.l.length).toNat := (PoolS.lowGo_len _ _ _).1
                have M7 := Lib.hid ((Mod.pt M6.out _).trans (m7.mono (fun x (hx : x = B + 1) => (⟨by omega, by omega⟩ : inst B x))))
                have B7 := Lib.hid ((B6.out.pt _).keep m7 (by omega))
                have R7 := Lib.hid ((R6.out.ptx _).keep m7 (by omega))
                have H7 := Lib.hid ((H6.out.keep (Mod.pt (Mod.refl (fun _ => False) _) _) (fun x hx => hx.elim)).withPool m7 p7)
                have Q7 := Lib.hid r7
                clear m7 p7 r7 a0 a1 a2 a3 a4 a5 a6 a7 a8 a9 a10 a11 a12 a13 a14 a15 al
                simp only at H7 Q7
                generalize (takesS S.tick got sp).pool.lowOnes (s.most - s.l.length) = more at *
                generalize hmn : more.length = nm at *
                have HNM := Lib.hid hmn
                clear hmn
                go_wp2_with fail
                have HSET := Lib.hid (space_set 1 sense A7 c7 more H7.out Q7.out.seg hB (by rw [HNM.out]; omega))
                rw [HNM.out] at HSET
                refine HSET.out.mono ?_
                rintro e w8 ⟨rfl, own8, m8, h8⟩
                have M8 := Lib.hid (M7.out.trans (m8.mono (fun x (hx : x = B + 50) => (⟨by omega, by omega⟩ : inst B x))))
                have B8 := Lib.hid (B7.out.keep m8 (by omega))
                have R8 := Lib.hid (R7.out.keep m8 (by omega))
                have Q8 := Lib.hid (Q7.out.keep m8 (by omega))
                have H8 := Lib.hid h8
                have HS8 := Lib.hid (show StockAt ⟨own8, w8⟩ (B + 10 + kt) x s from H8.out.stock kt x s hbx hsk)
                clear m8 h8
                go_wp2_with fail
                have HPUT := Lib.hid (stock_put ⟨own8, w8⟩ (B + 10 + kt) x A7 c7 more s HS8.out Q8.out.cells (fun e => by subst e; have := Q8.out.none; exact ⟨List.length_eq_zero_iff.1 (by rw [HNM.out]; exact this.1), this.2⟩) (by rw [HNM.out]; omega))
                rw [HNM.out] at HPUT
                refine HPUT.out.mono ?_
                rintro e w9 ⟨rfl, own9, m9, s9⟩
                have M9 := Lib.hid (M8.out.trans (m9.mono (fun y (hy : y = B + 10 + kt) => (⟨by omega, by omega⟩ : inst B y))))
                have B9 := Lib.hid (B8.out.keep m9 (by omega))
                have R9 := Lib.hid (R8.out.keep m9 (by omega))
                have H9 := Lib.hid (H8.out.withStock hkt hbx m9 s9)
                clear m9 s9
                obtain ⟨y0, y1, y2, yl⟩ := B9.out.c3
                have yf0 := B9.out.live 0
                have yf1 := B9.out.live 1
                have yf2 := B9.out.live 2
                (try simp only [GW.to] at y0 y1 y2 yf0 yf1 yf2 yl)
                go_wp2_with fail
                refine bodyPost_ret (v := .agg #[.int .i64 1, .slice s5 got.length c5, .int .i64 (takesAt S.tick got sp)]) (by simp [results, Tryz.results137, go_sem, y0, y1, y2]) rfl ?_
                obtain ⟨p1, p2⟩ := put3 (v0 := .int .i64 1) (v1 := .slice s5 got.length c5) (v2 := .int .i64 (takesAt S.tick got sp)) M9.out (Nat.le_refl _) B9.out.own
                refine ⟨_, own9, rfl, p1, ?_, ?_⟩
                · rw [HK.out]; exact ⟨s5, c5, rfl, R9.out.keep p2 (by omega)⟩
                · rw [HK.out, HKS.out]; exact ⟨_, _, _, _, _, _, _, H9.out.keep p2 (fun x (hx : x = 9) => by omega)⟩
end Go.Proofs.YtoaehfdjffejeaaGreat

