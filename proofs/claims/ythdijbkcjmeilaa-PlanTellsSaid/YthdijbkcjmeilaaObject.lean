/-
  plan.Object.
-/
import Derived.Test.YthdijbkcjmeilaaPlan2
import Derived.Test.YthdijbkcjmeilaaPlan3
import Derived.Test.YthdijbkcjmeilaaWhole
import Derived.Test.YthdijbkcjmeilaaObj
import Derived.Test.YthdijbkcjmeilaaFrom
import Derived.Test.YthdijbkcjmeilaaStore
import Derived.Test.YthdijbkcjmeilaaCut
import Derived.Deep.DeepCutAuto
namespace Go.Proofs.Ythdijbkcjmeilaa
open Go Go.RowKit

def ObjGot (c : Cnf) (kind : Int) (got : List Int) (w : World) (e : Ending) (w' : World) : Prop :=
  ∃ (s' : Shp) (l : Value) (n : Nat), e = .returned (.tuple #[l, .int .i64 (wrongE c (c.shapeAt kind).isSome s' 0 false got)]) ∧ (s'.arr, s'.refs) = (c.shapeAt kind).getD (false, []) ∧
    w'.ownsRow w.heap.size 48 2 l n (if wrongE c (c.shapeAt kind).isSome s' 0 false got = 0 then objWrites s' kind got (isSide got) got.length else []) ∧ Ext w w'

theorem wrongE_fine {c : Cnf} {is : Bool} {s : Shp} {n : Int} {array : Bool} {got : List Int} (h : wrongE c is s n array got = 0) :
    c.check = 0 ∧ got.all (fragOk c) = true ∧ is = true ∧ s.arr = array ∧ (got.length : Int) = s.size n ∧ 1 ≤ s.size n ∧ twiceIn got = false := by
  unfold wrongE at h
  split at h
  · omega
  split at h
  · omega
  split at h
  · omega
  split at h
  · omega
  rename_i h1 h2 h3 h4
  have h5 : 1 ≤ s.size n := by
    have hd := sData_bd n
    unfold Shp.size at h3 ⊢
    split
    · rw [if_pos (by assumption)] at h3; omega
    · split
      · omega
      · split
        · omega
        · have : 0 ≤ s.len := by unfold Shp.len; omega
          omega
  refine ⟨?_, ?_, ?_, ?_, ?_, h5, ?_⟩
  · exact Decidable.byContradiction fun h => h1 (Or.inl h)
  · cases hg : got.all (fragOk c)
    · exact absurd (Or.inr hg) h1
    · rfl
  · cases is
    · exact absurd (Or.inl rfl) h2
    · rfl
  · exact Decidable.byContradiction fun h => h2 (Or.inr h)
  · exact Decidable.byContradiction fun h => h4 (Or.inl h)
  · cases ht : twiceIn got
    · rfl
    · exact absurd (Or.inr ht) h4

/-- What holds at the label, behind the j-th fragment. -/
structure ObjSt (c : Cnf) (kind : Int) (got : List Int) (w : World) (j : Nat) (l : Value) (s : Shp) (bs bw : Nat) (vs : List Value) (wr : World) : Prop where
  lt : j < got.length
  box : wr.heap[w.heap.size]? = some (.cells #[.int .i64 c.frags, .int .i64 c.spine, .int .i64 c.globals, .int .i64 c.threads, .int .i64 c.locals, .int .i64 c.cache, .int .i64 c.stack, .int .i64 c.low, .slice c.A c.shapes.length c.cap] 24)
  sblk : wr.heap[bs]? = some (.cells #[.bool s.arr, .slice s.A s.refs.length s.cap] 37)
  wblk : wr.heap[bw]? = some (.cells vs.toArray 74)
  vlen : vs.length = 8
  sok : s.Ok wr
  sne : ∀ a, s.A = some a → 0 < s.refs.length → a.block < bw
  ext : Ext w wr
  own : wr.ownsRow (bw + 1) 48 2 l (8 * j) (objWrites s kind got (isSide got) j)
  lt1 : w.heap.size < bs
  lt2 : bs < bw
  what : (s.arr, s.refs) = (c.shapeAt kind).getD (false, [])
  fine : wrongE c (c.shapeAt kind).isSome s 0 false got = 0
theorem ObjSt.put {c : Cnf} {kind : Int} {got : List Int} {w : World} {j : Nat} {l : Value} {s : Shp} {bs bw : Nat} {vs : List Value} {wr : World} (h : ObjSt c kind got w j l s bs bw vs wr) (L : List Value) (hL : L.length = 8) :
    ObjSt c kind got w j l s bs bw L (wr.putBlk bw (.cells L.toArray 74)) := by
  have hb := (Array.getElem?_eq_some_iff.1 h.wblk).1
  have h1 := h.lt1
  have h2 := h.lt2
  refine { lt := h.lt, box := ?_, sblk := ?_, wblk := World.row_put _ hb, vlen := hL, sok := h.sok.putBlk (fun a ha hr => by have := h.sne a ha hr; omega), sne := h.sne, ext := ?_, own := ?_, lt1 := h1, lt2 := h2, what := h.what, fine := h.fine }
  · rw [World.row_put_other _ (by omega)]; exact h.box
  · rw [World.row_put_other _ (by omega)]; exact h.sblk
  · obtain ⟨b1, b2, b3, _, _⟩ := h.ext.below
    exact ext_of_below ⟨b1, b2, b3, by rw [World.size_putBlk]; exact h.ext.size, fun k hk => by rw [World.row_put_other _ (by omega)]; exact h.ext.heap k hk⟩
  · obtain ⟨o1, o2⟩ := h.own
    refine ⟨o1, ?_⟩
    rcases o2 with ⟨hv, hn⟩ | ⟨g, cap, cur, hv, hbg, hh, r⟩
    · exact Or.inl ⟨hv, hn⟩
    · exact Or.inr ⟨g, cap, cur, hv, hbg, by rw [World.row_put_other _ (by omega)]; exact hh, r⟩
theorem ObjSt.patch {c : Cnf} {kind : Int} {got : List Int} {w : World} {j : Nat} {l : Value} {s : Shp} {bs bw : Nat} {vs : List Value} {wr : World} (h : ObjSt c kind got w j l s bs bw vs wr) (X : Extra) : ObjSt c kind got w j l s bs bw vs (wr.patch X) := by
  have hb := (Array.getElem?_eq_some_iff.1 h.wblk).1
  have hb1 := (Array.getElem?_eq_some_iff.1 h.box).1
  have hb2 := (Array.getElem?_eq_some_iff.1 h.sblk).1
  exact { lt := h.lt, box := by rw [World.heap_patch _ _ _ hb1]; exact h.box, sblk := by rw [World.heap_patch _ _ _ hb2]; exact h.sblk, wblk := by rw [World.heap_patch _ _ _ hb]; exact h.wblk, vlen := h.vlen, sok := h.sok.ext ⟨X, rfl⟩, sne := h.sne, ext := h.ext.patch X, own := own_ext h.own ⟨X, rfl⟩, lt1 := h.lt1, lt2 := h.lt2, what := h.what, fine := h.fine }
theorem ObjSt.lay {c : Cnf} {kind : Int} {got : List Int} {w : World} {j : Nat} {l : Value} {s : Shp} {bs bw : Nat} {vs : List Value} {wr : World} (h : ObjSt c kind got w j l s bs bw vs wr) {l' : Value} {w' : World} (he : Ext (wr.upTo (bw + 1)) w') (ho : w'.ownsRow (bw + 1) 48 2 l' (8 * (j + 1)) (objWrites s kind got (isSide got) (j + 1))) (hj : j + 1 < got.length) :
    ObjSt c kind got w (j + 1) l' s bs bw vs w' := by
  have hb := (Array.getElem?_eq_some_iff.1 h.wblk).1
  have h1 := h.lt1
  have h2 := h.lt2
  have hz := World.size_upTo wr (n := bw + 1) (by omega)
  exact { lt := hj, box := by rw [he.heap _ (by omega), World.heap_upTo _ (by omega)]; exact h.box, sblk := by rw [he.heap _ (by omega), World.heap_upTo _ (by omega)]; exact h.sblk,
          wblk := by rw [he.heap _ (by omega), World.heap_upTo _ (by omega)]; exact h.wblk, vlen := h.vlen, sok := (h.sok.upTo (by omega) (fun a ha hr => Nat.lt_succ_of_lt (h.sne a ha hr))).ext he, sne := h.sne, ext := (h.ext.upTo (by omega) (by omega)).trans he, own := ho, lt1 := h1, lt2 := h2, what := h.what, fine := h.fine }
theorem infoWords : (Try.prog.info? 74).map (·.size) = some 8 := by kernel_rfl
def objHead (kind : Int) (got : List Int) (j : Nat) : List Value := [wNone, if j = 0 then wHead kind (if isSide got then 1 else 0) else wZero, wZero, wZero, wZero, wZero, wZero, wZero]
theorem objHead_no {kind : Int} {got : List Int} {j : Nat} (h : ¬ j = 0) : objHead kind got j = [.complex .f64 0 4607182418800017408, .complex .f64 0 0, .complex .f64 0 0, .complex .f64 0 0, .complex .f64 0 0, .complex .f64 0 0, .complex .f64 0 0, .complex .f64 0 0] := by unfold objHead; rw [if_neg h]; rfl
theorem objHead_yes {kind : Int} {got : List Int} {p q : Nat} (h : wHead kind (if isSide got then 1 else 0) = .complex .f64 p q) : objHead kind got 0 = List.set [.complex .f64 0 4607182418800017408, .complex .f64 0 0, .complex .f64 0 0, .complex .f64 0 0, .complex .f64 0 0, .complex .f64 0 0, .complex .f64 0 0, .complex .f64 0 0] 1 (.complex .f64 p q) := by unfold objHead; rw [if_pos rfl, h]; rfl
theorem objInit_no {kind : Int} {got : List Int} {j : Nat} (h : ¬ j + 1 < got.length) : objInit kind got (isSide got) j = objHead kind got j := by unfold objInit objHead; rw [if_neg h]
theorem objInit_yes {kind : Int} {got : List Int} {j : Nat} {y : Int} {p q : Nat} (h : j + 1 < got.length) (hy : got.getD (j + 1) 0 = y) (hp : wRef y = .complex .f64 p q) : objInit kind got (isSide got) j = (objHead kind got j).set 0 (.complex .f64 p q) := by unfold objInit objHead; rw [if_pos h, hy, hp]; rfl
theorem objHead_length (kind : Int) (got : List Int) (j : Nat) : (objHead kind got j).length = 8 := rfl
theorem objInit_length (kind : Int) (got : List Int) (side : Bool) (j : Nat) : (objInit kind got side j).length = 8 := rfl
def ObjAt (c : Cnf) (kind : Int) (A : Option Addr) (cap : Nat) (got : List Int) (w : World) (a : Act) (wr : World) : Prop :=
  ∃ (j : Nat) (l : Value) (s : Shp) (bs bw : Nat) (vs : List Value) (u4 u5 u6 u7 u9 u13 u14 u15 u16 u17 u18 u19 u20 u21 u22 u23 u24 u25 u26 u27 u28 u29 u30 u31 u32 u33 u34 u35 u36 u37 u38 u39 u40 u41 u42 u43 u44 u45 u46 u47 u48 u49 u50 u51 u52 u53 u54 u55 u56 u57 u58 u59 u60 u61 u62 u63 u64 : Value), a = { tmps := #[(.agg #[.int .i64 c.frags, .int .i64 c.spine, .int .i64 c.globals, .int .i64 c.threads, .int .i64 c.locals, .int .i64 c.cache, .int .i64 c.stack, .int .i64 c.low, .slice c.A c.shapes.length c.cap]), .int .i64 kind, .slice A got.length cap, .pointer (some ⟨w.heap.size, 0, none⟩), u4, u5, u6, u7, .pointer (some ⟨bs, 0, none⟩), u9, l, .pointer (some ⟨bw, 0, none⟩), .int .i64 j, u13, u14, u15, u16, u17, u18, u19, u20, u21, u22, u23, u24, u25, u26, u27, u28, u29, u30, u31, u32, u33, u34, u35, u36, u37, u38, u39, u40, u41, u42, u43, u44, u45, u46, u47, u48, u49, u50, u51, u52, u53, u54, u55, u56, u57, u58, u59, u60, u61, u62, u63, u64], defers := [] } ∧ ObjSt c kind got w j l s bs bw vs wr

set_option maxRecDepth 20000 in
set_option maxHeartbeats 4000000 in
theorem object_any (c : Cnf) (kind : Int) (A : Option Addr) (cap : Nat) (got : List Int) (w : World) (hc : c.Ok w) (hg : CellsAt w A (got.map (Value.int .i64))) (hl : got.length ≤ 1000) (hw : ∀ x ∈ got, -9223372036854775808 ≤ x ∧ x ≤ 9223372036854775807) :
    Calls Try.prog 9 #[c.val, .int .i64 kind, .slice A got.length cap] w (ObjGot c kind got w) := by
  have HW := Lib.hid (fun w' (he : Ext w w') => wrong_any c kind 0 false A cap got w' (hc.ext he) (hg.ext he) (by omega) hw)
  unfold Cnf.val at HW ⊢
  go_enter Try.func9, Try.ntmps9
  go_wp2_with fail
  refine wp_scope_from 0 (ObjAt c kind A cap got w) (fun a _ => got.length - (intOf (a.tmps.getD 12 undef)).toNat) rfl ?_ ?_
  · rintro a wr ⟨j, l, s, bs, bw, vs, u4, u5, u6, u7, u9, u13, u14, u15, u16, u17, u18, u19, u20, u21, u22, u23, u24, u25, u26, u27, u28, u29, u30, u31, u32, u33, u34, u35, u36, u37, u38, u39, u40, u41, u42, u43, u44, u45, u46, u47, u48, u49, u50, u51, u52, u53, u54, u55, u56, u57, u58, u59, u60, u61, u62, u63, u64, rfl, hst⟩
    obtain ⟨arr, A', cap', refs⟩ := s
    have HST := Lib.hid hst
    have hj := hst.lt
    have HG := Lib.hid hg
    have HSD := Lib.hid (fun w' (he : Ext w w') => side_any A cap got w' (hg.ext he) (by omega) hw)
    have HCO := Lib.hid hc
    clear hg hw hc
    clear hst
    go_wp2_with fail
    refine (none_any _).mono ?_
    rintro e w1 ⟨rfl, X1, rfl⟩
    unfold wNone
    go_upto_if 26 with (refine wpList_store_blk rfl 74 (.tmp 11) (.tmp 24) rfl bw [.complex .f64 0 4607182418800017408, .complex .f64 0 0, .complex .f64 0 0, .complex .f64 0 0, .complex .f64 0 0, .complex .f64 0 0, .complex .f64 0 0, .complex .f64 0 0] rfl rfl _ _ HST.out.wblk infoWords HST.out.vlen (by intro v hv; simp at hv; rcases hv with rfl | rfl <;> rfl) ?_)
    have HS1 := Lib.hid ((HST.out.put [.complex .f64 0 4607182418800017408, .complex .f64 0 0, .complex .f64 0 0, .complex .f64 0 0, .complex .f64 0 0, .complex .f64 0 0, .complex .f64 0 0, .complex .f64 0 0] rfl).patch X1)
    generalize (wr.putBlk bw (.cells (List.toArray [.complex .f64 0 4607182418800017408, .complex .f64 0 0, .complex .f64 0 0, .complex .f64 0 0, .complex .f64 0 0, .complex .f64 0 0, .complex .f64 0 0, .complex .f64 0 0]) 74)).patch X1 = wr1 at *
    clear HST
    go_cut [] (fun wx => ObjSt c kind got w j l ⟨arr, A', cap', refs⟩ bs bw (objHead kind got j) wx)
    case first =>
      by_cases h0 : j = 0
      · subst h0
        go_wp2_with fail
        refine (head_any _ _ _).mono ?_
        obtain ⟨p1, p2, hp⟩ := isCx_head kind 0
        rw [hp]
        have HP := Lib.hid hp
        clear hp
        rintro e w2 ⟨rfl, X2, rfl⟩
        go_wp2_with (refine wpList_store_one rfl 46 (.tmp 29) (.tmp 28) rfl bw 1 (.complex .f64 p1 p2) rfl rfl _ _ HS1.out.wblk (by kernel_rfl) (by decide) ⟨_, _, rfl⟩ ?_)
        have HS2 := Lib.hid ((HS1.out.put [.complex .f64 0 4607182418800017408, .complex .f64 p1 p2, .complex .f64 0 0, .complex .f64 0 0, .complex .f64 0 0, .complex .f64 0 0, .complex .f64 0 0, .complex .f64 0 0] rfl).patch X2)
        generalize (wr1.putBlk bw (.cells (List.toArray [.complex .f64 0 4607182418800017408, .complex .f64 p1 p2, .complex .f64 0 0, .complex .f64 0 0, .complex .f64 0 0, .complex .f64 0 0, .complex .f64 0 0, .complex .f64 0 0]) 74)).patch X2 = wr2 at *
        go_wp2_with fail
        refine (HSD.out _ HS2.out.ext).mono ?_
        rintro e w3 ⟨rfl, X3, rfl⟩
        have HS3 := Lib.hid (HS2.out.patch X3)
        generalize wr2.patch X3 = wr3 at *
        cases hsd : isSide got
        · have HQ := Lib.hid hsd
          clear hsd
          go_wp2_with fail
          go_meet
          rw [objHead_yes (by rw [HQ.out]; exact HP.out)]
          exact HS3.out
        · have HQ := Lib.hid hsd
          clear hsd
          go_wp2_with fail
          refine (head_any _ _ _).mono ?_
          obtain ⟨q1, q2, hq⟩ := isCx_head kind 1
          rw [hq]
          have HP1 := Lib.hid hq
          clear hq
          rintro e w4 ⟨rfl, X4, rfl⟩
          go_wp2_with (refine wpList_store_one rfl 46 (.tmp 34) (.tmp 33) rfl bw 1 (.complex .f64 q1 q2) rfl rfl _ _ HS3.out.wblk (by kernel_rfl) (show 1 < List.length (_ :: _ :: _ :: _ :: _ :: _ :: _ :: _ :: []) from (by decide : 1 < 8)) ⟨_, _, rfl⟩ ?_)
          go_meet
          rw [objHead_yes (by rw [HQ.out]; exact HP1.out)]
          exact (HS3.out.put _ rfl).patch X4
      · go_wp2_with fail
        go_meet
        rw [objHead_no h0]
        exact HS1.out
    case rest =>
      have HS2 := Lib.hid hcut
      clear hcut HS1
      go_upto_if 39 with fail
      go_cut [] (fun wx => ObjSt c kind got w j l ⟨arr, A', cap', refs⟩ bs bw (objInit kind got (isSide got) j) wx)
      case first =>
        by_cases h1 : j + 1 < got.length
        · obtain ⟨q, o, rfl, hq, hcell⟩ := ints_at (HG.out.ext HS2.out.ext) hj
          have k1 := hcell (j + 1) h1
          generalize hy : got.getD (j + 1) 0 = y at k1
          have HY := Lib.hid hy
          clear hy hcell
          go_wp2_with fail
          refine (ref_any _ _).mono ?_
          obtain ⟨p1, p2, hp⟩ := isCx_ref y
          rw [hp]
          have HP := Lib.hid hp
          clear hp
          rintro e w1 ⟨rfl, X2, rfl⟩
          go_wp2_with (refine wpList_store_one rfl 46 (.tmp 46) (.tmp 45) rfl bw 0 (.complex .f64 p1 p2) rfl rfl _ _ HS2.out.wblk (by kernel_rfl) (show 0 < (objHead kind got j).length from (by decide : 0 < 8)) ⟨_, _, rfl⟩ ?_)
          go_meet
          rw [objInit_yes h1 HY.out HP.out]
          exact (HS2.out.put _ rfl).patch X2
        · go_wp2_with fail
          go_meet
          rw [objInit_no h1]
          exact HS2.out
      case rest =>
        have HS3 := Lib.hid hcut
        clear hcut HS2
        have s0 : wc.cell? ⟨bs, 0, none⟩ = some (.bool arr) := (by simp only [World.cell?, HS3.out.sblk]; rfl)
        have s1 : wc.cell? ⟨bs, 1, none⟩ = some (.slice A' refs.length cap') := (by simp only [World.cell?, HS3.out.sblk]; rfl)
        have hbs : bs < wc.heap.size := (Array.getElem?_eq_some_iff.1 HS3.out.sblk).1
        have HFL := Lib.hid (fields_any ⟨arr, A', cap', refs⟩ j bw _ _ wc HS3.out.sok HS3.out.wblk (objInit_length _ _ _ _) (fun a ha hr => by have := HS3.out.sne a ha hr; omega))
        unfold Shp.val at HFL
        go_wp2_with fail
        refine HFL.out.mono ?_
        rintro e w4 ⟨rfl, X4, rfl⟩
        have HS4 := Lib.hid ((HS3.out.put (putFields ⟨arr, A', cap', refs⟩ j (objInit kind got (isSide got) j) refs.length) (putFields_length _ _ _ _)).patch X4)
        generalize (wc.putBlk bw (.cells (putFields ⟨arr, A', cap', refs⟩ j (objInit kind got (isSide got) j) refs.length).toArray 74)).patch X4 = wf at *
        clear s0 s1 hbs HFL HS3
        have hrow := objRow_cx ⟨arr, A', cap', refs⟩ kind got (isSide got) j
        have hrl := objRow_length ⟨arr, A', cap', refs⟩ kind got (isSide got) j
        have hwr : objWrites ⟨arr, A', cap', refs⟩ kind got (isSide got) (j + 1) = objWrites ⟨arr, A', cap', refs⟩ kind got (isSide got) j ++ writes (got.getD j 0) (rowF (objRow ⟨arr, A', cap', refs⟩ kind got (isSide got) j)) 8 := rfl
        have hre := cxs_rowF hrl hrow
        rw [show putFields ⟨arr, A', cap', refs⟩ j (objInit kind got (isSide got) j) refs.length = objRow ⟨arr, A', cap', refs⟩ kind got (isSide got) j from rfl, ← hre] at HS4
        generalize rowF (objRow ⟨arr, A', cap', refs⟩ kind got (isSide got) j) = f at *
        have HWR := Lib.hid hwr
        clear hrow hrl hwr hre
        obtain ⟨q, o, rfl, hq, hcell⟩ := ints_at (HG.out.ext HS4.out.ext) hj
        have k0 := hcell j hj
        have hfj : fragOk c (got.getD j 0) = true := List.all_eq_true.1 (wrongE_fine HS4.out.fine).2.1 _ (by rw [List.getD_eq_getElem?_getD, List.getElem?_eq_getElem hj]; exact List.getElem_mem hj)
        generalize got.getD j 0 = y at *
        have g0 : wf.cell? ⟨w.heap.size, 0, none⟩ = some (.int .i64 c.frags) := (by simp only [World.cell?, HS4.out.box]; rfl)
        have g1 : wf.cell? ⟨w.heap.size, 1, none⟩ = some (.int .i64 c.spine) := (by simp only [World.cell?, HS4.out.box]; rfl)
        have g2 : wf.cell? ⟨w.heap.size, 2, none⟩ = some (.int .i64 c.globals) := (by simp only [World.cell?, HS4.out.box]; rfl)
        have g3 : wf.cell? ⟨w.heap.size, 3, none⟩ = some (.int .i64 c.threads) := (by simp only [World.cell?, HS4.out.box]; rfl)
        have g4 : wf.cell? ⟨w.heap.size, 4, none⟩ = some (.int .i64 c.locals) := (by simp only [World.cell?, HS4.out.box]; rfl)
        have g5 : wf.cell? ⟨w.heap.size, 5, none⟩ = some (.int .i64 c.cache) := (by simp only [World.cell?, HS4.out.box]; rfl)
        have g6 : wf.cell? ⟨w.heap.size, 6, none⟩ = some (.int .i64 c.stack) := (by simp only [World.cell?, HS4.out.box]; rfl)
        have g7 : wf.cell? ⟨w.heap.size, 7, none⟩ = some (.int .i64 c.low) := (by simp only [World.cell?, HS4.out.box]; rfl)
        have g8 : wf.cell? ⟨w.heap.size, 8, none⟩ = some (.slice c.A c.shapes.length c.cap) := (by simp only [World.cell?, HS4.out.box]; rfl)
        have v0 : wf.cell? ⟨bw, 0, none⟩ = some (.complex .f64 (f 0).1 (f 0).2) := (by simp only [World.cell?, HS4.out.wblk]; rfl)
        have v1 : wf.cell? ⟨bw, 1, none⟩ = some (.complex .f64 (f 1).1 (f 1).2) := (by simp only [World.cell?, HS4.out.wblk]; rfl)
        have v2 : wf.cell? ⟨bw, 2, none⟩ = some (.complex .f64 (f 2).1 (f 2).2) := (by simp only [World.cell?, HS4.out.wblk]; rfl)
        have v3 : wf.cell? ⟨bw, 3, none⟩ = some (.complex .f64 (f 3).1 (f 3).2) := (by simp only [World.cell?, HS4.out.wblk]; rfl)
        have v4 : wf.cell? ⟨bw, 4, none⟩ = some (.complex .f64 (f 4).1 (f 4).2) := (by simp only [World.cell?, HS4.out.wblk]; rfl)
        have v5 : wf.cell? ⟨bw, 5, none⟩ = some (.complex .f64 (f 5).1 (f 5).2) := (by simp only [World.cell?, HS4.out.wblk]; rfl)
        have v6 : wf.cell? ⟨bw, 6, none⟩ = some (.complex .f64 (f 6).1 (f 6).2) := (by simp only [World.cell?, HS4.out.wblk]; rfl)
        have v7 : wf.cell? ⟨bw, 7, none⟩ = some (.complex .f64 (f 7).1 (f 7).2) := (by simp only [World.cell?, HS4.out.wblk]; rfl)
        have hbw : bw < wf.heap.size := (Array.getElem?_eq_some_iff.1 HS4.out.wblk).1
        have hbx : w.heap.size < wf.heap.size := (Array.getElem?_eq_some_iff.1 HS4.out.box).1
        have hb1 := HS4.out.lt1
        have hb2 := HS4.out.lt2
        have hsz := World.size_upTo wf (n := bw + 1) (by omega)
        have hfr : c.frags ≤ 1099511627776 := by have := (Cnf.ranged (Cnf.check_zero (wrongE_fine HS4.out.fine).1).1).1.2; omega
        have HLY := Lib.hid (fun X => lay_any c l (8 * j) (objWrites ⟨arr, A', cap', refs⟩ kind got (isSide got) j) y f (wf.patch X) (wf.upTo (bw + 1)) (bw + 1) (HCO.out.ext (HS4.out.ext.upTo (by omega) (by omega))) hfj ((ext_upTo wf (by omega)).patch X) (by omega) (by rw [World.size_patch]; omega) (own_ext HS4.out.own ⟨X, rfl⟩) (by omega) hfr)
        unfold Cnf.val at HLY
        clear hb1 hb2 hsz hfr hfj hcell
        go_wp2_with fail
        refine wp_region_mixed [true, true, true, true, true, true, true, false, false] 2 7 (by kernel_rfl) (by kernel_rfl) (by kernel_rfl) ?_ (by decide) (by decide) (by decide) (by kernel_rfl) ?_
        · intro c a d v w h; cases d <;> exact h
        intro X00
        simp only [pickOps]
        repeat (go_big_quiet_step (fail))
        refine wpQuiet_nil (fun X0 => ?_)
        clear X00
        refine wpAnyM_tailL rfl (by kernel_rfl) (fun X2 => ?_)
        simp only [List.drop_succ_cons, List.drop_zero]
        go_wp2_with fail
        refine (HLY.out _).mono ?_
        rintro e w6 ⟨v', rfl, hown, hE6, hz6⟩
        rw [← HWR.out] at hown
        have HOW := Lib.hid (show w6.ownsRow (bw + 1) 48 2 v' (8 * (j + 1)) (objWrites ⟨arr, A', cap', refs⟩ kind got (isSide got) (j + 1)) from hown)
        have HX6 := Lib.hid (show Ext (wf.upTo (bw + 1)) w6 from hE6)
        clear hown hE6 hz6 g0 g1 g2 g3 g4 g5 g6 g7 g8 v0 v1 v2 v3 v4 v5 v6 v7
        by_cases h1 : j + 1 < got.length
        · go_wp2_with fail
          go_step3
          refine ⟨rfl, ⟨j + 1, v', ⟨arr, A', cap', refs⟩, bs, bw, cxs f, _, _, _, _, _, _, _, _, _, _, _, _, _, _, _, _, _, _, _, _, _, _, _, _, _, _, _, _, _, _, _, _, _, _, _, _, _, _, _, _, _, _, _, _, _, _, _, _, _, _, _, _, _, _, _, _, _, rfl, HS4.out.lay HX6.out HOW.out h1⟩, ?_⟩
          simp [intOf]
          omega
        · have hb1 := HS4.out.lt1
          have hb2 := HS4.out.lt2
          have hlen : got.length = j + 1 := by omega
          have HLN := Lib.hid hlen
          clear hlen
          go_wp2_with fail
          rw [Exit.jump_ret]
          go_ret2
          exact ⟨⟨arr, A', cap', refs⟩, v', 8 * (j + 1), by rw [HS4.out.fine]; rfl, HS4.out.what, by rw [if_pos HS4.out.fine, HLN.out]; exact own_lower HOW.out (by omega), (HS4.out.ext.upTo (by omega) (by omega)).trans HX6.out⟩
  · intro H
    go_wp2_with fail
    refine (HW.out _ (by (repeat (first | (with_reducible assumption) | (with_reducible exact Ext.refl _) | (with_reducible exact Ext.more _ _ _ _) | apply Ext.alloc | refine Ext.setCell ?_ (by first | exact Nat.le_refl _ | exact Nat.le_add_right _ _ | assumption) _ | apply Ext.patch | apply Ext.drew | apply Ext.drewN)))).mono ?_
    rintro e w1 ⟨s, rfl, hs, hok, X1, rfl⟩
    have HS := Lib.hid hs
    have HO := Lib.hid hok
    clear hs hok
    by_cases hE : wrongE c (c.shapeAt kind).isSome s 0 false got = 0
    · rw [hE]
      have HE := Lib.hid hE
      have HH := Lib.hid H
      clear hE H
      obtain ⟨arr, A', cap', refs⟩ := s
      unfold Shp.val
      simp only
      go_wp2_with fail
      go_step3
      have hf := wrongE_fine HE.out
      have hz : (w.alloc (.cells #[.int .i64 c.frags, .int .i64 c.spine, .int .i64 c.globals, .int .i64 c.threads, .int .i64 c.locals, .int .i64 c.cache, .int .i64 c.stack, .int .i64 c.low, .slice c.A c.shapes.length c.cap] 24)).heap.size = w.heap.size + 1 := World.size_alloc _ _
      have hp := World.size_patch (w.alloc (.cells #[.int .i64 c.frags, .int .i64 c.spine, .int .i64 c.globals, .int .i64 c.threads, .int .i64 c.locals, .int .i64 c.cache, .int .i64 c.stack, .int .i64 c.low, .slice c.A c.shapes.length c.cap] 24)) X1
      refine (show ∀ (a : Act) (w : World), Code.wp _ _ _ a w → _ from by assumption) _ _ (HH.out _ _ ⟨0, .slice none 0 0, ⟨arr, A', cap', refs⟩, _, _, [.complex .f64 0 0, .complex .f64 0 0, .complex .f64 0 0, .complex .f64 0 0, .complex .f64 0 0, .complex .f64 0 0, .complex .f64 0 0, .complex .f64 0 0], _, _, _, _, _, _, _, _, _, _, _, _, _, _, _, _, _, _, _, _, _, _, _, _, _, _, _, _, _, _, _, _, _, _, _, _, _, _, _, _, _, _, _, _, _, _, _, _, _, _, _, _, _, _, _, _, _, rfl, ?_⟩)
      generalize hq : (w.alloc (.cells #[.int .i64 c.frags, .int .i64 c.spine, .int .i64 c.globals, .int .i64 c.threads, .int .i64 c.locals, .int .i64 c.cache, .int .i64 c.stack, .int .i64 c.low, .slice c.A c.shapes.length c.cap] 24)).patch X1 = wq at *
      have ha1 := fun o => World.size_alloc wq o
      refine { lt := by omega, box := ?_, sblk := ?_, wblk := ?_, vlen := rfl, sok := HO.out.ext (by (repeat (first | (with_reducible assumption) | (with_reducible exact Ext.refl _) | (with_reducible exact Ext.more _ _ _ _) | apply Ext.alloc | refine Ext.setCell ?_ (by first | exact Nat.le_refl _ | exact Nat.le_add_right _ _ | assumption) _ | apply Ext.patch | apply Ext.drew | apply Ext.drewN))), sne := fun a ha hr => ?_, ext := ?_, own := ?_, lt1 := by omega, lt2 := Nat.lt_succ_self _, what := HS.out, fine := HE.out }
      · rw [World.row_alloc_past _ (by rw [World.size_alloc]; omega), World.row_alloc_past _ (by omega), ← hq, World.heap_patch _ _ _ (by omega), World.row_alloc_new]
      · rw [World.row_alloc_past _ (by rw [World.size_alloc]; omega), World.row_alloc_new]
      · rw [← World.size_alloc wq, World.row_alloc_new]
      · obtain ⟨b, o, hA, hb, _⟩ := HO.out.refs.cases (by simpa using hr)
        rw [ha] at hA
        cases hA
        exact Nat.lt_succ_of_lt hb
      · rw [← hq]; exact (by (repeat (first | (with_reducible assumption) | (with_reducible exact Ext.refl _) | (with_reducible exact Ext.more _ _ _ _) | apply Ext.alloc | refine Ext.setCell ?_ (by first | exact Nat.le_refl _ | exact Nat.le_add_right _ _ | assumption) _ | apply Ext.patch | apply Ext.drew | apply Ext.drewN)))
      · exact ⟨rfl, Or.inl ⟨rfl, rfl⟩⟩
    · have HE := Lib.hid hE
      obtain ⟨arr, A', cap', refs⟩ := s
      unfold Shp.val
      simp only
      generalize hv : wrongE c (c.shapeAt kind).isSome ⟨arr, A', cap', refs⟩ 0 false got = ev at hE ⊢
      have HV := Lib.hid hv
      clear hv H
      go_wp2_with fail
      rw [Exit.jump_ret]
      go_ret2
      exact ⟨⟨arr, A', cap', refs⟩, .slice none 0 0, 0, by rw [HV.out]; rfl, HS.out, by rw [if_neg HE.out]; exact ⟨rfl, Or.inl ⟨rfl, rfl⟩⟩, by (repeat (first | (with_reducible assumption) | (with_reducible exact Ext.refl _) | (with_reducible exact Ext.more _ _ _ _) | apply Ext.alloc | refine Ext.setCell ?_ (by first | exact Nat.le_refl _ | exact Nat.le_add_right _ _ | assumption) _ | apply Ext.patch | apply Ext.drew | apply Ext.drewN))⟩
end Go.Proofs.Ythdijbkcjmeilaa
