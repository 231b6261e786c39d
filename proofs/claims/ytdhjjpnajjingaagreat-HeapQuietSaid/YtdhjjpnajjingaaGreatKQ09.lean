import Derived.Test.YtdhjjpnajjingaaGreatKQ08
import Derived.Deep.DeepCutAuto
set_option linter.unusedVariables false
set_option linter.unnecessarySimpa false
set_option linter.unusedSimpArgs false
open Bool renaming true→zT,false→zU
open Go.Value renaming int→zI
open Go.IntKind renaming i64→z6
set_option maxHeartbeats 8000000
set_option maxRecDepth 100000
open Go.Proofs.Tryz
open Go.Lib renaming hid→zH
open Go.Ext renaming alloc→zA,patch→zP,drew→zD,drewN→zN,more→zM,refl→zR,setCell→zS
open Nat renaming le_refl→zL,le_add_right→zK
namespace Go.Proofs.YtdhjjpnajjingaaGreat
open Go Go.RowKit
theorem yd6 (s:Shp) (frag:Int) (b:Nat) (t:TypeId) (vs:List Value) (w:World) (hs:s.Ok w) (hb:w.heap[b]?=some (.cells vs.toArray t)) (hv:vs.length=8) (hn: ∀a,s.A=some a→0<s.refs.length→b≠a.block):
 Calls prog 221 #[s.val,.int .i64 frag,.pointer (some ⟨b,0,none⟩)] w (fun e w'=>e=.returned (.tuple #[])∧ ∃X,w'=(w.putBlk b (.cells (putFields s frag vs s.refs.length).toArray t)).patch X):=by
 have hl:s.refs.length≤140737488355328:=hs.max;have hbs:=(Array.getElem?_eq_some_iff.1 hb).1;obtain ⟨arr,A,cap,refs⟩:=s;unfold Shp.val;simp only at hl hn ⊢;go_enter func221,ntmps221;go_wp2_with fail;go_loopw [14] (fun i wr=> ∃k:Nat,k≤refs.length∧i=.int .i64 k∧ ∃w1,w1=w.putBlk b (.cells (putFields ⟨arr,A,cap,refs⟩ frag vs k).toArray t)∧Ext (w1.alloc (.cells #[.bool arr,.slice A refs.length cap] 94)) wr) (fun i _=>refs.length-(intOf i).toNat)
 case atStart=>exact ⟨0,Nat.zero_le _,rfl,w,(World.putBlk_self _ hb).symm,zE⟩
 case round=>
  obtain ⟨k,hk,rfl,w1,hw1,X,rfl⟩:=hrel;have hs1:(⟨arr,A,cap,refs⟩:Shp).Ok w1:=by rw [hw1];exact hs.putBlk hn
  have HW:=zH hw1;have hsz:w.heap.size=w1.heap.size:=by rw [hw1,World.size_putBlk]
  rw [hsz];have HZ:=zH hsz;by_cases hlt:k<refs.length
  · have HP:=zH (fun w' (he:Ext w1 w')=>yfJ ⟨arr,A,cap,refs⟩ k w' (hs1.ext he) zo zo);have HR:=zH (show w1.heap[b]?=some (.cells (putFields ⟨arr,A,cap,refs⟩ frag vs k).toArray t) by rw [hw1,World.row_put _ hbs]);have HB:=zH (show b<w1.heap.size by rw [hw1,World.size_putBlk];exact hbs);have HL:=zH (yas ⟨arr,A,cap,refs⟩ frag vs k);have HN:=zH (@yc6 ⟨arr,A,cap,refs⟩ frag vs k);have HY:=zH (@ycz ⟨arr,A,cap,refs⟩ frag vs k);obtain ⟨q,o,hA,hq,hcell⟩:=hs1.refs.cases (by simp;omega);have g0:=hcell k (.bool (refs.getD k false)) (by simp [List.getD,List.getElem?_eq_getElem hlt]);have HX:=zH hn;simp only at hA;unfold Shp.val Shp.place at HP;subst hA;simp only at HP;generalize refs.getD k false=x at *;clear hw1 hb hs hs1 hcell hn hbs hsz;go_wp2_with fail;refine (HP.out _ zE).mono ?_;cases hf:Shp.hasField ⟨arr,some ⟨q,o,none⟩,cap,refs⟩ k
    · rintro e w2 ⟨rfl,X2,rfl⟩;have HT2:=zH (HN.out (by rw [hf];simp));clear hf;go_wp2_with fail;go_roundw
      case rel=>exact ⟨k+1,zo,by go_num,w1,by rw [HW.out,HT2.out],zE⟩
      case measure=>simp [intOf];omega
    · rintro e w2 ⟨rfl,X2,rfl⟩;by_cases hp:Shp.placeF k=frag
      · have HT2:=zH (HY.out ⟨hf,hp⟩);clear hf;rw [hp];clear hp;obtain ⟨m,hm,hm8⟩: ∃m:Nat,Shp.placeW k=m∧m<8:=⟨(Shp.placeW k).toNat,by have:=Shp.placeW_bd k zo;omega,by have:=Shp.placeW_bd k zo;omega⟩;rw [hm];have HM:=zH hm;clear hm;go_wp2_with fail;have hb1:=HB.out;have hc1:w1.cell? ⟨b,m,none⟩=some ((putFields ⟨arr,some ⟨q,o,none⟩,cap,refs⟩ frag vs k)[m]'(by rw [HL.out];omega)):=ya4 HR.out (List.getElem?_eq_getElem _);have hf1:w1.frozen? ⟨b,m,none⟩=false:=ybW HR.out;generalize (putFields ⟨arr,some ⟨q,o,none⟩,cap,refs⟩ frag vs k)[m]'(by rw [HL.out];omega)=z at hc1;refine ygc (base:=w1.alloc (.cells #[.bool arr,.slice (some ⟨q,o,none⟩) refs.length cap] 94)) zE (fun Z=>?_);clear HP HN HY X X2;obtain ⟨r1,r2,hbl⟩: ∃r1 r2,wBlank x=.complex .f64 r1 r2:=by cases x<;>exact ⟨_,_,rfl⟩
        have HBL:=zH hbl;clear hbl;refine yab [zT,zT,zT,zT,zT,zT,zU] 1 6 ?_;intro X00;simp only [pickOps];repeat (go_big_quiet_step ((go_at_call 227;exact Calls.added2 (yeX _ _))))
        refine wpQuiet_nil (fun X0=>?_);clear X00;refine yaj 6 _ zQ zQ rfl rfl (fun X1 K Q' hK=>?_);go_simp;rw [HBL.out];go_simp;refine hK _ _ (fun X2=>?_);clear hK K Q';go_wp2_with fail;go_roundw
        case rel=>exact ⟨k+1,zo,by go_num,w1.setCell ⟨b,m,none⟩ (.complex .f64 r1 r2),by rw [World.setCell_row _ HR.out,HT2.out,HM.out,HBL.out,List.setIfInBounds_toArray,Int.toNat_natCast,HW.out,World.putBlk_putBlk],zE⟩
        case measure=>simp [intOf];omega
      · have HT2:=zH (HN.out (fun h=>hp h.2));clear hf;go_wp2_with fail;go_roundw
        case rel=>exact ⟨k+1,zo,by go_num,w1,by rw [HW.out,HT2.out],zE⟩
        case measure=>simp [intOf];omega
  · obtain rfl:k=refs.length:=zo;go_wp2_with fail;refine bodyPost_end (results_none rfl _ _ _) rfl ⟨rfl,?_⟩;have he:Ext w1 ((w1.alloc (.cells #[.bool arr,.slice A refs.length cap] 94)).patch X):=zE;exact HW.out▸he
end Go.Proofs.YtdhjjpnajjingaaGreat
namespace Go
open Go.RowKit
def cxOf:Value→Nat × Nat
 |.complex _ a b=>(a,b)
 |_=>(0,0)
def IsCx (v:Value):Prop:= ∃a b,v=.complex .f64 a b
theorem IsCx.cx {v:Value} (h:IsCx v):Go.cx (cxOf v)=v:=by
 obtain ⟨a,b,rfl⟩:=h;rfl
theorem yfm:IsCx wNone:=⟨_,_,rfl⟩
theorem ycl:IsCx wZero:=⟨_,_,rfl⟩
theorem ycV (i:Int):IsCx (wRef i):=by unfold wRef;split<;>exact ⟨_,_,rfl⟩
theorem ybo (k m:Int):IsCx (wHead k m):=by unfold wHead;split<;>exact ⟨_,_,rfl⟩
theorem yej (b:Bool):IsCx (wBlank b):=by cases b<;>exact ⟨_,_,rfl⟩
theorem ybS (s:Shp) (frag:Int) (vs:List Value) (h: ∀v∈vs,IsCx v): ∀k, ∀v∈putFields s frag vs k,IsCx v
 |0=>h
 |k+1=>fun v hv=>by
  unfold putFields at hv;split at hv
  · rcases List.mem_or_eq_of_mem_set hv with hv|rfl
    · exact ybS s frag vs h k v hv
    · exact yej _
  · exact ybS s frag vs h k v hv
def rowF (l:List Value) (k:Nat):Nat × Nat:=cxOf (l.getD k wZero)
theorem ygr {l:List Value} (hl:l.length=8) (h: ∀v∈l,IsCx v):cxs (rowF l)=l:=by
 apply List.ext_getElem?;intro k;unfold cxs;rw [List.getElem?_map];by_cases hk:k<8
 · rw [List.getElem?_range hk,List.getElem?_eq_getElem zo];simp only [Option.map_some,Option.some.injEq,rowF,List.getD,List.getElem?_eq_getElem (show k<l.length by omega),Option.getD_some];exact (h _ (List.getElem_mem _)).cx
 · rw [List.getElem?_eq_none (by simp;omega),List.getElem?_eq_none zo];rfl
def objInit (kind:Int) (got:List Int) (side:Bool) (j:Nat):List Value:=
 [if j+1<got.length then wRef (got.getD (j+1) 0) else wNone,if j=0 then wHead kind (if side then 1 else 0) else wZero,wZero,wZero,wZero,wZero,wZero,wZero]
def objRow (s:Shp) (kind:Int) (got:List Int) (side:Bool) (j:Nat):List Value:=putFields s j (objInit kind got side j) s.refs.length
theorem ycx (s:Shp) (kind:Int) (got:List Int) (side:Bool) (j:Nat):(objRow s kind got side j).length=8:=yas _ _ _ _
theorem yfB (s:Shp) (kind:Int) (got:List Int) (side:Bool) (j:Nat): ∀v∈objRow s kind got side j,IsCx v:=by
 refine ybS _ _ _ (fun v hv=>?_) _;simp only [objInit,List.mem_cons,List.not_mem_nil,or_false] at hv;rcases hv with rfl|rfl|rfl|rfl|rfl|rfl|rfl|rfl
 · split
   · exact ycV _
   · exact yfm
 · split
   · exact ybo _ _
   · exact ycl
 all_goals exact ycl
def objWrites (s:Shp) (kind:Int) (got:List Int) (side:Bool):Nat→List Value
 |0=>[]
 |j+1=>objWrites s kind got side j++writes (got.getD j 0) (rowF (objRow s kind got side j)) 8
end Go
namespace Go.Proofs.YtdhjjpnajjingaaGreat
open Go Go.RowKit
def ObjGot (c:Cnf) (kind:Int) (got:List Int) (w:World) (e:Ending) (w':World):Prop:=
 ∃(s':Shp) (l:Value) (n:Nat),e=.returned (.tuple #[l,.int .i64 (wrongE c (c.shapeAt kind).isSome s' 0 false got)])∧(s'.arr,s'.refs)=(c.shapeAt kind).getD (false,[])∧
  w'.ownsRow w.heap.size 194 2 l n (if wrongE c (c.shapeAt kind).isSome s' 0 false got=0 then objWrites s' kind got (isSide got) got.length else [])∧Ext w w'
theorem yaY {c:Cnf} {is:Bool} {s:Shp} {n:Int} {array:Bool} {got:List Int} (h:wrongE c is s n array got=0):
 c.check=0∧got.all (fragOk c)=true∧is=true∧s.arr=array∧(got.length:Int)=s.size n∧1≤s.size n∧twiceIn got=false:=by
 unfold wrongE at h;split at h
 · omega
 split at h
 · omega
 split at h
 · omega
 split at h
 · omega
 rename_i h1 h2 h3 h4
 have h5:1≤s.size n:=by
  have hd:=ybX n;unfold Shp.size at h3 ⊢;split
  · rw [if_pos (by assumption)] at h3;omega
  · split
    · omega
    · split
      · omega
      · have:0≤s.len:=by unfold Shp.len;omega
        omega
 refine ⟨?_,?_,?_,?_,?_,h5,?_⟩
 · exact Decidable.byContradiction fun h=>h1 (Or.inl h)
 · cases hg:got.all (fragOk c)
   · exact absurd (Or.inr hg) h1
   · rfl
 · cases is
   · exact absurd (Or.inl rfl) h2
   · rfl
 · exact Decidable.byContradiction fun h=>h2 (Or.inr h)
 · exact Decidable.byContradiction fun h=>h4 (Or.inl h)
 · cases ht:twiceIn got
   · rfl
   · exact absurd (Or.inr ht) h4
structure ObjSt (c:Cnf) (kind:Int) (got:List Int) (w:World) (j:Nat) (l:Value) (s:Shp) (bs bw:Nat) (vs:List Value) (wr:World):Prop where
 lt:j<got.length
 box:wr.heap[w.heap.size]?=some (.cells #[.int .i64 c.frags,.int .i64 c.spine,.int .i64 c.globals,.int .i64 c.threads,.int .i64 c.locals,.int .i64 c.cache,.int .i64 c.stack,.int .i64 c.low,.slice c.A c.shapes.length c.cap] 34)
 sblk:wr.heap[bs]?=some (.cells #[.bool s.arr,.slice s.A s.refs.length s.cap] 94)
 wblk:wr.heap[bw]?=some (.cells vs.toArray 254)
 vlen:vs.length=8
 sok:s.Ok wr
 sne: ∀a,s.A=some a→0<s.refs.length→a.block<bw
 ext:Ext w wr
 own:wr.ownsRow (bw+1) 194 2 l (8*j) (objWrites s kind got (isSide got) j)
 lt1:w.heap.size<bs
 lt2:bs<bw
 what:(s.arr,s.refs)=(c.shapeAt kind).getD (false,[])
 fine:wrongE c (c.shapeAt kind).isSome s 0 false got=0
theorem ObjSt.put {c:Cnf} {kind:Int} {got:List Int} {w:World} {j:Nat} {l:Value} {s:Shp} {bs bw:Nat} {vs:List Value} {wr:World} (h:ObjSt c kind got w j l s bs bw vs wr) (L:List Value) (hL:L.length=8):
 ObjSt c kind got w j l s bs bw L (wr.putBlk bw (.cells L.toArray 254)):=by
 have hb:=(Array.getElem?_eq_some_iff.1 h.wblk).1;have h1:=h.lt1;have h2:=h.lt2;refine { lt:=h.lt,box:=?_,sblk:=?_,wblk:=World.row_put _ hb,vlen:=hL,sok:=h.sok.putBlk (fun a ha hr=>by have:=h.sne a ha hr;omega),sne:=h.sne,ext:=?_,own:=?_,lt1:=h1,lt2:=h2,what:=h.what,fine:=h.fine }
 · rw [World.row_put_other _ zo];exact h.box
 · rw [World.row_put_other _ zo];exact h.sblk
 · obtain ⟨b1,b2,b3,_,_⟩:=h.ext.below;exact yar ⟨b1,b2,b3,by rw [World.size_putBlk];exact h.ext.size,fun k hk=>by rw [World.row_put_other _ zo];exact h.ext.heap k hk⟩
 · obtain ⟨o1,o2⟩:=h.own;refine ⟨o1,?_⟩;rcases o2 with ⟨hv,hn⟩|⟨g,cap,cur,hv,hbg,hh,r⟩
   · exact Or.inl ⟨hv,hn⟩
   · exact Or.inr ⟨g,cap,cur,hv,hbg,by rw [World.row_put_other _ zo];exact hh,r⟩
theorem ObjSt.patch {c:Cnf} {kind:Int} {got:List Int} {w:World} {j:Nat} {l:Value} {s:Shp} {bs bw:Nat} {vs:List Value} {wr:World} (h:ObjSt c kind got w j l s bs bw vs wr) (X:Extra):ObjSt c kind got w j l s bs bw vs (wr.patch X):=by
 have hb:=(Array.getElem?_eq_some_iff.1 h.wblk).1;have hb1:=(Array.getElem?_eq_some_iff.1 h.box).1;have hb2:=(Array.getElem?_eq_some_iff.1 h.sblk).1;exact { lt:=h.lt,box:=by rw [World.heap_patch _ _ _ hb1];exact h.box,sblk:=by rw [World.heap_patch _ _ _ hb2];exact h.sblk,wblk:=by rw [World.heap_patch _ _ _ hb];exact h.wblk,vlen:=h.vlen,sok:=h.sok.ext ⟨X,rfl⟩,sne:=h.sne,ext:=h.ext.patch X,own:=yaZ h.own ⟨X,rfl⟩,lt1:=h.lt1,lt2:=h.lt2,what:=h.what,fine:=h.fine }
theorem ObjSt.lay {c:Cnf} {kind:Int} {got:List Int} {w:World} {j:Nat} {l:Value} {s:Shp} {bs bw:Nat} {vs:List Value} {wr:World} (h:ObjSt c kind got w j l s bs bw vs wr) {l':Value} {w':World} (he:Ext (wr.upTo (bw+1)) w') (ho:w'.ownsRow (bw+1) 194 2 l' (8*(j+1)) (objWrites s kind got (isSide got) (j+1))) (hj:j+1<got.length):
 ObjSt c kind got w (j+1) l' s bs bw vs w':=by
 have hb:=(Array.getElem?_eq_some_iff.1 h.wblk).1;have h1:=h.lt1;have h2:=h.lt2;have hz:=World.size_upTo wr (n:=bw+1) zo
 exact { lt:=hj,box:=by rw [he.heap _ zo,World.heap_upTo _ zo];exact h.box,sblk:=by rw [he.heap _ zo,World.heap_upTo _ zo];exact h.sblk,
         wblk:=by rw [he.heap _ zo,World.heap_upTo _ zo];exact h.wblk,vlen:=h.vlen,sok:=(h.sok.upTo zo (fun a ha hr=>Nat.lt_succ_of_lt (h.sne a ha hr))).ext he,sne:=h.sne,ext:=(h.ext.upTo zo zo).trans he,own:=ho,lt1:=h1,lt2:=h2,what:=h.what,fine:=h.fine }
theorem yfk:(prog.info? 254).map (·.size)=some 8:=zQ
def objHead (kind:Int) (got:List Int) (j:Nat):List Value:=[wNone,if j=0 then wHead kind (if isSide got then 1 else 0) else wZero,wZero,wZero,wZero,wZero,wZero,wZero]
theorem yer {kind:Int} {got:List Int} {j:Nat} (h: ¬j=0):objHead kind got j=[.complex .f64 0 4607182418800017408,.complex .f64 0 0,.complex .f64 0 0,.complex .f64 0 0,.complex .f64 0 0,.complex .f64 0 0,.complex .f64 0 0,.complex .f64 0 0]:=by unfold objHead;rw [if_neg h];rfl
theorem ybI {kind:Int} {got:List Int} {p q:Nat} (h:wHead kind (if isSide got then 1 else 0)=.complex .f64 p q):objHead kind got 0=List.set [.complex .f64 0 4607182418800017408,.complex .f64 0 0,.complex .f64 0 0,.complex .f64 0 0,.complex .f64 0 0,.complex .f64 0 0,.complex .f64 0 0,.complex .f64 0 0] 1 (.complex .f64 p q):=by unfold objHead;rw [if_pos rfl,h];rfl
theorem yes {kind:Int} {got:List Int} {j:Nat} (h: ¬j+1<got.length):objInit kind got (isSide got) j=objHead kind got j:=by unfold objInit objHead;rw [if_neg h]
theorem ydr {kind:Int} {got:List Int} {j:Nat} {y:Int} {p q:Nat} (h:j+1<got.length) (hy:got.getD (j+1) 0=y) (hp:wRef y=.complex .f64 p q):objInit kind got (isSide got) j=(objHead kind got j).set 0 (.complex .f64 p q):=by unfold objInit objHead;rw [if_pos h,hy,hp];rfl
theorem ycb (kind:Int) (got:List Int) (side:Bool) (j:Nat):(objInit kind got side j).length=8:=rfl
def ObjAt (c:Cnf) (kind:Int) (A:Option Addr) (cap:Nat) (got:List Int) (w:World) (a:Act) (wr:World):Prop:=
 ∃(j:Nat) (l:Value) (s:Shp) (bs bw:Nat) (vs:List Value) (u4 u5 u6 u7 u9 u13 u14 u15 u16 u17 u18 u19 u20 u21 u22 u23 u24 u25 u26 u27 u28 u29 u30 u31 u32 u33 u34 u35 u36 u37 u38 u39 u40 u41 u42 u43 u44 u45 u46 u47 u48 u49 u50 u51 u52 u53 u54 u55 u56 u57 u58 u59 u60 u61 u62 u63 u64:Value),a={ tmps:=#[(.agg #[.int .i64 c.frags,.int .i64 c.spine,.int .i64 c.globals,.int .i64 c.threads,.int .i64 c.locals,.int .i64 c.cache,.int .i64 c.stack,.int .i64 c.low,.slice c.A c.shapes.length c.cap]),.int .i64 kind,.slice A got.length cap,.pointer (some ⟨w.heap.size,0,none⟩),u4,u5,u6,u7,.pointer (some ⟨bs,0,none⟩),u9,l,.pointer (some ⟨bw,0,none⟩),.int .i64 j,u13,u14,u15,u16,u17,u18,u19,u20,u21,u22,u23,u24,u25,u26,u27,u28,u29,u30,u31,u32,u33,u34,u35,u36,u37,u38,u39,u40,u41,u42,u43,u44,u45,u46,u47,u48,u49,u50,u51,u52,u53,u54,u55,u56,u57,u58,u59,u60,u61,u62,u63,u64],defers:=[] }∧ObjSt c kind got w j l s bs bw vs wr
theorem yet (c:Cnf) (kind:Int) (A:Option Addr) (cap:Nat) (got:List Int) (w:World) (hc:c.Ok w) (hg:CellsAt w A (got.map (Value.int .i64))) (hl:got.length≤1000) (hw: ∀x∈got, -9223372036854775808≤x∧x≤9223372036854775807):
 Calls prog 157 #[c.val,.int .i64 kind,.slice A got.length cap] w (ObjGot c kind got w):=by
 have HW:=zH (fun w' (he:Ext w w')=>ygd c kind 0 false A cap got w' (hc.ext he) (hg.ext he) zo hw);unfold Cnf.val at HW ⊢;go_enter func157,ntmps157;go_wp2_with fail;refine ycE 0 (ObjAt c kind A cap got w) (fun a _=>got.length-(intOf (a.tmps.getD 12 undef)).toNat) rfl ?_ ?_
 · rintro a wr ⟨j,l,s,bs,bw,vs,u4,u5,u6,u7,u9,u13,u14,u15,u16,u17,u18,u19,u20,u21,u22,u23,u24,u25,u26,u27,u28,u29,u30,u31,u32,u33,u34,u35,u36,u37,u38,u39,u40,u41,u42,u43,u44,u45,u46,u47,u48,u49,u50,u51,u52,u53,u54,u55,u56,u57,u58,u59,u60,u61,u62,u63,u64,rfl,hst⟩;obtain ⟨arr,A',cap',refs⟩:=s;have HST:=zH hst;have hj:=hst.lt;have HG:=zH hg;have HSD:=zH (fun w' (he:Ext w w')=>yc8 A cap got w' (hg.ext he) zo hw);have HCO:=zH hc;clear hg hw hc;clear hst;go_wp2_with fail;refine (yaF _).mono ?_;rintro e w1 ⟨rfl,X1,rfl⟩;unfold wNone;go_upto_if 26 with (refine yb0 rfl 254 (.tmp 11) (.tmp 24) rfl bw [.complex .f64 0 4607182418800017408,.complex .f64 0 0,.complex .f64 0 0,.complex .f64 0 0,.complex .f64 0 0,.complex .f64 0 0,.complex .f64 0 0,.complex .f64 0 0] rfl rfl _ _ HST.out.wblk yfk HST.out.vlen (by intro v hv;simp at hv;rcases hv with rfl|rfl<;>rfl) ?_)
   have HS1:=zH ((HST.out.put [.complex .f64 0 4607182418800017408,.complex .f64 0 0,.complex .f64 0 0,.complex .f64 0 0,.complex .f64 0 0,.complex .f64 0 0,.complex .f64 0 0,.complex .f64 0 0] rfl).patch X1);generalize (wr.putBlk bw (.cells (List.toArray [.complex .f64 0 4607182418800017408,.complex .f64 0 0,.complex .f64 0 0,.complex .f64 0 0,.complex .f64 0 0,.complex .f64 0 0,.complex .f64 0 0,.complex .f64 0 0]) 254)).patch X1=wr1 at *;clear HST;go_cut [] (fun wx=>ObjSt c kind got w j l ⟨arr,A',cap',refs⟩ bs bw (objHead kind got j) wx)
   case first=>
    by_cases h0:j=0
    · subst h0;go_wp2_with fail;refine (ycR _ _ _).mono ?_;obtain ⟨p1,p2,hp⟩:=ybo kind 0;rw [hp];have HP:=zH hp;clear hp;rintro e w2 ⟨rfl,X2,rfl⟩;go_wp2_with (refine yaz rfl 24 (.tmp 29) (.tmp 28) rfl bw 1 (.complex .f64 p1 p2) rfl rfl _ _ HS1.out.wblk zQ zd ⟨_,_,rfl⟩ ?_);have HS2:=zH ((HS1.out.put [.complex .f64 0 4607182418800017408,.complex .f64 p1 p2,.complex .f64 0 0,.complex .f64 0 0,.complex .f64 0 0,.complex .f64 0 0,.complex .f64 0 0,.complex .f64 0 0] rfl).patch X2);generalize (wr1.putBlk bw (.cells (List.toArray [.complex .f64 0 4607182418800017408,.complex .f64 p1 p2,.complex .f64 0 0,.complex .f64 0 0,.complex .f64 0 0,.complex .f64 0 0,.complex .f64 0 0,.complex .f64 0 0]) 254)).patch X2=wr2 at *;go_wp2_with fail;refine (HSD.out _ HS2.out.ext).mono ?_;rintro e w3 ⟨rfl,X3,rfl⟩;have HS3:=zH (HS2.out.patch X3);generalize wr2.patch X3=wr3 at *;cases hsd:isSide got
      · have HQ:=zH hsd;clear hsd;go_wp2_with fail;go_meet
        rw [ybI (by rw [HQ.out];exact HP.out)];exact HS3.out
      · have HQ:=zH hsd;clear hsd;go_wp2_with fail;refine (ycR _ _ _).mono ?_;obtain ⟨q1,q2,hq⟩:=ybo kind 1;rw [hq];have HP1:=zH hq;clear hq;rintro e w4 ⟨rfl,X4,rfl⟩;go_wp2_with (refine yaz rfl 24 (.tmp 34) (.tmp 33) rfl bw 1 (.complex .f64 q1 q2) rfl rfl _ _ HS3.out.wblk zQ (show 1<List.length (_::_::_::_::_::_::_::_::[]) from (by decide:1<8)) ⟨_,_,rfl⟩ ?_);go_meet
        rw [ybI (by rw [HQ.out];exact HP1.out)];exact (HS3.out.put _ rfl).patch X4
    · go_wp2_with fail;go_meet
      rw [yer h0];exact HS1.out
   case rest=>
    have HS2:=zH hcut;clear hcut HS1;go_upto_if 39 with fail
    go_cut [] (fun wx=>ObjSt c kind got w j l ⟨arr,A',cap',refs⟩ bs bw (objInit kind got (isSide got) j) wx)
    case first=>
     by_cases h1:j+1<got.length
     · obtain ⟨q,o,rfl,hq,hcell⟩:=ybA (HG.out.ext HS2.out.ext) hj;have k1:=hcell (j+1) h1;generalize hy:got.getD (j+1) 0=y at k1;have HY:=zH hy;clear hy hcell;go_wp2_with fail;refine (yce _ _).mono ?_;obtain ⟨p1,p2,hp⟩:=ycV y;rw [hp];have HP:=zH hp;clear hp;rintro e w1 ⟨rfl,X2,rfl⟩;go_wp2_with (refine yaz rfl 24 (.tmp 46) (.tmp 45) rfl bw 0 (.complex .f64 p1 p2) rfl rfl _ _ HS2.out.wblk zQ (show 0<(objHead kind got j).length from (by decide:0<8)) ⟨_,_,rfl⟩ ?_);go_meet
       rw [ydr h1 HY.out HP.out];exact (HS2.out.put _ rfl).patch X2
     · go_wp2_with fail;go_meet
       rw [yes h1];exact HS2.out
    case rest=>
     have HS3:=zH hcut;clear hcut HS2;have s0:wc.cell? ⟨bs,0,none⟩=some (.bool arr):=(by simp only [World.cell?,HS3.out.sblk];rfl);have s1:wc.cell? ⟨bs,1,none⟩=some (.slice A' refs.length cap'):=(by simp only [World.cell?,HS3.out.sblk];rfl);have hbs:bs<wc.heap.size:=(Array.getElem?_eq_some_iff.1 HS3.out.sblk).1;have HFL:=zH (yd6 ⟨arr,A',cap',refs⟩ j bw _ _ wc HS3.out.sok HS3.out.wblk (ycb _ _ _ _) (fun a ha hr=>by have:=HS3.out.sne a ha hr;omega));unfold Shp.val at HFL;go_wp2_with fail;refine HFL.out.mono ?_;rintro e w4 ⟨rfl,X4,rfl⟩;have HS4:=zH ((HS3.out.put (putFields ⟨arr,A',cap',refs⟩ j (objInit kind got (isSide got) j) refs.length) (yas _ _ _ _)).patch X4);generalize (wc.putBlk bw (.cells (putFields ⟨arr,A',cap',refs⟩ j (objInit kind got (isSide got) j) refs.length).toArray 254)).patch X4=wf at *;clear s0 s1 hbs HFL HS3;have hrow:=yfB ⟨arr,A',cap',refs⟩ kind got (isSide got) j;have hrl:=ycx ⟨arr,A',cap',refs⟩ kind got (isSide got) j
     have hwr:objWrites ⟨arr,A',cap',refs⟩ kind got (isSide got) (j+1)=objWrites ⟨arr,A',cap',refs⟩ kind got (isSide got) j++writes (got.getD j 0) (rowF (objRow ⟨arr,A',cap',refs⟩ kind got (isSide got) j)) 8:=rfl;have hre:=ygr hrl hrow;rw [show putFields ⟨arr,A',cap',refs⟩ j (objInit kind got (isSide got) j) refs.length=objRow ⟨arr,A',cap',refs⟩ kind got (isSide got) j from rfl, ←hre] at HS4;generalize rowF (objRow ⟨arr,A',cap',refs⟩ kind got (isSide got) j)=f at *;have HWR:=zH hwr;clear hrow hrl hwr hre;obtain ⟨q,o,rfl,hq,hcell⟩:=ybA (HG.out.ext HS4.out.ext) hj;have k0:=hcell j hj;have hfj:fragOk c (got.getD j 0)=true:=List.all_eq_true.1 (yaY HS4.out.fine).2.1 _ (by rw [List.getD_eq_getElem?_getD,List.getElem?_eq_getElem hj];exact List.getElem_mem hj);generalize got.getD j 0=y at *;have g0:wf.cell? ⟨w.heap.size,0,none⟩=some (zI z6 c.frags):=(by simp only [World.cell?,HS4.out.box];rfl);have g1:wf.cell? ⟨w.heap.size,1,none⟩=some (zI z6 c.spine):=(by simp only [World.cell?,HS4.out.box];rfl);have g2:wf.cell? ⟨w.heap.size,2,none⟩=some (zI z6 c.globals):=(by simp only [World.cell?,HS4.out.box];rfl)
     have g3:wf.cell? ⟨w.heap.size,3,none⟩=some (zI z6 c.threads):=(by simp only [World.cell?,HS4.out.box];rfl);have g4:wf.cell? ⟨w.heap.size,4,none⟩=some (zI z6 c.locals):=(by simp only [World.cell?,HS4.out.box];rfl);have g5:wf.cell? ⟨w.heap.size,5,none⟩=some (zI z6 c.cache):=(by simp only [World.cell?,HS4.out.box];rfl);have g6:wf.cell? ⟨w.heap.size,6,none⟩=some (zI z6 c.stack):=(by simp only [World.cell?,HS4.out.box];rfl);have g7:wf.cell? ⟨w.heap.size,7,none⟩=some (zI z6 c.low):=(by simp only [World.cell?,HS4.out.box];rfl);have g8:wf.cell? ⟨w.heap.size,8,none⟩=some (.slice c.A c.shapes.length c.cap):=(by simp only [World.cell?,HS4.out.box];rfl);have v0:wf.cell? ⟨bw,0,none⟩=some (.complex .f64 (f 0).1 (f 0).2):=(by simp only [World.cell?,HS4.out.wblk];rfl);have v1:wf.cell? ⟨bw,1,none⟩=some (.complex .f64 (f 1).1 (f 1).2):=(by simp only [World.cell?,HS4.out.wblk];rfl);have v2:wf.cell? ⟨bw,2,none⟩=some (.complex .f64 (f 2).1 (f 2).2):=(by simp only [World.cell?,HS4.out.wblk];rfl);have v3:wf.cell? ⟨bw,3,none⟩=some (.complex .f64 (f 3).1 (f 3).2):=(by simp only [World.cell?,HS4.out.wblk];rfl)
     have v4:wf.cell? ⟨bw,4,none⟩=some (.complex .f64 (f 4).1 (f 4).2):=(by simp only [World.cell?,HS4.out.wblk];rfl);have v5:wf.cell? ⟨bw,5,none⟩=some (.complex .f64 (f 5).1 (f 5).2):=(by simp only [World.cell?,HS4.out.wblk];rfl);have v6:wf.cell? ⟨bw,6,none⟩=some (.complex .f64 (f 6).1 (f 6).2):=(by simp only [World.cell?,HS4.out.wblk];rfl);have v7:wf.cell? ⟨bw,7,none⟩=some (.complex .f64 (f 7).1 (f 7).2):=(by simp only [World.cell?,HS4.out.wblk];rfl);have hbw:bw<wf.heap.size:=(Array.getElem?_eq_some_iff.1 HS4.out.wblk).1;have hbx:w.heap.size<wf.heap.size:=(Array.getElem?_eq_some_iff.1 HS4.out.box).1;have hb1:=HS4.out.lt1;have hb2:=HS4.out.lt2;have hsz:=World.size_upTo wf (n:=bw+1) zo;have hfr:c.frags≤1099511627776:=by have:=(Cnf.ranged (Cnf.check_zero (yaY HS4.out.fine).1).1).1.2;omega
     have HLY:=zH (fun X=>yhE c l (8*j) (objWrites ⟨arr,A',cap',refs⟩ kind got (isSide got) j) y f (wf.patch X) (wf.upTo (bw+1)) (bw+1) (HCO.out.ext (HS4.out.ext.upTo zo zo)) hfj ((ygw wf zo).patch X) zo (by rw [World.size_patch];omega) (yaZ HS4.out.own ⟨X,rfl⟩) zo hfr);unfold Cnf.val at HLY;clear hb1 hb2 hsz hfr hfj hcell;go_wp2_with fail;refine yab [zT,zT,zT,zT,zT,zT,zT,zU,zU] 2 7 ?_;intro X00;simp only [pickOps];repeat (go_big_quiet_step (fail))
     refine wpQuiet_nil (fun X0=>?_);clear X00;refine yad rfl zQ (fun X2=>?_);simp only [List.drop_succ_cons,List.drop_zero];go_wp2_with fail;refine (HLY.out _).mono ?_;rintro e w6 ⟨v',rfl,hown,hE6,hz6⟩;rw [←HWR.out] at hown;have HOW:=zH (show w6.ownsRow (bw+1) 194 2 v' (8*(j+1)) (objWrites ⟨arr,A',cap',refs⟩ kind got (isSide got) (j+1)) from hown);have HX6:=zH (show Ext (wf.upTo (bw+1)) w6 from hE6);clear hown hE6 hz6 g0 g1 g2 g3 g4 g5 g6 g7 g8 v0 v1 v2 v3 v4 v5 v6 v7;by_cases h1:j+1<got.length
     · go_wp2_with fail;go_step3
       refine ⟨rfl,⟨j+1,v',⟨arr,A',cap',refs⟩,bs,bw,cxs f,_,_,_,_,_,_,_,_,_,_,_,_,_,_,_,_,_,_,_,_,_,_,_,_,_,_,_,_,_,_,_,_,_,_,_,_,_,_,_,_,_,_,_,_,_,_,_,_,_,_,_,_,_,_,_,_,_,rfl,HS4.out.lay HX6.out HOW.out h1⟩,?_⟩;simp [intOf];omega
     · have hb1:=HS4.out.lt1;have hb2:=HS4.out.lt2;have hlen:got.length=j+1:=zo;have HLN:=zH hlen;clear hlen;go_wp2_with fail;rw [Exit.jump_ret];go_ret2;exact ⟨⟨arr,A',cap',refs⟩,v',8*(j+1),by rw [HS4.out.fine];rfl,HS4.out.what,by rw [if_pos HS4.out.fine,HLN.out];exact ybs HOW.out zo,(HS4.out.ext.upTo zo zo).trans HX6.out⟩
 · intro H;go_wp2_with fail;refine (HW.out _ zE).mono ?_;rintro e w1 ⟨s,rfl,hs,hok,X1,rfl⟩;have HS:=zH hs;have HO:=zH hok;clear hs hok;by_cases hE:wrongE c (c.shapeAt kind).isSome s 0 false got=0
   · rw [hE];have HE:=zH hE;have HH:=zH H;clear hE H;obtain ⟨arr,A',cap',refs⟩:=s;unfold Shp.val;simp only;go_wp2_with fail;go_step3
     have hf:=yaY HE.out;have hz:(w.alloc (.cells #[.int .i64 c.frags,.int .i64 c.spine,.int .i64 c.globals,.int .i64 c.threads,.int .i64 c.locals,.int .i64 c.cache,.int .i64 c.stack,.int .i64 c.low,.slice c.A c.shapes.length c.cap] 34)).heap.size=w.heap.size+1:=World.size_alloc _ _;have hp:=World.size_patch (w.alloc (.cells #[.int .i64 c.frags,.int .i64 c.spine,.int .i64 c.globals,.int .i64 c.threads,.int .i64 c.locals,.int .i64 c.cache,.int .i64 c.stack,.int .i64 c.low,.slice c.A c.shapes.length c.cap] 34)) X1;refine (show∀(a:Act) (w:World),Code.wp _ _ _ a w→_ from by assumption) _ _ (HH.out _ _ ⟨0,.slice none 0 0,⟨arr,A',cap',refs⟩,_,_,[.complex .f64 0 0,.complex .f64 0 0,.complex .f64 0 0,.complex .f64 0 0,.complex .f64 0 0,.complex .f64 0 0,.complex .f64 0 0,.complex .f64 0 0],_,_,_,_,_,_,_,_,_,_,_,_,_,_,_,_,_,_,_,_,_,_,_,_,_,_,_,_,_,_,_,_,_,_,_,_,_,_,_,_,_,_,_,_,_,_,_,_,_,_,_,_,_,_,_,_,_,rfl,?_⟩);generalize hq:(w.alloc (.cells #[.int .i64 c.frags,.int .i64 c.spine,.int .i64 c.globals,.int .i64 c.threads,.int .i64 c.locals,.int .i64 c.cache,.int .i64 c.stack,.int .i64 c.low,.slice c.A c.shapes.length c.cap] 34)).patch X1=wq at *;have ha1:=fun o=>World.size_alloc wq o
     refine { lt:=by omega,box:=?_,sblk:=?_,wblk:=?_,vlen:=rfl,sok:=HO.out.ext zE,sne:=fun a ha hr=>?_,ext:=?_,own:=?_,lt1:=by omega,lt2:=Nat.lt_succ_self _,what:=HS.out,fine:=HE.out }
     · rw [World.row_alloc_past _ (by rw [World.size_alloc];omega),World.row_alloc_past _ zo, ←hq,World.heap_patch _ _ _ zo,World.row_alloc_new]
     · rw [World.row_alloc_past _ (by rw [World.size_alloc];omega),World.row_alloc_new]
     · rw [←World.size_alloc wq,World.row_alloc_new]
     · obtain ⟨b,o,hA,hb,_⟩:=HO.out.refs.cases (by simpa using hr);rw [ha] at hA;cases hA
       exact Nat.lt_succ_of_lt hb
     · rw [←hq];exact zE
     · exact ⟨rfl,Or.inl ⟨rfl,rfl⟩⟩
   · have HE:=zH hE;obtain ⟨arr,A',cap',refs⟩:=s;unfold Shp.val;simp only;generalize hv:wrongE c (c.shapeAt kind).isSome ⟨arr,A',cap',refs⟩ 0 false got=ev at hE ⊢;have HV:=zH hv;clear hv H;go_wp2_with fail;rw [Exit.jump_ret];go_ret2;exact ⟨⟨arr,A',cap',refs⟩,.slice none 0 0,0,by rw [HV.out];rfl,HS.out,by rw [if_neg HE.out];exact ⟨rfl,Or.inl ⟨rfl,rfl⟩⟩,zE⟩
def sentIn (got:List Int) (j:Nat):Value:=if j+1<got.length then wRef (got.getD (j+1) 0) else wNone
def sentWords (kind n m:Int) (got:List Int) (at_:Int):List Value:=[wNone,wHead kind 0,wWhole n,wWhole m]++
 (if m=0 then [sentIn got 0,sentIn got 1,sentIn got 2,sentIn got 3] else if m=1 then [wWhole at_,wZero,wZero,wZero] else [wRef (got.getD 1 0),wZero,wZero,wZero])
def cOf (c:Cnf) (a:Int):Int × Int × Int:=
 if a<0∨ ¬c.check=0 then (0,0,0)
 else if a<c.frags*8 then (1,a/8,a%8)
 else if a<c.frags*8+c.spine then (2,0,a-c.frags*8)
 else if a<c.frags*8+c.spine+c.spine then (3,0,a-c.frags*8-c.spine)
 else if a<c.frags*8+c.spine+c.spine+c.globals then (4,0,a-c.frags*8-c.spine-c.spine)
 else (0,0,0)
theorem yb5 (s:Shp) (n:Int) (w:World) (hs:s.Ok w):Calls prog 197 #[s.val,.int .i64 n] w (Gives (zI z6 (s.spine n)) w):=by
 have hl:s.refs.length≤140737488355328:=hs.max;have hc:=fun w' (he:Ext w w')=>ybB s w' (hs.ext he);obtain ⟨arr,A,cap,refs⟩:=s;unfold Shp.val at hc ⊢;simp only at hl hc ⊢;cases hm:Shp.may ⟨arr,A,cap,refs⟩
 · rw [hm] at hc;have HC:=zH hc;clear hc;have HV:=zH (show Shp.spine ⟨arr,A,cap,refs⟩ n=0 by simp [Shp.spine,hm]);clear hm;go_enter func197,ntmps197;go_wp2_with (go_at_call 116;refine (HC.out _ zE).mono ?_;rintro e w1 ⟨rfl,X1,rfl⟩);go_ret;exact Gives.int HV.out.symm zE
 · rw [hm] at hc;have HC:=zH hc;have HM:=zH hm;clear hc hm;cases arr
   · have HV:=zH (show Shp.spine ⟨false,A,cap,refs⟩ n=0 by simp [Shp.spine]);go_enter func197,ntmps197;go_wp2_with (go_at_call 116;refine (HC.out _ zE).mono ?_;rintro e w1 ⟨rfl,X1,rfl⟩);go_ret;exact Gives.int HV.out.symm zE
   · have hb:=ybX n;by_cases h4:sData n≤4
     · have HV:=zH (show Shp.spine ⟨true,A,cap,refs⟩ n=0 by unfold Shp.spine;rw [if_pos (by simp [h4])]);go_enter func197,ntmps197;go_wp2_with (first|(go_at_call 116;refine (HC.out _ zE).mono ?_;rintro e w1 ⟨rfl,X1,rfl⟩)|(go_at_call 224;refine (ybQ _ _).mono ?_;rintro e w1 ⟨rfl,X1,rfl⟩));go_ret;exact Gives.int HV.out.symm zE
     · have HV:=zH (show Shp.spine ⟨true,A,cap,refs⟩ n=sData n+2 by unfold Shp.spine;rw [if_neg (by simp [h4,HM.out])]);go_enter func197,ntmps197;go_wp2_with (first|(go_at_call 116;refine (HC.out _ zE).mono ?_;rintro e w1 ⟨rfl,X1,rfl⟩)|(go_at_call 224;refine (ybQ _ _).mono ?_;rintro e w1 ⟨rfl,X1,rfl⟩));go_ret;exact Gives.int HV.out.symm zE
theorem ycZ (s:Shp) (a b d n:Int) (x y:Nat) (w:World) (hs:s.Ok w):Calls prog 196 #[s.val,.agg #[.int .i64 1,.int .i64 a,.int .i64 b,.int .i64 d,.int .i64 n,.complex .f64 x y]] w (Gives (zI z6 (s.size 0)) w):=by
 have HC:=zH (fun w' (he:Ext w w')=>yc9 s 0 w' (hs.ext he));obtain ⟨arr,A,cap,refs⟩:=s;unfold Shp.val at HC ⊢;simp only at HC ⊢;go_enter func196,ntmps196;go_wp2_with (go_at_call 240;refine (HC.out _ zE).mono ?_;rintro e w1 ⟨rfl,X1,rfl⟩);go_ret;exact Gives.mk rfl zE
def modeOf (d:Int) (got:List Int):Int:=if d≤4 then 0 else if isSide got=true then 2 else 1
def beginsAt (c:Cnf) (at_ n:Int):Bool:=((cOf c at_).1==2 || (cOf c at_).1==3)&&decide ((cOf c at_).2.2+n≤c.spine)
end Go.Proofs.YtdhjjpnajjingaaGreat
namespace Go
open Go.RowKit
end Go
namespace Go.Proofs.YtdhjjpnajjingaaGreat
open Go Go.RowKit
def arrMode (n:Int) (got:List Int):Int:=modeOf (sData n) got
def arrE (c:Cnf) (is:Bool) (s:Shp) (n:Int) (got:List Int) (at_:Int):Int:=
 if wrongE c is s n true got=0 then (if (decide (arrMode n got=1)&& !beginsAt c at_ (s.spine n))=true then 2 else 0) else wrongE c is s n true got
def dataF (s:Shp):Nat→Nat × Nat:=fun _=>cxOf (wBlank (s.refs.getD 0 false))
def fragWrites (f0 f:Nat→Nat × Nat) (got:List Int):Nat→List Value
 |0=>[]
 |j+1=>fragWrites f0 f got j++writes (got.getD j 0) (if j=0 then f0 else f) 8
def spineW (got:List Int) (at_:Int):Nat→List Value
 |0=>[.int .i64 at_,wRef (got.getD 0 0),.int .i64 (at_+1),wWhole ((got.length:Int)-1)]
 |k+1=>spineW got at_ k++[.int .i64 (at_+2+k),wRef (got.getD (k+1) 0)]
def sentF (kind n at_:Int) (got:List Int):Nat→Nat × Nat:=rowF (sentWords kind n (arrMode n got) got at_)
def arrFrags (s:Shp) (kind n at_:Int) (got:List Int) (j:Nat):List Value:=fragWrites (sentF kind n at_ got) (dataF s) got j
def arrWrites (s:Shp) (kind n at_:Int) (got:List Int):List Value:=arrFrags s kind n at_ got got.length++if arrMode n got=1 then spineW got at_ (got.length-1) else []
structure ArrSt (c:Cnf) (kind n at_:Int) (got:List Int) (w:World) (j:Nat) (l:Value) (s:Shp) (bd bs:Nat) (vs:List Value) (wr:World):Prop where
 box:wr.heap[w.heap.size]?=some (.cells #[.int .i64 c.frags,.int .i64 c.spine,.int .i64 c.globals,.int .i64 c.threads,.int .i64 c.locals,.int .i64 c.cache,.int .i64 c.stack,.int .i64 c.low,.slice c.A c.shapes.length c.cap] 34)
 dblk:wr.heap[bd]?=some (.cells vs.toArray 254)
 sblk:wr.heap[bs]?=some (.cells #[.bool s.arr,.slice s.A s.refs.length s.cap] 94)
 vlen:vs.length=8
 vcx: ∀v∈vs,IsCx v
 sok:s.Ok wr
 slt: ∀a,s.A=some a→0<s.refs.length→a.block<bs
 ext:Ext w wr
 own:wr.ownsRow (bs+1) 194 2 l (8*j) (arrFrags s kind n at_ got j)
 lt1:w.heap.size<bd
 lt2:bd<bs
 what:(s.arr,s.refs)=(c.shapeAt kind).getD (false,[])
 fine0:wrongE c (c.shapeAt kind).isSome s n true got=0
theorem ArrSt.patch {c:Cnf} {kind n at_:Int} {got:List Int} {w:World} {j:Nat} {l:Value} {s:Shp} {bd bs:Nat} {vs:List Value} {wr w':World} (h:ArrSt c kind n at_ got w j l s bd bs vs wr) (he:Ext wr w'):ArrSt c kind n at_ got w j l s bd bs vs w':=by
 have hb:=(Array.getElem?_eq_some_iff.1 h.dblk).1;have hb1:=(Array.getElem?_eq_some_iff.1 h.box).1;have hb2:=(Array.getElem?_eq_some_iff.1 h.sblk).1;exact { box:=by rw [he.heap _ hb1];exact h.box,dblk:=by rw [he.heap _ hb];exact h.dblk,sblk:=by rw [he.heap _ hb2];exact h.sblk,vlen:=h.vlen,vcx:=h.vcx,sok:=h.sok.ext he,slt:=h.slt,ext:=h.ext.trans he,own:=yaZ h.own he,lt1:=h.lt1,lt2:=h.lt2,what:=h.what,fine0:=h.fine0 }
def ArrAt (c:Cnf) (kind n at_:Int) (A:Option Addr) (cap:Nat) (got:List Int) (w:World) (a:Act) (wr:World):Prop:=
 ∃(j:Nat) (l:Value) (s:Shp) (bd bs:Nat) (u:Nat→Value),a={ tmps:=#[(.agg #[.int .i64 c.frags,.int .i64 c.spine,.int .i64 c.globals,.int .i64 c.threads,.int .i64 c.locals,.int .i64 c.cache,.int .i64 c.stack,.int .i64 c.low,.slice c.A c.shapes.length c.cap]),.int .i64 kind,.int .i64 n,.slice A got.length cap,.int .i64 at_,.pointer (some ⟨w.heap.size,0,none⟩),u 6,u 7,u 8,u 9,u 10,u 11,l,.pointer (some ⟨bd,0,none⟩),.int .i64 (arrMode n got),.int .i64 j,.pointer (some ⟨bs,0,none⟩),.int .i64 0,u 18,u 19,u 20,u 21,u 22,u 23,u 24,u 25,u 26,u 27,u 28,u 29,u 30,u 31,u 32,u 33,u 34,u 35,u 36,u 37,u 38,u 39,u 40,u 41,u 42,u 43,u 44,u 45,u 46,u 47,u 48,u 49,u 50,u 51,u 52,u 53,u 54,u 55,u 56,u 57,u 58,u 59,u 60,u 61,u 62,u 63,u 64,u 65,u 66,u 67,u 68,u 69,u 70,u 71,u 72,u 73,u 74,u 75,u 76,u 77,u 78,u 79,u 80,u 81,u 82,u 83,u 84,u 85,u 86,u 87,u 88,u 89,u 90,u 91,u 92,u 93,u 94,u 95,u 96,u 97,u 98,u 99,u 100,u 101,u 102,u 103,u 104,u 105,u 106,u 107,u 108,u 109,u 110,u 111,u 112,u 113,u 114,u 115,u 116,u 117,u 118,u 119,u 120,u 121],defers:=[] }∧1≤j∧j≤got.length∧arrE c (c.shapeAt kind).isSome s n got at_=0∧ArrSt c kind n at_ got w j l s bd bs (cxs (dataF s)) wr
theorem ArrAt.of {c:Cnf} {kind n at_:Int} {A:Option Addr} {cap:Nat} {got:List Int} {w wr:World} {a:Act} (j:Nat) (l:Value) (s:Shp) (bd bs:Nat) (ha:a={ tmps:=#[(.agg #[.int .i64 c.frags,.int .i64 c.spine,.int .i64 c.globals,.int .i64 c.threads,.int .i64 c.locals,.int .i64 c.cache,.int .i64 c.stack,.int .i64 c.low,.slice c.A c.shapes.length c.cap]),.int .i64 kind,.int .i64 n,.slice A got.length cap,.int .i64 at_,.pointer (some ⟨w.heap.size,0,none⟩),(a.tmps.toList.getD 6 undef),(a.tmps.toList.getD 7 undef),(a.tmps.toList.getD 8 undef),(a.tmps.toList.getD 9 undef),(a.tmps.toList.getD 10 undef),(a.tmps.toList.getD 11 undef),l,.pointer (some ⟨bd,0,none⟩),.int .i64 (arrMode n got),.int .i64 j,.pointer (some ⟨bs,0,none⟩),.int .i64 0,(a.tmps.toList.getD 18 undef),(a.tmps.toList.getD 19 undef),(a.tmps.toList.getD 20 undef),(a.tmps.toList.getD 21 undef),(a.tmps.toList.getD 22 undef),(a.tmps.toList.getD 23 undef),(a.tmps.toList.getD 24 undef),(a.tmps.toList.getD 25 undef),(a.tmps.toList.getD 26 undef),(a.tmps.toList.getD 27 undef),(a.tmps.toList.getD 28 undef),(a.tmps.toList.getD 29 undef),(a.tmps.toList.getD 30 undef),(a.tmps.toList.getD 31 undef),(a.tmps.toList.getD 32 undef),(a.tmps.toList.getD 33 undef),(a.tmps.toList.getD 34 undef),(a.tmps.toList.getD 35 undef),(a.tmps.toList.getD 36 undef),(a.tmps.toList.getD 37 undef),(a.tmps.toList.getD 38 undef),(a.tmps.toList.getD 39 undef),(a.tmps.toList.getD 40 undef),(a.tmps.toList.getD 41 undef),(a.tmps.toList.getD 42 undef),(a.tmps.toList.getD 43 undef),(a.tmps.toList.getD 44 undef),(a.tmps.toList.getD 45 undef),(a.tmps.toList.getD 46 undef),(a.tmps.toList.getD 47 undef),(a.tmps.toList.getD 48 undef),(a.tmps.toList.getD 49 undef),(a.tmps.toList.getD 50 undef),(a.tmps.toList.getD 51 undef),(a.tmps.toList.getD 52 undef),(a.tmps.toList.getD 53 undef),(a.tmps.toList.getD 54 undef),(a.tmps.toList.getD 55 undef),(a.tmps.toList.getD 56 undef),(a.tmps.toList.getD 57 undef),(a.tmps.toList.getD 58 undef),(a.tmps.toList.getD 59 undef),(a.tmps.toList.getD 60 undef),(a.tmps.toList.getD 61 undef),(a.tmps.toList.getD 62 undef),(a.tmps.toList.getD 63 undef),(a.tmps.toList.getD 64 undef),(a.tmps.toList.getD 65 undef),(a.tmps.toList.getD 66 undef),(a.tmps.toList.getD 67 undef),(a.tmps.toList.getD 68 undef),(a.tmps.toList.getD 69 undef),(a.tmps.toList.getD 70 undef),(a.tmps.toList.getD 71 undef),(a.tmps.toList.getD 72 undef),(a.tmps.toList.getD 73 undef),(a.tmps.toList.getD 74 undef),(a.tmps.toList.getD 75 undef),(a.tmps.toList.getD 76 undef),(a.tmps.toList.getD 77 undef),(a.tmps.toList.getD 78 undef),(a.tmps.toList.getD 79 undef),(a.tmps.toList.getD 80 undef),(a.tmps.toList.getD 81 undef),(a.tmps.toList.getD 82 undef),(a.tmps.toList.getD 83 undef),(a.tmps.toList.getD 84 undef),(a.tmps.toList.getD 85 undef),(a.tmps.toList.getD 86 undef),(a.tmps.toList.getD 87 undef),(a.tmps.toList.getD 88 undef),(a.tmps.toList.getD 89 undef),(a.tmps.toList.getD 90 undef),(a.tmps.toList.getD 91 undef),(a.tmps.toList.getD 92 undef),(a.tmps.toList.getD 93 undef),(a.tmps.toList.getD 94 undef),(a.tmps.toList.getD 95 undef),(a.tmps.toList.getD 96 undef),(a.tmps.toList.getD 97 undef),(a.tmps.toList.getD 98 undef),(a.tmps.toList.getD 99 undef),(a.tmps.toList.getD 100 undef),(a.tmps.toList.getD 101 undef),(a.tmps.toList.getD 102 undef),(a.tmps.toList.getD 103 undef),(a.tmps.toList.getD 104 undef),(a.tmps.toList.getD 105 undef),(a.tmps.toList.getD 106 undef),(a.tmps.toList.getD 107 undef),(a.tmps.toList.getD 108 undef),(a.tmps.toList.getD 109 undef),(a.tmps.toList.getD 110 undef),(a.tmps.toList.getD 111 undef),(a.tmps.toList.getD 112 undef),(a.tmps.toList.getD 113 undef),(a.tmps.toList.getD 114 undef),(a.tmps.toList.getD 115 undef),(a.tmps.toList.getD 116 undef),(a.tmps.toList.getD 117 undef),(a.tmps.toList.getD 118 undef),(a.tmps.toList.getD 119 undef),(a.tmps.toList.getD 120 undef),(a.tmps.toList.getD 121 undef)],defers:=[] }) (h1:1≤j) (h2:j≤got.length) (h3:arrE c (c.shapeAt kind).isSome s n got at_=0) (h4:ArrSt c kind n at_ got w j l s bd bs (cxs (dataF s)) wr):ArrAt c kind n at_ A cap got w a wr:=
 ⟨j,l,s,bd,bs,fun i=>a.tmps.toList.getD i undef,ha,h1,h2,h3,h4⟩
end Go.Proofs.YtdhjjpnajjingaaGreat
namespace Go
end Go
namespace Go.Proofs.YtdhjjpnajjingaaGreat
open Go Go.RowKit
structure TraceS.Ok (S:TraceS):Prop where
 pc:0≤S.pc∧S.pc≤9
 rng:S.pc≠9→(0≤S.j∧S.j≤64)∧(0≤S.n∧S.n≤512)∧(0≤S.base∧S.base≤100000)
 chk:S.pc≠0→S.pc≠9→S.c.check=0∧S.shp.may=true
 wd:S.pc=1→S.words≠[]
 j3:S.pc=3→S.j+1≤64
 md:S.pc=7→S.mode=1∨S.mode=2
theorem TraceS.Ok.bd {S:TraceS} (h:S.Ok) (h0:S.pc≠0) (h9:S.pc≠9):S.Bd:=
 ⟨by have:=(h.rng h9).1;omega,(h.rng h9).2.1,(h.rng h9).2.2,(h.chk h0 h9).1,(h.chk h0 h9).2⟩
structure TrAt (g:GW) (t tm ts tt tp b bm bs bt bp:Nat) (w:TrW):Prop where
 tr:TraceAt g t b w.s
 mem:MemAt g tm bm w.m
 shd:ShdAt g ts bs bt tt bp tp w.T w.p w.k
theorem TrAt.keep {U:Nat→Prop} {g g':GW} {t tm ts tt tp b bm bs bt bp:Nat} {w:TrW} (h:TrAt g t tm ts tt tp b bm bs bt bp w) (m:Mod U g g') (h1: ¬U t) (h2: ¬U (t+1)) (h3: ¬U tm) (h4: ¬U ts) (h5: ¬U tt) (h6: ¬U tp):TrAt g' t tm ts tt tp b bm bs bt bp w:=⟨h.tr.keep m h1 h2,h.mem.keep m h3,h.shd.keep m h4 h5 h6⟩
namespace TrW
end TrW
section
variable {t tm ts tt tp b bm bs bt bp:Nat}
end
end Go.Proofs.YtdhjjpnajjingaaGreat
namespace Go.Proofs.YtdhjjpnajjingaaGreat
open Go Go.RowKit
namespace TrW
def go:Nat→TrW→TrW
 |0,w=>w
 |n+1,w=>(go n w).step
end TrW
section
variable {S:TraceS} {l:List (Nat × Nat)} {c k:Int} {T:TabS} {p:PileS}
end
structure ObjIn (cm:Cnf) (l:List (Nat × Nat)) (got:List Int) (kd md:Int) (refs:List Bool):Prop where
 one:1≤got.length
 check:cm.check=0
 gotb: ∀i,i<got.length→0≤got.getD i 0∧got.getD i 0<cm.frags
 shape:cm.shapeAt kd=some (false,refs)
 kdb:0≤kd∧kd≤1000000
 mdb:0≤md∧md≤1
 size:(got.length:Int)=Shp.size ⟨false,none,0,refs⟩ 0
 mlen: ∀a,0≤a→a<cm.frags*8→inB a l.length=true
 head:MemS.peek ⟨l,0⟩ (got.getD 0 0*8+1)=(floatOfInt .f64 kd,floatOfInt .f64 md)
 link: ∀i,i+1<got.length→MemS.peek ⟨l,0⟩ (got.getD i 0*8+0)=(floatOfInt .f64 (got.getD (i+1) 0+1),4607182418800017408)
 fld: ∀k:Nat,k<refs.length→refs.getD k false=true→wIs (MemS.peek ⟨l,0⟩ (got.getD (Shp.placeF k).toNat 0*8+Shp.placeW k))=true
section
variable {cm:Cnf} {l:List (Nat × Nat)} {got:List Int} {kd md:Int} {refs:List Bool}
theorem ObjIn.few (H:ObjIn cm l got kd md refs):cm.frags≤1024:=(Cnf.ranged (Cnf.check_zero H.check).1).1.2
end
end Go.Proofs.YtdhjjpnajjingaaGreat
namespace Go.Proofs.YtdhjjpnajjingaaGreat
open Go Go.RowKit
theorem Cnf.Same.shapeAt {c d:Cnf} (h:c.Same d) (k:Int):c.shapeAt k=d.shapeAt k:=by
 unfold Cnf.shapeAt;split
 · rfl
 · have e:=congrArg (fun l=>l[k.toNat]?) h.shapes;simp only [List.getElem?_map] at e;exact e
section
variable {got:List Int} {refs giv:List Bool}
end
end Go.Proofs.YtdhjjpnajjingaaGreat
namespace Go.Proofs.YtdhjjpnajjingaaGreat
open Go Go.RowKit
def TraceS.withC (S:TraceS) (c:Cnf):TraceS:={ S with c:=c }
namespace TrW
def withC (w:TrW) (c:Cnf):TrW:={ w with s:=w.s.withC c }
def wc (x:TrW × Bool) (c:Cnf):TrW × Bool:=(x.1.withC c,x.2)
variable {w:TrW} {c:Cnf}
end TrW
namespace CyW
def follows (W:CyW):CyW:=if W.y.i+1=W.K.c.frags then { W with y:={ W.y with at_:=0,i:=0 } } else { W with y:={ W.y with at_:=6,i:=W.y.i+1 } }
def stageG (W:CyW):Option CyW:=none
def stepG (W:CyW):Option CyW:=
 if (W.bdB&&(W.tick1.bdB&&W.y.e==0))=false then none
 else if W.y.stage=0 then some W.tick1.idles
 else W.tick1.stageG
def TrOk (W:CyW):Prop:= ∀S,W.tr=some S→S.Ok
end CyW
end Go.Proofs.YtdhjjpnajjingaaGreat
namespace Go
open Go.RowKit
def SpaceS.freed (S:SpaceS) (l:List Int):SpaceS:=l.foldl (fun S i=>{ S with tab:=S.tab.set i 0 false false,pool:=S.pool.give i }) S
end Go
namespace Go.Proofs.YtdhjjpnajjingaaGreat
open Go Go.RowKit
def drainN (S:SpaceS) (t:Int):Int:=if inB t S.stocks.length then ((stockOf S t).l.length:Int) else 0
def drainS (S:SpaceS) (t:Int):SpaceS:=if inB t S.stocks.length then ({ S.tick with stocks:=S.stocks.set t.toNat ⟨[],(stockOf S t).most⟩ }).freed (stockOf S t).l else S.tick
theorem ydz (t:Int) (g:GW) (B b bt:Nat) (S:SpaceS) (h:SpaceAt g B b bt S) (hB:100≤B) (hc:0≤S.count∧S.count≤1099511627776):
 Calls prog 73 #[.pointer (some ⟨b,0,none⟩),.int .i64 t] g.w (Does (zI z6 (drainN S t)) g (inst B) (fun g'=>SpaceAt g' B b bt (drainS S t))):=by
 obtain ⟨bp,bk,bl,A,cs,cm,bs,h⟩:=h;obtain ⟨hc0,hc1⟩:=hc;have M0:=zH (show Mod (inst B) g ⟨g.own,g.w.setCell ⟨b,3,none⟩ (zI z6 (S.count+1))⟩ from Mod.set (by rw [h.blk.own];exact ⟨zo,zo⟩));have H0:=zH (show SpaceIn ⟨g.own,g.w.setCell ⟨b,3,none⟩ (zI z6 (S.count+1))⟩ B b bt S.tick bp bk bl A cs cm bs from h.tick);have HST:=zH (ybK t h.tick);obtain ⟨a0,a1,a2,a3,a4,a5,a6,a7,a8,a9,a10,a11,a12,a13,a14,a15,al⟩:=h.blk.k16;have af3:=h.blk.liv 3;clear h;cases hin:inB t S.stocks.length
 · have HV:=zH (show drainN S t=0 by unfold drainN;rw [hin];rfl);have HW:=zH (show drainS S t=S.tick by unfold drainS;rw [hin];rfl);simp only [hin,Bool.false_eq_true,if_false] at HST;clear hin;go_enter func73,ntmps73;go_wp2_with fail;refine HST.out.mono ?_;rintro e w1 ⟨rfl,rfl⟩;go_wp2_with fail;go_ret;exact Does.of ⟨g.own,_⟩ rfl (by rw [HV.out];try rfl) M0.out (by rw [HW.out];exact ⟨_,_,_,_,_,_,_,H0.out⟩)
 · obtain ⟨k,rfl,hk⟩:=yai hin;obtain ⟨s,hs⟩: ∃s,S.stocks[k]?=some s:=⟨S.stocks[k],List.getElem?_eq_getElem hk⟩;obtain ⟨x,hx⟩: ∃x,bs[k]?=some x:=⟨bs[k]'(by have:=H0.out.blen;rw [this];exact hk),List.getElem?_eq_getElem _⟩;have HSO:=zH (show stockOf S k=s by unfold stockOf;rw [Int.toNat_natCast,List.getD_eq_getElem?_getD,hs];rfl);have HV:=zH (show drainN S k=(s.l.length:Int) by unfold drainN;rw [hin,HSO.out];rfl);have HW:=zH (show drainS S k=({ S.tick with stocks:=S.stocks.set k ⟨[],s.most⟩ }).freed s.l by unfold drainS;rw [hin,HSO.out,Int.toNat_natCast];rfl);have hbx:bs.getD k 0=x:=by rw [List.getD_eq_getElem?_getD,hx];rfl
   simp only [hin,if_true,Int.toNat_natCast,hbx] at HST;have HSA:=zH (H0.out.stock k x s hx hs);have HX:=zH hx;have HKL:=zH hk;have HD:=zH (ydB _ _ _ _ HSA.out);have hsl:s.l.length≤8:=by have h1:=HSA.out.most;have h2:=HSA.out.len;omega
   clear hin hbx hs hx hk;go_enter func73,ntmps73;go_wp2_with fail;refine HST.out.mono ?_;rintro e w1 ⟨rfl,rfl⟩;go_wp2_with fail;refine HD.out.mono ?_;rintro e w2 ⟨v,own2,rfl,m2,s2,r2⟩;obtain ⟨A2,c2,rfl⟩:=yag r2.row;have M2:=zH (M0.out.trans (m2.mono (fun y (hy:y=B+10+k)=>(⟨by have:=HKL.out;omega,by have:=HKL.out;have:=H0.out.few;simp only [SpaceS.tick] at this;omega⟩:inst B y))));have H2:=zH (H0.out.withStock HKL.out HX.out m2 s2);have R2:=zH r2;clear m2 s2 r2 a0 a1 a2 a3 a4 a5 a6 a7 a8 a9 a10 a11 a12 a13 a14 a15 al HST HD;go_wp2_with fail;go_loopw [25] (fun i wr=> ∃(j:Nat) (own:Nat→Nat),j≤s.l.length∧i=.int .i64 j∧Hid (Mod (inst B) g ⟨own,wr⟩)∧Hid (SpaceIn ⟨own,wr⟩ B b bt (({ S.tick with stocks:=S.stocks.set k ⟨[],s.most⟩ }).freed (s.l.take j)) bp bk bl A cs cm bs)∧Hid (Row ⟨own,wr⟩ (B+10+k) 3 1 (.slice A2 s.l.length c2) s.l.length (s.l.map (Value.int .i64)))) (fun i _=>s.l.length-(intOf i).toNat)
   case atStart=>exact ⟨0,own2,Nat.zero_le _,rfl,M2,H2,R2⟩
   case round=>
    obtain ⟨j,own3,hj,rfl,M3,H3,R3⟩:=hrel;clear M2 H2 R2;by_cases hlt:j<s.l.length
    · obtain ⟨q,o,hA,hq,hcell⟩:=yda R3.out.cells hlt;have k0:=hcell j hlt;simp only at k0 hq
      have HS:=zH (show ({ S.tick with stocks:=S.stocks.set k ⟨[],s.most⟩ }).freed (s.l.take (j+1))={ ({ S.tick with stocks:=S.stocks.set k ⟨[],s.most⟩ }).freed (s.l.take j) with tab:=(({ S.tick with stocks:=S.stocks.set k ⟨[],s.most⟩ }).freed (s.l.take j)).tab.set (s.l.getD j 0) 0 false false,pool:=(({ S.tick with stocks:=S.stocks.set k ⟨[],s.most⟩ }).freed (s.l.take j)).pool.give (s.l.getD j 0) } by
       unfold SpaceS.freed;rw [List.take_add_one,List.getElem?_eq_getElem hlt,List.getD_eq_getElem?_getD,List.getElem?_eq_getElem hlt,List.foldl_append];rfl)
      generalize s.l.getD j 0=y at *;subst hA;clear hcell;go_wp2_with fail;refine (ydA y H3.out hB).mono ?_;rintro e w4 ⟨rfl,own4,m4,h4⟩;have M4:=zH (M3.out.trans (m4.mono (fun z (hz:z=B+50∨z=B+1)=>(⟨zo,zo⟩:inst B z))));have H4:=zH h4;have R4:=zH (R3.out.keep m4 (by have:=HKL.out;have:=H0.out.few;simp only [SpaceS.tick] at this;omega));clear m4 h4;go_wp2_with fail;go_roundw
      case rel=>exact ⟨j+1,own4,zo,by go_num,M4,by rw [HS.out];exact H4,R4⟩
      case measure=>simp [intOf];omega
    · obtain rfl:j=s.l.length:=zo;have HS:=zH (show s.l.take s.l.length=s.l from List.take_of_length_le (Nat.le_refl _));go_wp2_with fail;go_ret;rw [HS.out] at H3;exact Does.of ⟨own3,_⟩ rfl (by rw [HV.out];try rfl) M3.out (by rw [HW.out];exact ⟨_,_,_,_,_,_,_,H3.out⟩)
structure FindS where
 c:Cnf
 head:Int
 k:Int
 array:Bool
 pc:Int
 frag:Int
 ahead:Int
 word:Int
 n:Int
 mode:Int
 slot:Int
 at_:Int
 ref:Bool
 e:Int
 steps:Int
namespace FindS
def cells (S:FindS):List Value:=[.int .i64 S.c.frags,.int .i64 S.c.spine,.int .i64 S.c.globals,.int .i64 S.c.threads,.int .i64 S.c.locals,.int .i64 S.c.cache,.int .i64 S.c.stack,.int .i64 S.c.low,.slice S.c.A S.c.shapes.length S.c.cap,
 .int .i64 S.head,.int .i64 S.k,.bool S.array,.int .i64 S.pc,.int .i64 S.frag,.int .i64 S.ahead,.int .i64 S.word,.int .i64 S.n,.int .i64 S.mode,.int .i64 S.slot,.int .i64 S.at_,.bool S.ref,.int .i64 S.e,.int .i64 S.steps]
def fresh (c:Cnf) (head k:Int) (array:Bool) (frag:Int):FindS:=⟨c,head,k,array,0,frag,0,0,0,0,0, -1,false,0,0⟩
def ends (S:FindS) (e:Int):FindS:={ S with pc:=6,e:=e,at_:= -1,ref:=false }
def okAt (S:FindS) (frag k:Int):Bool:=decide (S.c.check=0∧0≤frag∧frag<S.c.frags∧0≤k∧k<8)
def stands (S:FindS) (frag k:Int):FindS:=if S.okAt frag k then { S with pc:=6,at_:=frag*8+k } else S.ends 10
end FindS
structure FindAt (g:GW) (t b:Nat) (S:FindS):Prop where
 blk:Blk g t b 250 S.cells
 cnf:CnfAt g (t+1) S.c
theorem FindAt.keep {T:Nat→Prop} {g g':GW} {t b:Nat} {S:FindS} (h:FindAt g t b S) (m:Mod T g g') (h1: ¬T t) (h2: ¬T (t+1)):FindAt g' t b S:=⟨h.blk.keep m h1,h.cnf.keep m h2⟩
theorem FindAt.st {g:GW} {t b:Nat} {S:FindS} (h:FindAt g t b S) (i:Nat) (v:Value) (S':FindS) (hc:S'.cells=S.cells.set i v) (hcc:S'.c=S.c):FindAt ⟨g.own,g.w.setCell ⟨b,i,none⟩ v⟩ t b S':=by
 refine ⟨by rw [hc];exact h.blk.set i v,?_⟩;rw [hcc];exact h.cnf.keep (Mod.set (T:=fun x=>x=t) h.blk.own) zo
def rdM (S:FindS) (m:MemS) (frag k:Int):MemS:=if S.okAt frag k then m.tick else m
theorem yav {c d:Cnf} (h:c.Same d) (k:Int):c.shapeAt k=d.shapeAt k:=by
 have e: ∀l:List Shp, ∀n:Nat,(l[n]?).map (fun s=>(s.arr,s.refs))=(l.map Shp.data)[n]?:=fun l n=>by rw [List.getElem?_map];rfl
 unfold Cnf.shapeAt;rw [e,e,h.shapes]
namespace FindS
def okRd (S:FindS) (m:MemS) (frag k:Int):Bool:=S.okAt frag k&&inB (frag*8+k) m.l.length
def rdTell (S:FindS) (m:MemS):Option (Int × Int):=if S.okRd m S.head 1 then wTell (m.peek (S.head*8+1)) else none
def rdIndex (S:FindS) (m:MemS) (frag k:Int):Option Int:=if S.okRd m frag k then wIndex (m.peek (frag*8+k)) else none
def rdInt (S:FindS) (m:MemS) (frag k:Int):Option Int:=if S.okRd m frag k then wInt (m.peek (frag*8+k)) else none
def withRef (S:FindS) (r:Bool):FindS:={ S with ref:=r }
def linked (S:FindS) (nx:Int):FindS:={ S with frag:=nx,ahead:=S.ahead-1 }
def up (S:FindS):FindS:={ S with steps:=S.steps+1 }
abbrev R:=Option (Bool × FindS × MemS)
def firstO (S:FindS) (m:MemS) (kd md:Int) (arr:Bool) (refs:List Bool):R:=
 if arr≠S.array then some (true,S.ends 4,m.tick)
 else if arr=true then (if md=0∧0<refs.length then some (false,{ S with ref:=refs.getD 0 false,pc:=2 },m.tick) else none)
 else if S.k<0∨(refs.length:Int)≤S.k then (if md=1∨md=0 then some (true,S.ends 5,m.tick) else none)
 else if 40<refs.length then none
 else if md=1∨md=0∧Shp.placeF S.k=0 then (if 0≤S.head∧S.head≤100000 then some (true,(S.withRef (refs.getD S.k.toNat false)).stands (S.head+Shp.placeF S.k) (Shp.placeW S.k),m.tick) else none)
 else if md=0 then some (false,{ S with ref:=refs.getD S.k.toNat false,ahead:=Shp.placeF S.k,word:=Shp.placeW S.k,pc:=1 },m.tick)
 else none
def headO (S:FindS) (m:MemS):R:=match S.rdTell m with
 |none=>none
 |some (kd,md)=>match S.c.shapeAt kd with
  |none=>none
  |some (arr,refs)=>S.firstO m kd md arr refs
def linkO (S:FindS) (m:MemS):R:=match S.rdIndex m S.frag 0 with
 |none=>none
 |some nx=>if nx<S.c.frags∧1≤S.ahead∧S.ahead≤1000000 then
  some (S.ahead==1,(if S.ahead=1 then (S.linked nx).stands nx S.word else S.linked nx),m.tick) else none
def lengthO (S:FindS) (m:MemS):R:=match S.rdInt m S.head 2 with
 |none=>none
 |some i=>if 0≤i∧i≤512 then (if 0≤S.k∧S.k<i then some (false,{ S with n:=sData i,pc:=3 },m.tick) else some (true,S.ends 5,m.tick)) else none
def modeO (S:FindS) (m:MemS):R:=match S.rdInt m S.head 3 with
 |none=>none
 |some md=>if md=0∧S.n≤4∨(md=1∨md=2)∧4<S.n then some (false,{ S with mode:=md,pc:=4 },m.tick) else none
def dataO (S:FindS) (m:MemS):R:=
 if S.mode=0 then (if 0≤S.k∧S.k/8<4 then (match S.rdIndex m S.head (4+S.k/8) with|none=>none|some fr=>some (true,S.stands fr (S.k%8),m.tick)) else none)
 else if S.mode=2 then (if 0≤S.k∧S.k≤1000 then (match S.rdIndex m S.head 4 with|none=>none|some fr=>some (true,S.stands (fr+S.k/8) (S.k%8),m.tick)) else none)
 else if S.mode=1 then (match S.rdInt m S.head 4 with|none=>none|some a=>if 0≤a∧a<cWords S.c∧a≤1000000 then some (false,{ S with slot:=a,pc:=5 },m.tick) else none)
 else none
def slotO (S:FindS) (m:MemS):R:=
 if (0≤S.k∧S.k≤1000)∧(0≤S.slot∧S.slot≤1000000)∧inB (S.slot+2+S.k/8) m.l.length=true then
  (match wIndex (m.peek (S.slot+2+S.k/8)) with|none=>none|some fr=>some (true,S.stands fr (S.k%8),m.tick)) else none
def stepO (S:FindS) (m:MemS):R:=
 if S.pc=6 then some (true,S,m) else if S.pc=0 then S.up.headO m else if S.pc=1 then S.up.linkO m else if S.pc=2 then S.up.lengthO m
 else if S.pc=3 then S.up.modeO m else if S.pc=4 then S.up.dataO m else if S.pc=5 then S.up.slotO m else none
def withC (S:FindS) (cm:Cnf):FindS:={ S with c:=cm }
section
variable {S:FindS} {cm:Cnf}
end
end FindS
section
variable {t b tm bm:Nat}
end
end Go.Proofs.YtdhjjpnajjingaaGreat
namespace Go
open Go.RowKit
structure LVal where
 ref:Bool
 z:Nat × Nat
namespace LVal
def cells (v:LVal):List Value:=[.bool v.ref,.complex .f64 v.z.1 v.z.2]
def val (v:LVal):Value:=.agg #[.bool v.ref,.complex .f64 v.z.1 v.z.2]
def zero:LVal:=⟨false,(0,0)⟩
def none:LVal:=⟨true,(0,4607182418800017408)⟩
theorem cells_len (v:LVal):v.cells.length=2:=rfl
end LVal
structure ResS where
 op:Int
 own:Int
 e:Int
 v:LVal
namespace ResS
def zero:ResS:=⟨0,0,0,LVal.zero⟩
def val (r:ResS):Value:=.agg #[.int .i64 r.op,.int .i64 r.own,.int .i64 r.e,.bool r.v.ref,.complex .f64 r.v.z.1 r.v.z.2]
end ResS
def resV (x:ResS × Bool):Value:=.tuple #[x.1.val,.bool x.2]
def zWhole (n:Int):Nat × Nat:=(floatOfInt .f64 n,0)
def zNone:Nat × Nat:=(0,4607182418800017408)
def zRef (i:Int):Nat × Nat:=(floatOfInt .f64 (i+1),4607182418800017408)
def truthV (b:Bool):LVal:=⟨false,zWhole (if b then 1 else 0)⟩
end Go
namespace Go.Proofs.YtdhjjpnajjingaaGreat
open Go Go.RowKit
structure AcS where
 t:Int
 ops:List Opr
 locals:List LVal
 phase:Int
 status:Int
 sense:Bool
 next:Int
 pc:Int
 seen:Int
 grey:List Int
 own:Int
 at_:Int
 f:Option FindS
 addr:Int
 ref:Bool
 old:Nat × Nat
 w:Nat × Nat
 got:List Int
 writes:List Value
structure AcP where
 opsA:Option Addr
 opsC:Nat
 locA:Option Addr
 locC:Nat
 greyA:Option Addr
 greyC:Nat
 fp:Option Addr
 gotA:Option Addr
 gotC:Nat
 wrA:Option Addr
 wrC:Nat
namespace AcS
def cells (A:AcS) (p:AcP):List Value:=[.int .i64 A.t,.slice p.opsA A.ops.length p.opsC,.slice p.locA A.locals.length p.locC,.int .i64 A.phase,.int .i64 A.status,.bool A.sense,.int .i64 A.next,.int .i64 A.pc,.int .i64 A.seen,.slice p.greyA A.grey.length p.greyC,
 .int .i64 A.own,.int .i64 A.at_,.pointer p.fp,.int .i64 A.addr,.bool A.ref,.complex .f64 A.old.1 A.old.2,.complex .f64 A.w.1 A.w.2,.slice p.gotA A.got.length p.gotC,.slice p.wrA (A.writes.length/2) p.wrC]
def fresh (t:Int) (locals:Nat) (ops:List Opr):AcS:=⟨t,ops,List.replicate locals LVal.zero,0,0,false,0,0,0,[],0,0,none,0,false,(0,0),(0,0),[],[]⟩
def idle (A:AcS):AcS:={ A with own:=0,at_:=0,f:=none,addr:=0,ref:=false,old:=(0,0),w:=(0,0),got:=[],writes:=[] }
def began (A:AcS):AcS:={ A with phase:=2,own:=0,at_:=0,f:=none,addr:=0,ref:=false,old:=(0,0),w:=(0,0),got:=[],writes:=[] }
def loc (A:AcS) (i:Int):LVal:=A.locals.getD i.toNat LVal.zero
def op (A:AcS):Opr:=A.ops.getD A.next.toNat ⟨0,0,0,0,0,0,0⟩
def head (A:AcS) (i:Int):Int:=(wIndex (A.loc i).z).getD 0
def shades (A:AcS):Bool:=A.status==1 || (A.status==2 || A.status==3)
def both (A:AcS):Bool:=A.status==1 || A.status==2
def behind (A:AcS):Int:=if (wIndex A.w).isSome&&A.both then 5 else 6
def res (A:AcS) (v:LVal) (e:Int):ResS:=⟨A.next,A.own,e,if e=0 then v else LVal.zero⟩
def done (A:AcS):AcS:=if A.phase=4 then { A with next:=A.next+1 } else { A with next:=A.next+1,phase:=1,pc:=0 }
def chooses (A:AcS) (o:Opr):AcS:={ A with w:=(A.loc o.b).z,at_:=if A.ref&&A.shades then 3 else 6 }
def greys (l:List LVal):List Int:=l.filterMap fun v=>if v.ref then wIndex v.z else none
def mustL (A:AcS) (o:Opr):List LVal:=
 if o.kind=9∨o.kind=15∨o.kind=16 then [A.loc o.b,A.loc o.c] else if o.kind=3∨o.kind=5∨o.kind=10∨o.kind=11∨o.kind=8 then [A.loc o.b] else if o.kind=4∨o.kind=6 then [A.loc o.a] else []
def refB (o:Opr):Bool:= !(o.kind==15 || o.kind==16)
def someB (o:Opr):Bool:= !(o.kind==9 || o.kind==15 || o.kind==16 || o.kind==8)
def operandsE (A:AcS) (o:Opr):Int:=
 if (A.mustL o).any (fun v=>v.ref !=refB o) then 4 else if someB o&&(A.mustL o).any (fun v=>sameF v.z zNone) then 3 else 0
def plainV (A:AcS) (o:Opr):Option LVal:=
 if o.kind=9 then some (truthV (sameF (A.loc o.b).z (A.loc o.c).z)) else if o.kind=12 then some ⟨false,(o.re,o.im)⟩ else if o.kind=13 then some LVal.none else if o.kind=14 then some (A.loc o.b) else none
end AcS
def inL (c:Cnf) (i:Int):Bool:=decide (0≤i∧i<c.locals)
def inG (c:Cnf) (i:Int):Bool:=decide (0≤i∧i<c.globals)
def needF (c:Cnf) (o:Opr):Int:=Shp.size ⟨o.kind==2,none,0,((c.shapeAt o.b).getD (false,[])).2⟩ (if o.kind=2 then o.n else 0)
def needS (c:Cnf) (o:Opr):Int:=Shp.spine ⟨o.kind==2,none,0,((c.shapeAt o.b).getD (false,[])).2⟩ o.n
def opOk (c:Cnf) (o:Opr):Bool:=
 if o.kind=1∨o.kind=2 then inL c o.a&&(c.shapeAt o.b).isSome&&(((c.shapeAt o.b).getD (false,[])).1==(o.kind==2))&&decide (0≤needF c o)&&decide (needF c o≤c.frags)&&decide (needS c o≤c.spine)
 else if o.kind=3∨o.kind=4∨o.kind=5∨o.kind=6∨o.kind=10∨o.kind=11∨o.kind=14 then inL c o.a&&inL c o.b
 else if o.kind=7 then inL c o.a&&inG c o.n
 else if o.kind=8 then inL c o.b&&inG c o.n
 else if o.kind=9 then false
 else if o.kind=12∨o.kind=13 then inL c o.a
 else o.kind==17 || o.kind==18
def shpOf (c:Cnf) (b:Int):Shp:=⟨((c.shapeAt b).getD (false,[])).1,none,0,((c.shapeAt b).getD (false,[])).2⟩
structure AcW where
 a:AcS
 K:CoreS
abbrev AcR:=(ResS × Bool) × AcW
namespace AcW
def no (W:AcW):AcR:=((ResS.zero,false),W)
def withA (W:AcW) (A:AcS):AcW:={ W with a:=A }
def tickH (W:AcW):AcW:={ W with K:={ W.K with hand:=W.K.hand.tick } }
def spc (W:AcW) (S:SpaceS):AcW:={ W with K:={ W.K with sp:=S } }
def memW (W:AcW) (m:MemS):AcW:={ W with K:={ W.K with mem:=m } }
def greyK (W:AcW) (i:Int):AcW:={ W with K:={ W.K with sp:={ W.K.sp with tab:=W.K.sp.tab.grey i W.a.sense },pile:=W.K.pile.grey W.K.sp.tab i W.a.sense,n:=W.K.n+1 } }
def doneR (W:AcW) (v:LVal) (e:Int):AcR:=((W.a.res v e,true),{ W with a:=W.a.done })
def fails (W:AcW) (e:Int):AcR:=W.doneR LVal.zero e
def laysR (W:AcW) (i:Int) (v:LVal):AcR:=AcW.doneR { W with a:={ W.a with locals:=W.a.locals.set i.toNat v } } v 0
def looksB (W:AcW):Bool:=W.K.hand.status==W.a.status
def looksA (W:AcW):AcS:={ W.a with seen:=W.K.hand.status,grey:=if W.K.hand.status=3 then AcS.greys W.a.locals else [],pc:=if W.K.hand.status=3∧AcS.greys W.a.locals≠[] then 1 else 2,sense:=if W.K.hand.status=1 then W.K.hand.sense else W.a.sense }
def looks (W:AcW):AcW:=if W.looksB then W.tickH else W.tickH.withA W.looksA
def answersB (W:AcW):Bool:=W.a.pc !=1
def answers (W:AcW):AcW:=
 if W.a.pc=1 then (W.greyK (W.a.grey.headD 0)).withA { W.a with grey:=W.a.grey.tail,pc:=if W.a.grey.tail=[] then 2 else 1 }
 else { a:={ W.a with status:=W.a.seen },K:={ W.K with hand:=W.K.hand.answer W.a.t W.a.seen } }
def goes (W:AcW):AcW:={ a:={ W.a with phase:=4,locals:=List.replicate W.a.locals.length LVal.zero },K:={ W.K with hand:=W.K.hand.leave W.a.t } }
def border (W:AcW):AcW:=
 if W.a.pc=0 then (if !W.looksB then W.looks else if (W.a.ops.length:Int)≤W.a.next then W.looks.withA { W.a with pc:=3 } else W.looks.withA W.a.began)
 else if W.a.pc=1∨W.a.pc=2 then (if W.answersB then W.answers.withA { W.answers.a with pc:=0 } else W.answers)
 else if W.a.pc=3 then (W.spc (drainS W.K.sp W.a.t)).withA { W.a with pc:=4 }
 else if W.a.pc=4 then W.goes
 else W
def rdB (W:AcW) (frag k:Int):Bool:=decide (W.K.c.check=0∧0≤frag∧frag<W.K.c.frags∧0≤k∧k<8)&&inB (frag*8+k) W.K.mem.l.length
def takenW (W:AcW) (o:Opr) (got:List Int) (at_:Int):List Value:=
 if o.kind=1 then objWrites (shpOf W.K.c o.b) o.b got (isSide got) got.length else arrWrites (shpOf W.K.c o.b) o.b o.n at_ got
def takes (W:AcW) (o:Opr) (got:List Int) (at_:Int):AcW:=W.withA { W.a with writes:=W.takenW o got at_,got:=got,phase:=2,at_:=7 }
def takesOk (W:AcW) (o:Opr) (got:List Int) (at_:Int):Bool:=
 decide (got.length≤1000)&&(got.all (fun x=>decide (0≤x∧x≤1000000))&&(decide (-1≤at_∧at_≤1000000)&&(
 if o.kind=1 then wrongE W.K.c (W.K.c.shapeAt o.b).isSome (shpOf W.K.c o.b) 0 false got==0
 else arrE W.K.c (W.K.c.shapeAt o.b).isSome (shpOf W.K.c o.b) o.n got at_==0)))
def asks (W:AcW) (o:Opr):AcR:=
 let r:=ask W.K.sp W.a.t (needF W.K.c o) (needS W.K.c o) (W.a.sense !=W.a.both)
 if r.1.1=0 then ((W.spc r.2).withA { W.a with phase:=3,pc:=5 }).no else ((W.spc r.2).takes o r.1.2.1 r.1.2.2).no
def makes (W:AcW):AcR:=match W.a.writes with
 |.int _ a::.complex _ p q::l=>((W.memW (W.K.mem.tick.lay a (p,q))).withA { W.a with writes:=l,at_:=if l=[] then 8 else W.a.at_ }).no
 |_=>W.no
def bears (W:AcW) (o:Opr):AcR:=(W.spc { W.K.sp.tick with tab:=W.K.sp.tab.born (W.a.got.headD 0) }).laysR o.a ⟨true,zRef (W.a.got.headD 0)⟩
def found (W:AcW) (o:Opr) (x:Bool × FindS × MemS):AcR:=
 let V:=(W.memW x.2.2).withA { W.a with at_:=1,f:=some x.2.1 }
 if x.1=false then V.no
 else if x.2.1.e≠0 then V.fails x.2.1.e
 else
  let A:={ V.a with addr:=x.2.1.at_,ref:=decide (0≤x.2.1.at_)&&x.2.1.ref,at_:=2 }
  if o.kind=3∨o.kind=5 then (V.withA A).no
  else if (A.loc o.b).ref≠A.ref then (V.withA A).fails 4
  else (V.withA (A.chooses o)).no
def finds (W:AcW) (o:Opr):Option AcR:=match W.a.f with
 |none=>none
 |some F=>if 0≤F.steps∧F.steps≤1099511627776∧ -9223372036854775808≤F.k∧F.k≤9223372036854775807 then (F.stepO W.K.mem).map (W.found o) else none
def reads (W:AcW) (o:Opr):Option AcR:=
 if inB W.a.addr W.K.mem.l.length&&(!W.a.ref || wIs (W.K.mem.peek W.a.addr)) then some ((W.memW W.K.mem.tick).laysR o.a ⟨W.a.ref,W.K.mem.peek W.a.addr⟩) else none
def storesOld (W:AcW):AcR:=((W.greyK ((wIndex W.a.old).getD 0)).withA { W.a with at_:=W.a.behind }).no
def storesNew (W:AcW):AcR:=((W.greyK ((wIndex W.a.w).getD 0)).withA { W.a with at_:=6 }).no
def storesWrite (W:AcW):AcR:=(W.memW (W.K.mem.tick.lay W.a.addr W.a.w)).doneR LVal.zero 0
def storesRead (W:AcW):AcR:=((W.memW W.K.mem.tick).withA { W.a with old:=W.K.mem.peek W.a.addr,at_:=if (wIndex (W.K.mem.peek W.a.addr)).isSome then 4 else W.a.behind }).no
def stores (W:AcW):Option AcR:=
 if W.a.at_=4 then some W.storesOld else if W.a.at_=5 then some W.storesNew
 else if W.a.at_=6 then (if inB W.a.addr W.K.mem.l.length then some W.storesWrite else none)
 else if inB W.a.addr W.K.mem.l.length&&wIs (W.K.mem.peek W.a.addr) then some W.storesRead else none
def tells (W:AcW) (o:Opr):Option AcR:=
 if W.rdB (W.a.head o.b) 1 then (match wTell (W.K.mem.peek (W.a.head o.b*8+1)) with
  |none=>none
  |some (kd,md)=>match W.K.c.shapeAt kd with
   |none=>none
   |some (arr,refs)=>
    if md≤1∧(arr=false∨md=0) then
     (if o.kind=11 then some ((W.memW W.K.mem.tick).laysR o.a ⟨false,zWhole kd⟩)
     else if arr=false then some ((W.memW W.K.mem.tick).fails 4)
     else some ((W.memW W.K.mem.tick).withA { W.a with at_:=9 }).no)
    else none) else none
def counts (W:AcW) (o:Opr):Option AcR:=
 if W.rdB (W.a.head o.b) 2 then (match wInt (W.K.mem.peek (W.a.head o.b*8+2)) with
  |none=>none
  |some n=>if 0≤n∧n≤512 then some ((W.memW W.K.mem.tick).laysR o.a ⟨false,zWhole n⟩) else none) else none
def prog (W:AcW) (o:Opr):FindS:=
 if o.kind=3 then FindS.fresh W.K.c (W.a.head o.b) o.n false (W.a.head o.b) else if o.kind=4 then FindS.fresh W.K.c (W.a.head o.a) o.n false (W.a.head o.a)
 else if o.kind=5 then FindS.fresh W.K.c (W.a.head o.b) o.n true 0 else FindS.fresh W.K.c (W.a.head o.a) o.n true 0
def asksR (W:AcW) (o:Opr):AskR:=ask W.K.sp W.a.t (needF W.K.c o) (needS W.K.c o) (W.a.sense !=W.a.both)
def asksO (W:AcW) (o:Opr):Option AcR:=
 if (W.asksR o).1.1=0∨((W.asksR o).1.1=1∧(W.spc (W.asksR o).2).takesOk o (W.asksR o).1.2.1 (W.asksR o).1.2.2=true) then some (W.asks o) else none
def starts (W:AcW) (o:Opr):Option AcR:=
 if opOk W.K.c o=false then none
 else if W.a.operandsE o≠0 then some (W.fails (W.a.operandsE o))
 else match W.a.plainV o with
  |some v=>some (W.laysR o.a v)
  |none=>
   if o.kind=1∨o.kind=2 then W.asksO o
   else none
def within (W:AcW):Option AcR:=
 if W.a.at_=0 then W.starts W.a.op
 else if W.a.at_=7 then (match W.a.writes with
  |.int _ a::.complex _ p q::l=>if inB a W.K.mem.l.length then some W.makes else none
  |_=>none)
 else if W.a.at_=8 then (if W.a.got≠[]∧(W.K.sp.tab.state (W.a.got.headD 0)==2&& !W.K.sp.tab.head (W.a.got.headD 0))=true∧0≤W.a.got.headD 0∧W.a.got.headD 0≤1099511627776 then some (W.bears W.a.op) else none)
 else none
def lookR (W:AcW):AskR:=look W.K.sp W.a.t
def waiting (W:AcW):Option AcR:=
 if W.a.pc=5 then
  (if W.lookR.1.1=0 then some ((W.spc W.lookR.2).withA { W.a with pc:=0 }).no
  else if W.lookR.1.1=1 then (if (W.spc W.lookR.2).takesOk W.a.op W.lookR.1.2.1 W.lookR.1.2.2 then some ((W.spc W.lookR.2).takes W.a.op W.lookR.1.2.1 W.lookR.1.2.2).no else none)
  else if W.lookR.1.1=2 then some ((W.spc W.lookR.2).fails 6) else none)
 else if W.a.pc=0 then some (if W.looksB then W.looks.withA { W.a with pc:=5 } else W.looks).no
 else if W.a.pc=1∨W.a.pc=2 then some (if W.answersB then W.answers.withA { W.answers.a with pc:=5 } else W.answers).no
 else none
def joins (W:AcW):AcW:=
 { a:=if W.K.hand.mayJoin W.a.t then { W.a with status:=W.K.hand.status,sense:=W.K.hand.sense,phase:=1,pc:=0 } else { W.a with phase:=4 },K:={ W.K with hand:=W.K.hand.join W.a.t } }
def cntOk (n:Int):Bool:=decide (0≤n∧n≤1099511627776)
def bdB (W:AcW):Bool:=cntOk W.a.own&&cntOk W.a.next&&cntOk W.K.hand.count&&cntOk W.K.sp.count&&cntOk W.K.mem.count&&cntOk W.K.n&&decide (W.K.sp.line.length<1000000)
def greyOk (W:AcW):Bool:=W.a.pc !=1 || !W.a.grey.isEmpty
def opIn (W:AcW):Bool:=decide (W.a.next<W.a.ops.length)
def locOk (W:AcW):Bool:=decide ((W.a.locals.length:Int)=W.K.c.locals)
def up (W:AcW):AcW:=W.withA { W.a with own:=W.a.own+1 }
def step (W:AcW):Option AcR:=
 if W.bdB=false then none
 else if W.a.phase=0 then some W.joins.no
 else if W.a.phase=1 then (if W.greyOk then some W.border.no else none)
 else if W.a.phase=2 then (if W.opIn&&W.locOk then W.up.within else none)
 else if W.a.phase=3 then (if W.opIn&&W.greyOk then W.up.waiting else none)
 else if W.a.phase=4 then some W.no
 else none
end AcW
end Go.Proofs.YtdhjjpnajjingaaGreat
