import Derived.Test.YtdhjjpnajjingaaGreatKF03
import Derived.Deep.DeepCutAuto
set_option linter.unusedVariables false
set_option linter.unnecessarySimpa false
set_option linter.unusedSimpArgs false
open Bool renaming true→zT,false→zU
open Go.Value renaming int→zI,complex→zc,pointer→zp,bool→zb
open Go.IntKind renaming i64→z6
open Go.FloatKind renaming f64→z4
set_option maxHeartbeats 8000000
set_option maxRecDepth 100000
open Go.Proofs.Tryz
open Go.Lib renaming hid→zH
open Go.Ext renaming alloc→zA,patch→zP,drew→zD,drewN→zN,more→zM,refl→zR,setCell→zS
open Nat renaming le_refl→zL,le_add_right→zK
namespace Go.Proofs.YtdhjjpnajjingaaGreat
open Go Go.RowKit
structure TraceS where
 c:Cnf
 head:Int
 sense:Bool
 pc:Int
 arr:Bool
 refs:List Bool
 frag:Int
 j:Int
 words:List Int
 next:Int
 n:Int
 mode:Int
 base:Int
 e:Int
 steps:Int
namespace TraceS
def cells (S:TraceS) (sA:Option Addr) (sc:Nat) (wA:Option Addr) (wc:Nat):List Value:=[zI z6 S.c.frags,zI z6 S.c.spine,zI z6 S.c.globals,zI z6 S.c.threads,zI z6 S.c.locals,zI z6 S.c.cache,zI z6 S.c.stack,zI z6 S.c.low,.slice S.c.A S.c.shapes.length S.c.cap,
 zI z6 S.head,zb S.sense,zI z6 S.pc,zb S.arr,.slice sA S.refs.length sc,zI z6 S.frag,zI z6 S.j,.slice wA S.words.length wc,zI z6 S.next,zI z6 S.n,zI z6 S.mode,zI z6 S.base,zI z6 S.e,zI z6 S.steps]
def fresh (c:Cnf) (head:Int) (sense:Bool):TraceS:=⟨c,head,sense,0,false,[],head,0,[],0,0,0,0,0,0⟩
def okAt (S:TraceS) (frag k:Int):Bool:=decide (S.c.check=0∧0≤frag∧frag<S.c.frags∧0≤k∧k<8)
def rd (S:TraceS) (m:MemS) (frag k:Int):Option (Nat × Nat):=if S.okAt frag k&&inB (frag*8+k) m.l.length then some (m.peek (frag*8+k)) else none
def rdM (S:TraceS) (m:MemS) (frag k:Int):MemS:=if S.okAt frag k then m.tick else m
def shp (S:TraceS):Shp:=⟨S.arr,none,0,S.refs⟩
end TraceS
structure TrPl where
 sA:Option Addr
 sc:Nat
 wA:Option Addr
 wc:Nat
structure TraceIs (g:GW) (t b:Nat) (S:TraceS) (P:TrPl):Prop where
 blk:Blk g t b 208 (S.cells P.sA P.sc P.wA P.wc)
 cnf:CnfAt g (t+1) S.c
 shp:ShpAt g (t+1) ⟨S.arr,P.sA,P.sc,S.refs⟩
 words:Seg g (t+1) P.wA (S.words.map (zI z6))
 wlen:S.words.length≤P.wc∧P.wc≤9223372036854775807
def TraceAt (g:GW) (t b:Nat) (S:TraceS):Prop:= ∃P,TraceIs g t b S P
theorem TraceIs.keep {T:Nat→Prop} {g g':GW} {t b:Nat} {S:TraceS} {P:TrPl} (h:TraceIs g t b S P) (m:Mod T g g') (h1: ¬T t) (h2: ¬T (t+1)):TraceIs g' t b S P:=⟨h.blk.keep m h1,h.cnf.keep m h2,h.shp.keep m h2,h.words.keep m h2,h.wlen⟩
theorem TraceAt.keep {T:Nat→Prop} {g g':GW} {t b:Nat} {S:TraceS} (h:TraceAt g t b S) (m:Mod T g g') (h1: ¬T t) (h2: ¬T (t+1)):TraceAt g' t b S:=by
 obtain ⟨P,h⟩:=h;exact ⟨P,h.keep m h1 h2⟩
theorem TraceIs.st {g:GW} {t b:Nat} {S:TraceS} {P:TrPl} (h:TraceIs g t b S P) (i:Nat) (v:Value) (S':TraceS) (hc:S'.cells P.sA P.sc P.wA P.wc=(S.cells P.sA P.sc P.wA P.wc).set i v) (hcc:S'.c=S.c) (ha:S'.arr=S.arr) (hr:S'.refs=S.refs) (hw:S'.words=S.words):TraceIs ⟨g.own,g.w.setCell ⟨b,i,none⟩ v⟩ t b S' P:=by
 have m:Mod (fun x=>x=t) g ⟨g.own,g.w.setCell ⟨b,i,none⟩ v⟩:=Mod.set (T:=fun x=>x=t) h.blk.own;refine ⟨by rw [hc];exact h.blk.set i v,?_,?_,?_,?_⟩
 · rw [hcc];exact h.cnf.keep m zo
 · rw [ha,hr];exact h.shp.keep m zo
 · rw [hw];exact h.words.keep m zo
 · rw [hw];exact h.wlen
theorem yg2 (g:GW) (t b:Nat) (S:TraceS) (h:TraceAt g t b S):Calls prog 168 #[zp (some ⟨b,0,none⟩)] g.w (fun e w'=>e=.returned (zI z6 S.e)∧g.w=w'):=by
 obtain ⟨P,h⟩:=h;have c0:=h.blk.cell (i:=21) rfl;have hl:=h.blk.lt;clear h;go_enter func168,ntmps168;go_wp2_with fail;go_ret;exact ⟨rfl,rfl⟩
def TraceMade (c:Cnf) (head:Int) (sense:Bool) (t:Nat) (g:GW) (e:Ending) (w':World):Prop:= ∃own' b cm,e=.returned (zp (some ⟨b,0,none⟩))∧Mod (fun _=>False) g ⟨own',w'⟩∧TraceAt ⟨own',w'⟩ t b (TraceS.fresh cm head sense)∧cm.Same c
theorem ykt (c:Cnf) (head:Int) (sense:Bool) (t:Nat) (g:GW) (hc:c.Ok g.w) (hmax:c.shapes.length≤1000000):Calls prog 93 #[c.val,zI z6 head,zb sense] g.w (TraceMade c head sense t g):=by
 have HC:=zH (ybG c (t+1) (g.to 9 (g.w.alloc (.cells #[zI z6 c.frags,zI z6 c.spine,zI z6 c.globals,zI z6 c.threads,zI z6 c.locals,zI z6 c.cache,zI z6 c.stack,zI z6 c.low,.slice c.A c.shapes.length c.cap] 34))) (hc.ext zE) hmax);have HE0:=zH (Mod.ext (T:=fun _=>False) (g:=g) (show Ext g.w (g.w.alloc (.cells #[zI z6 c.frags,zI z6 c.spine,zI z6 c.globals,zI z6 c.threads,zI z6 c.locals,zI z6 c.cache,zI z6 c.stack,zI z6 c.low,.slice c.A c.shapes.length c.cap] 34)) from zE) 9);unfold Cnf.val at HC ⊢;clear hc;go_enter func93,ntmps93;go_wp2_with fail;refine HC.o.mono ?_;rintro e w1 ⟨cm,rfl,hs,hm,hE⟩;have HS:=zH hs;have HM:=zH hm;have HE1:=zH (Mod.ext (T:=fun _=>False) (g:=g.to 9 (g.w.alloc (.cells #[zI z6 c.frags,zI z6 c.spine,zI z6 c.globals,zI z6 c.threads,zI z6 c.locals,zI z6 c.cache,zI z6 c.stack,zI z6 c.low,.slice c.A c.shapes.length c.cap] 34))) hE (t+1));clear hs hm hE;unfold Cnf.val;go_wp2_with fail;go_ret
 have m2:Mod (fun _=>False) ((g.to 9 (g.w.alloc (.cells #[zI z6 c.frags,zI z6 c.spine,zI z6 c.globals,zI z6 c.threads,zI z6 c.locals,zI z6 c.cache,zI z6 c.stack,zI z6 c.low,.slice c.A c.shapes.length c.cap] 34))).to (t+1) w1) _:=Mod.ext (T:=fun _=>False) (show Ext w1 (w1.alloc (.cells ((TraceS.fresh cm head sense).cells none 0 none 0).toArray 208)) from zE) t;exact ⟨_,w1.heap.size,cm,rfl,(HE0.o.trans HE1.o).trans m2,⟨⟨none,0,none,0⟩,Blk.new ((g.to 9 (g.w.alloc (.cells #[zI z6 c.frags,zI z6 c.spine,zI z6 c.globals,zI z6 c.threads,zI z6 c.locals,zI z6 c.cache,zI z6 c.stack,zI z6 c.low,.slice c.A c.shapes.length c.cap] 34))).to (t+1) w1) t 208 ((TraceS.fresh cm head sense).cells none 0 none 0),HM.o.keep m2 id,⟨Seg.nil _ _ _,Nat.le_refl _,by simp [TraceS.fresh]⟩,Seg.nil _ _ _,Nat.le_refl _,zd⟩,HS.o⟩
theorem ykq {S:TraceS} {frag k:Int} (h:S.okAt frag k=true):cFrag S.c frag k=.tuple #[zI z6 (frag*8+k),zI z6 0]:=by
 have h':S.c.check=0∧0≤frag∧frag<S.c.frags∧0≤k∧k<8:=by simpa [TraceS.okAt] using h
 unfold cFrag;rw [if_pos h']
theorem ylk {S:TraceS} {frag k:Int} (h:S.okAt frag k=false):cFrag S.c frag k=.tuple #[zI z6 0,zI z6 1]:=by
 have h': ¬(S.c.check=0∧0≤frag∧frag<S.c.frags∧0≤k∧k<8):=by intro hh;rw [show S.okAt frag k=true from by simpa [TraceS.okAt] using hh] at h;cases h
 unfold cFrag;rw [if_neg h']
def trdV (o:Option (Nat × Nat)):Value:=.tuple #[zc z4 (o.getD (0,0)).1 (o.getD (0,0)).2,zb o.isSome]
theorem ycm (g:GW) (t b tm bm:Nat) (S:TraceS) (m:MemS) (frag k:Int) (h:TraceAt g t b S) (hm:MemAt g tm bm m) (hc:0≤m.count∧m.count≤1099511627776):
 Calls prog 261 #[zp (some ⟨b,0,none⟩),zp (some ⟨bm,0,none⟩),zI z6 frag,zI z6 k] g.w (Does (trdV (S.rd m frag k)) g (fun x=>x=tm) (fun g'=>MemAt g' tm bm (S.rdM m frag k))):=by
 obtain ⟨P,h⟩:=h;have k0:=h.blk.cell (i:=0) rfl;have k1:=h.blk.cell (i:=1) rfl;have k2:=h.blk.cell (i:=2) rfl;have k3:=h.blk.cell (i:=3) rfl;have k4:=h.blk.cell (i:=4) rfl;have k5:=h.blk.cell (i:=5) rfl;have k6:=h.blk.cell (i:=6) rfl;have k7:=h.blk.cell (i:=7) rfl;have k8:=h.blk.cell (i:=8) rfl;have hl:=h.blk.lt;have HF:=zH (ybL S.c frag k g.w h.cnf.ok);have HM:=zH hm;unfold Cnf.val at HF;clear h hm;cases hok:S.okAt frag k
 · have HV:=zH (show S.rd m frag k=none by unfold TraceS.rd;rw [hok];rfl);have HV2:=zH (show S.rdM m frag k=m by unfold TraceS.rdM;rw [if_neg (by rw [hok];simp)]);rw [ylk hok] at HF;clear hok;go_enter func261,ntmps261;go_wp2_with fail;refine HF.o.mono ?_;rintro e w1 ⟨rfl,hE⟩;have HE:=zH (Mod.ext (T:=fun _=>False) (g:=g) (show Ext g.w w1 from hE) 0);clear hE;go_wp2_with fail;go_ret2;exact ⟨by rw [HV.o];rfl,(g.to 0 w1).own,HE.o.mono zG,by rw [HV2.o];exact HM.o.keep HE.o id⟩
 · have HV2:=zH (show S.rdM m frag k=m.tick by unfold TraceS.rdM;rw [if_pos hok]);rw [ykq hok] at HF;go_enter func261,ntmps261;go_wp2_with fail;refine HF.o.mono ?_;rintro e w1 ⟨rfl,hE⟩;have HE:=zH (Mod.ext (T:=fun _=>False) (g:=g) (show Ext g.w w1 from hE) 0);have HM1:=zH (HM.o.keep HE.o id);clear hE;go_wp2_with fail;refine (ybP (g.to 0 w1) tm bm (frag*8+k) m HM1.o hc).mono ?_;rintro e w2 ⟨rfl,own2,m2,r2⟩;have M2:=zH m2;have R2:=zH r2;clear m2 r2;cases hb:inB (frag*8+k) m.l.length
   · have HV:=zH (show S.rd m frag k=none by unfold TraceS.rd;rw [hok,hb];rfl);have HP:=zH (MemS.peek_out hb);clear hb hok;go_wp2_with fail;go_ret2;exact ⟨by rw [HV.o,HP.o];rfl,own2,(HE.o.mono zG).trans M2.o,by rw [HV2.o];exact R2.o⟩
   · have HV:=zH (show S.rd m frag k=some (m.peek (frag*8+k)) by unfold TraceS.rd;rw [hok,hb];rfl);clear hb hok;go_wp2_with fail;go_ret2;exact ⟨by rw [HV.o];rfl,own2,(HE.o.mono zG).trans M2.o,by rw [HV2.o];exact R2.o⟩
end Go.Proofs.YtdhjjpnajjingaaGreat
namespace Go
def TabS.white (T:TabS) (i:Int) (s:Bool):Bool:=T.head i&& !T.black i s
def TabS.grey (T:TabS) (i:Int) (s:Bool):TabS:=if T.white i s then T.mark i s else T
def PileS.push (p:PileS) (i:Int):PileS:=if (p.l.length:Int)=p.most then { p with lost:=true } else { p with l:=p.l++[i] }
def PileS.grey (p:PileS) (T:TabS) (i:Int) (s:Bool):PileS:=if T.white i s then p.push i else p
end Go
namespace Go.Proofs.YtdhjjpnajjingaaGreat
open Go Go.RowKit
namespace TraceS
def frs (S:TraceS):Int:=if S.arr then sData S.n else S.shp.size 0
def refsL (S:TraceS):List Int:=
 if S.arr then (if S.refs.getD 0 false then (List.range (min S.n ((S.j+1)*8)-S.j*8).toNat).map (fun x=>((x:Nat):Int)) else [])
 else (List.range S.refs.length).filterMap fun k=>if S.refs.getD k false&&decide (Shp.placeF k=S.j) then some (Shp.placeW k) else none
def enters (S:TraceS):TraceS:=if S.mode=2 then { S with frag:=S.base+S.j } else S
def entersPc (S:TraceS):Int:=if S.mode=2 then 4 else 8
def goes (S:TraceS):TraceS:=if S.words≠[] then S else if S.frs≤S.j+1 then S else if S.arr=false then S else { S with j:=S.j+1 }.enters
def goesPc (S:TraceS):Int:=if S.words≠[] then 1 else if S.frs≤S.j+1 then 9 else if S.arr=false then 3 else { S with j:=S.j+1 }.entersPc
def gone (S:TraceS):TraceS:={ S.goes with pc:=S.goesPc }
def first (S:TraceS) (w:Nat × Nat):TraceS × Bool:=match wTell w with
 |none=>(S,false)
 |some (kind,mode)=>match S.c.shapeAt kind with
  |none=>(S,false)
  |some (arr,refs)=>if 1<mode∨(arr=true∧0<mode) then (S,false)
   else if arr then ({ S with arr:=arr,refs:=refs,pc:=5 },true)
   else (TraceS.gone { S with arr:=arr,refs:=refs,words:=TraceS.refsL { S with arr:=arr,refs:=refs } },true)
end TraceS
structure TrW where
 s:TraceS
 m:MemS
 T:TabS
 p:PileS
 k:Int
namespace TrW
def head (w:TrW):TrW × Bool:=match w.s.rd w.m w.s.head 1 with
 |none=>({ w with m:=w.s.rdM w.m w.s.head 1 },false)
 |some v=>({ w with m:=w.s.rdM w.m w.s.head 1,s:=(w.s.first v).1 },(w.s.first v).2)
def field (w:TrW):TrW × Bool:=match w.s.rd w.m w.s.frag (w.s.words.headD 0) with
 |none=>({ w with m:=w.s.rdM w.m w.s.frag (w.s.words.headD 0) },false)
 |some v=>if wIs v=false then ({ w with m:=w.s.rdM w.m w.s.frag (w.s.words.headD 0) },false)
  else if (wIndex v).isSome then ({ w with m:=w.s.rdM w.m w.s.frag (w.s.words.headD 0),s:={ w.s with words:=w.s.words.tail,next:=(wIndex v).getD 0,pc:=2 } },true)
  else ({ w with m:=w.s.rdM w.m w.s.frag (w.s.words.headD 0),s:=TraceS.gone { w.s with words:=w.s.words.tail,next:=0 } },true)
def grey (w:TrW):TrW × Bool:=({ w with T:=w.T.grey w.s.next w.s.sense,p:=w.p.grey w.T w.s.next w.s.sense,k:=w.k+1,s:=w.s.gone },true)
def link (w:TrW):TrW × Bool:=match w.s.rd w.m w.s.frag 0 with
 |none=>({ w with m:=w.s.rdM w.m w.s.frag 0 },false)
 |some v=>match wIndex v with
  |none=>({ w with m:=w.s.rdM w.m w.s.frag 0 },false)
  |some i=>if i<w.s.c.frags then ({ w with m:=w.s.rdM w.m w.s.frag 0,s:={ w.s with frag:=i,pc:=4,j:=w.s.j+1 } },true) else ({ w with m:=w.s.rdM w.m w.s.frag 0 },false)
def part (w:TrW):TrW × Bool:=({ w with T:=w.T.mark w.s.frag w.s.sense,k:=w.k+1,s:=TraceS.gone { w.s with words:=w.s.refsL } },true)
def length (w:TrW):TrW × Bool:=match w.s.rd w.m w.s.head 2 with
 |none=>({ w with m:=w.s.rdM w.m w.s.head 2 },false)
 |some v=>match wInt v with
  |none=>({ w with m:=w.s.rdM w.m w.s.head 2,s:={ w.s with n:=0 } },false)
  |some n=>if n<0∨512<n then ({ w with m:=w.s.rdM w.m w.s.head 2,s:={ w.s with n:=n } },false) else ({ w with m:=w.s.rdM w.m w.s.head 2,s:={ w.s with n:=n,pc:=if n=0 then 9 else 6 } },true)
def mode (w:TrW):TrW × Bool:=match w.s.rd w.m w.s.head 3 with
 |none=>({ w with m:=w.s.rdM w.m w.s.head 3 },false)
 |some v=>match wInt v with
  |none=>({ w with m:=w.s.rdM w.m w.s.head 3,s:={ w.s with mode:=0 } },false)
  |some n=>if n<0∨2<n∨decide (n=0)≠decide (sData w.s.n≤4) then ({ w with m:=w.s.rdM w.m w.s.head 3,s:={ w.s with mode:=n } },false)
   else ({ w with m:=w.s.rdM w.m w.s.head 3,s:={ w.s with mode:=n,pc:=if n=0 then 8 else 7 } },true)
def base (w:TrW):TrW × Bool:=match w.s.rd w.m w.s.head 4 with
 |none=>({ w with m:=w.s.rdM w.m w.s.head 4 },false)
 |some v=>if w.s.mode=1 then (match wInt v with
  |none=>({ w with m:=w.s.rdM w.m w.s.head 4,s:={ w.s with base:=0 } },false)
  |some a=>if a<0∨cWords w.s.c≤a then ({ w with m:=w.s.rdM w.m w.s.head 4,s:={ w.s with base:=a } },false) else ({ w with m:=w.s.rdM w.m w.s.head 4,s:={ w.s with base:=a,pc:=8 } },true))
  else (match wIndex v with
   |none=>({ w with m:=w.s.rdM w.m w.s.head 4,s:={ w.s with base:=0 } },false)
   |some i=>if w.s.c.frags<i+sData w.s.n then ({ w with m:=w.s.rdM w.m w.s.head 4,s:={ w.s with base:=i } },false) else ({ w with m:=w.s.rdM w.m w.s.head 4,s:={ w.s with base:=i,frag:=i+w.s.j,pc:=4 } },true))
def slotRd (w:TrW):Option (Nat × Nat):=if w.s.mode=0 then w.s.rd w.m w.s.head (4+w.s.j) else if inB (w.s.base+2+w.s.j) w.m.l.length then some (w.m.peek (w.s.base+2+w.s.j)) else none
def slotM (w:TrW):MemS:=if w.s.mode=0 then w.s.rdM w.m w.s.head (4+w.s.j) else w.m.tick
def slot (w:TrW):TrW × Bool:=match w.slotRd with
 |none=>({ w with m:=w.slotM },false)
 |some v=>({ w with m:=w.slotM,s:={ w.s with frag:=(wIndex v).getD 0,pc:=4 } },(wIndex v).isSome&&decide ((wIndex v).getD 0<w.s.c.frags))
def does (w:TrW):TrW × Bool:=
 if w.s.pc=0 then w.head
 else if 5≤w.s.pc then (if w.s.pc=6 then w.mode else if w.s.pc=7 then w.base else if w.s.pc=8 then w.slot else w.length)
 else if w.s.pc=2 then w.grey else if w.s.pc=3 then w.link else if w.s.pc=4 then w.part else w.field
def ticked (w:TrW):TrW:={ w with s:={ w.s with steps:=w.s.steps+1 } }
def ended (w:TrW):TrW:={ w with s:={ w.s with pc:=9,e:=10 } }
def step (w:TrW):TrW:=if w.s.pc=9 then w else if w.ticked.does.2 then w.ticked.does.1 else w.ticked.does.1.ended
end TrW
theorem ylZ (S:TraceS): -1≤S.frs∧S.frs≤140737488355328+S.refs.length:=by
 unfold TraceS.frs;split
 · have:=yaW S.n;omega
 · unfold Shp.size Shp.len TraceS.shp;simp only;repeat (first|split|omega)
theorem yks (g:GW) (t b:Nat) (S:TraceS) (P:TrPl) (h:TraceIs g t b S P):Calls prog 279 #[zp (some ⟨b,0,none⟩)] g.w (Gives (zI z6 S.frs) g.w):=by
 have c12:=h.blk.cell (i:=12) rfl;have c13:=h.blk.cell (i:=13) rfl;have c18:=h.blk.cell (i:=18) rfl;have hl:=h.blk.lt;have HD:=zH (fun w=>ybI S.n w);have HS:=zH (fun w' (he:Ext g.w w')=>yck ⟨S.arr,P.sA,P.sc,S.refs⟩ 0 w' (h.shp.ok.ext he));cases ha:S.arr
 · have HV:=zH (show S.frs=Shp.size ⟨S.arr,P.sA,P.sc,S.refs⟩ 0 by unfold TraceS.frs;rw [ha,if_neg zd];unfold TraceS.shp;rw [ha];rfl);rw [HV.o];unfold Shp.val at HS;generalize Shp.size ⟨S.arr,P.sA,P.sc,S.refs⟩ 0=z at *;rw [ha] at c12 HS;clear h HV ha;go_enter func279,ntmps279;go_wp2_with fail;refine (HS.o _ zE).mono ?_;rintro e w1 ⟨rfl,X1,rfl⟩;go_wp2_with fail;go_ret;exact Gives.mk rfl zE
 · have HV:=zH (show S.frs=sData S.n by unfold TraceS.frs;rw [ha,if_pos rfl]);rw [HV.o];rw [ha] at c12;clear h HV ha HS;go_enter func279,ntmps279;go_wp2_with fail;refine (HD.o _).mono ?_;rintro e w1 ⟨rfl,X1,rfl⟩;go_wp2_with fail;go_ret;exact Gives.mk rfl zE
theorem ygh (g:GW) (t b:Nat) (S:TraceS) (P:TrPl) (h:TraceIs g t b S P) (hb:0≤S.base∧S.base≤1099511627776) (hj:0≤S.j∧S.j≤1099511627776):Calls prog 277 #[zp (some ⟨b,0,none⟩)] g.w (Does (zI z6 S.entersPc) g (fun x=>x=t) (fun g'=>TraceIs g' t b S.enters P)):=by
 have c19:=h.blk.cell (i:=19) rfl;have hl:=h.blk.lt;have HO:=zH h.blk.own;by_cases hm:S.mode=2
 · have c14:=h.blk.cell (i:=14) rfl;have c15:=h.blk.cell (i:=15) rfl;have c20:=h.blk.cell (i:=20) rfl;have f14:=h.blk.live 14;have HV:=zH (show S.enters={ S with frag:=S.base+S.j } by unfold TraceS.enters;rw [if_pos hm]);have HW:=zH (show S.entersPc=4 by unfold TraceS.entersPc;rw [if_pos hm]);have H:=zH (h.st 14 (zI z6 (S.base+S.j)) { S with frag:=S.base+S.j } rfl rfl rfl rfl rfl);have e1:=IntWalk.i64_in (S.base+S.j) zo;rw [hm] at c19;clear h hb hj;rw [HW.o,HV.o];go_enter func277,ntmps277;go_wp2_with fail;refine yab [zT,zT,zT,zT,zT,zT,zT,zT,zT,zT,zT,zT,zU] 1 12 ?_;intro X00;simp only [pickOps];repeat (go_big_quiet_step (fail))
   refine wpQuiet_nil (fun X0=>?_);clear X00;refine yaj 12 _ zQ zQ rfl rfl (fun X1 K Q' hK=>?_);go_simp;refine hK _ _ (fun X2=>?_);clear hK K Q';go_wp2_with fail;go_ret;exact Does.ext ⟨g.own,g.w.setCell ⟨b,14,none⟩ (zI z6 (S.base+S.j))⟩ zE rfl (Mod.st Mod.self HO.o) (fun g2 m=>H.o.keep m id id)
 · have HV:=zH (show S.enters=S by unfold TraceS.enters;rw [if_neg hm]);have HW:=zH (show S.entersPc=8 by unfold TraceS.entersPc;rw [if_neg hm]);have H:=zH h;have hmb:(S.mode !=2)=true:=bne_iff_ne.2 hm;clear h hb hj hm;rw [HW.o,HV.o];go_enter func277,ntmps277;go_wp2_with fail;go_ret;exact Does.of g rfl rfl (Mod.refl _ _) H.o
theorem ybz (g:GW) (t b:Nat) (S:TraceS) (P:TrPl) (h:TraceIs g t b S P) (hb:0≤S.base∧S.base≤1099511627776) (hj:0≤S.j∧S.j≤1000000):Calls prog 276 #[zp (some ⟨b,0,none⟩)] g.w (Does (zI z6 S.goesPc) g (fun x=>x=t) (fun g'=>TraceIs g' t b S.goes P)):=by
 have c16:=h.blk.cell (i:=16) rfl;have hl:=h.blk.lt;have H:=zH h;by_cases hw:S.words=[]
 · have HF:=zH (fun X=>yks (g.pt X) t b S P (h.keep (T:=fun _=>False) (Mod.pt (Mod.refl _ _) X) id id));have c15:=h.blk.cell (i:=15) rfl;have hbd:=ylZ S;have hmx:=h.shp.max;simp only at hmx;rw [hw] at c16;have e1:=IntWalk.i64_in (S.j+1) zo;have HB:=zH (And.intro hb hj);by_cases hf:S.frs≤S.j+1
   · have HV:=zH (show S.goes=S by unfold TraceS.goes;rw [if_neg (by simp [hw]),if_pos hf]);have HW:=zH (show S.goesPc=9 by unfold TraceS.goesPc;rw [if_neg (by simp [hw]),if_pos hf]);rw [HW.o,HV.o];have d1:decide (S.frs≤S.j+1)=true:=decide_eq_true hf;generalize S.frs=z at *;clear h hb hj hw hf hbd hmx;simp only [List.length_nil] at c16;go_enter func276,ntmps276;go_wp2_with fail;refine yab [zT,zT,zT,zT,zT,zT,zT,zT,zT] 0 9 ?_;intro X00;simp only [pickOps];repeat (go_big_quiet_step (exact Calls.added (HF.o _)))
     refine wpQuiet_nil (fun X0=>?_);clear X00;refine yaa zQ (fun X0'=>?_) _;go_wp2_with fail;go_ret;exact Does.ext g zE rfl (Mod.refl _ _) (fun g2 m=>H.o.keep m id id)
   · have d1:decide (S.frs≤S.j+1)=false:=decide_eq_false hf;have c12:=h.blk.cell (i:=12) rfl;cases ha:S.arr
     · have HV:=zH (show S.goes=S by unfold TraceS.goes;rw [if_neg (by simp [hw]),if_neg hf,if_pos ha]);have HW:=zH (show S.goesPc=3 by unfold TraceS.goesPc;rw [if_neg (by simp [hw]),if_neg hf,if_pos ha]);rw [HW.o,HV.o];rw [ha] at c12;generalize S.frs=z at *;clear h hb hj hw hf hbd hmx ha;simp only [List.length_nil] at c16;go_enter func276,ntmps276;go_wp2_with fail;refine yab [zT,zT,zT,zT,zT,zT,zT,zT,zT] 0 9 ?_;intro X00;simp only [pickOps];repeat (go_big_quiet_step (exact Calls.added (HF.o _)))
       refine wpQuiet_nil (fun X0=>?_);clear X00;refine yaa zQ (fun X0'=>?_) _;go_wp2_with fail;go_ret;exact Does.ext g zE rfl (Mod.refl _ _) (fun g2 m=>H.o.keep m id id)
     · have HV:=zH (show S.goes=({ S with j:=S.j+1 }:TraceS).enters by unfold TraceS.goes;rw [if_neg (by simp [hw]),if_neg hf,if_neg (by simp [ha])]);have HW:=zH (show S.goesPc=({ S with j:=S.j+1 }:TraceS).entersPc by unfold TraceS.goesPc;rw [if_neg (by simp [hw]),if_neg hf,if_neg (by simp [ha])]);rw [HW.o,HV.o];rw [ha] at c12;have f15:=h.blk.live 15;have HO:=zH h.blk.own;have H1:=zH (fun X=>(h.keep (T:=fun _=>False) (Mod.pt (Mod.refl _ g) X) id id).st 15 (zI z6 (S.j+1)) { S with j:=S.j+1 } rfl rfl rfl rfl rfl);generalize S.frs=z at *;clear h hb hj hw hf hbd hmx ha;simp only [List.length_nil] at c16;go_enter func276,ntmps276;go_wp2_with fail;refine yab [zT,zT,zT,zT,zT,zT,zT,zT,zT] 0 9 ?_;intro X00;simp only [pickOps];repeat (go_big_quiet_step (exact Calls.added (HF.o _)))
       refine wpQuiet_nil (fun X0=>?_);clear X00;refine yaa zQ (fun X0'=>?_) _;obtain ⟨Y,hY⟩:=(show Ext g.w ((g.w.patch X0).patch X0') from Ext.trans ⟨X0,rfl⟩ ⟨X0',rfl⟩);rw [hY];clear hY;go_wp2_with fail;rw [←World.setCell_patch _ _ _ _ _ (by assumption)];refine (ygh ⟨(g.pt Y).own,(g.w.patch Y).setCell ⟨b,15,none⟩ (zI z6 (S.j+1))⟩ t b _ P (H1.o Y) HB.o.1 (by have:=HB.o.2;show 0≤S.j+1∧S.j+1≤1099511627776;omega)).mono ?_;rintro e w1 ⟨rfl,own1,m1,r1⟩;have M1:=zH m1;have R1:=zH r1;clear m1 r1;go_wp2_with fail;go_ret;exact ⟨rfl,own1,((Mod.pt (Mod.refl (fun x=>x=t) g) Y).trans (Mod.st (T:=fun x=>x=t) Mod.self (H.o.blk.pt Y).own)).trans M1.o,R1.o⟩
 · have hw0:0<S.words.length:=List.length_pos_iff.2 hw;have HV:=zH (show S.goes=S by unfold TraceS.goes;rw [if_pos hw]);have HW:=zH (show S.goesPc=1 by unfold TraceS.goesPc;rw [if_pos hw]);have d1:decide ((0:Int)<S.words.length)=true:=decide_eq_true (by have:=List.length_pos_iff.2 hw;omega);rw [HW.o,HV.o];clear h hb hj hw;go_enter func276,ntmps276;go_wp2_with fail;go_ret;exact Does.of g rfl rfl (Mod.refl _ _) H.o
def minF (x y:Int):Int:=if y<x then y else x
@[go_sem] theorem ymj (ats:Array TypeId) (ty:TypeId) (x y:Int):Builtin.min_ ats ty #[zI z6 x,zI z6 y]=pure (zI z6 (minF x y)):=rfl
def RefsGot (g:GW) (l:List Int) (e:Ending) (w':World):Prop:= ∃A c,e=.returned (.slice A l.length c)∧Ext g.w w'∧(l.length≤c∧c≤9223372036854775807)∧CellsAt w' A (l.map (zI z6))∧ ∀a,A=some a→g.w.heap.size≤a.block
theorem RefsGot.of {g:GW} {l:List Int} {v:Value} {own:Nat→Nat} {w' w2:World} (M:Mod (fun _=>False) g ⟨own,w'⟩) (R:Mine g ⟨own,w'⟩ 3 1 v l.length (l.map (zI z6))) (he:Ext w' w2):RefsGot g l (.returned v) w2:=by
 obtain ⟨A,c,rfl,hn,hc,_⟩:=R.row.form;exact ⟨A,c,rfl,M.toExt.trans he,⟨hn,hc⟩,(R.row.cells).ext he,fun a ha=>R.new a.block (by rw [ha];rfl)⟩
def TraceS.elsN (S:TraceS):Nat:=(min S.n ((S.j+1)*8)-S.j*8).toNat
def numsL (k:Nat):List Int:=(List.range k).map (fun x=>((x:Nat):Int))
theorem yic (k:Nat):numsL (k+1)=numsL k++[(k:Int)]:=by unfold numsL;rw [List.range_succ,List.map_append];rfl
theorem yjT (k:Nat):(numsL k).length=k:=by simp [numsL]
theorem yj8 {S:TraceS} (ha:S.arr=true):S.refsL=if S.refs.getD 0 false then numsL S.elsN else []:=by unfold TraceS.refsL;rw [ha];rfl
def fieldsL (refs:List Bool) (j:Int):Nat→List Int
 |0=>[]
 |k+1=>fieldsL refs j k++if refs.getD k false&&decide (Shp.placeF k=j) then [Shp.placeW k] else []
theorem yhI (refs:List Bool) (j:Int) (k:Nat):(fieldsL refs j k).length≤k:=by
 induction k with
 |zero=>exact Nat.le_refl _
 |succ k ih=>rw [fieldsL,List.length_append];split<;>simp<;>omega
theorem yj9 {S:TraceS} (ha:S.arr=false):S.refsL=fieldsL S.refs S.j S.refs.length:=by
 unfold TraceS.refsL;rw [ha,if_neg zd];suffices h: ∀k,((List.range k).filterMap fun k=>if S.refs.getD k false&&decide (Shp.placeF k=S.j) then some (Shp.placeW k) else none)=fieldsL S.refs S.j k from h _
 intro k;induction k with
 |zero=>rfl
 |succ k ih=>
  rw [List.range_succ,List.filterMap_append,ih,fieldsL];congr 1
  simp only [List.filterMap_cons,List.filterMap_nil];split<;>rename_i h<;>split at h<;>simp_all
theorem ydV (g:GW) (t b:Nat) (S:TraceS) (P:TrPl) (h:TraceIs g t b S P) (hj:0≤S.j∧S.j≤1000000) (hn:0≤S.n∧S.n≤1000000) (hmay:S.shp.may=true):Calls prog 275 #[zp (some ⟨b,0,none⟩)] g.w (RefsGot g S.refsL):=by
 obtain ⟨i0,hi,hz0,hz1,hz2⟩:=info_parts ya7;have c12:=h.blk.cell (i:=12) rfl;have hl:=h.blk.lt;have H:=zH h;have hlen:S.refs.length≤40:=(of_decide_eq_true hmay).1;have HMAY:=zH hmay;obtain ⟨hj0,hj1⟩:=hj;obtain ⟨hn0,hn1⟩:=hn;cases ha:S.arr
 · have HV:=zH (yj9 ha);have HA:=zH ha;have c13:=h.blk.cell (i:=13) rfl;rw [ha] at c12;clear h hmay ha;go_enter func275,ntmps275;go_wp2_with fail;go_loopw [3,56] (fun v i wr=> ∃(k:Nat) (own:Nat→Nat) (w1:World),k≤S.refs.length∧i=zI z6 k∧Hid (Mod (fun _=>False) g ⟨own,w1⟩)∧Hid (Mine g ⟨own,w1⟩ 3 1 v (fieldsL S.refs S.j k).length ((fieldsL S.refs S.j k).map (zI z6)))∧Ext w1 wr) (fun _ i _=>S.refs.length-(intOf i).toNat)
   case atStart=>exact ⟨0,g.own,g.w,Nat.zero_le _,rfl,zH (Mod.refl _ _),zH (Mine.nil _ _ _ _),zE⟩
   case round=>
    obtain ⟨k,own,w1,hk,rfl,HM,HR,X,rfl⟩:=hrel;obtain ⟨A5,c5,hv5⟩:=yak HR.o.row.row;subst hv5;have H1:=zH (H.o.keep HM.o id id);by_cases hlt:k<S.refs.length
    · have c12:=H1.o.blk.cell (i:=12) rfl;have c13:=H1.o.blk.cell (i:=13) rfl;have c15:=H1.o.blk.cell (i:=15) rfl;have hl1:=H1.o.blk.lt;simp only at c12 c13 c15 hl1;rw [HA.o] at c12;have HP:=zH (fun w' (he:Ext w1 w')=>ycN ⟨S.arr,P.sA,P.sc,S.refs⟩ k w' (H1.o.shp.ok.ext he) zo zo);obtain ⟨q,o,hA,hq,hcell⟩:=H1.o.shp.ok.refs.cases (by simp;omega);have g0:=hcell k (zb (S.refs.getD k false)) (by simp [List.getD,List.getElem?_eq_getElem hlt]);simp only at hA g0 hq
      have hpl:Shp.place ⟨S.arr,P.sA,P.sc,S.refs⟩ k=.tuple #[zI z6 (Shp.placeF k),zI z6 (Shp.placeW k),zb true]:=by
       unfold Shp.place
       rw [if_pos (by
        unfold Shp.hasField;rw [show Shp.may ⟨S.arr,P.sA,P.sc,S.refs⟩=true from HMAY.o];simp only [HA.o,Shp.len];simp;omega)]
      rw [hpl] at HP;unfold Shp.val at HP;rw [HA.o] at HP;simp only at HP;have HFL:=zH (show fieldsL S.refs S.j (k+1)=fieldsL S.refs S.j k++if S.refs.getD k false&&decide (Shp.placeF k=S.j) then [Shp.placeW k] else [] from rfl);have HPL:=zH (Shp.placeW_bd k zo);have HPA:=zH hA;generalize P.sA=sA at *;subst hA;generalize hx:S.refs.getD k false=x at *;generalize hy:Shp.placeF k=y at *;clear hpl hcell hx hy;go_wp2_with fail;refine (HP.o _ zE).mono ?_;rintro e w2 ⟨rfl,X2,rfl⟩;cases x
      · have HT2:=zH (HFL.o.trans (by rw [Bool.false_and,if_neg zd,List.append_nil]));go_wp2_with fail;go_roundw
        case rel=>exact ⟨k+1,own,w1,zo,by go_num,HM,by rw [HT2.o];exact HR,zE⟩
        case measure=>simp [intOf];omega
      · by_cases hp:y=S.j
        · have HT2:=zH (HFL.o.trans (by rw [decide_eq_true hp,Bool.true_and,if_pos rfl]));subst hp;have R1:=zH (yaQ HR.o.row.row (show Ext w1 (w1.patch ⟨X.blocks++X2.blocks,X2.drawn⟩) from zE));have HFL2:=zH (show (fieldsL S.refs S.j k).length≤1000 from Nat.le_trans (yhI S.refs S.j k) zo);have hfl:=HFL2.o;go_wp2_with (at_builtin;refine wpList_append_own_at _ rfl (.tmp 80) (.tmp 82) 97 rfl 0 3 i0 (zI z6 0) 1 8 Tryz.underlying97 hi hz0 hz1 hz2 rfl zd _ _ _ rfl (R1.o.alloc _) ⟨(w1.patch ⟨X.blocks++X2.blocks,X2.drawn⟩).heap.size,0,none⟩ 1 1 [zI z6 (Shp.placeW k)] rfl rfl (cell_one_new _ _ _) (by intro u hu;simp at hu;subst hu;rfl) (by unfold maxLen;omega) zo (Nat.zero_le _) ?_;intro v2 w2 hown hgrow hnil hat);obtain ⟨own2,m2,r2,k2⟩:=HR.o.app HM.o (Ext.alloc ⟨_,rfl⟩ _) hown hgrow hat;have M2:=zH m2;have R2:=zH r2;clear m2 r2 k2 hown hgrow hnil hat;go_wp2_with fail;go_roundw
          case rel=>exact ⟨k+1,own2,w2,zo,by go_num,M2,zH ⟨R2.o.row.weak (by rw [HT2.o];simp) (by rw [HT2.o];simp),R2.o.new⟩,zE⟩
          case measure=>simp [intOf];omega
        · have HT2:=zH (HFL.o.trans (by rw [decide_eq_false hp,Bool.and_false,if_neg zd,List.append_nil]));have hyb:(y==S.j)=false:=beq_eq_false_iff_ne.2 hp;go_wp2_with fail;go_roundw
          case rel=>exact ⟨k+1,own,w1,zo,by go_num,HM,by rw [HT2.o];exact HR,zE⟩
          case measure=>simp [intOf];omega
    · obtain rfl:k=S.refs.length:=zo;go_wp2_with fail;go_ret;rw [HV.o];exact RefsGot.of HM.o HR.o zE
 · have HA:=zH ha;have hrl:S.refs.length=1:=(of_decide_eq_true hmay).2 ha;have HV:=zH (yj8 ha);have c15:=h.blk.cell (i:=15) rfl;rw [ha] at c12;have e1:=IntWalk.i64_in (S.j*8) zo;have e2:=IntWalk.i64_in (S.j+1) zo;have e3:=IntWalk.i64_in ((S.j+1)*8) zo
   have hcnt:S.elsN≤8∧ ∀x:Nat,decide (S.j*8+x<minF S.n ((S.j+1)*8))=decide (x<S.elsN):=by
    unfold TraceS.elsN minF;refine ⟨zo,fun x=>?_⟩;rw [Bool.eq_iff_iff,decide_eq_true_iff,decide_eq_true_iff];split<;>omega
   obtain ⟨hc8,hcx⟩:=hcnt;have HCX:=zH hcx;clear h hmay ha hcx;go_enter func275,ntmps275;go_wp2_with fail;go_loopw [3,4] (fun v i wr=> ∃(k:Nat) (own:Nat→Nat) (w1:World),k≤S.elsN∧(S.refs.getD 0 false=false→k=0)∧i=zI z6 (S.j*8+k)∧Hid (Mod (fun _=>False) g ⟨own,w1⟩)∧Hid (Mine g ⟨own,w1⟩ 3 1 v k ((numsL k).map (zI z6)))∧Ext w1 wr) (fun _ i _=>(S.j*8+9-intOf i).toNat)
   case atStart=>exact ⟨0,g.own,g.w,Nat.zero_le _,fun _=>rfl,by go_num,zH (Mod.refl _ _),zH (Mine.nil _ _ _ _),zE⟩
   case round=>
    obtain ⟨k,own,w1,hk,hk0,rfl,HM,HR,X,rfl⟩:=hrel;obtain ⟨A5,c5,hv5⟩:=yak HR.o.row.row;subst hv5;have H1:=zH (H.o.keep HM.o id id);have c13:=H1.o.blk.cell (i:=13) rfl;have c15:=H1.o.blk.cell (i:=15) rfl;have c18:=H1.o.blk.cell (i:=18) rfl;have hl1:=H1.o.blk.lt;simp only at c13 c15 c18 hl1;obtain ⟨q,o,hA,hq,hcell⟩:=H1.o.shp.ok.refs.cases (by simp;omega);have g0:=hcell 0 (zb (S.refs.getD 0 false)) (by simp [List.getD,List.getElem?_eq_getElem (show 0<S.refs.length by omega)]);simp only [Nat.add_zero] at hA g0 hq;rw [hA] at c13;rw [hrl] at c13;have HK0:=zH hk0;clear hcell hk0;cases hx:S.refs.getD 0 false
    · rw [hx] at g0 HK0;have HE:=zH (HV.o.trans (by rw [hx,if_neg zd]));have hk00:k=0:=HK0.o rfl;subst hk00;clear hx;go_wp2_with fail;refine yab [zT,zT,zT,zT,zT,zT,zT,zT,zT,zT,zT,zT,zT,zT,zT,zT,zT,zT,zT,zT,zT,zT] 0 22 ?_;intro X00;simp only [pickOps];repeat (go_big_quiet_step (fail))
      refine wpQuiet_nil (fun X0=>?_);clear X00;refine yaa zQ (fun X0'=>?_) _;go_wp2_with fail;go_ret;rw [HE.o];exact RefsGot.of HM.o HR.o zE
    · rw [hx] at g0 HK0;have HE:=zH (HV.o.trans (by rw [hx,if_pos rfl]));clear hx;by_cases hlt:k<S.elsN
      · have d1:decide (S.j*8+k<minF S.n ((S.j+1)*8))=true:=by rw [HCX.o,decide_eq_true hlt]
        have HE2:=HE;have e4:=IntWalk.i64_in (S.j*8+k+1) zo;have e5:(S.j*8+(k:Int)).tmod 8=k:=by rw [Int.tmod_eq_emod_of_nonneg zo];omega
        have e6:=IntWalk.i64_in (k:Int) zo;go_wp2_with fail;refine yab [zT,zT,zT,zT,zT,zT,zT,zT,zT,zT,zT,zT,zT,zT,zT,zT,zT,zT,zT,zT,zT,zT] 0 22 ?_;intro X00;simp only [pickOps];repeat (go_big_quiet_step (fail))
        refine wpQuiet_nil (fun X0=>?_);clear X00;refine yaa zQ (fun X0'=>?_) _;obtain ⟨Y,hY⟩:=(show Ext w1 (((w1.patch X).patch X0).patch X0') from zE);rw [hY];clear hY;have R1:=zH (yaQ HR.o.row.row (show Ext w1 (w1.patch Y) from zE));go_wp2_with (at_builtin;refine wpList_append_own_at _ rfl (.tmp 44) (.tmp 47) 97 rfl 0 3 i0 (zI z6 0) 1 8 Tryz.underlying97 hi hz0 hz1 hz2 rfl zd _ _ _ rfl (R1.o.alloc _) ⟨(w1.patch Y).heap.size,0,none⟩ 1 1 [zI z6 (k:Int)] rfl rfl (cell_one_new _ _ _) (by intro u hu;simp at hu;subst hu;rfl) (by unfold maxLen;omega) zo (Nat.zero_le _) ?_;intro v2 w2 hown hgrow hnil hat);obtain ⟨own2,m2,r2,k2⟩:=HR.o.app HM.o (Ext.alloc ⟨_,rfl⟩ _) hown hgrow hat;have M2:=zH m2;have R2:=zH r2;clear m2 r2 k2 hown hgrow hnil hat;go_wp2_with fail;go_roundw
        case rel=>exact ⟨k+1,own2,w2,zo,(fun e=>absurd e zd),by go_num,M2,zH ⟨R2.o.row.weak rfl (by rw [yic];simp),R2.o.new⟩,zE⟩
        case measure=>simp [intOf];omega
      · have d1:decide (S.j*8+k<minF S.n ((S.j+1)*8))=false:=by rw [HCX.o,decide_eq_false hlt]
        obtain rfl:k=S.elsN:=zo;go_wp2_with fail;refine yab [zT,zT,zT,zT,zT,zT,zT,zT,zT,zT,zT,zT,zT,zT,zT,zT,zT,zT,zT,zT,zT,zT] 0 22 ?_;intro X00;simp only [pickOps];repeat (go_big_quiet_step (fail))
        refine wpQuiet_nil (fun X0=>?_);clear X00;refine yaa zQ (fun X0'=>?_) _;go_wp2_with fail;go_ret;rw [HE.o];refine RefsGot.of HM.o ?_ zE;rw [yjT];exact HR.o
theorem TraceIs.wordsSet {g:GW} {t b:Nat} {S:TraceS} {P:TrPl} {l:List Int} {A:Option Addr} {c:Nat} {w1:World} (h:TraceIs g t b S P) (hE:Ext g.w w1) (hl:l.length≤c∧c≤9223372036854775807) (hc:CellsAt w1 A (l.map (zI z6))) (hn: ∀a,A=some a→g.w.heap.size≤a.block):
 TraceIs ⟨(g.to (t+1) w1).own,w1.setCell ⟨b,16,none⟩ (.slice A l.length c)⟩ t b { S with words:=l } ⟨P.sA,P.sc,A,c⟩:=by
 have m1:Mod (fun _=>False) g (g.to (t+1) w1):=Mod.ext hE (t+1);have h1:=h.keep m1 id id;have m2:Mod (fun x=>x=t) (g.to (t+1) w1) ⟨(g.to (t+1) w1).own,w1.setCell ⟨b,16,none⟩ (.slice A l.length c)⟩:=Mod.st Mod.self h1.blk.own;refine ⟨h1.blk.set 16 (.slice A l.length c),h1.cnf.keep m2 zo,h1.shp.keep m2 zo,?_,hl⟩;refine Seg.set (g:=g.to (t+1) w1) ⟨hc,fun a ha _=>GW.to_new (hn a ha)⟩ (fun a ha _ e=>?_);have:=hn a ha;have:=h.blk.lt;omega
theorem TraceIs.shapeSet {g:GW} {t b:Nat} {S:TraceS} {P:TrPl} {s:Shp} {w1:World} (h:TraceIs g t b S P) (hE:Ext g.w w1) (hok:s.Ok w1) (hf: ∀a,s.A=some a→g.w.heap.size≤a.block):
 TraceIs ⟨(g.to (t+1) w1).own,(w1.setCell ⟨b,12,none⟩ (zb s.arr)).setCell ⟨b,13,none⟩ (.slice s.A s.refs.length s.cap)⟩ t b { S with arr:=s.arr,refs:=s.refs } ⟨s.A,s.cap,P.wA,P.wc⟩:=by
 have m1:Mod (fun _=>False) g (g.to (t+1) w1):=Mod.ext hE (t+1);have h1:=h.keep m1 id id;have m2:Mod (fun x=>x=t) (g.to (t+1) w1) ⟨(g.to (t+1) w1).own,(w1.setCell ⟨b,12,none⟩ (zb s.arr)).setCell ⟨b,13,none⟩ (.slice s.A s.refs.length s.cap)⟩:=Mod.st (Mod.st Mod.self h1.blk.own) h1.blk.own;refine ⟨(h1.blk.set 12 (zb s.arr)).set 13 (.slice s.A s.refs.length s.cap),h1.cnf.keep m2 zo,ShpAt.keep (g:=g.to (t+1) w1) ⟨⟨hok.refs,fun a ha _=>GW.to_new (hf a ha)⟩,hok.len,hok.max⟩ m2 zo,h1.words.keep m2 zo,h.wlen⟩
theorem ybO {c:Cnf} {k:Int} {arr:Bool} {refs:List Bool} (hck:c.check=0) (h:c.shapeAt k=some (arr,refs)) (A:Option Addr) (cap:Nat):Shp.may ⟨arr,A,cap,refs⟩=true:=by
 unfold Cnf.shapeAt at h;split at h
 · cases h
 · obtain ⟨s,hs,he⟩:=Option.map_eq_some_iff.1 h;have hb:=(Cnf.check_zero hck).2.2.2;injection he with e1 e2;cases hm:Shp.may s
   · rw [yew hs hm] at hb;cases hb
   · unfold Shp.may at hm ⊢;rw [←e1, ←e2];exact hm
theorem yhP (g:GW) (t b:Nat) (S:TraceS) (P:TrPl) (v:Nat × Nat) (h:TraceIs g t b S P) (hv:wTell v=none):Calls prog 262 #[zp (some ⟨b,0,none⟩),zc z4 v.1 v.2] g.w (Does (zb false) g (fun x=>x=t) (fun g'=>TraceIs g' t b S P)):=by
 have HT:=zH (ya0 v g.w);rw [hv] at HT;unfold tellV at HT;obtain ⟨x,y⟩:=v;simp only [Option.map_none,Option.getD_none,Option.isSome_none] at HT ⊢;clear hv;have HSH:=zH (fun w' (he:Ext g.w w')=>yaA S.c 0 w' (h.cnf.ok.ext he));unfold Cnf.val at HSH;have H:=zH h;clear h;go_enter func262,ntmps262;go_wp2_with fail;refine HT.o.mono ?_;rintro e w1 ⟨rfl,hE⟩;have HX1:=zH (show Ext g.w w1 from hE);have H1:=zH (H.o.keep (Mod.ext (T:=fun _=>False) HX1.o 0) id id);clear hE HT;have k0:=H1.o.blk.cell (i:=0) rfl;have k1:=H1.o.blk.cell (i:=1) rfl;have k2:=H1.o.blk.cell (i:=2) rfl;have k3:=H1.o.blk.cell (i:=3) rfl;have k4:=H1.o.blk.cell (i:=4) rfl;have k5:=H1.o.blk.cell (i:=5) rfl;have k6:=H1.o.blk.cell (i:=6) rfl;have k7:=H1.o.blk.cell (i:=7) rfl;have k8:=H1.o.blk.cell (i:=8) rfl;have hl:=H1.o.blk.lt;simp only [GW.to] at k0 k1 k2 k3 k4 k5 k6 k7 k8 hl;go_wp2_with fail;refine (HSH.o _ HX1.o).mono ?_;rintro e w2 ⟨s',rfl,hs,hfr,hok,hE⟩;have HS:=zH hs;have HFR:=zH hfr;have HOK:=zH hok;have HX2:=zH (HX1.o.trans (show Ext w1 w2 from hE));clear hs hfr hok hE HSH k0 k1 k2 k3 k4 k5 k6 k7 k8 hl H1;generalize (S.c.shapeAt 0).isSome=z at *
 obtain ⟨arr',A',cap',refs'⟩:=s';unfold Shp.val;go_wp2_with fail;go_ret;exact Does.ext g (HX2.o.trans zE) rfl (Mod.refl _ _) (fun g2 m=>H.o.keep m id id)
theorem yhN (g:GW) (t b:Nat) (S:TraceS) (P:TrPl) (v:Nat × Nat) (kd md:Int) (h:TraceIs g t b S P) (hv:wTell v=some (kd,md)) (hk:S.c.shapeAt kd=none):Calls prog 262 #[zp (some ⟨b,0,none⟩),zc z4 v.1 v.2] g.w (Does (zb false) g (fun x=>x=t) (fun g'=>TraceIs g' t b S P)):=by
 have HT:=zH (ya0 v g.w);rw [hv] at HT;unfold tellV at HT;obtain ⟨x,y⟩:=v;simp only [Option.map_some,Option.getD_some,Option.isSome_some] at HT ⊢;clear hv;have HSH:=zH (fun w' (he:Ext g.w w')=>yaA S.c kd w' (h.cnf.ok.ext he));unfold Cnf.val at HSH;have H:=zH h;clear h;go_enter func262,ntmps262;go_wp2_with fail;refine HT.o.mono ?_;rintro e w1 ⟨rfl,hE⟩;have HX1:=zH (show Ext g.w w1 from hE);have H1:=zH (H.o.keep (Mod.ext (T:=fun _=>False) HX1.o 0) id id);clear hE HT;have k0:=H1.o.blk.cell (i:=0) rfl;have k1:=H1.o.blk.cell (i:=1) rfl;have k2:=H1.o.blk.cell (i:=2) rfl;have k3:=H1.o.blk.cell (i:=3) rfl;have k4:=H1.o.blk.cell (i:=4) rfl;have k5:=H1.o.blk.cell (i:=5) rfl;have k6:=H1.o.blk.cell (i:=6) rfl;have k7:=H1.o.blk.cell (i:=7) rfl;have k8:=H1.o.blk.cell (i:=8) rfl;have hl:=H1.o.blk.lt;simp only [GW.to] at k0 k1 k2 k3 k4 k5 k6 k7 k8 hl;go_wp2_with fail;refine (HSH.o _ HX1.o).mono ?_;rintro e w2 ⟨s',rfl,hs,hfr,hok,hE⟩;have HS:=zH hs;have HFR:=zH hfr;have HOK:=zH hok;have HX2:=zH (HX1.o.trans (show Ext w1 w2 from hE));clear hs hfr hok hE HSH k0 k1 k2 k3 k4 k5 k6 k7 k8 hl H1;rw [hk];obtain ⟨arr',A',cap',refs'⟩:=s';unfold Shp.val;clear hk
 simp only [Option.isSome_none];go_wp2_with fail;go_ret;exact Does.ext g (HX2.o.trans zE) rfl (Mod.refl _ _) (fun g2 m=>H.o.keep m id id)
theorem yhO (g:GW) (t b:Nat) (S:TraceS) (P:TrPl) (v:Nat × Nat) (kd md:Int) (arr:Bool) (refs:List Bool) (h:TraceIs g t b S P) (hv:wTell v=some (kd,md)) (hk:S.c.shapeAt kd=some (arr,refs)) (hm:1<md∨(arr=true∧0<md)):Calls prog 262 #[zp (some ⟨b,0,none⟩),zc z4 v.1 v.2] g.w (Does (zb false) g (fun x=>x=t) (fun g'=>TraceIs g' t b S P)):=by
 have HT:=zH (ya0 v g.w);rw [hv] at HT;unfold tellV at HT;obtain ⟨x,y⟩:=v;simp only [Option.map_some,Option.getD_some,Option.isSome_some] at HT ⊢;clear hv;have HSH:=zH (fun w' (he:Ext g.w w')=>yaA S.c kd w' (h.cnf.ok.ext he));unfold Cnf.val at HSH;have H:=zH h;clear h;go_enter func262,ntmps262;go_wp2_with fail;refine HT.o.mono ?_;rintro e w1 ⟨rfl,hE⟩;have HX1:=zH (show Ext g.w w1 from hE);have H1:=zH (H.o.keep (Mod.ext (T:=fun _=>False) HX1.o 0) id id);clear hE HT;have k0:=H1.o.blk.cell (i:=0) rfl;have k1:=H1.o.blk.cell (i:=1) rfl;have k2:=H1.o.blk.cell (i:=2) rfl;have k3:=H1.o.blk.cell (i:=3) rfl;have k4:=H1.o.blk.cell (i:=4) rfl;have k5:=H1.o.blk.cell (i:=5) rfl;have k6:=H1.o.blk.cell (i:=6) rfl;have k7:=H1.o.blk.cell (i:=7) rfl;have k8:=H1.o.blk.cell (i:=8) rfl;have hl:=H1.o.blk.lt;simp only [GW.to] at k0 k1 k2 k3 k4 k5 k6 k7 k8 hl;go_wp2_with fail;refine (HSH.o _ HX1.o).mono ?_;rintro e w2 ⟨s',rfl,hs,hfr,hok,hE⟩;have HS:=zH hs;have HFR:=zH hfr;have HOK:=zH hok;have HX2:=zH (HX1.o.trans (show Ext w1 w2 from hE));clear hs hfr hok hE HSH k0 k1 k2 k3 k4 k5 k6 k7 k8 hl H1;rw [hk] at HS ⊢;obtain ⟨arr',A',cap',refs'⟩:=s'
 obtain rfl:arr'=arr:=congrArg Prod.fst HS.o;unfold Shp.val;clear hk;simp only [Option.isSome_some];have HB:=zH (show (w2.alloc (.cells #[zb arr',.slice A' refs'.length cap'] 94)).heap[w2.heap.size]?=some (.cells #[zb arr',.slice A' refs'.length cap'] 94) from World.row_alloc_new _);have HXB:=zH (HX2.o.trans (show Ext w2 (w2.alloc (.cells #[zb arr',.slice A' refs'.length cap'] 94)) from zE));go_upto_region 3 with fail
 generalize w2.heap.size=bs at *;generalize w2.alloc (.cells #[zb arr',.slice A' refs'.length cap'] 94)=wb at *;have s0:wb.cell? ⟨bs,0,none⟩=some (zb arr'):=by simp only [World.cell?,HB.o];rfl
 have hbs:bs<wb.heap.size:=(Array.getElem?_eq_some_iff.1 HB.o).1;by_cases h1:1<md
 · clear hm;go_wp2_with fail;go_ret;exact Does.ext g (HXB.o.trans zE) rfl (Mod.refl _ _) (fun g2 m=>H.o.keep m id id)
 · obtain ⟨rfl,h2⟩:arr'=true∧0<md:=by
    rcases hm with hm|hm
    · exact absurd hm h1
    · exact hm
   clear hm;go_wp2_with fail;go_ret;exact Does.ext g (HXB.o.trans zE) rfl (Mod.refl _ _) (fun g2 m=>H.o.keep m id id)
theorem ygC (g:GW) (t b:Nat) (S:TraceS) (P:TrPl) (v:Nat × Nat) (kd md:Int) (refs:List Bool) (h:TraceIs g t b S P) (hv:wTell v=some (kd,md)) (hk:S.c.shapeAt kd=some (true,refs)) (hm:md≤0) (hck:S.c.check=0):Calls prog 262 #[zp (some ⟨b,0,none⟩),zc z4 v.1 v.2] g.w (Does (zb true) g (fun x=>x=t) (fun g'=>TraceAt g' t b { S with arr:=true,refs:=refs,pc:=5 })):=by
 have HT:=zH (ya0 v g.w);rw [hv] at HT;unfold tellV at HT;obtain ⟨x,y⟩:=v;simp only [Option.map_some,Option.getD_some,Option.isSome_some] at HT ⊢;clear hv;have HMAY:=zH (fun A cap=>ybO hck hk A cap);have HSH:=zH (fun w' (he:Ext g.w w')=>yaA S.c kd w' (h.cnf.ok.ext he));unfold Cnf.val at HSH;have H:=zH h;clear h;go_enter func262,ntmps262;go_wp2_with fail;refine HT.o.mono ?_;rintro e w1 ⟨rfl,hE⟩;have HX1:=zH (show Ext g.w w1 from hE);have H1:=zH (H.o.keep (Mod.ext (T:=fun _=>False) HX1.o 0) id id);clear hE HT;have k0:=H1.o.blk.cell (i:=0) rfl;have k1:=H1.o.blk.cell (i:=1) rfl;have k2:=H1.o.blk.cell (i:=2) rfl;have k3:=H1.o.blk.cell (i:=3) rfl;have k4:=H1.o.blk.cell (i:=4) rfl;have k5:=H1.o.blk.cell (i:=5) rfl;have k6:=H1.o.blk.cell (i:=6) rfl;have k7:=H1.o.blk.cell (i:=7) rfl;have k8:=H1.o.blk.cell (i:=8) rfl;have hl:=H1.o.blk.lt;simp only [GW.to] at k0 k1 k2 k3 k4 k5 k6 k7 k8 hl;go_wp2_with fail;refine (HSH.o _ HX1.o).mono ?_;rintro e w2 ⟨s',rfl,hs,hfr,hok,hE⟩;have HS:=zH hs;have HFR:=zH hfr;have HOK:=zH hok;have HX2:=zH (HX1.o.trans (show Ext w1 w2 from hE));clear hs hfr hok hE HSH k0 k1 k2 k3 k4 k5 k6 k7 k8 hl H1
 rw [hk] at HS ⊢;obtain ⟨arr',A',cap',refs'⟩:=s';obtain rfl:arr'=true:=congrArg Prod.fst HS.o;obtain rfl:refs'=refs:=congrArg Prod.snd HS.o;unfold Shp.val;clear hk hck;simp only [Option.isSome_some];have HB:=zH (show (w2.alloc (.cells #[zb true,.slice A' refs'.length cap'] 94)).heap[w2.heap.size]?=some (.cells #[zb true,.slice A' refs'.length cap'] 94) from World.row_alloc_new _);have HXB:=zH (HX2.o.trans (show Ext w2 (w2.alloc (.cells #[zb true,.slice A' refs'.length cap'] 94)) from zE));have HOKB:=zH (HOK.o.ext (show Ext w2 (w2.alloc (.cells #[zb true,.slice A' refs'.length cap'] 94)) from zE));have HFRB:=zH (show∀a,A'=some a→g.w.heap.size≤a.block from fun a ha=>Nat.le_trans HX1.o.size (HFR.o a ha));go_upto_region 3 with fail
 generalize w2.heap.size=bs at *;generalize w2.alloc (.cells #[zb true,.slice A' refs'.length cap'] 94)=wb at *;have s0:wb.cell? ⟨bs,0,none⟩=some (zb true):=by simp only [World.cell?,HB.o];rfl
 have s1:wb.cell? ⟨bs,1,none⟩=some (.slice A' refs'.length cap'):=by simp only [World.cell?,HB.o];rfl
 have hbs:bs<wb.heap.size:=(Array.getElem?_eq_some_iff.1 HB.o).1;have mB:Mod (fun _=>False) g (g.to (t+1) wb):=Mod.ext HXB.o (t+1);have HBB:=zH (H.o.blk.keep mB id);have MB:=zH mB;have H3:=zH (H.o.shapeSet HXB.o HOKB.o HFRB.o);clear mB HB HX1 HX2 HS HFR HOK;have c11:=HBB.o.cell (i:=11) rfl;have c12:=HBB.o.cell (i:=12) rfl;have c13:=HBB.o.cell (i:=13) rfl;have f11:=HBB.o.live 11;have f12:=HBB.o.live 12;have f13:=HBB.o.live 13;have hl:=HBB.o.lt;simp only [GW.to] at c11 c12 c13 f11 f12 f13 hl;have HO:=zH HBB.o.own;have H4:=zH (H3.o.st 11 (zI z6 5) { S with arr:=true,refs:=refs',pc:=5 } rfl rfl rfl rfl rfl);go_wp2_with fail;go_ret;exact ⟨rfl,_,(MB.o.mono zG).trans (Mod.st (T:=fun x=>x=t) (Mod.st (Mod.st Mod.self HO.o) HO.o) HO.o),_,H4.o⟩
theorem yfJ (g:GW) (t b:Nat) (S:TraceS) (P:TrPl) (v:Nat × Nat) (kd md:Int) (refs:List Bool) (h:TraceIs g t b S P) (hv:wTell v=some (kd,md)) (hk:S.c.shapeAt kd=some (false,refs)) (hm:md≤1) (hck:S.c.check=0) (hj:0≤S.j∧S.j≤1000000) (hn:0≤S.n∧S.n≤1000000) (hb:0≤S.base∧S.base≤1099511627776):
 Calls prog 262 #[zp (some ⟨b,0,none⟩),zc z4 v.1 v.2] g.w (Does (zb true) g (fun x=>x=t) (fun g'=>TraceAt g' t b (TraceS.gone { S with arr:=false,refs:=refs,words:=TraceS.refsL { S with arr:=false,refs:=refs } }))):=by
 have HJ:=zH (And.intro hj (And.intro hn hb));clear hj hn hb;have HT:=zH (ya0 v g.w);rw [hv] at HT;unfold tellV at HT;obtain ⟨x,y⟩:=v;simp only [Option.map_some,Option.getD_some,Option.isSome_some] at HT ⊢;clear hv;have HMAY:=zH (fun A cap=>ybO hck hk A cap);have HSH:=zH (fun w' (he:Ext g.w w')=>yaA S.c kd w' (h.cnf.ok.ext he));unfold Cnf.val at HSH;have H:=zH h;clear h;go_enter func262,ntmps262;go_wp2_with fail;refine HT.o.mono ?_;rintro e w1 ⟨rfl,hE⟩;have HX1:=zH (show Ext g.w w1 from hE);have H1:=zH (H.o.keep (Mod.ext (T:=fun _=>False) HX1.o 0) id id);clear hE HT;have k0:=H1.o.blk.cell (i:=0) rfl;have k1:=H1.o.blk.cell (i:=1) rfl;have k2:=H1.o.blk.cell (i:=2) rfl;have k3:=H1.o.blk.cell (i:=3) rfl;have k4:=H1.o.blk.cell (i:=4) rfl;have k5:=H1.o.blk.cell (i:=5) rfl;have k6:=H1.o.blk.cell (i:=6) rfl;have k7:=H1.o.blk.cell (i:=7) rfl;have k8:=H1.o.blk.cell (i:=8) rfl;have hl:=H1.o.blk.lt;simp only [GW.to] at k0 k1 k2 k3 k4 k5 k6 k7 k8 hl;go_wp2_with fail;refine (HSH.o _ HX1.o).mono ?_;rintro e w2 ⟨s',rfl,hs,hfr,hok,hE⟩;have HS:=zH hs;have HFR:=zH hfr;have HOK:=zH hok;have HX2:=zH (HX1.o.trans (show Ext w1 w2 from hE))
 clear hs hfr hok hE HSH k0 k1 k2 k3 k4 k5 k6 k7 k8 hl H1;rw [hk] at HS ⊢;obtain ⟨arr',A',cap',refs'⟩:=s';obtain rfl:arr'=false:=congrArg Prod.fst HS.o;obtain rfl:refs'=refs:=congrArg Prod.snd HS.o;unfold Shp.val;clear hk hck;simp only [Option.isSome_some];have HB:=zH (show (w2.alloc (.cells #[zb false,.slice A' refs'.length cap'] 94)).heap[w2.heap.size]?=some (.cells #[zb false,.slice A' refs'.length cap'] 94) from World.row_alloc_new _);have HXB:=zH (HX2.o.trans (show Ext w2 (w2.alloc (.cells #[zb false,.slice A' refs'.length cap'] 94)) from zE));have HOKB:=zH (HOK.o.ext (show Ext w2 (w2.alloc (.cells #[zb false,.slice A' refs'.length cap'] 94)) from zE));have HFRB:=zH (show∀a,A'=some a→g.w.heap.size≤a.block from fun a ha=>Nat.le_trans HX1.o.size (HFR.o a ha));go_upto_region 3 with fail
 generalize w2.heap.size=bs at *;generalize w2.alloc (.cells #[zb false,.slice A' refs'.length cap'] 94)=wb at *;have s0:wb.cell? ⟨bs,0,none⟩=some (zb false):=by simp only [World.cell?,HB.o];rfl
 have s1:wb.cell? ⟨bs,1,none⟩=some (.slice A' refs'.length cap'):=by simp only [World.cell?,HB.o];rfl
 have hbs:bs<wb.heap.size:=(Array.getElem?_eq_some_iff.1 HB.o).1;have mB:Mod (fun _=>False) g (g.to (t+1) wb):=Mod.ext HXB.o (t+1);have HBB:=zH (H.o.blk.keep mB id);have MB:=zH mB;have H3:=zH (H.o.shapeSet HXB.o HOKB.o HFRB.o);clear mB HB HX1 HX2 HS HFR HOK;have c11:=HBB.o.cell (i:=11) rfl;have c12:=HBB.o.cell (i:=12) rfl;have c13:=HBB.o.cell (i:=13) rfl;have f11:=HBB.o.live 11;have f12:=HBB.o.live 12;have f13:=HBB.o.live 13;have hl:=HBB.o.lt;simp only [GW.to] at c11 c12 c13 f11 f12 f13 hl;have HO:=zH HBB.o.own;go_wp2_with fail;refine (ydV ⟨(g.to (t+1) wb).own,(wb.setCell ⟨b,12,none⟩ (zb false)).setCell ⟨b,13,none⟩ (.slice A' refs'.length cap')⟩ t b { S with arr:=false,refs:=refs' } ⟨A',cap',P.wA,P.wc⟩ H3.o HJ.o.1 HJ.o.2.1 (HMAY.o _ _)).mono ?_;rintro e w4 ⟨A4,c4,rfl,hE4,hl4,hc4,hn4⟩;have H5:=zH (H3.o.wordsSet hE4 hl4 hc4 hn4);have m4:Mod (fun _=>False) (⟨(g.to (t+1) wb).own,(wb.setCell ⟨b,12,none⟩ (zb false)).setCell ⟨b,13,none⟩ (.slice A' refs'.length cap')⟩:GW) (GW.to ⟨(g.to (t+1) wb).own,(wb.setCell ⟨b,12,none⟩ (zb false)).setCell ⟨b,13,none⟩ (.slice A' refs'.length cap')⟩ (t+1) w4):=Mod.ext hE4 (t+1)
 have B4:=zH (H3.o.blk.keep m4 id);have M4:=zH ((MB.o.mono zG).trans ((Mod.st (T:=fun x=>x=t) (Mod.st Mod.self HO.o) HO.o).trans (m4.mono zG)));clear hE4 hl4 hc4 hn4 m4 c11 c12 c13 f11 f12 f13 hl s0 s1 hbs;have c16:=B4.o.cell (i:=16) rfl;have f16:=B4.o.live 16;have hl:=B4.o.lt;simp only [GW.to] at c16 f16 hl;go_wp2_with fail;refine (ybz _ t b _ _ H5.o HJ.o.2.2 HJ.o.1).mono ?_;rintro e w6 ⟨rfl,own6,m6,r6⟩;have M6:=zH (M4.o.trans ((Mod.st (T:=fun x=>x=t) Mod.self B4.o.own).trans m6));have H7:=zH (TraceIs.st r6 11 (zI z6 _) (TraceS.gone { S with arr:=false,refs:=refs',words:=TraceS.refsL { S with arr:=false,refs:=refs' } }) rfl rfl rfl rfl rfl);have HO6:=zH r6.blk.own;have c11:=r6.blk.cell (i:=11) rfl;have f11:=r6.blk.live 11;have hl:=r6.blk.lt;simp only at c11 f11 hl;clear m6 r6 c16 f16;go_wp2_with fail;go_ret;exact ⟨rfl,own6,M6.o.trans (Mod.st (T:=fun x=>x=t) Mod.self HO6.o),_,H7.o⟩
theorem TabS.mark_yes {T:TabS} {k:Nat} {o:One} {s:Bool} (ho:T.l[k]?=some o) (h2:T.state k=2) (hb:T.black k s=false):T.mark k s=⟨T.l.set k ⟨o.state,o.head,s⟩⟩:=by
 obtain ⟨hk,hx⟩:=List.getElem?_eq_some_iff.1 ho;unfold TabS.mark;rw [h2,hb,if_pos zd,Int.toNat_natCast];congr 1
 apply List.ext_getElem?;intro i;rw [List.getElem?_modify,List.getElem?_set];by_cases hi:k=i
 · subst hi;simp [ho,hk,hx]
 · simp [hi]
theorem TabS.mark_no {T:TabS} {i:Int} {s:Bool} (h:(T.state i==2&& !T.black i s)=false):T.mark i s=T:=by
 unfold TabS.mark;rw [h];rfl
theorem TabAt.marked {g:GW} {t b r c k:Nat} {T:TabS} {o:One} {s:Bool} (h:TabAt g t b T) (hk:k<T.l.length) (ho:T.l[k]?=some o)
 (hb:Blk g t b 109 [.slice (some ⟨r,0,none⟩) T.l.length c,zI z6 (T.cnt 0),zI z6 (T.cnt 1),zI z6 (T.cnt 2)])
 (hr:Row g t 265 3 (.slice (some ⟨r,0,none⟩) T.l.length c) T.l.length (T.l.flatMap One.cells)) (hne:r≠b):
 TabAt ⟨g.own,g.w.setCell ⟨r,k*3+2,none⟩ (zb s)⟩ t b ⟨T.l.set k ⟨o.state,o.head,s⟩⟩:=by
 refine ⟨⟨some ⟨r,0,none⟩,c,?_,?_⟩,by simpa using h.len,fun u hu=>?_⟩
 · simp only [List.length_set];rw [TabS.cnt_set ho,TabS.cnt_set ho,TabS.cnt_set ho];have:=hb.setOther (k*3+2) (zb s) hne;simpa using this
 · simp only [List.length_set];have:=hr.store (k*3+2) (zb s);rw [ycG _ _ hk];obtain ⟨st,hd,se⟩:=o;have e0:(T.l.flatMap One.cells)[k*3]?=some (zI z6 st):=yaP One.cells_len T.l k 0 _ ho zo;have e1:(T.l.flatMap One.cells)[k*3+1]?=some (zb hd):=yaP One.cells_len T.l k 1 _ ho zo;rw [show ((T.l.flatMap One.cells).set (k*3) (zI z6 st)).set (k*3+1) (zb hd)=T.l.flatMap One.cells from ?_]
   · exact this
   · apply List.ext_getElem?;intro i;rw [List.getElem?_set,List.getElem?_set];by_cases h1:k*3+1=i
     · subst h1;rw [if_pos rfl,e1];simp;have:=(List.getElem?_eq_some_iff.1 e1).1;simpa using this
     · rw [if_neg h1];by_cases h2:k*3=i
       · subst h2;rw [if_pos rfl,e0];have:=(List.getElem?_eq_some_iff.1 e0).1;rw [if_pos this]
       · rw [if_neg h2]
 · rcases List.mem_or_eq_of_mem_set hu with hu|rfl
   · exact h.st u hu
   · exact h.st o (List.mem_of_getElem? ho)
theorem ygg (g:GW) (t b:Nat) (i:Int) (s:Bool) (T:TabS) (h:TabAt g t b T):
 Calls prog 163 #[zp (some ⟨b,0,none⟩),zI z6 i,zb s] g.w (Does (zb (T.state i==2&& !T.black i s)) g (fun x=>x=t) (fun g'=>TabAt g' t b (T.mark i s))):=by
 have HS:=zH (ybu g t b i T h);have HB:=zH (ycR g t b i s T h);cases hst:T.state i==2
 · have hz:((T.state i:Int) !=2)=true:=by
    have h1:T.state i≠2:=by simpa using hst
    exact bne_iff_ne.2 zo
   have HM:=zH (show T.mark i s=T from TabS.mark_no (by rw [hst];rfl));have H:=zH h;generalize T.state i=x at *;clear hst h;go_enter func163,ntmps163;go_wp2_with fail;refine (HS.o).mono ?_;rintro e w1 ⟨rfl,rfl⟩;go_wp2_with fail;go_ret;exact Does.of g rfl rfl (Mod.refl _ _) (by rw [HM.o];exact H.o)
 · have hz:((T.state i:Int) !=2)=false:=by
    have h1:T.state i=2:=by simpa using hst
    rw [h1];rfl
   cases hbl:T.black i s
   · cases hin:inB i T.l.length
     · rw [show T.state i=0 by unfold TabS.state;rw [TabS.at_out hin];rfl] at hst;cases hst
     obtain ⟨k,rfl,hk⟩:=yap hin;obtain ⟨r,c,o,ho,h2,hb,hr,hrl, -, -,k2,kf,hne⟩:=h.one hk;have e2:T.state k=2:=by simpa using hst
     have HM:=zH (TabS.mark_yes ho e2 hbl);have HOR:=zH (hr.own r rfl);have H:=zH (h.marked (s:=s) hk ho hb hr (fun e=>hne e.symm));rw [hbl] at HB;rw [e2] at HS;have c0:=hb.cell (i:=0) rfl;have hlen:=h.len;have f2:=kf (k*3+2);generalize T.l.length=n at *;clear hb hr h ho hst hz e2 hbl kf;go_enter func163,ntmps163;go_wp2_with fail;refine (HS.o).mono ?_;rintro e w1 ⟨rfl,rfl⟩;go_wp2_with fail;refine (HB.o).mono ?_;rintro e w1 ⟨rfl,rfl⟩;go_wp2_with fail;go_ret;exact Does.of ⟨g.own,_⟩ rfl rfl (Mod.st Mod.self HOR.o) (by rw [HM.o];exact H.o)
   · have HM:=zH (show T.mark i s=T from TabS.mark_no (by rw [hst,hbl];rfl));have H:=zH h;rw [hbl] at HB;generalize T.state i=x at *;clear hst h hbl;go_enter func163,ntmps163;go_wp2_with fail;refine (HS.o).mono ?_;rintro e w1 ⟨rfl,rfl⟩;go_wp2_with fail;refine (HB.o).mono ?_;rintro e w1 ⟨rfl,rfl⟩;go_wp2_with fail;go_ret;exact Does.of g rfl rfl (Mod.refl _ _) (by rw [HM.o];exact H.o)
theorem yj3 (g:GW) (t b:Nat) (i:Int) (p:PileS) (h:PileAt g t b p):
 Calls prog 164 #[zp (some ⟨b,0,none⟩),zI z6 i] g.w (Does (zb (!((p.l.length:Int)==p.most))) g (fun x=>x=t) (fun g'=>PileAt g' t b (p.push i))):=by
 obtain ⟨i0,hi,hz0,hz1,hz2⟩:=info_parts ya7;obtain ⟨A,c,hb,hr⟩:=h.ex;have c0:=hb.cell (i:=0) rfl;have c1:=hb.cell (i:=1) rfl;have c2:=hb.cell (i:=2) rfl;have f0:=hb.live 0;have f2:=hb.live 2;have hl:=hb.lt;have HO:=zH hb.own;have HB:=zH hb;have HR:=zH hr;have HM:=zH h.most;have HL:=zH h.len;have hll:p.l.length≤256:=by have:=h.len;have:=h.most;omega
 by_cases hf:(p.l.length:Int)=p.most
 · have hz:((p.l.length:Int)==p.most)=true:=beq_iff_eq.2 hf;have HP:=zH (show p.push i={ p with lost:=true } by unfold PileS.push;rw [if_pos hf]);clear hf hb hr h;go_enter func164,ntmps164;go_wp2_with fail;refine yab [zT,zT,zT,zT,zT,zT,zT,zT,zT,zT] 0 10 ?_;intro X00;simp only [pickOps];repeat (go_big_quiet_step (fail))
   refine wpQuiet_nil (fun X0=>?_);clear X00;refine yaa zQ (fun X0'=>?_) _;go_wp2_with fail;go_ret;refine Does.ext ⟨g.own,g.w.setCell ⟨b,2,none⟩ (zb true)⟩ zE (by rw [hz];rfl) (Mod.st Mod.self HO.o) (fun g2 m=>?_);rw [HP.o];exact PileAt.keep ⟨⟨A,c,HB.o.set 2 (zb true),HR.o.setOther 2 _ (fun x hx=>HR.o.ne_type HB.o zd hx)⟩,HM.o,HL.o⟩ m id
 · have hz:((p.l.length:Int)==p.most)=false:=beq_eq_false_iff_ne.2 hf;have HP:=zH (show p.push i={ p with l:=p.l++[i] } by unfold PileS.push;rw [if_neg hf]);have HLT:=zH (show ((p.l++[i]).length:Int)≤p.most from by have:=h.len;simp;omega);clear hf hb hr h;go_enter func164,ntmps164;go_wp2_with fail;refine yab [zT,zT,zT,zT,zT,zT,zT,zT,zT,zT] 0 10 ?_;intro X00;simp only [pickOps];repeat (go_big_quiet_step (fail))
   refine wpQuiet_nil (fun X0=>?_);clear X00;refine yaa zQ (fun X0'=>?_) _;obtain ⟨X1,hX⟩:=(show Ext g.w ((g.w.patch X0).patch X0') from Ext.trans ⟨X0,rfl⟩ ⟨X0',rfl⟩);rw [hX];clear hX;have R1:=zH (HR.o.ptx X1);have B1:=zH (HB.o.pt X1);have hbl:b<(g.w.patch X1).heap.size:=B1.o.lt;have HEX:=zH (fun o=>show Ext (g.pt X1).w ((g.w.patch X1).alloc o) from Ext.alloc (Ext.refl _) o)
   go_wp2_with (at_builtin;refine wpList_append_own_at _ rfl (.tmp 22) (.tmp 24) 97 rfl 0 3 i0 (zI z6 0) 1 8 Tryz.underlying97 hi hz0 hz1 hz2 rfl zd _ _ _ rfl (R1.o.row.alloc _) ⟨(g.w.patch X1).heap.size,0,none⟩ 1 1 [zI z6 i] rfl rfl (cell_one_new _ _ _) (by intro u hu;simp at hu;subst hu;rfl) (by unfold maxLen;omega) zo (Nat.zero_le _) ?_;intro v2 w2 hown hgrow hnil hat;obtain ⟨A2,cp2,rfl⟩:=yak hown;have R2:=zH ((R1.o.ext (HEX.o (.cells #[zI z6 i] 3)) 0).grown hown hat);have B2:=zH ((B1.o.ext (HEX.o (.cells #[zI z6 i] 3)) 0).grown (t':=t) hgrow (fun x hx=>R1.o.ne_type B1.o zd hx));have M2:=zH (((Mod.pt (Mod.refl (fun x=>x=t) g) X1).trans (Mod.ext (T:=fun x=>x=t) (HEX.o (.cells #[zI z6 i] 3)) 0)).trans (Mod.grown hgrow t (fun k hk hl=>(R1.o.ext (HEX.o (.cells #[zI z6 i] 3)) 0).own k hk)));have d0:=B2.o.cell (i:=0) rfl;have e0:=B2.o.live 0;have hbl2:=B2.o.lt;simp only [GW.to] at d0 e0 hbl2;clear hown hgrow hnil hat c0 f0 hbl hl);go_ret;refine ⟨by rw [hz];rfl,_,M2.o.trans (Mod.st Mod.self B2.o.own),?_⟩;rw [HP.o]
   exact ⟨⟨A2,cp2,(by simp only [List.length_append,List.length_cons,List.length_nil];exact B2.o.set 0 _),(by simp only [List.length_append,List.length_cons,List.length_nil,List.map_append,List.map_cons,List.map_nil];exact R2.o.setOther 0 _ (fun x hx=>R2.o.ne_type B2.o zd hx))⟩,HM.o,HLT.o⟩
theorem yky (g:GW) (tt bt:Nat) (T:TabS) (i:Int) (s:Bool) (h:TabAt g tt bt T):Calls prog 162 #[.agg #[zp (some ⟨bt,0,none⟩)],zI z6 i,zb s] g.w (Gives (zb (T.white i s)) g.w):=by
 have HH:=zH (fun w' (he:Ext g.w w')=>ylm (g.to 0 w') tt bt i T (h.keep (Mod.ext (T:=fun _=>False) he 0) id));have HB:=zH (fun w' (he:Ext g.w w')=>ycR (g.to 0 w') tt bt i s T (h.keep (Mod.ext (T:=fun _=>False) he 0) id));have HV:=zH (show T.white i s=(T.head i&& !T.black i s) from rfl);rw [HV.o];generalize T.head i=a at *;generalize T.black i s=b at *;clear h HV;cases a
 · go_enter func162,ntmps162;go_wp2_with fail;refine (HH.o _ zE).mono ?_;rintro e w1 ⟨rfl,rfl⟩;go_wp2_with fail;go_ret;exact Gives.mk rfl (by (try simp only [GW.to]);exact zE)
 · go_enter func162,ntmps162;go_wp2_with fail;refine (HH.o _ zE).mono ?_;rintro e w1 ⟨rfl,rfl⟩;simp only [GW.to];go_wp2_with fail;refine (HB.o _ zE).mono ?_;rintro e w1 ⟨rfl,rfl⟩;simp only [GW.to];go_wp2_with fail;go_ret;exact Gives.mk (by simp) (by (try simp only [GW.to]);exact zE)
structure ShdAt (g:GW) (t b bt tt bp tp:Nat) (T:TabS) (p:PileS) (n:Int):Prop where
 blk:Blk g t b 57 [zp (some ⟨bt,0,none⟩),zp (some ⟨bp,0,none⟩),zI z6 n]
 tab:TabAt g tt bt T
 pile:PileAt g tp bp p
theorem ShdAt.keep {S:Nat→Prop} {g g':GW} {t b bt tt bp tp:Nat} {T:TabS} {p:PileS} {n:Int} (h:ShdAt g t b bt tt bp tp T p n) (m:Mod S g g') (h1: ¬S t) (h2: ¬S tt) (h3: ¬S tp):ShdAt g' t b bt tt bp tp T p n:=⟨h.blk.keep m h1,h.tab.keep m h2,h.pile.keep m h3⟩
theorem ShdAt.tick {g:GW} {t b bt tt bp tp:Nat} {T:TabS} {p:PileS} {n:Int} (h:ShdAt g t b bt tt bp tp T p n) (h1:t≠tt) (h2:t≠tp):ShdAt ⟨g.own,g.w.setCell ⟨b,2,none⟩ (zI z6 (n+1))⟩ t b bt tt bp tp T p (n+1):=by
 have m:Mod (fun x=>x=t) g ⟨g.own,g.w.setCell ⟨b,2,none⟩ (zI z6 (n+1))⟩:=Mod.st Mod.self h.blk.own;exact ⟨h.blk.set 2 (zI z6 (n+1)),h.tab.keep m (fun e=>h1 e.symm),h.pile.keep m (fun e=>h2 e.symm)⟩
theorem ycj (g:GW) (t b bt tt bp tp:Nat) (T:TabS) (p:PileS) (n i:Int) (s:Bool) (h:ShdAt g t b bt tt bp tp T p n) (hn:0≤n∧n≤1099511627776) (h1:t≠tt) (h2:t≠tp) (h3:tt≠tp):
 Calls prog 89 #[zp (some ⟨b,0,none⟩),zI z6 i,zb s] g.w (Does (zb (T.white i s)) g (fun x=>x=t∨x=tt∨x=tp) (fun g'=>ShdAt g' t b bt tt bp tp (T.grey i s) (p.grey T i s) (n+1))):=by
 have c0:=h.blk.cell (i:=0) rfl;have c2:=h.blk.cell (i:=2) rfl;have f2:=h.blk.live 2;have hl:=h.blk.lt;have HO:=zH h.blk.own;have HN:=zH (And.intro h1 (And.intro h2 h3));have H1:=zH (h.tick h1 h2);have M1:=zH (show Mod (fun x=>x=t) g ⟨g.own,g.w.setCell ⟨b,2,none⟩ (zI z6 (n+1))⟩ from Mod.st Mod.self HO.o);have HW:=zH (yky ⟨g.own,g.w.setCell ⟨b,2,none⟩ (zI z6 (n+1))⟩ tt bt T i s H1.o.tab);obtain ⟨hn0,hn1⟩:=hn;clear h h1 h2 h3;cases hw:T.white i s
 · have HG:=zH (And.intro (show T.grey i s=T by unfold TabS.grey;rw [hw];rfl) (show p.grey T i s=p by unfold PileS.grey;rw [hw];rfl));rw [hw] at HW;clear hw;go_enter func89,ntmps89;go_wp2_with fail;refine HW.o.mono ?_;rintro e w1 ⟨rfl,hE⟩;have M2:=zH (Mod.ext (T:=fun _=>False) (g:=⟨g.own,g.w.setCell ⟨b,2,none⟩ (zI z6 (n+1))⟩) (show Ext (g.w.setCell ⟨b,2,none⟩ (zI z6 (n+1))) w1 from hE) 0);clear hE;go_wp2_with fail;go_ret;exact ⟨rfl,_,(M1.o.mono (fun x hx=>Or.inl hx)).trans (M2.o.mono zG),by rw [HG.o.1,HG.o.2];exact H1.o.keep M2.o id id id⟩
 · have HG:=zH (And.intro (show T.grey i s=T.mark i s by unfold TabS.grey;rw [hw];rfl) (show p.grey T i s=p.push i by unfold PileS.grey;rw [hw];rfl));rw [hw] at HW;clear hw;go_enter func89,ntmps89;go_wp2_with fail;refine HW.o.mono ?_;rintro e w1 ⟨rfl,hE⟩;have M2:=zH (Mod.ext (T:=fun _=>False) (g:=⟨g.own,g.w.setCell ⟨b,2,none⟩ (zI z6 (n+1))⟩) (show Ext (g.w.setCell ⟨b,2,none⟩ (zI z6 (n+1))) w1 from hE) 0);have H2:=zH (H1.o.keep M2.o id id id);clear hE c0 c2 f2 hl;have c0:=H2.o.blk.cell (i:=0) rfl;have hl:=H2.o.blk.lt;simp only [GW.to] at c0 hl;go_wp2_with fail;refine (ygg (GW.to ⟨g.own,g.w.setCell ⟨b,2,none⟩ (zI z6 (n+1))⟩ 0 w1) tt bt i s T H2.o.tab).mono ?_;rintro e w2 ⟨rfl,own2,m2,r2⟩;have M3:=zH m2;have B3:=zH (H2.o.blk.keep m2 HN.o.1);have P3:=zH (H2.o.pile.keep m2 (fun e=>HN.o.2.2 e.symm));have T3:=zH r2;clear m2 r2 c0 hl;have c1:=B3.o.cell (i:=1) rfl;have hl:=B3.o.lt;simp only at c1 hl;go_wp2_with fail;refine (yj3 ⟨own2,w2⟩ tp bp i p P3.o).mono ?_;rintro e w3 ⟨rfl,own3,m3,r3⟩;have M4:=zH m3;have R4:=zH (show ShdAt ⟨own3,w3⟩ t b bt tt bp tp (T.mark i s) (p.push i) (n+1) from ⟨B3.o.keep m3 HN.o.2.1,T3.o.keep m3 HN.o.2.2,r3⟩)
   clear m3 r3 c1 hl;go_wp2_with fail;go_ret;exact ⟨rfl,own3,(M1.o.mono (fun x hx=>Or.inl hx)).trans ((M2.o.mono zG).trans ((M3.o.mono (fun x hx=>Or.inr (Or.inl hx))).trans (M4.o.mono (fun x hx=>Or.inr (Or.inr hx))))),by rw [HG.o.1,HG.o.2];exact R4.o⟩
theorem yiv (g:GW) (t b bt tt bp tp:Nat) (T:TabS) (p:PileS) (n i:Int) (s:Bool) (h:ShdAt g t b bt tt bp tp T p n) (hn:0≤n∧n≤1099511627776) (h1:t≠tt) (h2:t≠tp) (h3:tt≠tp):
 Calls prog 278 #[zp (some ⟨b,0,none⟩),zI z6 i,zb s] g.w (Does (zb (T.state i==2&& !T.black i s)) g (fun x=>x=t∨x=tt) (fun g'=>ShdAt g' t b bt tt bp tp (T.mark i s) p (n+1))):=by
 have c0:=h.blk.cell (i:=0) rfl;have c2:=h.blk.cell (i:=2) rfl;have f2:=h.blk.live 2;have hl:=h.blk.lt;have HO:=zH h.blk.own;have HN:=zH (And.intro h1 (And.intro h2 h3));have H1:=zH (h.tick h1 h2);have M1:=zH (show Mod (fun x=>x=t) g ⟨g.own,g.w.setCell ⟨b,2,none⟩ (zI z6 (n+1))⟩ from Mod.st Mod.self HO.o);obtain ⟨hn0,hn1⟩:=hn;clear h h1 h2 h3;go_enter func278,ntmps278;go_wp2_with fail;refine (ygg ⟨g.own,g.w.setCell ⟨b,2,none⟩ (zI z6 (n+1))⟩ tt bt i s T H1.o.tab).mono ?_;rintro e w2 ⟨rfl,own2,m2,r2⟩;have M3:=zH m2;have R3:=zH (show ShdAt ⟨own2,w2⟩ t b bt tt bp tp (T.mark i s) p (n+1) from ⟨H1.o.blk.keep m2 HN.o.1,r2,H1.o.pile.keep m2 (fun e=>HN.o.2.2 e.symm)⟩);clear m2 r2;go_wp2_with fail;go_ret;exact ⟨rfl,own2,(M1.o.mono (fun x hx=>Or.inl hx)).trans (M3.o.mono (fun x hx=>Or.inr hx)),R3.o⟩
section
variable {g g':GW} {B b bm bs bt bp bsp bh:Nat} {K:CoreS} {cm:Cnf}
theorem CoreIn.putMem (h:CoreIn g B b K bm bs bt bp bsp bh cm) {M:MemS} (m:Mod (fun x=>x=B+62) g g') (hm:MemAt g' (B+62) bm M):CoreIn g' B b { K with mem:=M } bm bs bt bp bsp bh cm:=
 ⟨h.blk.keep m zo,hm,h.sh.keep m zo,h.pile.keep m zo,h.sp.keep m (fun x hx=>by omega),h.hand.keep m zo,h.cnf.keep m zo,h.same⟩
theorem CoreIn.putHand (h:CoreIn g B b K bm bs bt bp bsp bh cm) {H:HandS} (m:Mod (fun x=>x=B+63) g g') (hm:HandAt g' (B+63) bh H):CoreIn g' B b { K with hand:=H } bm bs bt bp bsp bh cm:=
 ⟨h.blk.keep m zo,h.mem.keep m zo,h.sh.keep m zo,h.pile.keep m zo,h.sp.keep m (fun x hx=>by omega),hm,h.cnf.keep m zo,h.same⟩
theorem CoreIn.putSp (h:CoreIn g B b K bm bs bt bp bsp bh cm) {S:SpaceS} (m:Mod (inst B) g g') (hm:SpaceAt g' B bsp bt S):CoreIn g' B b { K with sp:=S } bm bs bt bp bsp bh cm:=
 ⟨h.blk.keep m (fun hx=>by have:=hx.2;omega),h.mem.keep m (fun hx=>by have:=hx.2;omega),h.sh.keep m (fun hx=>by have:=hx.2;omega),h.pile.keep m (fun hx=>by have:=hx.2;omega),hm,h.hand.keep m (fun hx=>by have:=hx.2;omega),h.cnf.keep m (fun hx=>by have:=hx.2;omega),h.same⟩
theorem SpaceAt.putTab {S:SpaceS} (h:SpaceAt g B b bt S) {T:TabS} (m:Mod (fun x=>x=B+60∨x=B+50∨x=B+61) g g') (ht:TabAt g' (B+50) bt T):SpaceAt g' B b bt { S with tab:=T }:=by
 obtain ⟨bp,bk,bl,A,cs,cm,bs,h⟩:=h;exact ⟨bp,bk,bl,A,cs,cm,bs,⟨h.blk.keep m zo,h.row.keep m zo,ht,h.pool.keep m zo,h.coil.keep m zo,h.line.keep m zo zo,h.cnf.keep m zo,h.same,h.blen,fun j x s hx hs=>(h.stock j x s hx hs).keep m (by have h1:j<S.stocks.length:=(List.getElem?_eq_some_iff.1 hs).1;have:=h.few;omega),h.check,h.few⟩⟩
theorem SpaceAt.tab {S:SpaceS} (h:SpaceAt g B b bt S):TabAt g (B+50) bt S.tab:=by
 obtain ⟨bp,bk,bl,A,cs,cm,bs,h⟩:=h;exact h.tab
theorem CoreIn.shd (h:CoreIn g B b K bm bs bt bp bsp bh cm):ShdAt g (B+60) bs bt (B+50) bp (B+61) K.sp.tab K.pile K.n:=⟨h.sh,h.sp.tab,h.pile⟩
theorem CoreIn.putShd (h:CoreIn g B b K bm bs bt bp bsp bh cm) {T:TabS} {p:PileS} {n:Int} (m:Mod (fun x=>x=B+60∨x=B+50∨x=B+61) g g') (hs:ShdAt g' (B+60) bs bt (B+50) bp (B+61) T p n):CoreIn g' B b { K with sp:={ K.sp with tab:=T },pile:=p,n:=n } bm bs bt bp bsp bh cm:=
 ⟨h.blk.keep m zo,h.mem.keep m zo,hs.blk,hs.pile,h.sp.putTab m hs.tab,h.hand.keep m zo,h.cnf.keep m zo,h.same⟩
end
end Go.Proofs.YtdhjjpnajjingaaGreat
namespace Go
open Go.RowKit
namespace HandS
def polled (h:HandS) (i:Int):Bool:=h.own i== -1 || h.own i==h.status
def knownB (s:Int):Bool:=decide (0≤s)&&decide (s≤4)
def post (h:HandS) (s:Int) (flip:Bool):HandS:=if knownB s then { h.tick with status:=s,sense:=h.sense !=flip } else h.tick
def mayAnswer (h:HandS) (i s:Int):Bool:= !(h.own i== -1)&&knownB s
def answer (h:HandS) (i s:Int):HandS:=if h.mayAnswer i s then { h.tick with l:=h.l.set i.toNat s } else h.tick
def mayJoin (h:HandS) (i:Int):Bool:=inB i h.l.length&&(h.l.getD i.toNat 0== -1)
def join (h:HandS) (i:Int):HandS:=if h.mayJoin i then { h.tick with l:=h.l.set i.toNat h.status } else h.tick
def joined (h:HandS) (i:Int):Value:=if h.mayJoin i then .tuple #[zI z6 h.status,zb h.sense,zb true] else .tuple #[zI z6 0,zb false,zb false]
def mayLeave (h:HandS) (i:Int):Bool:= !(h.own i== -1)
def leave (h:HandS) (i:Int):HandS:=if h.mayLeave i then { h.tick with l:=h.l.set i.toNat (-1) } else h.tick
theorem own_in {h:HandS} {i:Int} (hi:(h.own i== -1)=false): ∃k:Nat,i=k∧k<h.l.length:=by
 unfold own at hi;cases hb:inB i h.l.length
 · rw [hb] at hi;simp at hi
 · exact yap hb
end HandS
end Go
namespace Go.Proofs.YtdhjjpnajjingaaGreat
open Go Go.RowKit
theorem yeJ (s:Int) (w:World):Calls prog 160 #[zI z6 s] w (Gives (zb (HandS.knownB s)) w):=by
 by_cases h0:0≤s
 · have d0:decide (0≤s)=true:=decide_eq_true h0;have HV:=zH (show HandS.knownB s=decide (s≤4) by unfold HandS.knownB;rw [d0,Bool.true_and]);go_enter func160,ntmps160;go_wp2_with fail;go_ret;exact Gives.bool (by rw [HV.o]) zE
 · have d0:decide (0≤s)=false:=decide_eq_false h0;have HV:=zH (show HandS.knownB s=false by unfold HandS.knownB;rw [d0,Bool.false_and]);go_enter func160,ntmps160;go_wp2_with fail;go_ret;exact Gives.bool (by rw [HV.o]) zE
theorem HandAt.tick {g:GW} {t b:Nat} {h:HandS} (H:HandAt g t b h):HandAt ⟨g.own,g.w.setCell ⟨b,3,none⟩ (zI z6 (h.count+1))⟩ t b h.tick:=by
 obtain ⟨A,c,hb,hr⟩:=H.ex;exact ⟨⟨A,c,hb.set 3 _,hr.setOther 3 _ (fun x hx=>hr.ne_type hb zd hx)⟩,H.len⟩
theorem HandAt.put {g:GW} {t b r c k:Nat} {h:HandS} (s:Int) (H:HandAt g t b h) (hk:k<h.l.length) (hb:Blk g t b 137 [zI z6 h.status,zb h.sense,.slice (some ⟨r,0,none⟩) h.l.length c,zI z6 h.count]):
 HandAt ⟨g.own,g.w.setCell ⟨r,k,none⟩ (zI z6 s)⟩ t b { h with l:=h.l.set k s }∧g.own r=t:=by
 obtain ⟨A,c',hb',hr⟩:=H.ex;have he:=hb.same hb';simp only [List.cons.injEq,Value.slice.injEq,and_true,true_and] at he;obtain ⟨rfl,rfl⟩:=he;obtain ⟨r',hA,hrl,ho,hcell,hfr⟩:=hr.block zo;injection hA with hA;injection hA with hA;subst hA;refine ⟨⟨⟨some ⟨r,0,none⟩,c,?_,?_⟩,by show (h.l.set k s).length≤16;rw [List.length_set];exact H.len⟩,ho⟩
 · have hne:r≠b:=fun e=>(hr.ne_type hb zd (x:=r) rfl) e.symm;show Blk _ t b _ [zI z6 h.status,zb h.sense,.slice (some ⟨r,0,none⟩) (h.l.set k s).length c,zI z6 h.count];rw [List.length_set];exact hb.setOther k _ hne
 · show Row _ t 3 1 (.slice (some ⟨r,0,none⟩) (h.l.set k s).length c) (h.l.set k s).length ((h.l.set k s).map (zI z6));rw [List.length_set,List.map_set];exact hr.store k (zI z6 s)
theorem yjr (g:GW) (t b:Nat) (i:Int) (h:HandS) (H:HandAt g t b h) (hc:0≤h.count∧h.count≤1099511627776):
 Calls prog 161 #[zp (some ⟨b,0,none⟩),zI z6 i] g.w (Does (zb (h.polled i)) g (fun x=>x=t) (fun g'=>HandAt g' t b h.tick)):=by
 have HST:=zH (yb2 _ t b i h.tick H.tick);have HT:=zH H.tick;obtain ⟨A,c,hb,hr⟩:=H.ex;obtain ⟨hc0,hc1⟩:=hc;have M0:=zH (show Mod (fun x=>x=t) g ⟨g.own,g.w.setCell ⟨b,3,none⟩ (zI z6 (h.count+1))⟩ from Mod.set hb.own);have HV:=zH (show h.polled i=(h.own i== -1 || h.own i==h.status) from rfl);rw [show h.tick.own i=h.own i from rfl] at HST;obtain ⟨a0,a1,a2,a3,al⟩:=hb.k4;have af3:=hb.liv 3;clear hb hr H;generalize h.own i=x at *;cases hx:(x== -1)
 · go_enter func161,ntmps161;go_wp2_with fail;refine HST.o.mono ?_;rintro e w1 ⟨rfl,rfl⟩;go_wp2_with fail;go_ret;exact Does.of ⟨g.own,_⟩ rfl (by rw [HV.o,hx];simp) M0.o HT.o
 · go_enter func161,ntmps161;go_wp2_with fail;refine HST.o.mono ?_;rintro e w1 ⟨rfl,rfl⟩;go_wp2_with fail;go_ret;exact Does.of ⟨g.own,_⟩ rfl (by rw [HV.o,hx];simp) M0.o HT.o
theorem ybW (g:GW) (t b:Nat) (s:Int) (flip:Bool) (h:HandS) (H:HandAt g t b h) (hc:0≤h.count∧h.count≤1099511627776):
 Calls prog 87 #[zp (some ⟨b,0,none⟩),zI z6 s,zb flip] g.w (Does (zb (HandS.knownB s)) g (fun x=>x=t) (fun g'=>HandAt g' t b (h.post s flip))):=by
 have HT:=zH H.tick;obtain ⟨A,c,hb,hr⟩:=H.ex;obtain ⟨hc0,hc1⟩:=hc;have HK:=zH (fun w'=>yeJ s w');have M0:=zH (show Mod (fun x=>x=t) g ⟨g.own,g.w.setCell ⟨b,3,none⟩ (zI z6 (h.count+1))⟩ from Mod.set hb.own);obtain ⟨a0,a1,a2,a3,al⟩:=hb.k4;have af0:=hb.liv 0;have af1:=hb.liv 1;have af3:=hb.liv 3;have HB:=zH hb;have HR:=zH hr;have HL:=zH H.len;clear hb hr H;cases hk:HandS.knownB s
 · rw [hk] at HK;have HV:=zH (show h.post s flip=h.tick by unfold HandS.post;rw [hk];rfl);clear hk;go_enter func87,ntmps87;go_wp2_with fail;refine (HK.o _).mono ?_;rintro e w1 ⟨rfl,hE⟩;obtain ⟨own1,m1⟩: ∃own1,Mod (fun _=>False) ⟨g.own,g.w.setCell ⟨b,3,none⟩ (zI z6 (h.count+1))⟩ ⟨own1,w1⟩:=⟨_,Mod.ext (g:=⟨g.own,g.w.setCell ⟨b,3,none⟩ (zI z6 (h.count+1))⟩) (show Ext _ w1 from hE) 0⟩;have M1:=zH (M0.o.trans (m1.mono (S:=fun x=>x=t) zG));have H1:=zH (HT.o.keep m1 id);clear m1 hE;go_wp2_with fail;go_ret;exact Does.of ⟨own1,w1⟩ rfl rfl M1.o (by rw [HV.o];exact H1.o)
 · rw [hk] at HK;have HV:=zH (show h.post s flip={ h.tick with status:=s,sense:=h.sense !=flip } by unfold HandS.post;rw [hk];rfl);clear hk;go_enter func87,ntmps87;go_wp2_with fail;refine (HK.o _).mono ?_;rintro e w1 ⟨rfl,hE⟩;obtain ⟨own1,m1⟩: ∃own1,Mod (fun _=>False) ⟨g.own,g.w.setCell ⟨b,3,none⟩ (zI z6 (h.count+1))⟩ ⟨own1,w1⟩:=⟨_,Mod.ext (g:=⟨g.own,g.w.setCell ⟨b,3,none⟩ (zI z6 (h.count+1))⟩) (show Ext _ w1 from hE) 0⟩;have M1:=zH (M0.o.trans (m1.mono (S:=fun x=>x=t) zG));have B1:=zH ((HB.o.set 3 (zI z6 (h.count+1))).keep m1 id);have R1:=zH ((HR.o.setOther 3 (zI z6 (h.count+1)) (fun x hx=>HR.o.ne_type HB.o zd hx)).keep m1 id);clear m1 hE a0 a1 a2 a3 af0 af1 af3 al;obtain ⟨a0,a1,a2,a3,al⟩:=B1.o.k4;have af0:=B1.o.liv 0;have af1:=B1.o.liv 1;go_wp2_with fail;go_ret;refine Does.of ⟨own1,(w1.setCell ⟨b,0,none⟩ (zI z6 s)).setCell ⟨b,1,none⟩ (zb (h.sense !=flip))⟩ rfl rfl (Mod.st (Mod.st M1.o B1.o.own) B1.o.own) ?_;rw [HV.o];exact ⟨⟨A,c,(B1.o.set 0 (zI z6 s)).set 1 (zb (h.sense !=flip)),(R1.o.setOther 0 _ (fun x hx=>HR.o.ne_type HB.o zd hx)).setOther 1 _ (fun x hx=>HR.o.ne_type HB.o zd hx)⟩,HL.o⟩
theorem ygE (g:GW) (t b:Nat) (i s:Int) (h:HandS) (H:HandAt g t b h) (hc:0≤h.count∧h.count≤1099511627776):
 Calls prog 128 #[zp (some ⟨b,0,none⟩),zI z6 i,zI z6 s] g.w (Does (zb (h.mayAnswer i s)) g (fun x=>x=t) (fun g'=>HandAt g' t b (h.answer i s))):=by
 have HST:=zH (yb2 _ t b i h.tick H.tick);have HT:=zH H.tick;obtain ⟨A,c,hb,hr⟩:=H.ex;obtain ⟨hc0,hc1⟩:=hc;have HK:=zH (fun w'=>yeJ s w');have M0:=zH (show Mod (fun x=>x=t) g ⟨g.own,g.w.setCell ⟨b,3,none⟩ (zI z6 (h.count+1))⟩ from Mod.set hb.own);rw [show h.tick.own i=h.own i from rfl] at HST;obtain ⟨a0,a1,a2,a3,al⟩:=hb.k4;have af3:=hb.liv 3;have HB:=zH hb;have HR:=zH hr;clear hb hr;cases hx:(h.own i== -1)
 case true=>
  have HV:=zH (show h.mayAnswer i s=false by unfold HandS.mayAnswer;rw [hx];rfl);have HW:=zH (show h.answer i s=h.tick by unfold HandS.answer;rw [HV.o];rfl);go_enter func128,ntmps128;go_wp2_with fail;refine HST.o.mono ?_;rintro e w1 ⟨rfl,rfl⟩;go_wp2_with fail;go_ret;exact Does.of ⟨g.own,_⟩ rfl (by rw [HV.o];try rfl) M0.o (by rw [HW.o];exact HT.o)
 obtain ⟨k,rfl,hk⟩:=HandS.own_in hx;cases hkn:HandS.knownB s
 · rw [hkn] at HK;have HV:=zH (show h.mayAnswer k s=false by unfold HandS.mayAnswer;rw [hx,hkn];rfl);have HW:=zH (show h.answer k s=h.tick by unfold HandS.answer;rw [HV.o];rfl);clear hkn;go_enter func128,ntmps128;go_wp2_with fail;refine HST.o.mono ?_;rintro e w1 ⟨rfl,rfl⟩;go_wp2_with fail;refine (HK.o _).mono ?_;rintro e w1 ⟨rfl,hE⟩;obtain ⟨own1,m1⟩: ∃own1,Mod (fun _=>False) ⟨g.own,g.w.setCell ⟨b,3,none⟩ (zI z6 (h.count+1))⟩ ⟨own1,w1⟩:=⟨_,Mod.ext (g:=⟨g.own,g.w.setCell ⟨b,3,none⟩ (zI z6 (h.count+1))⟩) (show Ext _ w1 from hE) 0⟩;have M1:=zH (M0.o.trans (m1.mono (S:=fun x=>x=t) zG));have H1:=zH (HT.o.keep m1 id);clear m1 hE;go_wp2_with fail;go_ret;exact Does.of ⟨own1,w1⟩ rfl (by rw [HV.o];try rfl) M1.o (by rw [HW.o];exact H1.o)
 · rw [hkn] at HK;have HV:=zH (show h.mayAnswer k s=true by unfold HandS.mayAnswer;rw [hx,hkn];rfl);have HW:=zH (show h.answer k s={ h.tick with l:=h.tick.l.set k s } by unfold HandS.answer;rw [HV.o,if_pos rfl,Int.toNat_natCast];rfl);clear hkn;go_enter func128,ntmps128;go_wp2_with fail;refine HST.o.mono ?_;rintro e w1 ⟨rfl,rfl⟩;go_wp2_with fail;refine (HK.o _).mono ?_;rintro e w1 ⟨rfl,hE⟩;obtain ⟨own1,m1⟩: ∃own1,Mod (fun _=>False) ⟨g.own,g.w.setCell ⟨b,3,none⟩ (zI z6 (h.count+1))⟩ ⟨own1,w1⟩:=⟨_,Mod.ext (g:=⟨g.own,g.w.setCell ⟨b,3,none⟩ (zI z6 (h.count+1))⟩) (show Ext _ w1 from hE) 0⟩;have M1:=zH (M0.o.trans (m1.mono (S:=fun x=>x=t) zG));have H1:=zH (HT.o.keep m1 id);have B1:=zH ((HB.o.set 3 (zI z6 (h.count+1))).keep m1 id);have R1:=zH ((HR.o.setOther 3 (zI z6 (h.count+1)) (fun x hx=>HR.o.ne_type HB.o zd hx)).keep m1 id);have hlen:=H.len;clear m1 hE a0 a1 a2 a3 af3 al;obtain ⟨a0,a1,a2,a3,al⟩:=B1.o.k4;obtain ⟨r,rfl,hrl,ho,hcell,hfr⟩:=R1.o.block zo;have k0:=hcell k (zI z6 (h.l.getD k 0)) (by simp [List.getD_eq_getElem?_getD,hk]);have kf:=hfr k;have HP:=zH (HandAt.put s H1.o (show k<h.tick.l.length from hk) B1.o);(try simp only at k0 kf hrl)
   clear hcell hfr H;generalize h.l.getD k 0=x at *;go_wp2_with fail;go_ret;exact Does.of ⟨own1,w1.setCell ⟨r,k,none⟩ (zI z6 s)⟩ rfl (by rw [HV.o];try rfl) (Mod.st M1.o HP.o.2) (by rw [HW.o];exact HP.o.1)
theorem yhW (g:GW) (t b:Nat) (i:Int) (h:HandS) (H:HandAt g t b h) (hc:0≤h.count∧h.count≤1099511627776):
 Calls prog 132 #[zp (some ⟨b,0,none⟩),zI z6 i] g.w (Does (zb (h.mayLeave i)) g (fun x=>x=t) (fun g'=>HandAt g' t b (h.leave i))):=by
 have HST:=zH (yb2 _ t b i h.tick H.tick);have HT:=zH H.tick;obtain ⟨A,c,hb,hr⟩:=H.ex;obtain ⟨hc0,hc1⟩:=hc;have M0:=zH (show Mod (fun x=>x=t) g ⟨g.own,g.w.setCell ⟨b,3,none⟩ (zI z6 (h.count+1))⟩ from Mod.set hb.own);rw [show h.tick.own i=h.own i from rfl] at HST;obtain ⟨a0,a1,a2,a3,al⟩:=hb.k4;have af3:=hb.liv 3;have HB:=zH hb;have HR:=zH hr;clear hb hr;cases hx:(h.own i== -1)
 case true=>
  have HV:=zH (show h.mayLeave i=false by unfold HandS.mayLeave;rw [hx];rfl);have HW:=zH (show h.leave i=h.tick by unfold HandS.leave;rw [HV.o];rfl);go_enter func132,ntmps132;go_wp2_with fail;refine HST.o.mono ?_;rintro e w1 ⟨rfl,rfl⟩;go_wp2_with fail;go_ret;exact Does.of ⟨g.own,_⟩ rfl (by rw [HV.o];try rfl) M0.o (by rw [HW.o];exact HT.o)
 obtain ⟨k,rfl,hk⟩:=HandS.own_in hx;have HV:=zH (show h.mayLeave k=true by unfold HandS.mayLeave;rw [hx];rfl);have HW:=zH (show h.leave k={ h.tick with l:=h.tick.l.set k (-1) } by unfold HandS.leave;rw [HV.o,if_pos rfl,Int.toNat_natCast];rfl);have B1:=zH (HB.o.set 3 (zI z6 (h.count+1)));have R1:=zH (HR.o.setOther 3 (zI z6 (h.count+1)) (fun x hx=>HR.o.ne_type HB.o zd hx));have hlen:=H.len;obtain ⟨r,rfl,hrl,ho,hcell,hfr⟩:=HR.o.block zo;have hrb:b≠r:=HR.o.ne_type HB.o zd rfl;have hrb2:r≠b:=fun e=>hrb e.symm;have k0:=hcell k (zI z6 (h.l.getD k 0)) (by simp [List.getD_eq_getElem?_getD,hk]);have kf:=hfr k;have HP:=zH (HandAt.put (-1) HT.o (show k<h.tick.l.length from hk) B1.o);(try simp only at k0 kf hrl);clear hcell hfr H;generalize h.l.getD k 0=x at *;go_enter func132,ntmps132;go_wp2_with fail;refine HST.o.mono ?_;rintro e w1 ⟨rfl,rfl⟩;go_wp2_with fail;go_ret;exact Does.of ⟨g.own,(g.w.setCell ⟨b,3,none⟩ (zI z6 (h.count+1))).setCell ⟨r,k,none⟩ (zI z6 (-1))⟩ rfl (by rw [HV.o];try rfl) (Mod.st M0.o HP.o.2) (by rw [HW.o];exact HP.o.1)
theorem yjp (g:GW) (t b:Nat) (i:Int) (h:HandS) (H:HandAt g t b h) (hc:0≤h.count∧h.count≤1099511627776):
 Calls prog 39 #[zp (some ⟨b,0,none⟩),zI z6 i] g.w (Does (h.joined i) g (fun x=>x=t) (fun g'=>HandAt g' t b (h.join i))):=by
 have HT:=zH H.tick;obtain ⟨A,c,hb,hr⟩:=H.ex;obtain ⟨hc0,hc1⟩:=hc;have M0:=zH (show Mod (fun x=>x=t) g ⟨g.own,g.w.setCell ⟨b,3,none⟩ (zI z6 (h.count+1))⟩ from Mod.set hb.own);have HB:=zH hb;have HR:=zH hr;have hlen:=H.len;obtain ⟨a0,a1,a2,a3,al⟩:=hb.k4;have af3:=hb.liv 3;clear hb hr;cases hin:inB i h.l.length
 · have hm:h.mayJoin i=false:=by unfold HandS.mayJoin;rw [hin];rfl
   have HV:=zH (show h.joined i=.tuple #[zI z6 0,zb false,zb false] by unfold HandS.joined;rw [hm];rfl);have HW:=zH (show h.join i=h.tick by unfold HandS.join;rw [hm];rfl);have hq:=ybX hin;clear hm hin H;by_cases h0:i<0
   · have d0:decide (i<0)=true:=decide_eq_true h0;clear hq;go_enter func39,ntmps39;go_wp2_with fail;go_ret3
     exact Does.of ⟨g.own,_⟩ rfl (by rw [HV.o];try rfl) M0.o (by rw [HW.o];exact HT.o)
   · have d0:decide (i<0)=false:=decide_eq_false h0;have d1:decide ((h.l.length:Int)≤i)=true:=decide_eq_true zo;clear hq;go_enter func39,ntmps39;go_wp2_with fail;go_ret3
     exact Does.of ⟨g.own,_⟩ rfl (by rw [HV.o];try rfl) M0.o (by rw [HW.o];exact HT.o)
 obtain ⟨k,rfl,hk⟩:=yap hin;have d0:decide ((k:Int)<0)=false:=decide_eq_false zo;have d1:decide ((h.l.length:Int)≤k)=false:=decide_eq_false zo;obtain ⟨r,rfl,hrl,ho,hcell,hfr⟩:=HR.o.block zo;have hrb:b≠r:=HR.o.ne_type HB.o zd rfl;have hrb2:r≠b:=fun e=>hrb e.symm;have k0:=hcell k (zI z6 (h.l.getD k 0)) (by simp [List.getD_eq_getElem?_getD,hk]);have kf:=hfr k;have B1:=zH (HB.o.set 3 (zI z6 (h.count+1)));have HP:=zH (HandAt.put h.status HT.o (show k<h.tick.l.length from hk) B1.o);have HJ:=zH (show h.mayJoin k=(h.l.getD k 0== -1) by unfold HandS.mayJoin;rw [hin,Int.toNat_natCast];rfl);(try simp only at k0 kf hrl);clear hcell hfr H hin;generalize h.l.getD k 0=x at *;cases hx:(x== -1)
 · have hxx:(x != -1)=true:=by unfold bne;rw [hx];rfl
   have HV:=zH (show h.joined k=.tuple #[zI z6 0,zb false,zb false] by unfold HandS.joined;rw [HJ.o,hx];rfl);have HW:=zH (show h.join k=h.tick by unfold HandS.join;rw [HJ.o,hx];rfl);clear hx;go_enter func39,ntmps39;go_wp2_with fail;go_ret3
   exact Does.of ⟨g.own,_⟩ rfl (by rw [HV.o];try rfl) M0.o (by rw [HW.o];exact HT.o)
 · have hxx:(x != -1)=false:=by unfold bne;rw [hx];rfl
   have HV:=zH (show h.joined k=.tuple #[zI z6 h.status,zb h.sense,zb true] by unfold HandS.joined;rw [HJ.o,hx];rfl);have HW:=zH (show h.join k={ h.tick with l:=h.tick.l.set k h.status } by unfold HandS.join;rw [HJ.o,hx,if_pos rfl,Int.toNat_natCast];rfl);clear hx;have R1:=zH (HR.o.setOther 3 (zI z6 (h.count+1)) (fun x hx=>HR.o.ne_type HB.o zd hx));go_enter func39,ntmps39;go_upto_region 4 with fail
   generalize g.w.setCell ⟨b,3,none⟩ (zI z6 (h.count+1))=w0 at *;clear a0 a1 a2 a3 af3 al k0 kf;obtain ⟨a0,a1,a2,a3,al⟩:=B1.o.k4;obtain ⟨r',hA,hrl',ho',hcell,hfr⟩:=R1.o.block zo;injection hA with hA;injection hA with hA;subst hA;obtain ⟨vk,hvk⟩: ∃v,(h.l.map (zI z6))[k]?=some v:=⟨_,List.getElem?_eq_getElem (by simp;omega)⟩;have k0:=hcell k vk hvk;have kf:=hfr k;simp only at k0 kf hrl';clear hcell hfr hvk;refine yab [zT,zT,zT,zT,zT,zT,zT,zT,zT,zT,zU] 1 10 ?_;intro X00;simp only [pickOps];repeat (go_big_quiet_step (fail))
   refine wpQuiet_nil (fun X0=>?_);clear X00;refine yaj 10 _ zQ zQ rfl rfl (fun X1 K Q' hK=>?_);go_simp;refine hK _ _ (fun X2=>?_);clear hK K Q';(try go_simp);obtain ⟨own2,m2⟩: ∃own2,Mod (fun _=>False) ⟨g.own,w0.setCell ⟨r,k,none⟩ (zI z6 h.status)⟩ ⟨own2,(w0.setCell ⟨r,k,none⟩ (zI z6 h.status)).patch ⟨X0.blocks++(X1.blocks++X2.blocks),X2.drawn⟩⟩:=⟨_,Mod.pt (Mod.refl _ _) _⟩;generalize (w0.setCell ⟨r,k,none⟩ (zI z6 h.status)).patch ⟨X0.blocks++(X1.blocks++X2.blocks),X2.drawn⟩=w2 at *;have H2:=zH (HP.o.1.keep m2 id);have M2:=zH ((Mod.st (i:=k) (v:=zI z6 h.status) M0.o HP.o.2).trans (m2.mono (S:=fun x=>x=t) zG));clear a0 a1 a2 a3 al k0 kf m2;obtain ⟨A2,c2,hb2,hr2⟩:=H2.o.ex;obtain ⟨a0,a1,a2,a3,al⟩:=hb2.k4;clear hb2 hr2;(try simp only at a0 a1 a2 a3);go_wp2_with fail;refine yab [zT,zT,zT,zT,zT,zT,zT,zT,zT,zT,zT] 0 11 ?_;intro X00;simp only [pickOps];repeat (go_big_quiet_step (fail))
   refine wpQuiet_nil (fun X0=>?_);clear X00;refine yaa zQ (fun X0'=>?_) _;(try go_simp);go_wp2_with fail;go_ret3
   exact Does.ext ⟨own2,w2⟩ zE (by rw [HV.o];try rfl) M2.o (fun g2 m=>by rw [HW.o];exact H2.o.keep m id)
end Go.Proofs.YtdhjjpnajjingaaGreat
namespace Go
open Go.RowKit
namespace PileS
def pop (p:PileS):PileS:={ p with l:=p.l.take (p.l.length-1) }
def top (p:PileS):Int:=p.l.getD (p.l.length-1) 0
def some_ (p:PileS):Bool:=decide (0<p.l.length)
def found (p:PileS):PileS:={ p with lost:=false }
end PileS
end Go
namespace Go.Proofs.YtdhjjpnajjingaaGreat
open Go Go.RowKit
theorem ylb (g:GW) (t b:Nat) (p:PileS) (h:PileAt g t b p):
 Calls prog 166 #[zp (some ⟨b,0,none⟩)] g.w (Does (.tuple #[zI z6 p.top,zb p.some_]) g (fun x=>x=t) (fun g'=>PileAt g' t b p.pop)):=by
 obtain ⟨A,c,hb,hr⟩:=h.ex;have hlen:p.l.length≤256:=by have:=h.len;have:=h.most;omega
 have HM:=zH h.most;have HL:=zH h.len;have HB:=zH hb;have HR:=zH hr;obtain ⟨a0,a1,a2,al⟩:=hb.k3;have af0:=hb.liv 0;rcases Nat.eq_zero_or_pos p.l.length with h0|h0
 · have HV:=zH (And.intro (show p.top=0 by unfold PileS.top;rw [h0];cases hl:p.l with|nil=>rfl|cons x l=>rw [hl] at h0;simp at h0) (And.intro (show p.some_=false by unfold PileS.some_;rw [h0];rfl) (show p.pop=p by unfold PileS.pop;rw [List.take_of_length_le zo])));have HH:=zH h;clear hb hr h;rw [h0] at a0;go_enter func166,ntmps166;go_wp2_with fail;go_ret2;exact Does.of g rfl (by rw [HV.o.1,HV.o.2.1];try rfl) (Mod.refl _ _) (by rw [HV.o.2.2];exact HH.o)
 · obtain ⟨k,hk⟩: ∃k,p.l.length=k+1:=⟨p.l.length-1,zo⟩;obtain ⟨r,rfl,hrl,ho,hcell,hfr⟩:=hr.block h0;have k0:=hcell k (zI z6 (p.l.getD k 0)) (by simp [List.getD_eq_getElem?_getD,hk]);have HV:=zH (And.intro (show p.top=p.l.getD k 0 by unfold PileS.top;rw [hk];rfl) (And.intro (show p.some_=true by unfold PileS.some_;rw [hk];exact decide_eq_true zo) (show p.pop={ p with l:=p.l.take k } by unfold PileS.pop;rw [hk];rfl)))
   have hcap:k+1≤c:=by
    obtain ⟨A2,c2,he,h1,h2,h3⟩:=hr.form;injection he with e1 e2 e3;omega
   have HC:=zH (show Row g t 3 1 (.slice (some ⟨r,0,none⟩) k c) k ((p.l.take k).map (zI z6)) from by
    have h9:=hr.cut (m:=k) zo;rw [Nat.mul_one, ←List.map_take] at h9;exact h9)
   have HKL:=zH (show (p.l.take k).length=k by simp;omega)
   have hcm:c≤9223372036854775807:=by
    obtain ⟨A2,c2,he,h1,h2,h3⟩:=hr.form;injection he with e1 e2 e3;omega
   clear hcell hfr hb hr h h0;rw [hk] at a0;generalize p.l.getD k 0=x at *;go_enter func166,ntmps166;go_wp2_with fail;go_ret2;refine Does.of ⟨g.own,g.w.setCell ⟨b,0,none⟩ (.slice (some ⟨r,0,none⟩) k c)⟩ rfl (by rw [HV.o.1,HV.o.2.1];try rfl) (Mod.st Mod.self HB.o.own) ?_;rw [HV.o.2.2];refine ⟨⟨some ⟨r,0,none⟩,c,?_,?_⟩,HM.o,by show ((p.l.take k).length:Int)≤p.most;have:=HKL.o;have:=HL.o;omega⟩
   · show Blk _ t b _ [.slice (some ⟨r,0,none⟩) (p.l.take k).length c,zI z6 p.most,zb p.lost];rw [HKL.o];exact HB.o.set 0 _
   · show Row _ t 3 1 (.slice (some ⟨r,0,none⟩) (p.l.take k).length c) (p.l.take k).length ((p.l.take k).map (zI z6));rw [HKL.o];exact HC.o.setOther 0 _ (fun x hx=>HC.o.ne_type HB.o zd hx)
theorem yj2 (g:GW) (t b:Nat) (p:PileS) (h:PileAt g t b p):Calls prog 169 #[zp (some ⟨b,0,none⟩)] g.w (fun e w'=>e=.returned (zb p.lost)∧g.w=w'):=by
 obtain ⟨A,c,hb,hr⟩:=h.ex;obtain ⟨a0,a1,a2,al⟩:=hb.k3;clear hb hr h;go_enter func169,ntmps169;go_wp2_with fail;go_ret;exact ⟨rfl,rfl⟩
theorem yin (g:GW) (t b:Nat) (p:PileS) (h:PileAt g t b p):Calls prog 170 #[zp (some ⟨b,0,none⟩)] g.w (Does (.tuple #[]) g (fun x=>x=t) (fun g'=>PileAt g' t b p.found)):=by
 obtain ⟨A,c,hb,hr⟩:=h.ex;have HM:=zH h.most;have HL:=zH h.len;have HB:=zH hb;have HR:=zH hr;obtain ⟨a0,a1,a2,al⟩:=hb.k3;have af2:=hb.liv 2;clear hb hr h;go_enter func170,ntmps170;go_wp2_with fail;exact bodyPost_end (results_none rfl _ _ _) rfl (Does.of ⟨g.own,g.w.setCell ⟨b,2,none⟩ (zb false)⟩ rfl rfl (Mod.st Mod.self HB.o.own) ⟨⟨A,c,HB.o.set 2 _,HR.o.setOther 2 _ (fun x hx=>HR.o.ne_type HB.o zd hx)⟩,HM.o,HL.o⟩)
theorem ydR (g:GW) (t b bt tt bp tp:Nat) (T:TabS) (p:PileS) (n:Int) (h:ShdAt g t b bt tt bp tp T p n) (hn:0≤n∧n≤1099511627776) (h1:t≠tt) (h2:t≠tp) (h3:tt≠tp):
 Calls prog 92 #[zp (some ⟨b,0,none⟩)] g.w (Does (.tuple #[zI z6 p.top,zb p.some_]) g (fun x=>x=t∨x=tp) (fun g'=>ShdAt g' t b bt tt bp tp T p.pop (n+1))):=by
 have H1:=zH (h.tick h1 h2);have M1:=zH (show Mod (fun x=>x=t) g ⟨g.own,g.w.setCell ⟨b,2,none⟩ (zI z6 (n+1))⟩ from Mod.st Mod.self h.blk.own);have HN:=zH (And.intro h1 (And.intro h2 h3));obtain ⟨a0,a1,a2,al⟩:=h.blk.k3;have af2:=h.blk.liv 2;obtain ⟨hn0,hn1⟩:=hn;clear h h1 h2 h3;go_enter func92,ntmps92;go_wp2_with fail;refine (ylb ⟨g.own,g.w.setCell ⟨b,2,none⟩ (zI z6 (n+1))⟩ tp bp p H1.o.pile).mono ?_;rintro e w2 ⟨rfl,own2,m2,r2⟩;have M2:=zH m2;have R2:=zH (show ShdAt ⟨own2,w2⟩ t b bt tt bp tp T p.pop (n+1) from ⟨H1.o.blk.keep m2 (fun e=>HN.o.2.1 e),H1.o.tab.keep m2 (fun e=>HN.o.2.2 e),r2⟩);clear m2 r2;go_wp2_with fail;go_ret2;exact ⟨rfl,own2,(M1.o.mono (fun x hx=>Or.inl hx)).trans (M2.o.mono (fun x hx=>Or.inr hx)),R2.o⟩
theorem yiu (g:GW) (t b bt tt bp tp:Nat) (T:TabS) (p:PileS) (n:Int) (h:ShdAt g t b bt tt bp tp T p n) (hn:0≤n∧n≤1099511627776) (h1:t≠tt) (h2:t≠tp) (h3:tt≠tp):
 Calls prog 96 #[zp (some ⟨b,0,none⟩)] g.w (Does (zb p.lost) g (fun x=>x=t∨x=tp) (fun g'=>ShdAt g' t b bt tt bp tp T p.found (n+1))):=by
 have H1:=zH (h.tick h1 h2);have M1:=zH (show Mod (fun x=>x=t) g ⟨g.own,g.w.setCell ⟨b,2,none⟩ (zI z6 (n+1))⟩ from Mod.st Mod.self h.blk.own);have HN:=zH (And.intro h1 (And.intro h2 h3));obtain ⟨a0,a1,a2,al⟩:=h.blk.k3;have af2:=h.blk.liv 2;obtain ⟨hn0,hn1⟩:=hn;clear h h1 h2 h3;go_enter func96,ntmps96;go_wp2_with fail;refine (yj2 ⟨g.own,g.w.setCell ⟨b,2,none⟩ (zI z6 (n+1))⟩ tp bp p H1.o.pile).mono ?_;rintro e w2 ⟨rfl,rfl⟩;go_wp2_with fail;refine (yin ⟨g.own,g.w.setCell ⟨b,2,none⟩ (zI z6 (n+1))⟩ tp bp p H1.o.pile).mono ?_;rintro e w2 ⟨rfl,own2,m2,r2⟩;have M2:=zH m2;have R2:=zH (show ShdAt ⟨own2,w2⟩ t b bt tt bp tp T p.found (n+1) from ⟨H1.o.blk.keep m2 (fun e=>HN.o.2.1 e),H1.o.tab.keep m2 (fun e=>HN.o.2.2 e),r2⟩);clear m2 r2;go_wp2_with fail;go_ret;exact ⟨rfl,own2,(M1.o.mono (fun x hx=>Or.inl hx)).trans (M2.o.mono (fun x hx=>Or.inr hx)),R2.o⟩
end Go.Proofs.YtdhjjpnajjingaaGreat
