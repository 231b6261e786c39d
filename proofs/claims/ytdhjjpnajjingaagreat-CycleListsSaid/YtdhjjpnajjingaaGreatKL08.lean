import Derived.Test.YtdhjjpnajjingaaGreatKL07
import Derived.Deep.DeepCutAuto
set_option linter.unusedVariables false
set_option linter.unnecessarySimpa false
set_option linter.unusedSimpArgs false
open Bool renaming true→zT,false→zU
open Go.Value renaming int→zI
open Go.IntKind renaming i64→z6
set_option maxHeartbeats 8000000
set_option maxRecDepth 100000
open Go.Proofs.Tryz
open Go.Lib renaming hid→zH
open Go.Ext renaming alloc→zA,patch→zP,drew→zD,drewN→zN,more→zM,refl→zR,setCell→zS
open Nat renaming le_refl→zL,le_add_right→zK
namespace Go.Proofs.YtdhjjpnajjingaaGreat
open Go Go.RowKit
structure TraceS where
 c:Cnf
 head:Int
 sense:Bool
 pc:Int
 arr:Bool
 refs:List Bool
 frag:Int
 j:Int
 words:List Int
 next:Int
 n:Int
 mode:Int
 base:Int
 e:Int
 steps:Int
namespace TraceS
def cells (S:TraceS) (sA:Option Addr) (sc:Nat) (wA:Option Addr) (wc:Nat):List Value:=[.int .i64 S.c.frags,.int .i64 S.c.spine,.int .i64 S.c.globals,.int .i64 S.c.threads,.int .i64 S.c.locals,.int .i64 S.c.cache,.int .i64 S.c.stack,.int .i64 S.c.low,.slice S.c.A S.c.shapes.length S.c.cap,
 .int .i64 S.head,.bool S.sense,.int .i64 S.pc,.bool S.arr,.slice sA S.refs.length sc,.int .i64 S.frag,.int .i64 S.j,.slice wA S.words.length wc,.int .i64 S.next,.int .i64 S.n,.int .i64 S.mode,.int .i64 S.base,.int .i64 S.e,.int .i64 S.steps]
def fresh (c:Cnf) (head:Int) (sense:Bool):TraceS:=⟨c,head,sense,0,false,[],head,0,[],0,0,0,0,0,0⟩
def okAt (S:TraceS) (frag k:Int):Bool:=decide (S.c.check=0∧0≤frag∧frag<S.c.frags∧0≤k∧k<8)
def rd (S:TraceS) (m:MemS) (frag k:Int):Option (Nat × Nat):=if S.okAt frag k&&inB (frag*8+k) m.l.length then some (m.peek (frag*8+k)) else none
def rdM (S:TraceS) (m:MemS) (frag k:Int):MemS:=if S.okAt frag k then m.tick else m
def shp (S:TraceS):Shp:=⟨S.arr,none,0,S.refs⟩
end TraceS
structure TrPl where
 sA:Option Addr
 sc:Nat
 wA:Option Addr
 wc:Nat
structure TraceIs (g:GW) (t b:Nat) (S:TraceS) (P:TrPl):Prop where
 blk:Blk g t b 208 (S.cells P.sA P.sc P.wA P.wc)
 cnf:CnfAt g (t+1) S.c
 shp:ShpAt g (t+1) ⟨S.arr,P.sA,P.sc,S.refs⟩
 words:Seg g (t+1) P.wA (S.words.map (Value.int .i64))
 wlen:S.words.length≤P.wc∧P.wc≤9223372036854775807
def TraceAt (g:GW) (t b:Nat) (S:TraceS):Prop:= ∃P,TraceIs g t b S P
theorem TraceIs.keep {T:Nat→Prop} {g g':GW} {t b:Nat} {S:TraceS} {P:TrPl} (h:TraceIs g t b S P) (m:Mod T g g') (h1: ¬T t) (h2: ¬T (t+1)):TraceIs g' t b S P:=⟨h.blk.keep m h1,h.cnf.keep m h2,h.shp.keep m h2,h.words.keep m h2,h.wlen⟩
theorem TraceAt.keep {T:Nat→Prop} {g g':GW} {t b:Nat} {S:TraceS} (h:TraceAt g t b S) (m:Mod T g g') (h1: ¬T t) (h2: ¬T (t+1)):TraceAt g' t b S:=by
 obtain ⟨P,h⟩:=h;exact ⟨P,h.keep m h1 h2⟩
theorem TraceIs.st {g:GW} {t b:Nat} {S:TraceS} {P:TrPl} (h:TraceIs g t b S P) (i:Nat) (v:Value) (S':TraceS) (hc:S'.cells P.sA P.sc P.wA P.wc=(S.cells P.sA P.sc P.wA P.wc).set i v) (hcc:S'.c=S.c) (ha:S'.arr=S.arr) (hr:S'.refs=S.refs) (hw:S'.words=S.words):TraceIs ⟨g.own,g.w.setCell ⟨b,i,none⟩ v⟩ t b S' P:=by
 have m:Mod (fun x=>x=t) g ⟨g.own,g.w.setCell ⟨b,i,none⟩ v⟩:=Mod.set (T:=fun x=>x=t) h.blk.own;refine ⟨by rw [hc];exact h.blk.set i v,?_,?_,?_,?_⟩
 · rw [hcc];exact h.cnf.keep m zo
 · rw [ha,hr];exact h.shp.keep m zo
 · rw [hw];exact h.words.keep m zo
 · rw [hw];exact h.wlen
theorem ygs (g:GW) (t b:Nat) (S:TraceS) (h:TraceAt g t b S):Calls prog 168 #[.pointer (some ⟨b,0,none⟩)] g.w (fun e w'=>e=.returned (zI z6 S.e)∧g.w=w'):=by
 obtain ⟨P,h⟩:=h;have c0:=h.blk.cell (i:=21) rfl;have hl:=h.blk.lt;clear h;go_enter func168,ntmps168;go_wp2_with fail;go_ret;exact ⟨rfl,rfl⟩
def TraceMade (c:Cnf) (head:Int) (sense:Bool) (t:Nat) (g:GW) (e:Ending) (w':World):Prop:= ∃own' b cm,e=.returned (.pointer (some ⟨b,0,none⟩))∧Mod (fun _=>False) g ⟨own',w'⟩∧TraceAt ⟨own',w'⟩ t b (TraceS.fresh cm head sense)∧cm.Same c
theorem yeB (c:Cnf) (head:Int) (sense:Bool) (t:Nat) (g:GW) (hc:c.Ok g.w) (hmax:c.shapes.length≤1000000):Calls prog 93 #[c.val,.int .i64 head,.bool sense] g.w (TraceMade c head sense t g):=by
 have HC:=zH (ybC c (t+1) (g.to 9 (g.w.alloc (.cells #[.int .i64 c.frags,.int .i64 c.spine,.int .i64 c.globals,.int .i64 c.threads,.int .i64 c.locals,.int .i64 c.cache,.int .i64 c.stack,.int .i64 c.low,.slice c.A c.shapes.length c.cap] 34))) (hc.ext zE) hmax);have HE0:=zH (Mod.ext (T:=fun _=>False) (g:=g) (show Ext g.w (g.w.alloc (.cells #[.int .i64 c.frags,.int .i64 c.spine,.int .i64 c.globals,.int .i64 c.threads,.int .i64 c.locals,.int .i64 c.cache,.int .i64 c.stack,.int .i64 c.low,.slice c.A c.shapes.length c.cap] 34)) from zE) 9);unfold Cnf.val at HC ⊢;clear hc;go_enter func93,ntmps93;go_wp2_with fail;refine HC.out.mono ?_;rintro e w1 ⟨cm,rfl,hs,hm,hE⟩;have HS:=zH hs;have HM:=zH hm;have HE1:=zH (Mod.ext (T:=fun _=>False) (g:=g.to 9 (g.w.alloc (.cells #[.int .i64 c.frags,.int .i64 c.spine,.int .i64 c.globals,.int .i64 c.threads,.int .i64 c.locals,.int .i64 c.cache,.int .i64 c.stack,.int .i64 c.low,.slice c.A c.shapes.length c.cap] 34))) hE (t+1));clear hs hm hE;unfold Cnf.val;go_wp2_with fail;go_ret
 have m2:Mod (fun _=>False) ((g.to 9 (g.w.alloc (.cells #[.int .i64 c.frags,.int .i64 c.spine,.int .i64 c.globals,.int .i64 c.threads,.int .i64 c.locals,.int .i64 c.cache,.int .i64 c.stack,.int .i64 c.low,.slice c.A c.shapes.length c.cap] 34))).to (t+1) w1) _:=Mod.ext (T:=fun _=>False) (show Ext w1 (w1.alloc (.cells ((TraceS.fresh cm head sense).cells none 0 none 0).toArray 208)) from zE) t;exact ⟨_,w1.heap.size,cm,rfl,(HE0.out.trans HE1.out).trans m2,⟨⟨none,0,none,0⟩,Blk.new ((g.to 9 (g.w.alloc (.cells #[.int .i64 c.frags,.int .i64 c.spine,.int .i64 c.globals,.int .i64 c.threads,.int .i64 c.locals,.int .i64 c.cache,.int .i64 c.stack,.int .i64 c.low,.slice c.A c.shapes.length c.cap] 34))).to (t+1) w1) t 208 ((TraceS.fresh cm head sense).cells none 0 none 0),HM.out.keep m2 id,⟨Seg.nil _ _ _,Nat.le_refl _,by simp [TraceS.fresh]⟩,Seg.nil _ _ _,Nat.le_refl _,zd⟩,HS.out⟩
theorem yjR {S:TraceS} {frag k:Int} (h:S.okAt frag k=true):cFrag S.c frag k=.tuple #[.int .i64 (frag*8+k),.int .i64 0]:=by
 have h':S.c.check=0∧0≤frag∧frag<S.c.frags∧0≤k∧k<8:=by simpa [TraceS.okAt] using h
 unfold cFrag;rw [if_pos h']
theorem ykU {S:TraceS} {frag k:Int} (h:S.okAt frag k=false):cFrag S.c frag k=.tuple #[.int .i64 0,.int .i64 1]:=by
 have h': ¬(S.c.check=0∧0≤frag∧frag<S.c.frags∧0≤k∧k<8):=by intro hh;rw [show S.okAt frag k=true from by simpa [TraceS.okAt] using hh] at h;cases h
 unfold cFrag;rw [if_neg h']
def trdV (o:Option (Nat × Nat)):Value:=.tuple #[.complex .f64 (o.getD (0,0)).1 (o.getD (0,0)).2,.bool o.isSome]
theorem yaH (g:GW) (t b tm bm:Nat) (S:TraceS) (m:MemS) (frag k:Int) (h:TraceAt g t b S) (hm:MemAt g tm bm m) (hc:0≤m.count∧m.count≤1099511627776):
 Calls prog 261 #[.pointer (some ⟨b,0,none⟩),.pointer (some ⟨bm,0,none⟩),.int .i64 frag,.int .i64 k] g.w (Does (trdV (S.rd m frag k)) g (fun x=>x=tm) (fun g'=>MemAt g' tm bm (S.rdM m frag k))):=by
 obtain ⟨P,h⟩:=h;have k0:=h.blk.cell (i:=0) rfl;have k1:=h.blk.cell (i:=1) rfl;have k2:=h.blk.cell (i:=2) rfl;have k3:=h.blk.cell (i:=3) rfl;have k4:=h.blk.cell (i:=4) rfl;have k5:=h.blk.cell (i:=5) rfl;have k6:=h.blk.cell (i:=6) rfl;have k7:=h.blk.cell (i:=7) rfl;have k8:=h.blk.cell (i:=8) rfl;have hl:=h.blk.lt;have HF:=zH (ybH S.c frag k g.w h.cnf.ok);have HM:=zH hm;unfold Cnf.val at HF;clear h hm;cases hok:S.okAt frag k
 · have HV:=zH (show S.rd m frag k=none by unfold TraceS.rd;rw [hok];rfl);have HV2:=zH (show S.rdM m frag k=m by unfold TraceS.rdM;rw [if_neg (by rw [hok];simp)]);rw [ykU hok] at HF;clear hok;go_enter func261,ntmps261;go_wp2_with fail;refine HF.out.mono ?_;rintro e w1 ⟨rfl,hE⟩;have HE:=zH (Mod.ext (T:=fun _=>False) (g:=g) (show Ext g.w w1 from hE) 0);clear hE;go_wp2_with fail;go_ret2;exact ⟨by rw [HV.out];rfl,(g.to 0 w1).own,HE.out.mono (fun _=>False.elim),by rw [HV2.out];exact HM.out.keep HE.out id⟩
 · have HV2:=zH (show S.rdM m frag k=m.tick by unfold TraceS.rdM;rw [if_pos hok]);rw [yjR hok] at HF;go_enter func261,ntmps261;go_wp2_with fail;refine HF.out.mono ?_;rintro e w1 ⟨rfl,hE⟩;have HE:=zH (Mod.ext (T:=fun _=>False) (g:=g) (show Ext g.w w1 from hE) 0);have HM1:=zH (HM.out.keep HE.out id);clear hE;go_wp2_with fail;refine (ybe (g.to 0 w1) tm bm (frag*8+k) m HM1.out hc).mono ?_;rintro e w2 ⟨rfl,own2,m2,r2⟩;have M2:=zH m2;have R2:=zH r2;clear m2 r2;cases hb:inB (frag*8+k) m.l.length
   · have HV:=zH (show S.rd m frag k=none by unfold TraceS.rd;rw [hok,hb];rfl);have HP:=zH (MemS.peek_out hb);clear hb hok;go_wp2_with fail;go_ret2;exact ⟨by rw [HV.out,HP.out];rfl,own2,(HE.out.mono (fun _=>False.elim)).trans M2.out,by rw [HV2.out];exact R2.out⟩
   · have HV:=zH (show S.rd m frag k=some (m.peek (frag*8+k)) by unfold TraceS.rd;rw [hok,hb];rfl);clear hb hok;go_wp2_with fail;go_ret2;exact ⟨by rw [HV.out];rfl,own2,(HE.out.mono (fun _=>False.elim)).trans M2.out,by rw [HV2.out];exact R2.out⟩
end Go.Proofs.YtdhjjpnajjingaaGreat
namespace Go
def TabS.white (T:TabS) (i:Int) (s:Bool):Bool:=T.head i&& !T.black i s
def TabS.grey (T:TabS) (i:Int) (s:Bool):TabS:=if T.white i s then T.mark i s else T
def PileS.push (p:PileS) (i:Int):PileS:=if (p.l.length:Int)=p.most then { p with lost:=true } else { p with l:=p.l++[i] }
def PileS.grey (p:PileS) (T:TabS) (i:Int) (s:Bool):PileS:=if T.white i s then p.push i else p
end Go
namespace Go.Proofs.YtdhjjpnajjingaaGreat
open Go Go.RowKit
namespace TraceS
def frs (S:TraceS):Int:=if S.arr then sData S.n else S.shp.size 0
def refsL (S:TraceS):List Int:=
 if S.arr then (if S.refs.getD 0 false then (List.range (min S.n ((S.j+1)*8)-S.j*8).toNat).map (fun x=>((x:Nat):Int)) else [])
 else (List.range S.refs.length).filterMap fun k=>if S.refs.getD k false&&decide (Shp.placeF k=S.j) then some (Shp.placeW k) else none
def enters (S:TraceS):TraceS:=if S.mode=2 then { S with frag:=S.base+S.j } else S
def entersPc (S:TraceS):Int:=if S.mode=2 then 4 else 8
def goes (S:TraceS):TraceS:=if S.words≠[] then S else if S.frs≤S.j+1 then S else if S.arr=false then S else { S with j:=S.j+1 }.enters
def goesPc (S:TraceS):Int:=if S.words≠[] then 1 else if S.frs≤S.j+1 then 9 else if S.arr=false then 3 else { S with j:=S.j+1 }.entersPc
def gone (S:TraceS):TraceS:={ S.goes with pc:=S.goesPc }
def first (S:TraceS) (w:Nat × Nat):TraceS × Bool:=match wTell w with
 |none=>(S,false)
 |some (kind,mode)=>match S.c.shapeAt kind with
  |none=>(S,false)
  |some (arr,refs)=>if 1<mode∨(arr=true∧0<mode) then (S,false)
   else if arr then ({ S with arr:=arr,refs:=refs,pc:=5 },true)
   else (TraceS.gone { S with arr:=arr,refs:=refs,words:=TraceS.refsL { S with arr:=arr,refs:=refs } },true)
end TraceS
structure TrW where
 s:TraceS
 m:MemS
 T:TabS
 p:PileS
 k:Int
namespace TrW
def head (w:TrW):TrW × Bool:=match w.s.rd w.m w.s.head 1 with
 |none=>({ w with m:=w.s.rdM w.m w.s.head 1 },false)
 |some v=>({ w with m:=w.s.rdM w.m w.s.head 1,s:=(w.s.first v).1 },(w.s.first v).2)
def field (w:TrW):TrW × Bool:=match w.s.rd w.m w.s.frag (w.s.words.headD 0) with
 |none=>({ w with m:=w.s.rdM w.m w.s.frag (w.s.words.headD 0) },false)
 |some v=>if wIs v=false then ({ w with m:=w.s.rdM w.m w.s.frag (w.s.words.headD 0) },false)
  else if (wIndex v).isSome then ({ w with m:=w.s.rdM w.m w.s.frag (w.s.words.headD 0),s:={ w.s with words:=w.s.words.tail,next:=(wIndex v).getD 0,pc:=2 } },true)
  else ({ w with m:=w.s.rdM w.m w.s.frag (w.s.words.headD 0),s:=TraceS.gone { w.s with words:=w.s.words.tail,next:=0 } },true)
def grey (w:TrW):TrW × Bool:=({ w with T:=w.T.grey w.s.next w.s.sense,p:=w.p.grey w.T w.s.next w.s.sense,k:=w.k+1,s:=w.s.gone },true)
def link (w:TrW):TrW × Bool:=match w.s.rd w.m w.s.frag 0 with
 |none=>({ w with m:=w.s.rdM w.m w.s.frag 0 },false)
 |some v=>match wIndex v with
  |none=>({ w with m:=w.s.rdM w.m w.s.frag 0 },false)
  |some i=>if i<w.s.c.frags then ({ w with m:=w.s.rdM w.m w.s.frag 0,s:={ w.s with frag:=i,pc:=4,j:=w.s.j+1 } },true) else ({ w with m:=w.s.rdM w.m w.s.frag 0 },false)
def part (w:TrW):TrW × Bool:=({ w with T:=w.T.mark w.s.frag w.s.sense,k:=w.k+1,s:=TraceS.gone { w.s with words:=w.s.refsL } },true)
def length (w:TrW):TrW × Bool:=match w.s.rd w.m w.s.head 2 with
 |none=>({ w with m:=w.s.rdM w.m w.s.head 2 },false)
 |some v=>match wInt v with
  |none=>({ w with m:=w.s.rdM w.m w.s.head 2,s:={ w.s with n:=0 } },false)
  |some n=>if n<0∨512<n then ({ w with m:=w.s.rdM w.m w.s.head 2,s:={ w.s with n:=n } },false) else ({ w with m:=w.s.rdM w.m w.s.head 2,s:={ w.s with n:=n,pc:=if n=0 then 9 else 6 } },true)
def mode (w:TrW):TrW × Bool:=match w.s.rd w.m w.s.head 3 with
 |none=>({ w with m:=w.s.rdM w.m w.s.head 3 },false)
 |some v=>match wInt v with
  |none=>({ w with m:=w.s.rdM w.m w.s.head 3,s:={ w.s with mode:=0 } },false)
  |some n=>if n<0∨2<n∨decide (n=0)≠decide (sData w.s.n≤4) then ({ w with m:=w.s.rdM w.m w.s.head 3,s:={ w.s with mode:=n } },false)
   else ({ w with m:=w.s.rdM w.m w.s.head 3,s:={ w.s with mode:=n,pc:=if n=0 then 8 else 7 } },true)
def base (w:TrW):TrW × Bool:=match w.s.rd w.m w.s.head 4 with
 |none=>({ w with m:=w.s.rdM w.m w.s.head 4 },false)
 |some v=>if w.s.mode=1 then (match wInt v with
  |none=>({ w with m:=w.s.rdM w.m w.s.head 4,s:={ w.s with base:=0 } },false)
  |some a=>if a<0∨cWords w.s.c≤a then ({ w with m:=w.s.rdM w.m w.s.head 4,s:={ w.s with base:=a } },false) else ({ w with m:=w.s.rdM w.m w.s.head 4,s:={ w.s with base:=a,pc:=8 } },true))
  else (match wIndex v with
   |none=>({ w with m:=w.s.rdM w.m w.s.head 4,s:={ w.s with base:=0 } },false)
   |some i=>if w.s.c.frags<i+sData w.s.n then ({ w with m:=w.s.rdM w.m w.s.head 4,s:={ w.s with base:=i } },false) else ({ w with m:=w.s.rdM w.m w.s.head 4,s:={ w.s with base:=i,frag:=i+w.s.j,pc:=4 } },true))
def slotRd (w:TrW):Option (Nat × Nat):=if w.s.mode=0 then w.s.rd w.m w.s.head (4+w.s.j) else if inB (w.s.base+2+w.s.j) w.m.l.length then some (w.m.peek (w.s.base+2+w.s.j)) else none
def slotM (w:TrW):MemS:=if w.s.mode=0 then w.s.rdM w.m w.s.head (4+w.s.j) else w.m.tick
def slot (w:TrW):TrW × Bool:=match w.slotRd with
 |none=>({ w with m:=w.slotM },false)
 |some v=>({ w with m:=w.slotM,s:={ w.s with frag:=(wIndex v).getD 0,pc:=4 } },(wIndex v).isSome&&decide ((wIndex v).getD 0<w.s.c.frags))
def does (w:TrW):TrW × Bool:=
 if w.s.pc=0 then w.head
 else if 5≤w.s.pc then (if w.s.pc=6 then w.mode else if w.s.pc=7 then w.base else if w.s.pc=8 then w.slot else w.length)
 else if w.s.pc=2 then w.grey else if w.s.pc=3 then w.link else if w.s.pc=4 then w.part else w.field
def ticked (w:TrW):TrW:={ w with s:={ w.s with steps:=w.s.steps+1 } }
def ended (w:TrW):TrW:={ w with s:={ w.s with pc:=9,e:=10 } }
def step (w:TrW):TrW:=if w.s.pc=9 then w else if w.ticked.does.2 then w.ticked.does.1 else w.ticked.does.1.ended
end TrW
theorem ymo (S:TraceS): -1≤S.frs∧S.frs≤140737488355328+S.refs.length:=by
 unfold TraceS.frs;split
 · have:=yaY S.n;omega
 · unfold Shp.size Shp.len TraceS.shp;simp only;repeat (first|split|omega)
theorem yjU (g:GW) (t b:Nat) (S:TraceS) (P:TrPl) (h:TraceIs g t b S P):Calls prog 279 #[.pointer (some ⟨b,0,none⟩)] g.w (Gives (zI z6 S.frs) g.w):=by
 have c12:=h.blk.cell (i:=12) rfl;have c13:=h.blk.cell (i:=13) rfl;have c18:=h.blk.cell (i:=18) rfl;have hl:=h.blk.lt;have HD:=zH (fun w=>ybd S.n w);have HS:=zH (fun w' (he:Ext g.w w')=>ydl ⟨S.arr,P.sA,P.sc,S.refs⟩ 0 w' (h.shp.ok.ext he));cases ha:S.arr
 · have HV:=zH (show S.frs=Shp.size ⟨S.arr,P.sA,P.sc,S.refs⟩ 0 by unfold TraceS.frs;rw [ha,if_neg zd];unfold TraceS.shp;rw [ha];rfl);rw [HV.out];unfold Shp.val at HS;generalize Shp.size ⟨S.arr,P.sA,P.sc,S.refs⟩ 0=z at *;rw [ha] at c12 HS;clear h HV ha;go_enter func279,ntmps279;go_wp2_with fail;refine (HS.out _ zE).mono ?_;rintro e w1 ⟨rfl,X1,rfl⟩;go_wp2_with fail;go_ret;exact Gives.mk rfl zE
 · have HV:=zH (show S.frs=sData S.n by unfold TraceS.frs;rw [ha,if_pos rfl]);rw [HV.out];rw [ha] at c12;clear h HV ha HS;go_enter func279,ntmps279;go_wp2_with fail;refine (HD.out _).mono ?_;rintro e w1 ⟨rfl,X1,rfl⟩;go_wp2_with fail;go_ret;exact Gives.mk rfl zE
theorem ya7 (g:GW) (t b:Nat) (S:TraceS) (P:TrPl) (h:TraceIs g t b S P) (hb:0≤S.base∧S.base≤1099511627776) (hj:0≤S.j∧S.j≤1099511627776):Calls prog 277 #[.pointer (some ⟨b,0,none⟩)] g.w (Does (zI z6 S.entersPc) g (fun x=>x=t) (fun g'=>TraceIs g' t b S.enters P)):=by
 have c19:=h.blk.cell (i:=19) rfl;have hl:=h.blk.lt;have HO:=zH h.blk.own;by_cases hm:S.mode=2
 · have c14:=h.blk.cell (i:=14) rfl;have c15:=h.blk.cell (i:=15) rfl;have c20:=h.blk.cell (i:=20) rfl;have f14:=h.blk.live 14;have HV:=zH (show S.enters={ S with frag:=S.base+S.j } by unfold TraceS.enters;rw [if_pos hm]);have HW:=zH (show S.entersPc=4 by unfold TraceS.entersPc;rw [if_pos hm]);have H:=zH (h.st 14 (zI z6 (S.base+S.j)) { S with frag:=S.base+S.j } rfl rfl rfl rfl rfl);have e1:=IntWalk.i64_in (S.base+S.j) zo;rw [hm] at c19;clear h hb hj;rw [HW.out,HV.out];go_enter func277,ntmps277;go_wp2_with fail;refine yab [zT,zT,zT,zT,zT,zT,zT,zT,zT,zT,zT,zT,zU] 1 12 ?_;intro X00;simp only [pickOps];repeat (go_big_quiet_step (fail))
   refine wpQuiet_nil (fun X0=>?_);clear X00;refine yai 12 _ zQ zQ rfl rfl (fun X1 K Q' hK=>?_);go_simp;refine hK _ _ (fun X2=>?_);clear hK K Q';go_wp2_with fail;go_ret;exact Does.ext ⟨g.own,g.w.setCell ⟨b,14,none⟩ (zI z6 (S.base+S.j))⟩ zE rfl (Mod.st Mod.self HO.out) (fun g2 m=>H.out.keep m id id)
 · have HV:=zH (show S.enters=S by unfold TraceS.enters;rw [if_neg hm]);have HW:=zH (show S.entersPc=8 by unfold TraceS.entersPc;rw [if_neg hm]);have H:=zH h;have hmb:(S.mode !=2)=true:=bne_iff_ne.2 hm;clear h hb hj hm;rw [HW.out,HV.out];go_enter func277,ntmps277;go_wp2_with fail;go_ret;exact Does.of g rfl rfl (Mod.refl _ _) H.out
theorem ybu (g:GW) (t b:Nat) (S:TraceS) (P:TrPl) (h:TraceIs g t b S P) (hb:0≤S.base∧S.base≤1099511627776) (hj:0≤S.j∧S.j≤1000000):Calls prog 276 #[.pointer (some ⟨b,0,none⟩)] g.w (Does (zI z6 S.goesPc) g (fun x=>x=t) (fun g'=>TraceIs g' t b S.goes P)):=by
 have c16:=h.blk.cell (i:=16) rfl;have hl:=h.blk.lt;have H:=zH h;by_cases hw:S.words=[]
 · have HF:=zH (fun X=>yjU (g.pt X) t b S P (h.keep (T:=fun _=>False) (Mod.pt (Mod.refl _ _) X) id id));have c15:=h.blk.cell (i:=15) rfl;have hbd:=ymo S;have hmx:=h.shp.max;simp only at hmx;rw [hw] at c16;have e1:=IntWalk.i64_in (S.j+1) zo;have HB:=zH (And.intro hb hj);by_cases hf:S.frs≤S.j+1
   · have HV:=zH (show S.goes=S by unfold TraceS.goes;rw [if_neg (by simp [hw]),if_pos hf]);have HW:=zH (show S.goesPc=9 by unfold TraceS.goesPc;rw [if_neg (by simp [hw]),if_pos hf]);rw [HW.out,HV.out];have d1:decide (S.frs≤S.j+1)=true:=decide_eq_true hf;generalize S.frs=z at *;clear h hb hj hw hf hbd hmx;simp only [List.length_nil] at c16;go_enter func276,ntmps276;go_wp2_with fail;refine yab [zT,zT,zT,zT,zT,zT,zT,zT,zT] 0 9 ?_;intro X00;simp only [pickOps];repeat (go_big_quiet_step (exact Calls.added (HF.out _)))
     refine wpQuiet_nil (fun X0=>?_);clear X00;refine yaa zQ (fun X0'=>?_) _;go_wp2_with fail;go_ret;exact Does.ext g zE rfl (Mod.refl _ _) (fun g2 m=>H.out.keep m id id)
   · have d1:decide (S.frs≤S.j+1)=false:=decide_eq_false hf;have c12:=h.blk.cell (i:=12) rfl;cases ha:S.arr
     · have HV:=zH (show S.goes=S by unfold TraceS.goes;rw [if_neg (by simp [hw]),if_neg hf,if_pos ha]);have HW:=zH (show S.goesPc=3 by unfold TraceS.goesPc;rw [if_neg (by simp [hw]),if_neg hf,if_pos ha]);rw [HW.out,HV.out];rw [ha] at c12;generalize S.frs=z at *;clear h hb hj hw hf hbd hmx ha;simp only [List.length_nil] at c16;go_enter func276,ntmps276;go_wp2_with fail;refine yab [zT,zT,zT,zT,zT,zT,zT,zT,zT] 0 9 ?_;intro X00;simp only [pickOps];repeat (go_big_quiet_step (exact Calls.added (HF.out _)))
       refine wpQuiet_nil (fun X0=>?_);clear X00;refine yaa zQ (fun X0'=>?_) _;go_wp2_with fail;go_ret;exact Does.ext g zE rfl (Mod.refl _ _) (fun g2 m=>H.out.keep m id id)
     · have HV:=zH (show S.goes=({ S with j:=S.j+1 }:TraceS).enters by unfold TraceS.goes;rw [if_neg (by simp [hw]),if_neg hf,if_neg (by simp [ha])]);have HW:=zH (show S.goesPc=({ S with j:=S.j+1 }:TraceS).entersPc by unfold TraceS.goesPc;rw [if_neg (by simp [hw]),if_neg hf,if_neg (by simp [ha])]);rw [HW.out,HV.out];rw [ha] at c12;have f15:=h.blk.live 15;have HO:=zH h.blk.own;have H1:=zH (fun X=>(h.keep (T:=fun _=>False) (Mod.pt (Mod.refl _ g) X) id id).st 15 (zI z6 (S.j+1)) { S with j:=S.j+1 } rfl rfl rfl rfl rfl);generalize S.frs=z at *;clear h hb hj hw hf hbd hmx ha;simp only [List.length_nil] at c16;go_enter func276,ntmps276;go_wp2_with fail;refine yab [zT,zT,zT,zT,zT,zT,zT,zT,zT] 0 9 ?_;intro X00;simp only [pickOps];repeat (go_big_quiet_step (exact Calls.added (HF.out _)))
       refine wpQuiet_nil (fun X0=>?_);clear X00;refine yaa zQ (fun X0'=>?_) _;obtain ⟨Y,hY⟩:=(show Ext g.w ((g.w.patch X0).patch X0') from Ext.trans ⟨X0,rfl⟩ ⟨X0',rfl⟩);rw [hY];clear hY;go_wp2_with fail;rw [←World.setCell_patch _ _ _ _ _ (by assumption)];refine (ya7 ⟨(g.pt Y).own,(g.w.patch Y).setCell ⟨b,15,none⟩ (zI z6 (S.j+1))⟩ t b _ P (H1.out Y) HB.out.1 (by have:=HB.out.2;show 0≤S.j+1∧S.j+1≤1099511627776;omega)).mono ?_;rintro e w1 ⟨rfl,own1,m1,r1⟩;have M1:=zH m1;have R1:=zH r1;clear m1 r1;go_wp2_with fail;go_ret;exact ⟨rfl,own1,((Mod.pt (Mod.refl (fun x=>x=t) g) Y).trans (Mod.st (T:=fun x=>x=t) Mod.self (H.out.blk.pt Y).own)).trans M1.out,R1.out⟩
 · have hw0:0<S.words.length:=List.length_pos_iff.2 hw;have HV:=zH (show S.goes=S by unfold TraceS.goes;rw [if_pos hw]);have HW:=zH (show S.goesPc=1 by unfold TraceS.goesPc;rw [if_pos hw]);have d1:decide ((0:Int)<S.words.length)=true:=decide_eq_true (by have:=List.length_pos_iff.2 hw;omega);rw [HW.out,HV.out];clear h hb hj hw;go_enter func276,ntmps276;go_wp2_with fail;go_ret;exact Does.of g rfl rfl (Mod.refl _ _) H.out
def minF (x y:Int):Int:=if y<x then y else x
@[go_sem] theorem ynD (ats:Array TypeId) (ty:TypeId) (x y:Int):Builtin.min_ ats ty #[.int .i64 x,.int .i64 y]=pure (zI z6 (minF x y)):=rfl
def RefsGot (g:GW) (l:List Int) (e:Ending) (w':World):Prop:= ∃A c,e=.returned (.slice A l.length c)∧Ext g.w w'∧(l.length≤c∧c≤9223372036854775807)∧CellsAt w' A (l.map (Value.int .i64))∧ ∀a,A=some a→g.w.heap.size≤a.block
theorem RefsGot.of {g:GW} {l:List Int} {v:Value} {own:Nat→Nat} {w' w2:World} (M:Mod (fun _=>False) g ⟨own,w'⟩) (R:Mine g ⟨own,w'⟩ 3 1 v l.length (l.map (Value.int .i64))) (he:Ext w' w2):RefsGot g l (.returned v) w2:=by
 obtain ⟨A,c,rfl,hn,hc,_⟩:=R.row.form;exact ⟨A,c,rfl,M.toExt.trans he,⟨hn,hc⟩,(R.row.cells).ext he,fun a ha=>R.new a.block (by rw [ha];rfl)⟩
def TraceS.elsN (S:TraceS):Nat:=(min S.n ((S.j+1)*8)-S.j*8).toNat
def numsL (k:Nat):List Int:=(List.range k).map (fun x=>((x:Nat):Int))
theorem yhG (k:Nat):numsL (k+1)=numsL k++[(k:Int)]:=by unfold numsL;rw [List.range_succ,List.map_append];rfl
theorem yjj (k:Nat):(numsL k).length=k:=by simp [numsL]
theorem yjz {S:TraceS} (ha:S.arr=true):S.refsL=if S.refs.getD 0 false then numsL S.elsN else []:=by unfold TraceS.refsL;rw [ha];rfl
def fieldsL (refs:List Bool) (j:Int):Nat→List Int
 |0=>[]
 |k+1=>fieldsL refs j k++if refs.getD k false&&decide (Shp.placeF k=j) then [Shp.placeW k] else []
theorem yhd (refs:List Bool) (j:Int) (k:Nat):(fieldsL refs j k).length≤k:=by
 induction k with
 |zero=>exact Nat.le_refl _
 |succ k ih=>rw [fieldsL,List.length_append];split<;>simp<;>omega
theorem yjA {S:TraceS} (ha:S.arr=false):S.refsL=fieldsL S.refs S.j S.refs.length:=by
 unfold TraceS.refsL;rw [ha,if_neg zd];suffices h: ∀k,((List.range k).filterMap fun k=>if S.refs.getD k false&&decide (Shp.placeF k=S.j) then some (Shp.placeW k) else none)=fieldsL S.refs S.j k from h _
 intro k;induction k with
 |zero=>rfl
 |succ k ih=>
  rw [List.range_succ,List.filterMap_append,ih,fieldsL];congr 1
  simp only [List.filterMap_cons,List.filterMap_nil];split<;>rename_i h<;>split at h<;>simp_all
theorem ydJ (g:GW) (t b:Nat) (S:TraceS) (P:TrPl) (h:TraceIs g t b S P) (hj:0≤S.j∧S.j≤1000000) (hn:0≤S.n∧S.n≤1000000) (hmay:S.shp.may=true):Calls prog 275 #[.pointer (some ⟨b,0,none⟩)] g.w (RefsGot g S.refsL):=by
 obtain ⟨i0,hi,hz0,hz1,hz2⟩:=info_parts ya1;have c12:=h.blk.cell (i:=12) rfl;have hl:=h.blk.lt;have H:=zH h;have hlen:S.refs.length≤40:=(of_decide_eq_true hmay).1;have HMAY:=zH hmay;obtain ⟨hj0,hj1⟩:=hj;obtain ⟨hn0,hn1⟩:=hn;cases ha:S.arr
 · have HV:=zH (yjA ha);have HA:=zH ha;have c13:=h.blk.cell (i:=13) rfl;rw [ha] at c12;clear h hmay ha;go_enter func275,ntmps275;go_wp2_with fail;go_loopw [3,56] (fun v i wr=> ∃(k:Nat) (own:Nat→Nat) (w1:World),k≤S.refs.length∧i=.int .i64 k∧Hid (Mod (fun _=>False) g ⟨own,w1⟩)∧Hid (Mine g ⟨own,w1⟩ 3 1 v (fieldsL S.refs S.j k).length ((fieldsL S.refs S.j k).map (Value.int .i64)))∧Ext w1 wr) (fun _ i _=>S.refs.length-(intOf i).toNat)
   case atStart=>exact ⟨0,g.own,g.w,Nat.zero_le _,rfl,zH (Mod.refl _ _),zH (Mine.nil _ _ _ _),zE⟩
   case round=>
    obtain ⟨k,own,w1,hk,rfl,HM,HR,X,rfl⟩:=hrel;obtain ⟨A5,c5,hv5⟩:=yak HR.out.row.row;subst hv5;have H1:=zH (H.out.keep HM.out id id);by_cases hlt:k<S.refs.length
    · have c12:=H1.out.blk.cell (i:=12) rfl;have c13:=H1.out.blk.cell (i:=13) rfl;have c15:=H1.out.blk.cell (i:=15) rfl;have hl1:=H1.out.blk.lt;simp only at c12 c13 c15 hl1;rw [HA.out] at c12;have HP:=zH (fun w' (he:Ext w1 w')=>ycL ⟨S.arr,P.sA,P.sc,S.refs⟩ k w' (H1.out.shp.ok.ext he) zo zo);obtain ⟨q,o,hA,hq,hcell⟩:=H1.out.shp.ok.refs.cases (by simp;omega);have g0:=hcell k (.bool (S.refs.getD k false)) (by simp [List.getD,List.getElem?_eq_getElem hlt]);simp only at hA g0 hq
      have hpl:Shp.place ⟨S.arr,P.sA,P.sc,S.refs⟩ k=.tuple #[.int .i64 (Shp.placeF k),.int .i64 (Shp.placeW k),.bool true]:=by
       unfold Shp.place
       rw [if_pos (by
        unfold Shp.hasField;rw [show Shp.may ⟨S.arr,P.sA,P.sc,S.refs⟩=true from HMAY.out];simp only [HA.out,Shp.len];simp;omega)]
      rw [hpl] at HP;unfold Shp.val at HP;rw [HA.out] at HP;simp only at HP;have HFL:=zH (show fieldsL S.refs S.j (k+1)=fieldsL S.refs S.j k++if S.refs.getD k false&&decide (Shp.placeF k=S.j) then [Shp.placeW k] else [] from rfl);have HPL:=zH (Shp.placeW_bd k zo);have HPA:=zH hA;generalize P.sA=sA at *;subst hA;generalize hx:S.refs.getD k false=x at *;generalize hy:Shp.placeF k=y at *;clear hpl hcell hx hy;go_wp2_with fail;refine (HP.out _ zE).mono ?_;rintro e w2 ⟨rfl,X2,rfl⟩;cases x
      · have HT2:=zH (HFL.out.trans (by rw [Bool.false_and,if_neg zd,List.append_nil]));go_wp2_with fail;go_roundw
        case rel=>exact ⟨k+1,own,w1,zo,by go_num,HM,by rw [HT2.out];exact HR,zE⟩
        case measure=>simp [intOf];omega
      · by_cases hp:y=S.j
        · have HT2:=zH (HFL.out.trans (by rw [decide_eq_true hp,Bool.true_and,if_pos rfl]));subst hp;have R1:=zH (ybx HR.out.row.row (show Ext w1 (w1.patch ⟨X.blocks++X2.blocks,X2.drawn⟩) from zE));have HFL2:=zH (show (fieldsL S.refs S.j k).length≤1000 from Nat.le_trans (yhd S.refs S.j k) zo);have hfl:=HFL2.out;go_wp2_with (at_builtin;refine wpList_append_own_at _ rfl (.tmp 80) (.tmp 82) 97 rfl 0 3 i0 (zI z6 0) 1 8 Tryz.underlying97 hi hz0 hz1 hz2 rfl zd _ _ _ rfl (R1.out.alloc _) ⟨(w1.patch ⟨X.blocks++X2.blocks,X2.drawn⟩).heap.size,0,none⟩ 1 1 [.int .i64 (Shp.placeW k)] rfl rfl (cell_one_new _ _ _) (by intro u hu;simp at hu;subst hu;rfl) (by unfold maxLen;omega) zo (Nat.zero_le _) ?_;intro v2 w2 hown hgrow hnil hat);obtain ⟨own2,m2,r2,k2⟩:=HR.out.app HM.out (Ext.alloc ⟨_,rfl⟩ _) hown hgrow hat;have M2:=zH m2;have R2:=zH r2;clear m2 r2 k2 hown hgrow hnil hat;go_wp2_with fail;go_roundw
          case rel=>exact ⟨k+1,own2,w2,zo,by go_num,M2,zH ⟨R2.out.row.weak (by rw [HT2.out];simp) (by rw [HT2.out];simp),R2.out.new⟩,zE⟩
          case measure=>simp [intOf];omega
        · have HT2:=zH (HFL.out.trans (by rw [decide_eq_false hp,Bool.and_false,if_neg zd,List.append_nil]));have hyb:(y==S.j)=false:=beq_eq_false_iff_ne.2 hp;go_wp2_with fail;go_roundw
          case rel=>exact ⟨k+1,own,w1,zo,by go_num,HM,by rw [HT2.out];exact HR,zE⟩
          case measure=>simp [intOf];omega
    · obtain rfl:k=S.refs.length:=zo;go_wp2_with fail;go_ret;rw [HV.out];exact RefsGot.of HM.out HR.out zE
 · have HA:=zH ha;have hrl:S.refs.length=1:=(of_decide_eq_true hmay).2 ha;have HV:=zH (yjz ha);have c15:=h.blk.cell (i:=15) rfl;rw [ha] at c12;have e1:=IntWalk.i64_in (S.j*8) zo;have e2:=IntWalk.i64_in (S.j+1) zo;have e3:=IntWalk.i64_in ((S.j+1)*8) zo
   have hcnt:S.elsN≤8∧ ∀x:Nat,decide (S.j*8+x<minF S.n ((S.j+1)*8))=decide (x<S.elsN):=by
    unfold TraceS.elsN minF;refine ⟨zo,fun x=>?_⟩;rw [Bool.eq_iff_iff,decide_eq_true_iff,decide_eq_true_iff];split<;>omega
   obtain ⟨hc8,hcx⟩:=hcnt;have HCX:=zH hcx;clear h hmay ha hcx;go_enter func275,ntmps275;go_wp2_with fail;go_loopw [3,4] (fun v i wr=> ∃(k:Nat) (own:Nat→Nat) (w1:World),k≤S.elsN∧(S.refs.getD 0 false=false→k=0)∧i=.int .i64 (S.j*8+k)∧Hid (Mod (fun _=>False) g ⟨own,w1⟩)∧Hid (Mine g ⟨own,w1⟩ 3 1 v k ((numsL k).map (Value.int .i64)))∧Ext w1 wr) (fun _ i _=>(S.j*8+9-intOf i).toNat)
   case atStart=>exact ⟨0,g.own,g.w,Nat.zero_le _,fun _=>rfl,by go_num,zH (Mod.refl _ _),zH (Mine.nil _ _ _ _),zE⟩
   case round=>
    obtain ⟨k,own,w1,hk,hk0,rfl,HM,HR,X,rfl⟩:=hrel;obtain ⟨A5,c5,hv5⟩:=yak HR.out.row.row;subst hv5;have H1:=zH (H.out.keep HM.out id id);have c13:=H1.out.blk.cell (i:=13) rfl;have c15:=H1.out.blk.cell (i:=15) rfl;have c18:=H1.out.blk.cell (i:=18) rfl;have hl1:=H1.out.blk.lt;simp only at c13 c15 c18 hl1;obtain ⟨q,o,hA,hq,hcell⟩:=H1.out.shp.ok.refs.cases (by simp;omega);have g0:=hcell 0 (.bool (S.refs.getD 0 false)) (by simp [List.getD,List.getElem?_eq_getElem (show 0<S.refs.length by omega)]);simp only [Nat.add_zero] at hA g0 hq;rw [hA] at c13;rw [hrl] at c13;have HK0:=zH hk0;clear hcell hk0;cases hx:S.refs.getD 0 false
    · rw [hx] at g0 HK0;have HE:=zH (HV.out.trans (by rw [hx,if_neg zd]));have hk00:k=0:=HK0.out rfl;subst hk00;clear hx;go_wp2_with fail;refine yab [zT,zT,zT,zT,zT,zT,zT,zT,zT,zT,zT,zT,zT,zT,zT,zT,zT,zT,zT,zT,zT,zT] 0 22 ?_;intro X00;simp only [pickOps];repeat (go_big_quiet_step (fail))
      refine wpQuiet_nil (fun X0=>?_);clear X00;refine yaa zQ (fun X0'=>?_) _;go_wp2_with fail;go_ret;rw [HE.out];exact RefsGot.of HM.out HR.out zE
    · rw [hx] at g0 HK0;have HE:=zH (HV.out.trans (by rw [hx,if_pos rfl]));clear hx;by_cases hlt:k<S.elsN
      · have d1:decide (S.j*8+k<minF S.n ((S.j+1)*8))=true:=by rw [HCX.out,decide_eq_true hlt]
        have HE2:=HE;have e4:=IntWalk.i64_in (S.j*8+k+1) zo;have e5:(S.j*8+(k:Int)).tmod 8=k:=by rw [Int.tmod_eq_emod_of_nonneg zo];omega
        have e6:=IntWalk.i64_in (k:Int) zo;go_wp2_with fail;refine yab [zT,zT,zT,zT,zT,zT,zT,zT,zT,zT,zT,zT,zT,zT,zT,zT,zT,zT,zT,zT,zT,zT] 0 22 ?_;intro X00;simp only [pickOps];repeat (go_big_quiet_step (fail))
        refine wpQuiet_nil (fun X0=>?_);clear X00;refine yaa zQ (fun X0'=>?_) _;obtain ⟨Y,hY⟩:=(show Ext w1 (((w1.patch X).patch X0).patch X0') from zE);rw [hY];clear hY;have R1:=zH (ybx HR.out.row.row (show Ext w1 (w1.patch Y) from zE));go_wp2_with (at_builtin;refine wpList_append_own_at _ rfl (.tmp 44) (.tmp 47) 97 rfl 0 3 i0 (zI z6 0) 1 8 Tryz.underlying97 hi hz0 hz1 hz2 rfl zd _ _ _ rfl (R1.out.alloc _) ⟨(w1.patch Y).heap.size,0,none⟩ 1 1 [.int .i64 (k:Int)] rfl rfl (cell_one_new _ _ _) (by intro u hu;simp at hu;subst hu;rfl) (by unfold maxLen;omega) zo (Nat.zero_le _) ?_;intro v2 w2 hown hgrow hnil hat);obtain ⟨own2,m2,r2,k2⟩:=HR.out.app HM.out (Ext.alloc ⟨_,rfl⟩ _) hown hgrow hat;have M2:=zH m2;have R2:=zH r2;clear m2 r2 k2 hown hgrow hnil hat;go_wp2_with fail;go_roundw
        case rel=>exact ⟨k+1,own2,w2,zo,(fun e=>absurd e zd),by go_num,M2,zH ⟨R2.out.row.weak rfl (by rw [yhG];simp),R2.out.new⟩,zE⟩
        case measure=>simp [intOf];omega
      · have d1:decide (S.j*8+k<minF S.n ((S.j+1)*8))=false:=by rw [HCX.out,decide_eq_false hlt]
        obtain rfl:k=S.elsN:=zo;go_wp2_with fail;refine yab [zT,zT,zT,zT,zT,zT,zT,zT,zT,zT,zT,zT,zT,zT,zT,zT,zT,zT,zT,zT,zT,zT] 0 22 ?_;intro X00;simp only [pickOps];repeat (go_big_quiet_step (fail))
        refine wpQuiet_nil (fun X0=>?_);clear X00;refine yaa zQ (fun X0'=>?_) _;go_wp2_with fail;go_ret;rw [HE.out];refine RefsGot.of HM.out ?_ zE;rw [yjj];exact HR.out
theorem TraceIs.wordsSet {g:GW} {t b:Nat} {S:TraceS} {P:TrPl} {l:List Int} {A:Option Addr} {c:Nat} {w1:World} (h:TraceIs g t b S P) (hE:Ext g.w w1) (hl:l.length≤c∧c≤9223372036854775807) (hc:CellsAt w1 A (l.map (Value.int .i64))) (hn: ∀a,A=some a→g.w.heap.size≤a.block):
 TraceIs ⟨(g.to (t+1) w1).own,w1.setCell ⟨b,16,none⟩ (.slice A l.length c)⟩ t b { S with words:=l } ⟨P.sA,P.sc,A,c⟩:=by
 have m1:Mod (fun _=>False) g (g.to (t+1) w1):=Mod.ext hE (t+1);have h1:=h.keep m1 id id;have m2:Mod (fun x=>x=t) (g.to (t+1) w1) ⟨(g.to (t+1) w1).own,w1.setCell ⟨b,16,none⟩ (.slice A l.length c)⟩:=Mod.st Mod.self h1.blk.own;refine ⟨h1.blk.set 16 (.slice A l.length c),h1.cnf.keep m2 zo,h1.shp.keep m2 zo,?_,hl⟩;refine Seg.set (g:=g.to (t+1) w1) ⟨hc,fun a ha _=>GW.to_new (hn a ha)⟩ (fun a ha _ e=>?_);have:=hn a ha;have:=h.blk.lt;omega
theorem TraceIs.shapeSet {g:GW} {t b:Nat} {S:TraceS} {P:TrPl} {s:Shp} {w1:World} (h:TraceIs g t b S P) (hE:Ext g.w w1) (hok:s.Ok w1) (hf: ∀a,s.A=some a→g.w.heap.size≤a.block):
 TraceIs ⟨(g.to (t+1) w1).own,(w1.setCell ⟨b,12,none⟩ (.bool s.arr)).setCell ⟨b,13,none⟩ (.slice s.A s.refs.length s.cap)⟩ t b { S with arr:=s.arr,refs:=s.refs } ⟨s.A,s.cap,P.wA,P.wc⟩:=by
 have m1:Mod (fun _=>False) g (g.to (t+1) w1):=Mod.ext hE (t+1);have h1:=h.keep m1 id id;have m2:Mod (fun x=>x=t) (g.to (t+1) w1) ⟨(g.to (t+1) w1).own,(w1.setCell ⟨b,12,none⟩ (.bool s.arr)).setCell ⟨b,13,none⟩ (.slice s.A s.refs.length s.cap)⟩:=Mod.st (Mod.st Mod.self h1.blk.own) h1.blk.own;refine ⟨(h1.blk.set 12 (.bool s.arr)).set 13 (.slice s.A s.refs.length s.cap),h1.cnf.keep m2 zo,ShpAt.keep (g:=g.to (t+1) w1) ⟨⟨hok.refs,fun a ha _=>GW.to_new (hf a ha)⟩,hok.len,hok.max⟩ m2 zo,h1.words.keep m2 zo,h.wlen⟩
theorem ybI {c:Cnf} {k:Int} {arr:Bool} {refs:List Bool} (hck:c.check=0) (h:c.shapeAt k=some (arr,refs)) (A:Option Addr) (cap:Nat):Shp.may ⟨arr,A,cap,refs⟩=true:=by
 unfold Cnf.shapeAt at h;split at h
 · cases h
 · obtain ⟨s,hs,he⟩:=Option.map_eq_some_iff.1 h;have hb:=(Cnf.check_zero hck).2.2.2;injection he with e1 e2;cases hm:Shp.may s
   · rw [yd8 hs hm] at hb;cases hb
   · unfold Shp.may at hm ⊢;rw [←e1, ←e2];exact hm
theorem yhk (g:GW) (t b:Nat) (S:TraceS) (P:TrPl) (v:Nat × Nat) (h:TraceIs g t b S P) (hv:wTell v=none):Calls prog 262 #[.pointer (some ⟨b,0,none⟩),.complex .f64 v.1 v.2] g.w (Does (.bool false) g (fun x=>x=t) (fun g'=>TraceIs g' t b S P)):=by
 have HT:=zH (yaQ v g.w);rw [hv] at HT;unfold tellV at HT;obtain ⟨x,y⟩:=v;simp only [Option.map_none,Option.getD_none,Option.isSome_none] at HT ⊢;clear hv;have HSH:=zH (fun w' (he:Ext g.w w')=>yax S.c 0 w' (h.cnf.ok.ext he));unfold Cnf.val at HSH;have H:=zH h;clear h;go_enter func262,ntmps262;go_wp2_with fail;refine HT.out.mono ?_;rintro e w1 ⟨rfl,hE⟩;have HX1:=zH (show Ext g.w w1 from hE);have H1:=zH (H.out.keep (Mod.ext (T:=fun _=>False) HX1.out 0) id id);clear hE HT;have k0:=H1.out.blk.cell (i:=0) rfl;have k1:=H1.out.blk.cell (i:=1) rfl;have k2:=H1.out.blk.cell (i:=2) rfl;have k3:=H1.out.blk.cell (i:=3) rfl;have k4:=H1.out.blk.cell (i:=4) rfl;have k5:=H1.out.blk.cell (i:=5) rfl;have k6:=H1.out.blk.cell (i:=6) rfl;have k7:=H1.out.blk.cell (i:=7) rfl;have k8:=H1.out.blk.cell (i:=8) rfl;have hl:=H1.out.blk.lt;simp only [GW.to] at k0 k1 k2 k3 k4 k5 k6 k7 k8 hl;go_wp2_with fail;refine (HSH.out _ HX1.out).mono ?_;rintro e w2 ⟨s',rfl,hs,hfr,hok,hE⟩;have HS:=zH hs;have HFR:=zH hfr;have HOK:=zH hok;have HX2:=zH (HX1.out.trans (show Ext w1 w2 from hE));clear hs hfr hok hE HSH k0 k1 k2 k3 k4 k5 k6 k7 k8 hl H1;generalize (S.c.shapeAt 0).isSome=z at *
 obtain ⟨arr',A',cap',refs'⟩:=s';unfold Shp.val;go_wp2_with fail;go_ret;exact Does.ext g (HX2.out.trans zE) rfl (Mod.refl _ _) (fun g2 m=>H.out.keep m id id)
theorem yhi (g:GW) (t b:Nat) (S:TraceS) (P:TrPl) (v:Nat × Nat) (kd md:Int) (h:TraceIs g t b S P) (hv:wTell v=some (kd,md)) (hk:S.c.shapeAt kd=none):Calls prog 262 #[.pointer (some ⟨b,0,none⟩),.complex .f64 v.1 v.2] g.w (Does (.bool false) g (fun x=>x=t) (fun g'=>TraceIs g' t b S P)):=by
 have HT:=zH (yaQ v g.w);rw [hv] at HT;unfold tellV at HT;obtain ⟨x,y⟩:=v;simp only [Option.map_some,Option.getD_some,Option.isSome_some] at HT ⊢;clear hv;have HSH:=zH (fun w' (he:Ext g.w w')=>yax S.c kd w' (h.cnf.ok.ext he));unfold Cnf.val at HSH;have H:=zH h;clear h;go_enter func262,ntmps262;go_wp2_with fail;refine HT.out.mono ?_;rintro e w1 ⟨rfl,hE⟩;have HX1:=zH (show Ext g.w w1 from hE);have H1:=zH (H.out.keep (Mod.ext (T:=fun _=>False) HX1.out 0) id id);clear hE HT;have k0:=H1.out.blk.cell (i:=0) rfl;have k1:=H1.out.blk.cell (i:=1) rfl;have k2:=H1.out.blk.cell (i:=2) rfl;have k3:=H1.out.blk.cell (i:=3) rfl;have k4:=H1.out.blk.cell (i:=4) rfl;have k5:=H1.out.blk.cell (i:=5) rfl;have k6:=H1.out.blk.cell (i:=6) rfl;have k7:=H1.out.blk.cell (i:=7) rfl;have k8:=H1.out.blk.cell (i:=8) rfl;have hl:=H1.out.blk.lt;simp only [GW.to] at k0 k1 k2 k3 k4 k5 k6 k7 k8 hl;go_wp2_with fail;refine (HSH.out _ HX1.out).mono ?_;rintro e w2 ⟨s',rfl,hs,hfr,hok,hE⟩;have HS:=zH hs;have HFR:=zH hfr;have HOK:=zH hok;have HX2:=zH (HX1.out.trans (show Ext w1 w2 from hE));clear hs hfr hok hE HSH k0 k1 k2 k3 k4 k5 k6 k7 k8 hl H1;rw [hk];obtain ⟨arr',A',cap',refs'⟩:=s';unfold Shp.val;clear hk
 simp only [Option.isSome_none];go_wp2_with fail;go_ret;exact Does.ext g (HX2.out.trans zE) rfl (Mod.refl _ _) (fun g2 m=>H.out.keep m id id)
theorem yhj (g:GW) (t b:Nat) (S:TraceS) (P:TrPl) (v:Nat × Nat) (kd md:Int) (arr:Bool) (refs:List Bool) (h:TraceIs g t b S P) (hv:wTell v=some (kd,md)) (hk:S.c.shapeAt kd=some (arr,refs)) (hm:1<md∨(arr=true∧0<md)):Calls prog 262 #[.pointer (some ⟨b,0,none⟩),.complex .f64 v.1 v.2] g.w (Does (.bool false) g (fun x=>x=t) (fun g'=>TraceIs g' t b S P)):=by
 have HT:=zH (yaQ v g.w);rw [hv] at HT;unfold tellV at HT;obtain ⟨x,y⟩:=v;simp only [Option.map_some,Option.getD_some,Option.isSome_some] at HT ⊢;clear hv;have HSH:=zH (fun w' (he:Ext g.w w')=>yax S.c kd w' (h.cnf.ok.ext he));unfold Cnf.val at HSH;have H:=zH h;clear h;go_enter func262,ntmps262;go_wp2_with fail;refine HT.out.mono ?_;rintro e w1 ⟨rfl,hE⟩;have HX1:=zH (show Ext g.w w1 from hE);have H1:=zH (H.out.keep (Mod.ext (T:=fun _=>False) HX1.out 0) id id);clear hE HT;have k0:=H1.out.blk.cell (i:=0) rfl;have k1:=H1.out.blk.cell (i:=1) rfl;have k2:=H1.out.blk.cell (i:=2) rfl;have k3:=H1.out.blk.cell (i:=3) rfl;have k4:=H1.out.blk.cell (i:=4) rfl;have k5:=H1.out.blk.cell (i:=5) rfl;have k6:=H1.out.blk.cell (i:=6) rfl;have k7:=H1.out.blk.cell (i:=7) rfl;have k8:=H1.out.blk.cell (i:=8) rfl;have hl:=H1.out.blk.lt;simp only [GW.to] at k0 k1 k2 k3 k4 k5 k6 k7 k8 hl;go_wp2_with fail;refine (HSH.out _ HX1.out).mono ?_;rintro e w2 ⟨s',rfl,hs,hfr,hok,hE⟩;have HS:=zH hs;have HFR:=zH hfr;have HOK:=zH hok;have HX2:=zH (HX1.out.trans (show Ext w1 w2 from hE));clear hs hfr hok hE HSH k0 k1 k2 k3 k4 k5 k6 k7 k8 hl H1;rw [hk] at HS ⊢;obtain ⟨arr',A',cap',refs'⟩:=s'
 obtain rfl:arr'=arr:=congrArg Prod.fst HS.out;unfold Shp.val;clear hk;simp only [Option.isSome_some];have HB:=zH (show (w2.alloc (.cells #[.bool arr',.slice A' refs'.length cap'] 94)).heap[w2.heap.size]?=some (.cells #[.bool arr',.slice A' refs'.length cap'] 94) from World.row_alloc_new _);have HXB:=zH (HX2.out.trans (show Ext w2 (w2.alloc (.cells #[.bool arr',.slice A' refs'.length cap'] 94)) from zE));go_upto_region 3 with fail
 generalize w2.heap.size=bs at *;generalize w2.alloc (.cells #[.bool arr',.slice A' refs'.length cap'] 94)=wb at *;have s0:wb.cell? ⟨bs,0,none⟩=some (.bool arr'):=by simp only [World.cell?,HB.out];rfl
 have hbs:bs<wb.heap.size:=(Array.getElem?_eq_some_iff.1 HB.out).1;by_cases h1:1<md
 · clear hm;go_wp2_with fail;go_ret;exact Does.ext g (HXB.out.trans zE) rfl (Mod.refl _ _) (fun g2 m=>H.out.keep m id id)
 · obtain ⟨rfl,h2⟩:arr'=true∧0<md:=by
    rcases hm with hm|hm
    · exact absurd hm h1
    · exact hm
   clear hm;go_wp2_with fail;go_ret;exact Does.ext g (HXB.out.trans zE) rfl (Mod.refl _ _) (fun g2 m=>H.out.keep m id id)
theorem yf4 (g:GW) (t b:Nat) (S:TraceS) (P:TrPl) (v:Nat × Nat) (kd md:Int) (refs:List Bool) (h:TraceIs g t b S P) (hv:wTell v=some (kd,md)) (hk:S.c.shapeAt kd=some (true,refs)) (hm:md≤0) (hck:S.c.check=0):Calls prog 262 #[.pointer (some ⟨b,0,none⟩),.complex .f64 v.1 v.2] g.w (Does (.bool true) g (fun x=>x=t) (fun g'=>TraceAt g' t b { S with arr:=true,refs:=refs,pc:=5 })):=by
 have HT:=zH (yaQ v g.w);rw [hv] at HT;unfold tellV at HT;obtain ⟨x,y⟩:=v;simp only [Option.map_some,Option.getD_some,Option.isSome_some] at HT ⊢;clear hv;have HMAY:=zH (fun A cap=>ybI hck hk A cap);have HSH:=zH (fun w' (he:Ext g.w w')=>yax S.c kd w' (h.cnf.ok.ext he));unfold Cnf.val at HSH;have H:=zH h;clear h;go_enter func262,ntmps262;go_wp2_with fail;refine HT.out.mono ?_;rintro e w1 ⟨rfl,hE⟩;have HX1:=zH (show Ext g.w w1 from hE);have H1:=zH (H.out.keep (Mod.ext (T:=fun _=>False) HX1.out 0) id id);clear hE HT;have k0:=H1.out.blk.cell (i:=0) rfl;have k1:=H1.out.blk.cell (i:=1) rfl;have k2:=H1.out.blk.cell (i:=2) rfl;have k3:=H1.out.blk.cell (i:=3) rfl;have k4:=H1.out.blk.cell (i:=4) rfl;have k5:=H1.out.blk.cell (i:=5) rfl;have k6:=H1.out.blk.cell (i:=6) rfl;have k7:=H1.out.blk.cell (i:=7) rfl;have k8:=H1.out.blk.cell (i:=8) rfl;have hl:=H1.out.blk.lt;simp only [GW.to] at k0 k1 k2 k3 k4 k5 k6 k7 k8 hl;go_wp2_with fail;refine (HSH.out _ HX1.out).mono ?_;rintro e w2 ⟨s',rfl,hs,hfr,hok,hE⟩;have HS:=zH hs;have HFR:=zH hfr;have HOK:=zH hok;have HX2:=zH (HX1.out.trans (show Ext w1 w2 from hE));clear hs hfr hok hE HSH k0 k1 k2 k3 k4 k5 k6 k7 k8 hl H1
 rw [hk] at HS ⊢;obtain ⟨arr',A',cap',refs'⟩:=s';obtain rfl:arr'=true:=congrArg Prod.fst HS.out;obtain rfl:refs'=refs:=congrArg Prod.snd HS.out;unfold Shp.val;clear hk hck;simp only [Option.isSome_some];have HB:=zH (show (w2.alloc (.cells #[.bool true,.slice A' refs'.length cap'] 94)).heap[w2.heap.size]?=some (.cells #[.bool true,.slice A' refs'.length cap'] 94) from World.row_alloc_new _);have HXB:=zH (HX2.out.trans (show Ext w2 (w2.alloc (.cells #[.bool true,.slice A' refs'.length cap'] 94)) from zE));have HOKB:=zH (HOK.out.ext (show Ext w2 (w2.alloc (.cells #[.bool true,.slice A' refs'.length cap'] 94)) from zE));have HFRB:=zH (show∀a,A'=some a→g.w.heap.size≤a.block from fun a ha=>Nat.le_trans HX1.out.size (HFR.out a ha));go_upto_region 3 with fail
 generalize w2.heap.size=bs at *;generalize w2.alloc (.cells #[.bool true,.slice A' refs'.length cap'] 94)=wb at *;have s0:wb.cell? ⟨bs,0,none⟩=some (.bool true):=by simp only [World.cell?,HB.out];rfl
 have s1:wb.cell? ⟨bs,1,none⟩=some (.slice A' refs'.length cap'):=by simp only [World.cell?,HB.out];rfl
 have hbs:bs<wb.heap.size:=(Array.getElem?_eq_some_iff.1 HB.out).1;have mB:Mod (fun _=>False) g (g.to (t+1) wb):=Mod.ext HXB.out (t+1);have HBB:=zH (H.out.blk.keep mB id);have MB:=zH mB;have H3:=zH (H.out.shapeSet HXB.out HOKB.out HFRB.out);clear mB HB HX1 HX2 HS HFR HOK;have c11:=HBB.out.cell (i:=11) rfl;have c12:=HBB.out.cell (i:=12) rfl;have c13:=HBB.out.cell (i:=13) rfl;have f11:=HBB.out.live 11;have f12:=HBB.out.live 12;have f13:=HBB.out.live 13;have hl:=HBB.out.lt;simp only [GW.to] at c11 c12 c13 f11 f12 f13 hl;have HO:=zH HBB.out.own;have H4:=zH (H3.out.st 11 (zI z6 5) { S with arr:=true,refs:=refs',pc:=5 } rfl rfl rfl rfl rfl);go_wp2_with fail;go_ret;exact ⟨rfl,_,(MB.out.mono (fun _=>False.elim)).trans (Mod.st (T:=fun x=>x=t) (Mod.st (Mod.st Mod.self HO.out) HO.out) HO.out),_,H4.out⟩
theorem yfk (g:GW) (t b:Nat) (S:TraceS) (P:TrPl) (v:Nat × Nat) (kd md:Int) (refs:List Bool) (h:TraceIs g t b S P) (hv:wTell v=some (kd,md)) (hk:S.c.shapeAt kd=some (false,refs)) (hm:md≤1) (hck:S.c.check=0) (hj:0≤S.j∧S.j≤1000000) (hn:0≤S.n∧S.n≤1000000) (hb:0≤S.base∧S.base≤1099511627776):
 Calls prog 262 #[.pointer (some ⟨b,0,none⟩),.complex .f64 v.1 v.2] g.w (Does (.bool true) g (fun x=>x=t) (fun g'=>TraceAt g' t b (TraceS.gone { S with arr:=false,refs:=refs,words:=TraceS.refsL { S with arr:=false,refs:=refs } }))):=by
 have HJ:=zH (And.intro hj (And.intro hn hb));clear hj hn hb;have HT:=zH (yaQ v g.w);rw [hv] at HT;unfold tellV at HT;obtain ⟨x,y⟩:=v;simp only [Option.map_some,Option.getD_some,Option.isSome_some] at HT ⊢;clear hv;have HMAY:=zH (fun A cap=>ybI hck hk A cap);have HSH:=zH (fun w' (he:Ext g.w w')=>yax S.c kd w' (h.cnf.ok.ext he));unfold Cnf.val at HSH;have H:=zH h;clear h;go_enter func262,ntmps262;go_wp2_with fail;refine HT.out.mono ?_;rintro e w1 ⟨rfl,hE⟩;have HX1:=zH (show Ext g.w w1 from hE);have H1:=zH (H.out.keep (Mod.ext (T:=fun _=>False) HX1.out 0) id id);clear hE HT;have k0:=H1.out.blk.cell (i:=0) rfl;have k1:=H1.out.blk.cell (i:=1) rfl;have k2:=H1.out.blk.cell (i:=2) rfl;have k3:=H1.out.blk.cell (i:=3) rfl;have k4:=H1.out.blk.cell (i:=4) rfl;have k5:=H1.out.blk.cell (i:=5) rfl;have k6:=H1.out.blk.cell (i:=6) rfl;have k7:=H1.out.blk.cell (i:=7) rfl;have k8:=H1.out.blk.cell (i:=8) rfl;have hl:=H1.out.blk.lt;simp only [GW.to] at k0 k1 k2 k3 k4 k5 k6 k7 k8 hl;go_wp2_with fail;refine (HSH.out _ HX1.out).mono ?_;rintro e w2 ⟨s',rfl,hs,hfr,hok,hE⟩;have HS:=zH hs;have HFR:=zH hfr;have HOK:=zH hok;have HX2:=zH (HX1.out.trans (show Ext w1 w2 from hE))
 clear hs hfr hok hE HSH k0 k1 k2 k3 k4 k5 k6 k7 k8 hl H1;rw [hk] at HS ⊢;obtain ⟨arr',A',cap',refs'⟩:=s';obtain rfl:arr'=false:=congrArg Prod.fst HS.out;obtain rfl:refs'=refs:=congrArg Prod.snd HS.out;unfold Shp.val;clear hk hck;simp only [Option.isSome_some];have HB:=zH (show (w2.alloc (.cells #[.bool false,.slice A' refs'.length cap'] 94)).heap[w2.heap.size]?=some (.cells #[.bool false,.slice A' refs'.length cap'] 94) from World.row_alloc_new _);have HXB:=zH (HX2.out.trans (show Ext w2 (w2.alloc (.cells #[.bool false,.slice A' refs'.length cap'] 94)) from zE));have HOKB:=zH (HOK.out.ext (show Ext w2 (w2.alloc (.cells #[.bool false,.slice A' refs'.length cap'] 94)) from zE));have HFRB:=zH (show∀a,A'=some a→g.w.heap.size≤a.block from fun a ha=>Nat.le_trans HX1.out.size (HFR.out a ha));go_upto_region 3 with fail
 generalize w2.heap.size=bs at *;generalize w2.alloc (.cells #[.bool false,.slice A' refs'.length cap'] 94)=wb at *;have s0:wb.cell? ⟨bs,0,none⟩=some (.bool false):=by simp only [World.cell?,HB.out];rfl
 have s1:wb.cell? ⟨bs,1,none⟩=some (.slice A' refs'.length cap'):=by simp only [World.cell?,HB.out];rfl
 have hbs:bs<wb.heap.size:=(Array.getElem?_eq_some_iff.1 HB.out).1;have mB:Mod (fun _=>False) g (g.to (t+1) wb):=Mod.ext HXB.out (t+1);have HBB:=zH (H.out.blk.keep mB id);have MB:=zH mB;have H3:=zH (H.out.shapeSet HXB.out HOKB.out HFRB.out);clear mB HB HX1 HX2 HS HFR HOK;have c11:=HBB.out.cell (i:=11) rfl;have c12:=HBB.out.cell (i:=12) rfl;have c13:=HBB.out.cell (i:=13) rfl;have f11:=HBB.out.live 11;have f12:=HBB.out.live 12;have f13:=HBB.out.live 13;have hl:=HBB.out.lt;simp only [GW.to] at c11 c12 c13 f11 f12 f13 hl;have HO:=zH HBB.out.own;go_wp2_with fail;refine (ydJ ⟨(g.to (t+1) wb).own,(wb.setCell ⟨b,12,none⟩ (.bool false)).setCell ⟨b,13,none⟩ (.slice A' refs'.length cap')⟩ t b { S with arr:=false,refs:=refs' } ⟨A',cap',P.wA,P.wc⟩ H3.out HJ.out.1 HJ.out.2.1 (HMAY.out _ _)).mono ?_;rintro e w4 ⟨A4,c4,rfl,hE4,hl4,hc4,hn4⟩;have H5:=zH (H3.out.wordsSet hE4 hl4 hc4 hn4);have m4:Mod (fun _=>False) (⟨(g.to (t+1) wb).own,(wb.setCell ⟨b,12,none⟩ (.bool false)).setCell ⟨b,13,none⟩ (.slice A' refs'.length cap')⟩:GW) (GW.to ⟨(g.to (t+1) wb).own,(wb.setCell ⟨b,12,none⟩ (.bool false)).setCell ⟨b,13,none⟩ (.slice A' refs'.length cap')⟩ (t+1) w4):=Mod.ext hE4 (t+1)
 have B4:=zH (H3.out.blk.keep m4 id);have M4:=zH ((MB.out.mono (fun _=>False.elim)).trans ((Mod.st (T:=fun x=>x=t) (Mod.st Mod.self HO.out) HO.out).trans (m4.mono (fun _=>False.elim))));clear hE4 hl4 hc4 hn4 m4 c11 c12 c13 f11 f12 f13 hl s0 s1 hbs;have c16:=B4.out.cell (i:=16) rfl;have f16:=B4.out.live 16;have hl:=B4.out.lt;simp only [GW.to] at c16 f16 hl;go_wp2_with fail;refine (ybu _ t b _ _ H5.out HJ.out.2.2 HJ.out.1).mono ?_;rintro e w6 ⟨rfl,own6,m6,r6⟩;have M6:=zH (M4.out.trans ((Mod.st (T:=fun x=>x=t) Mod.self B4.out.own).trans m6));have H7:=zH (TraceIs.st r6 11 (zI z6 _) (TraceS.gone { S with arr:=false,refs:=refs',words:=TraceS.refsL { S with arr:=false,refs:=refs' } }) rfl rfl rfl rfl rfl);have HO6:=zH r6.blk.own;have c11:=r6.blk.cell (i:=11) rfl;have f11:=r6.blk.live 11;have hl:=r6.blk.lt;simp only at c11 f11 hl;clear m6 r6 c16 f16;go_wp2_with fail;go_ret;exact ⟨rfl,own6,M6.out.trans (Mod.st (T:=fun x=>x=t) Mod.self HO6.out),_,H7.out⟩
theorem TabS.mark_yes {T:TabS} {k:Nat} {o:One} {s:Bool} (ho:T.l[k]?=some o) (h2:T.state k=2) (hb:T.black k s=false):T.mark k s=⟨T.l.set k ⟨o.state,o.head,s⟩⟩:=by
 obtain ⟨hk,hx⟩:=List.getElem?_eq_some_iff.1 ho;unfold TabS.mark;rw [h2,hb,if_pos zd,Int.toNat_natCast];congr 1
 apply List.ext_getElem?;intro i;rw [List.getElem?_modify,List.getElem?_set];by_cases hi:k=i
 · subst hi;simp [ho,hk,hx]
 · simp [hi]
theorem TabS.mark_no {T:TabS} {i:Int} {s:Bool} (h:(T.state i==2&& !T.black i s)=false):T.mark i s=T:=by
 unfold TabS.mark;rw [h];rfl
theorem TabAt.marked {g:GW} {t b r c k:Nat} {T:TabS} {o:One} {s:Bool} (h:TabAt g t b T) (hk:k<T.l.length) (ho:T.l[k]?=some o)
 (hb:Blk g t b 109 [.slice (some ⟨r,0,none⟩) T.l.length c,.int .i64 (T.cnt 0),.int .i64 (T.cnt 1),.int .i64 (T.cnt 2)])
 (hr:Row g t 265 3 (.slice (some ⟨r,0,none⟩) T.l.length c) T.l.length (T.l.flatMap One.cells)) (hne:r≠b):
 TabAt ⟨g.own,g.w.setCell ⟨r,k*3+2,none⟩ (.bool s)⟩ t b ⟨T.l.set k ⟨o.state,o.head,s⟩⟩:=by
 refine ⟨⟨some ⟨r,0,none⟩,c,?_,?_⟩,by simpa using h.len,fun u hu=>?_⟩
 · simp only [List.length_set];rw [TabS.cnt_set ho,TabS.cnt_set ho,TabS.cnt_set ho];have:=hb.setOther (k*3+2) (.bool s) hne;simpa using this
 · simp only [List.length_set];have:=hr.store (k*3+2) (.bool s);rw [ycz _ _ hk];obtain ⟨st,hd,se⟩:=o;have e0:(T.l.flatMap One.cells)[k*3]?=some (zI z6 st):=yaI One.cells_len T.l k 0 _ ho zo;have e1:(T.l.flatMap One.cells)[k*3+1]?=some (.bool hd):=yaI One.cells_len T.l k 1 _ ho zo;rw [show ((T.l.flatMap One.cells).set (k*3) (zI z6 st)).set (k*3+1) (.bool hd)=T.l.flatMap One.cells from ?_]
   · exact this
   · apply List.ext_getElem?;intro i;rw [List.getElem?_set,List.getElem?_set];by_cases h1:k*3+1=i
     · subst h1;rw [if_pos rfl,e1];simp;have:=(List.getElem?_eq_some_iff.1 e1).1;simpa using this
     · rw [if_neg h1];by_cases h2:k*3=i
       · subst h2;rw [if_pos rfl,e0];have:=(List.getElem?_eq_some_iff.1 e0).1;rw [if_pos this]
       · rw [if_neg h2]
 · rcases List.mem_or_eq_of_mem_set hu with hu|rfl
   · exact h.st u hu
   · exact h.st o (List.mem_of_getElem? ho)
theorem yfH (g:GW) (t b:Nat) (i:Int) (s:Bool) (T:TabS) (h:TabAt g t b T):
 Calls prog 163 #[.pointer (some ⟨b,0,none⟩),.int .i64 i,.bool s] g.w (Does (.bool (T.state i==2&& !T.black i s)) g (fun x=>x=t) (fun g'=>TabAt g' t b (T.mark i s))):=by
 have HS:=zH (ybp g t b i T h);have HB:=zH (ybT g t b i s T h);cases hst:T.state i==2
 · have hz:((T.state i:Int) !=2)=true:=by
    have h1:T.state i≠2:=by simpa using hst
    exact bne_iff_ne.2 zo
   have HM:=zH (show T.mark i s=T from TabS.mark_no (by rw [hst];rfl));have H:=zH h;generalize T.state i=x at *;clear hst h;go_enter func163,ntmps163;go_wp2_with fail;refine (HS.out).mono ?_;rintro e w1 ⟨rfl,rfl⟩;go_wp2_with fail;go_ret;exact Does.of g rfl rfl (Mod.refl _ _) (by rw [HM.out];exact H.out)
 · have hz:((T.state i:Int) !=2)=false:=by
    have h1:T.state i=2:=by simpa using hst
    rw [h1];rfl
   cases hbl:T.black i s
   · cases hin:inB i T.l.length
     · rw [show T.state i=0 by unfold TabS.state;rw [TabS.at_out hin];rfl] at hst;cases hst
     obtain ⟨k,rfl,hk⟩:=yam hin;obtain ⟨r,c,o,ho,h2,hb,hr,hrl, -, -,k2,kf,hne⟩:=h.one hk;have e2:T.state k=2:=by simpa using hst
     have HM:=zH (TabS.mark_yes ho e2 hbl);have HOR:=zH (hr.own r rfl);have H:=zH (h.marked (s:=s) hk ho hb hr (fun e=>hne e.symm));rw [hbl] at HB;rw [e2] at HS;have c0:=hb.cell (i:=0) rfl;have hlen:=h.len;have f2:=kf (k*3+2);generalize T.l.length=n at *;clear hb hr h ho hst hz e2 hbl kf;go_enter func163,ntmps163;go_wp2_with fail;refine (HS.out).mono ?_;rintro e w1 ⟨rfl,rfl⟩;go_wp2_with fail;refine (HB.out).mono ?_;rintro e w1 ⟨rfl,rfl⟩;go_wp2_with fail;go_ret;exact Does.of ⟨g.own,_⟩ rfl rfl (Mod.st Mod.self HOR.out) (by rw [HM.out];exact H.out)
   · have HM:=zH (show T.mark i s=T from TabS.mark_no (by rw [hst,hbl];rfl));have H:=zH h;rw [hbl] at HB;generalize T.state i=x at *;clear hst h hbl;go_enter func163,ntmps163;go_wp2_with fail;refine (HS.out).mono ?_;rintro e w1 ⟨rfl,rfl⟩;go_wp2_with fail;refine (HB.out).mono ?_;rintro e w1 ⟨rfl,rfl⟩;go_wp2_with fail;go_ret;exact Does.of g rfl rfl (Mod.refl _ _) (by rw [HM.out];exact H.out)
theorem yju (g:GW) (t b:Nat) (i:Int) (p:PileS) (h:PileAt g t b p):
 Calls prog 164 #[.pointer (some ⟨b,0,none⟩),.int .i64 i] g.w (Does (.bool (!((p.l.length:Int)==p.most))) g (fun x=>x=t) (fun g'=>PileAt g' t b (p.push i))):=by
 obtain ⟨i0,hi,hz0,hz1,hz2⟩:=info_parts ya1;obtain ⟨A,c,hb,hr⟩:=h.ex;have c0:=hb.cell (i:=0) rfl;have c1:=hb.cell (i:=1) rfl;have c2:=hb.cell (i:=2) rfl;have f0:=hb.live 0;have f2:=hb.live 2;have hl:=hb.lt;have HO:=zH hb.own;have HB:=zH hb;have HR:=zH hr;have HM:=zH h.most;have HL:=zH h.len;have hll:p.l.length≤256:=by have:=h.len;have:=h.most;omega
 by_cases hf:(p.l.length:Int)=p.most
 · have hz:((p.l.length:Int)==p.most)=true:=beq_iff_eq.2 hf;have HP:=zH (show p.push i={ p with lost:=true } by unfold PileS.push;rw [if_pos hf]);clear hf hb hr h;go_enter func164,ntmps164;go_wp2_with fail;refine yab [zT,zT,zT,zT,zT,zT,zT,zT,zT,zT] 0 10 ?_;intro X00;simp only [pickOps];repeat (go_big_quiet_step (fail))
   refine wpQuiet_nil (fun X0=>?_);clear X00;refine yaa zQ (fun X0'=>?_) _;go_wp2_with fail;go_ret;refine Does.ext ⟨g.own,g.w.setCell ⟨b,2,none⟩ (.bool true)⟩ zE (by rw [hz];rfl) (Mod.st Mod.self HO.out) (fun g2 m=>?_);rw [HP.out];exact PileAt.keep ⟨⟨A,c,HB.out.set 2 (.bool true),HR.out.setOther 2 _ (fun x hx=>HR.out.ne_type HB.out zd hx)⟩,HM.out,HL.out⟩ m id
 · have hz:((p.l.length:Int)==p.most)=false:=beq_eq_false_iff_ne.2 hf;have HP:=zH (show p.push i={ p with l:=p.l++[i] } by unfold PileS.push;rw [if_neg hf]);have HLT:=zH (show ((p.l++[i]).length:Int)≤p.most from by have:=h.len;simp;omega);clear hf hb hr h;go_enter func164,ntmps164;go_wp2_with fail;refine yab [zT,zT,zT,zT,zT,zT,zT,zT,zT,zT] 0 10 ?_;intro X00;simp only [pickOps];repeat (go_big_quiet_step (fail))
   refine wpQuiet_nil (fun X0=>?_);clear X00;refine yaa zQ (fun X0'=>?_) _;obtain ⟨X1,hX⟩:=(show Ext g.w ((g.w.patch X0).patch X0') from Ext.trans ⟨X0,rfl⟩ ⟨X0',rfl⟩);rw [hX];clear hX;have R1:=zH (HR.out.ptx X1);have B1:=zH (HB.out.pt X1);have hbl:b<(g.w.patch X1).heap.size:=B1.out.lt;have HEX:=zH (fun o=>show Ext (g.pt X1).w ((g.w.patch X1).alloc o) from Ext.alloc (Ext.refl _) o)
   go_wp2_with (at_builtin;refine wpList_append_own_at _ rfl (.tmp 22) (.tmp 24) 97 rfl 0 3 i0 (zI z6 0) 1 8 Tryz.underlying97 hi hz0 hz1 hz2 rfl zd _ _ _ rfl (R1.out.row.alloc _) ⟨(g.w.patch X1).heap.size,0,none⟩ 1 1 [.int .i64 i] rfl rfl (cell_one_new _ _ _) (by intro u hu;simp at hu;subst hu;rfl) (by unfold maxLen;omega) zo (Nat.zero_le _) ?_;intro v2 w2 hown hgrow hnil hat;obtain ⟨A2,cp2,rfl⟩:=yak hown;have R2:=zH ((R1.out.ext (HEX.out (.cells #[.int .i64 i] 3)) 0).grown hown hat);have B2:=zH ((B1.out.ext (HEX.out (.cells #[.int .i64 i] 3)) 0).grown (t':=t) hgrow (fun x hx=>R1.out.ne_type B1.out zd hx));have M2:=zH (((Mod.pt (Mod.refl (fun x=>x=t) g) X1).trans (Mod.ext (T:=fun x=>x=t) (HEX.out (.cells #[.int .i64 i] 3)) 0)).trans (Mod.grown hgrow t (fun k hk hl=>(R1.out.ext (HEX.out (.cells #[.int .i64 i] 3)) 0).own k hk)));have d0:=B2.out.cell (i:=0) rfl;have e0:=B2.out.live 0;have hbl2:=B2.out.lt;simp only [GW.to] at d0 e0 hbl2;clear hown hgrow hnil hat c0 f0 hbl hl);go_ret;refine ⟨by rw [hz];rfl,_,M2.out.trans (Mod.st Mod.self B2.out.own),?_⟩;rw [HP.out]
   exact ⟨⟨A2,cp2,(by simp only [List.length_append,List.length_cons,List.length_nil];exact B2.out.set 0 _),(by simp only [List.length_append,List.length_cons,List.length_nil,List.map_append,List.map_cons,List.map_nil];exact R2.out.setOther 0 _ (fun x hx=>R2.out.ne_type B2.out zd hx))⟩,HM.out,HLT.out⟩
theorem yjZ (g:GW) (tt bt:Nat) (T:TabS) (i:Int) (s:Bool) (h:TabAt g tt bt T):Calls prog 162 #[.agg #[.pointer (some ⟨bt,0,none⟩)],.int .i64 i,.bool s] g.w (Gives (.bool (T.white i s)) g.w):=by
 have HH:=zH (fun w' (he:Ext g.w w')=>yfG (g.to 0 w') tt bt i T (h.keep (Mod.ext (T:=fun _=>False) he 0) id));have HB:=zH (fun w' (he:Ext g.w w')=>ybT (g.to 0 w') tt bt i s T (h.keep (Mod.ext (T:=fun _=>False) he 0) id));have HV:=zH (show T.white i s=(T.head i&& !T.black i s) from rfl);rw [HV.out];generalize T.head i=a at *;generalize T.black i s=b at *;clear h HV;cases a
 · go_enter func162,ntmps162;go_wp2_with fail;refine (HH.out _ zE).mono ?_;rintro e w1 ⟨rfl,rfl⟩;go_wp2_with fail;go_ret;exact Gives.mk rfl (by (try simp only [GW.to]);exact zE)
 · go_enter func162,ntmps162;go_wp2_with fail;refine (HH.out _ zE).mono ?_;rintro e w1 ⟨rfl,rfl⟩;simp only [GW.to];go_wp2_with fail;refine (HB.out _ zE).mono ?_;rintro e w1 ⟨rfl,rfl⟩;simp only [GW.to];go_wp2_with fail;go_ret;exact Gives.mk (by simp) (by (try simp only [GW.to]);exact zE)
structure ShdAt (g:GW) (t b bt tt bp tp:Nat) (T:TabS) (p:PileS) (n:Int):Prop where
 blk:Blk g t b 57 [.pointer (some ⟨bt,0,none⟩),.pointer (some ⟨bp,0,none⟩),.int .i64 n]
 tab:TabAt g tt bt T
 pile:PileAt g tp bp p
theorem ShdAt.keep {S:Nat→Prop} {g g':GW} {t b bt tt bp tp:Nat} {T:TabS} {p:PileS} {n:Int} (h:ShdAt g t b bt tt bp tp T p n) (m:Mod S g g') (h1: ¬S t) (h2: ¬S tt) (h3: ¬S tp):ShdAt g' t b bt tt bp tp T p n:=⟨h.blk.keep m h1,h.tab.keep m h2,h.pile.keep m h3⟩
theorem ShdAt.tick {g:GW} {t b bt tt bp tp:Nat} {T:TabS} {p:PileS} {n:Int} (h:ShdAt g t b bt tt bp tp T p n) (h1:t≠tt) (h2:t≠tp):ShdAt ⟨g.own,g.w.setCell ⟨b,2,none⟩ (zI z6 (n+1))⟩ t b bt tt bp tp T p (n+1):=by
 have m:Mod (fun x=>x=t) g ⟨g.own,g.w.setCell ⟨b,2,none⟩ (zI z6 (n+1))⟩:=Mod.st Mod.self h.blk.own;exact ⟨h.blk.set 2 (zI z6 (n+1)),h.tab.keep m (fun e=>h1 e.symm),h.pile.keep m (fun e=>h2 e.symm)⟩
theorem ycg (g:GW) (t b bt tt bp tp:Nat) (T:TabS) (p:PileS) (n i:Int) (s:Bool) (h:ShdAt g t b bt tt bp tp T p n) (hn:0≤n∧n≤1099511627776) (h1:t≠tt) (h2:t≠tp) (h3:tt≠tp):
 Calls prog 89 #[.pointer (some ⟨b,0,none⟩),.int .i64 i,.bool s] g.w (Does (.bool (T.white i s)) g (fun x=>x=t∨x=tt∨x=tp) (fun g'=>ShdAt g' t b bt tt bp tp (T.grey i s) (p.grey T i s) (n+1))):=by
 have c0:=h.blk.cell (i:=0) rfl;have c2:=h.blk.cell (i:=2) rfl;have f2:=h.blk.live 2;have hl:=h.blk.lt;have HO:=zH h.blk.own;have HN:=zH (And.intro h1 (And.intro h2 h3));have H1:=zH (h.tick h1 h2);have M1:=zH (show Mod (fun x=>x=t) g ⟨g.own,g.w.setCell ⟨b,2,none⟩ (zI z6 (n+1))⟩ from Mod.st Mod.self HO.out);have HW:=zH (yjZ ⟨g.own,g.w.setCell ⟨b,2,none⟩ (zI z6 (n+1))⟩ tt bt T i s H1.out.tab);obtain ⟨hn0,hn1⟩:=hn;clear h h1 h2 h3;cases hw:T.white i s
 · have HG:=zH (And.intro (show T.grey i s=T by unfold TabS.grey;rw [hw];rfl) (show p.grey T i s=p by unfold PileS.grey;rw [hw];rfl));rw [hw] at HW;clear hw;go_enter func89,ntmps89;go_wp2_with fail;refine HW.out.mono ?_;rintro e w1 ⟨rfl,hE⟩;have M2:=zH (Mod.ext (T:=fun _=>False) (g:=⟨g.own,g.w.setCell ⟨b,2,none⟩ (zI z6 (n+1))⟩) (show Ext (g.w.setCell ⟨b,2,none⟩ (zI z6 (n+1))) w1 from hE) 0);clear hE;go_wp2_with fail;go_ret;exact ⟨rfl,_,(M1.out.mono (fun x hx=>Or.inl hx)).trans (M2.out.mono (fun _=>False.elim)),by rw [HG.out.1,HG.out.2];exact H1.out.keep M2.out id id id⟩
 · have HG:=zH (And.intro (show T.grey i s=T.mark i s by unfold TabS.grey;rw [hw];rfl) (show p.grey T i s=p.push i by unfold PileS.grey;rw [hw];rfl));rw [hw] at HW;clear hw;go_enter func89,ntmps89;go_wp2_with fail;refine HW.out.mono ?_;rintro e w1 ⟨rfl,hE⟩;have M2:=zH (Mod.ext (T:=fun _=>False) (g:=⟨g.own,g.w.setCell ⟨b,2,none⟩ (zI z6 (n+1))⟩) (show Ext (g.w.setCell ⟨b,2,none⟩ (zI z6 (n+1))) w1 from hE) 0);have H2:=zH (H1.out.keep M2.out id id id);clear hE c0 c2 f2 hl;have c0:=H2.out.blk.cell (i:=0) rfl;have hl:=H2.out.blk.lt;simp only [GW.to] at c0 hl;go_wp2_with fail;refine (yfH (GW.to ⟨g.own,g.w.setCell ⟨b,2,none⟩ (zI z6 (n+1))⟩ 0 w1) tt bt i s T H2.out.tab).mono ?_;rintro e w2 ⟨rfl,own2,m2,r2⟩;have M3:=zH m2;have B3:=zH (H2.out.blk.keep m2 HN.out.1);have P3:=zH (H2.out.pile.keep m2 (fun e=>HN.out.2.2 e.symm));have T3:=zH r2;clear m2 r2 c0 hl;have c1:=B3.out.cell (i:=1) rfl;have hl:=B3.out.lt;simp only at c1 hl;go_wp2_with fail;refine (yju ⟨own2,w2⟩ tp bp i p P3.out).mono ?_;rintro e w3 ⟨rfl,own3,m3,r3⟩;have M4:=zH m3;have R4:=zH (show ShdAt ⟨own3,w3⟩ t b bt tt bp tp (T.mark i s) (p.push i) (n+1) from ⟨B3.out.keep m3 HN.out.2.1,T3.out.keep m3 HN.out.2.2,r3⟩)
   clear m3 r3 c1 hl;go_wp2_with fail;go_ret;exact ⟨rfl,own3,(M1.out.mono (fun x hx=>Or.inl hx)).trans ((M2.out.mono (fun _=>False.elim)).trans ((M3.out.mono (fun x hx=>Or.inr (Or.inl hx))).trans (M4.out.mono (fun x hx=>Or.inr (Or.inr hx))))),by rw [HG.out.1,HG.out.2];exact R4.out⟩
theorem yhX (g:GW) (t b bt tt bp tp:Nat) (T:TabS) (p:PileS) (n i:Int) (s:Bool) (h:ShdAt g t b bt tt bp tp T p n) (hn:0≤n∧n≤1099511627776) (h1:t≠tt) (h2:t≠tp) (h3:tt≠tp):
 Calls prog 278 #[.pointer (some ⟨b,0,none⟩),.int .i64 i,.bool s] g.w (Does (.bool (T.state i==2&& !T.black i s)) g (fun x=>x=t∨x=tt) (fun g'=>ShdAt g' t b bt tt bp tp (T.mark i s) p (n+1))):=by
 have c0:=h.blk.cell (i:=0) rfl;have c2:=h.blk.cell (i:=2) rfl;have f2:=h.blk.live 2;have hl:=h.blk.lt;have HO:=zH h.blk.own;have HN:=zH (And.intro h1 (And.intro h2 h3));have H1:=zH (h.tick h1 h2);have M1:=zH (show Mod (fun x=>x=t) g ⟨g.own,g.w.setCell ⟨b,2,none⟩ (zI z6 (n+1))⟩ from Mod.st Mod.self HO.out);obtain ⟨hn0,hn1⟩:=hn;clear h h1 h2 h3;go_enter func278,ntmps278;go_wp2_with fail;refine (yfH ⟨g.own,g.w.setCell ⟨b,2,none⟩ (zI z6 (n+1))⟩ tt bt i s T H1.out.tab).mono ?_;rintro e w2 ⟨rfl,own2,m2,r2⟩;have M3:=zH m2;have R3:=zH (show ShdAt ⟨own2,w2⟩ t b bt tt bp tp (T.mark i s) p (n+1) from ⟨H1.out.blk.keep m2 HN.out.1,r2,H1.out.pile.keep m2 (fun e=>HN.out.2.2 e.symm)⟩);clear m2 r2;go_wp2_with fail;go_ret;exact ⟨rfl,own2,(M1.out.mono (fun x hx=>Or.inl hx)).trans (M3.out.mono (fun x hx=>Or.inr hx)),R3.out⟩
section
variable {g g':GW} {B b bm bs bt bp bsp bh:Nat} {K:CoreS} {cm:Cnf}
theorem CoreIn.putMem (h:CoreIn g B b K bm bs bt bp bsp bh cm) {M:MemS} (m:Mod (fun x=>x=B+62) g g') (hm:MemAt g' (B+62) bm M):CoreIn g' B b { K with mem:=M } bm bs bt bp bsp bh cm:=
 ⟨h.blk.keep m zo,hm,h.sh.keep m zo,h.pile.keep m zo,h.sp.keep m (fun x hx=>by omega),h.hand.keep m zo,h.cnf.keep m zo,h.same⟩
theorem CoreIn.putHand (h:CoreIn g B b K bm bs bt bp bsp bh cm) {H:HandS} (m:Mod (fun x=>x=B+63) g g') (hm:HandAt g' (B+63) bh H):CoreIn g' B b { K with hand:=H } bm bs bt bp bsp bh cm:=
 ⟨h.blk.keep m zo,h.mem.keep m zo,h.sh.keep m zo,h.pile.keep m zo,h.sp.keep m (fun x hx=>by omega),hm,h.cnf.keep m zo,h.same⟩
theorem CoreIn.putSp (h:CoreIn g B b K bm bs bt bp bsp bh cm) {S:SpaceS} (m:Mod (inst B) g g') (hm:SpaceAt g' B bsp bt S):CoreIn g' B b { K with sp:=S } bm bs bt bp bsp bh cm:=
 ⟨h.blk.keep m (fun hx=>by have:=hx.2;omega),h.mem.keep m (fun hx=>by have:=hx.2;omega),h.sh.keep m (fun hx=>by have:=hx.2;omega),h.pile.keep m (fun hx=>by have:=hx.2;omega),hm,h.hand.keep m (fun hx=>by have:=hx.2;omega),h.cnf.keep m (fun hx=>by have:=hx.2;omega),h.same⟩
theorem SpaceAt.putTab {S:SpaceS} (h:SpaceAt g B b bt S) {T:TabS} (m:Mod (fun x=>x=B+60∨x=B+50∨x=B+61) g g') (ht:TabAt g' (B+50) bt T):SpaceAt g' B b bt { S with tab:=T }:=by
 obtain ⟨bp,bk,bl,A,cs,cm,bs,h⟩:=h;exact ⟨bp,bk,bl,A,cs,cm,bs,⟨h.blk.keep m zo,h.row.keep m zo,ht,h.pool.keep m zo,h.coil.keep m zo,h.line.keep m zo zo,h.cnf.keep m zo,h.same,h.blen,fun j x s hx hs=>(h.stock j x s hx hs).keep m (by have h1:j<S.stocks.length:=(List.getElem?_eq_some_iff.1 hs).1;have:=h.few;omega),h.check,h.few⟩⟩
theorem SpaceAt.tab {S:SpaceS} (h:SpaceAt g B b bt S):TabAt g (B+50) bt S.tab:=by
 obtain ⟨bp,bk,bl,A,cs,cm,bs,h⟩:=h;exact h.tab
theorem CoreIn.shd (h:CoreIn g B b K bm bs bt bp bsp bh cm):ShdAt g (B+60) bs bt (B+50) bp (B+61) K.sp.tab K.pile K.n:=⟨h.sh,h.sp.tab,h.pile⟩
theorem CoreIn.putShd (h:CoreIn g B b K bm bs bt bp bsp bh cm) {T:TabS} {p:PileS} {n:Int} (m:Mod (fun x=>x=B+60∨x=B+50∨x=B+61) g g') (hs:ShdAt g' (B+60) bs bt (B+50) bp (B+61) T p n):CoreIn g' B b { K with sp:={ K.sp with tab:=T },pile:=p,n:=n } bm bs bt bp bsp bh cm:=
 ⟨h.blk.keep m zo,h.mem.keep m zo,hs.blk,hs.pile,h.sp.putTab m hs.tab,h.hand.keep m zo,h.cnf.keep m zo,h.same⟩
end
end Go.Proofs.YtdhjjpnajjingaaGreat
