import Derived.Test.YtdhjjpnajjingaaGreatKQ06
import Derived.Deep.DeepCutAuto
import Derived.Deep.RegionLaw
import Derived.Laws.IdiomCopy
import Derived.Deep.MidRow
import Derived.Deep.RegionWith
import Derived.Maps.OwnSet
import Derived.Maps.OwnOps
set_option linter.unusedVariables false
set_option linter.unnecessarySimpa false
set_option linter.unusedSimpArgs false
open Bool renaming true→zT,false→zU
open Go.Value renaming int→zI
open Go.IntKind renaming i64→z6
set_option maxHeartbeats 8000000
set_option maxRecDepth 100000
open Go.Proofs.Tryz
open Go.Lib renaming hid→zH
open Go.Ext renaming alloc→zA,patch→zP,drew→zD,drewN→zN,more→zM,refl→zR,setCell→zS
open Nat renaming le_refl→zL,le_add_right→zK
namespace Go.Proofs.YtdhjjpnajjingaaGreat
open Go Go.RowKit
structure TraceS where
 c:Cnf
 head:Int
 sense:Bool
 pc:Int
 arr:Bool
 refs:List Bool
 frag:Int
 j:Int
 words:List Int
 next:Int
 n:Int
 mode:Int
 base:Int
 e:Int
 steps:Int
namespace TraceS
def cells (S:TraceS) (sA:Option Addr) (sc:Nat) (wA:Option Addr) (wc:Nat):List Value:=[.int .i64 S.c.frags,.int .i64 S.c.spine,.int .i64 S.c.globals,.int .i64 S.c.threads,.int .i64 S.c.locals,.int .i64 S.c.cache,.int .i64 S.c.stack,.int .i64 S.c.low,.slice S.c.A S.c.shapes.length S.c.cap,
 .int .i64 S.head,.bool S.sense,.int .i64 S.pc,.bool S.arr,.slice sA S.refs.length sc,.int .i64 S.frag,.int .i64 S.j,.slice wA S.words.length wc,.int .i64 S.next,.int .i64 S.n,.int .i64 S.mode,.int .i64 S.base,.int .i64 S.e,.int .i64 S.steps]
def fresh (c:Cnf) (head:Int) (sense:Bool):TraceS:=⟨c,head,sense,0,false,[],head,0,[],0,0,0,0,0,0⟩
def okAt (S:TraceS) (frag k:Int):Bool:=decide (S.c.check=0∧0≤frag∧frag<S.c.frags∧0≤k∧k<8)
def rd (S:TraceS) (m:MemS) (frag k:Int):Option (Nat × Nat):=if S.okAt frag k&&inB (frag*8+k) m.l.length then some (m.peek (frag*8+k)) else none
def rdM (S:TraceS) (m:MemS) (frag k:Int):MemS:=if S.okAt frag k then m.tick else m
def shp (S:TraceS):Shp:=⟨S.arr,none,0,S.refs⟩
end TraceS
structure TrPl where
 sA:Option Addr
 sc:Nat
 wA:Option Addr
 wc:Nat
structure TraceIs (g:GW) (t b:Nat) (S:TraceS) (P:TrPl):Prop where
 blk:Blk g t b 208 (S.cells P.sA P.sc P.wA P.wc)
 cnf:CnfAt g (t+1) S.c
 shp:ShpAt g (t+1) ⟨S.arr,P.sA,P.sc,S.refs⟩
 words:Seg g (t+1) P.wA (S.words.map (Value.int .i64))
 wlen:S.words.length≤P.wc∧P.wc≤9223372036854775807
def TraceAt (g:GW) (t b:Nat) (S:TraceS):Prop:= ∃P,TraceIs g t b S P
theorem TraceIs.keep {T:Nat→Prop} {g g':GW} {t b:Nat} {S:TraceS} {P:TrPl} (h:TraceIs g t b S P) (m:Mod T g g') (h1: ¬T t) (h2: ¬T (t+1)):TraceIs g' t b S P:=⟨h.blk.keep m h1,h.cnf.keep m h2,h.shp.keep m h2,h.words.keep m h2,h.wlen⟩
theorem TraceAt.keep {T:Nat→Prop} {g g':GW} {t b:Nat} {S:TraceS} (h:TraceAt g t b S) (m:Mod T g g') (h1: ¬T t) (h2: ¬T (t+1)):TraceAt g' t b S:=by
 obtain ⟨P,h⟩:=h;exact ⟨P,h.keep m h1 h2⟩
theorem TraceIs.st {g:GW} {t b:Nat} {S:TraceS} {P:TrPl} (h:TraceIs g t b S P) (i:Nat) (v:Value) (S':TraceS) (hc:S'.cells P.sA P.sc P.wA P.wc=(S.cells P.sA P.sc P.wA P.wc).set i v) (hcc:S'.c=S.c) (ha:S'.arr=S.arr) (hr:S'.refs=S.refs) (hw:S'.words=S.words):TraceIs ⟨g.own,g.w.setCell ⟨b,i,none⟩ v⟩ t b S' P:=by
 have m:Mod (fun x=>x=t) g ⟨g.own,g.w.setCell ⟨b,i,none⟩ v⟩:=Mod.set (T:=fun x=>x=t) h.blk.own;refine ⟨by rw [hc];exact h.blk.set i v,?_,?_,?_,?_⟩
 · rw [hcc];exact h.cnf.keep m zo
 · rw [ha,hr];exact h.shp.keep m zo
 · rw [hw];exact h.words.keep m zo
 · rw [hw];exact h.wlen
end Go.Proofs.YtdhjjpnajjingaaGreat
namespace Go
def TabS.white (T:TabS) (i:Int) (s:Bool):Bool:=T.head i&& !T.black i s
def TabS.grey (T:TabS) (i:Int) (s:Bool):TabS:=if T.white i s then T.mark i s else T
def PileS.push (p:PileS) (i:Int):PileS:=if (p.l.length:Int)=p.most then { p with lost:=true } else { p with l:=p.l++[i] }
def PileS.grey (p:PileS) (T:TabS) (i:Int) (s:Bool):PileS:=if T.white i s then p.push i else p
end Go
namespace Go.Proofs.YtdhjjpnajjingaaGreat
open Go Go.RowKit
namespace TraceS
def frs (S:TraceS):Int:=if S.arr then sData S.n else S.shp.size 0
def refsL (S:TraceS):List Int:=
 if S.arr then (if S.refs.getD 0 false then (List.range (min S.n ((S.j+1)*8)-S.j*8).toNat).map (fun x=>((x:Nat):Int)) else [])
 else (List.range S.refs.length).filterMap fun k=>if S.refs.getD k false&&decide (Shp.placeF k=S.j) then some (Shp.placeW k) else none
def enters (S:TraceS):TraceS:=if S.mode=2 then { S with frag:=S.base+S.j } else S
def entersPc (S:TraceS):Int:=if S.mode=2 then 4 else 8
def goes (S:TraceS):TraceS:=if S.words≠[] then S else if S.frs≤S.j+1 then S else if S.arr=false then S else { S with j:=S.j+1 }.enters
def goesPc (S:TraceS):Int:=if S.words≠[] then 1 else if S.frs≤S.j+1 then 9 else if S.arr=false then 3 else { S with j:=S.j+1 }.entersPc
def gone (S:TraceS):TraceS:={ S.goes with pc:=S.goesPc }
def first (S:TraceS) (w:Nat × Nat):TraceS × Bool:=match wTell w with
 |none=>(S,false)
 |some (kind,mode)=>match S.c.shapeAt kind with
  |none=>(S,false)
  |some (arr,refs)=>if 1<mode∨(arr=true∧0<mode) then (S,false)
   else if arr then ({ S with arr:=arr,refs:=refs,pc:=5 },true)
   else (TraceS.gone { S with arr:=arr,refs:=refs,words:=TraceS.refsL { S with arr:=arr,refs:=refs } },true)
end TraceS
structure TrW where
 s:TraceS
 m:MemS
 T:TabS
 p:PileS
 k:Int
namespace TrW
def head (w:TrW):TrW × Bool:=match w.s.rd w.m w.s.head 1 with
 |none=>({ w with m:=w.s.rdM w.m w.s.head 1 },false)
 |some v=>({ w with m:=w.s.rdM w.m w.s.head 1,s:=(w.s.first v).1 },(w.s.first v).2)
def field (w:TrW):TrW × Bool:=match w.s.rd w.m w.s.frag (w.s.words.headD 0) with
 |none=>({ w with m:=w.s.rdM w.m w.s.frag (w.s.words.headD 0) },false)
 |some v=>if wIs v=false then ({ w with m:=w.s.rdM w.m w.s.frag (w.s.words.headD 0) },false)
  else if (wIndex v).isSome then ({ w with m:=w.s.rdM w.m w.s.frag (w.s.words.headD 0),s:={ w.s with words:=w.s.words.tail,next:=(wIndex v).getD 0,pc:=2 } },true)
  else ({ w with m:=w.s.rdM w.m w.s.frag (w.s.words.headD 0),s:=TraceS.gone { w.s with words:=w.s.words.tail,next:=0 } },true)
def grey (w:TrW):TrW × Bool:=({ w with T:=w.T.grey w.s.next w.s.sense,p:=w.p.grey w.T w.s.next w.s.sense,k:=w.k+1,s:=w.s.gone },true)
def link (w:TrW):TrW × Bool:=match w.s.rd w.m w.s.frag 0 with
 |none=>({ w with m:=w.s.rdM w.m w.s.frag 0 },false)
 |some v=>match wIndex v with
  |none=>({ w with m:=w.s.rdM w.m w.s.frag 0 },false)
  |some i=>if i<w.s.c.frags then ({ w with m:=w.s.rdM w.m w.s.frag 0,s:={ w.s with frag:=i,pc:=4,j:=w.s.j+1 } },true) else ({ w with m:=w.s.rdM w.m w.s.frag 0 },false)
def part (w:TrW):TrW × Bool:=({ w with T:=w.T.mark w.s.frag w.s.sense,k:=w.k+1,s:=TraceS.gone { w.s with words:=w.s.refsL } },true)
def length (w:TrW):TrW × Bool:=match w.s.rd w.m w.s.head 2 with
 |none=>({ w with m:=w.s.rdM w.m w.s.head 2 },false)
 |some v=>match wInt v with
  |none=>({ w with m:=w.s.rdM w.m w.s.head 2,s:={ w.s with n:=0 } },false)
  |some n=>if n<0∨512<n then ({ w with m:=w.s.rdM w.m w.s.head 2,s:={ w.s with n:=n } },false) else ({ w with m:=w.s.rdM w.m w.s.head 2,s:={ w.s with n:=n,pc:=if n=0 then 9 else 6 } },true)
def mode (w:TrW):TrW × Bool:=match w.s.rd w.m w.s.head 3 with
 |none=>({ w with m:=w.s.rdM w.m w.s.head 3 },false)
 |some v=>match wInt v with
  |none=>({ w with m:=w.s.rdM w.m w.s.head 3,s:={ w.s with mode:=0 } },false)
  |some n=>if n<0∨2<n∨decide (n=0)≠decide (sData w.s.n≤4) then ({ w with m:=w.s.rdM w.m w.s.head 3,s:={ w.s with mode:=n } },false)
   else ({ w with m:=w.s.rdM w.m w.s.head 3,s:={ w.s with mode:=n,pc:=if n=0 then 8 else 7 } },true)
def base (w:TrW):TrW × Bool:=match w.s.rd w.m w.s.head 4 with
 |none=>({ w with m:=w.s.rdM w.m w.s.head 4 },false)
 |some v=>if w.s.mode=1 then (match wInt v with
  |none=>({ w with m:=w.s.rdM w.m w.s.head 4,s:={ w.s with base:=0 } },false)
  |some a=>if a<0∨cWords w.s.c≤a then ({ w with m:=w.s.rdM w.m w.s.head 4,s:={ w.s with base:=a } },false) else ({ w with m:=w.s.rdM w.m w.s.head 4,s:={ w.s with base:=a,pc:=8 } },true))
  else (match wIndex v with
   |none=>({ w with m:=w.s.rdM w.m w.s.head 4,s:={ w.s with base:=0 } },false)
   |some i=>if w.s.c.frags<i+sData w.s.n then ({ w with m:=w.s.rdM w.m w.s.head 4,s:={ w.s with base:=i } },false) else ({ w with m:=w.s.rdM w.m w.s.head 4,s:={ w.s with base:=i,frag:=i+w.s.j,pc:=4 } },true))
def slotRd (w:TrW):Option (Nat × Nat):=if w.s.mode=0 then w.s.rd w.m w.s.head (4+w.s.j) else if inB (w.s.base+2+w.s.j) w.m.l.length then some (w.m.peek (w.s.base+2+w.s.j)) else none
def slotM (w:TrW):MemS:=if w.s.mode=0 then w.s.rdM w.m w.s.head (4+w.s.j) else w.m.tick
def slot (w:TrW):TrW × Bool:=match w.slotRd with
 |none=>({ w with m:=w.slotM },false)
 |some v=>({ w with m:=w.slotM,s:={ w.s with frag:=(wIndex v).getD 0,pc:=4 } },(wIndex v).isSome&&decide ((wIndex v).getD 0<w.s.c.frags))
def does (w:TrW):TrW × Bool:=
 if w.s.pc=0 then w.head
 else if 5≤w.s.pc then (if w.s.pc=6 then w.mode else if w.s.pc=7 then w.base else if w.s.pc=8 then w.slot else w.length)
 else if w.s.pc=2 then w.grey else if w.s.pc=3 then w.link else if w.s.pc=4 then w.part else w.field
def ticked (w:TrW):TrW:={ w with s:={ w.s with steps:=w.s.steps+1 } }
def ended (w:TrW):TrW:={ w with s:={ w.s with pc:=9,e:=10 } }
def step (w:TrW):TrW:=if w.s.pc=9 then w else if w.ticked.does.2 then w.ticked.does.1 else w.ticked.does.1.ended
end TrW
def minF (x y:Int):Int:=if y<x then y else x
@[go_sem] theorem yic (ats:Array TypeId) (ty:TypeId) (x y:Int):Builtin.min_ ats ty #[.int .i64 x,.int .i64 y]=pure (zI z6 (minF x y)):=rfl
def RefsGot (g:GW) (l:List Int) (e:Ending) (w':World):Prop:= ∃A c,e=.returned (.slice A l.length c)∧Ext g.w w'∧(l.length≤c∧c≤9223372036854775807)∧CellsAt w' A (l.map (Value.int .i64))∧ ∀a,A=some a→g.w.heap.size≤a.block
theorem RefsGot.of {g:GW} {l:List Int} {v:Value} {own:Nat→Nat} {w' w2:World} (M:Mod (fun _=>False) g ⟨own,w'⟩) (R:Mine g ⟨own,w'⟩ 3 1 v l.length (l.map (Value.int .i64))) (he:Ext w' w2):RefsGot g l (.returned v) w2:=by
 obtain ⟨A,c,rfl,hn,hc,_⟩:=R.row.form;exact ⟨A,c,rfl,M.toExt.trans he,⟨hn,hc⟩,(R.row.cells).ext he,fun a ha=>R.new a.block (by rw [ha];rfl)⟩
theorem TabS.mark_yes {T:TabS} {k:Nat} {o:One} {s:Bool} (ho:T.l[k]?=some o) (h2:T.state k=2) (hb:T.black k s=false):T.mark k s=⟨T.l.set k ⟨o.state,o.head,s⟩⟩:=by
 obtain ⟨hk,hx⟩:=List.getElem?_eq_some_iff.1 ho;unfold TabS.mark;rw [h2,hb,if_pos zd,Int.toNat_natCast];congr 1
 apply List.ext_getElem?;intro i;rw [List.getElem?_modify,List.getElem?_set];by_cases hi:k=i
 · subst hi;simp [ho,hk,hx]
 · simp [hi]
theorem TabS.mark_no {T:TabS} {i:Int} {s:Bool} (h:(T.state i==2&& !T.black i s)=false):T.mark i s=T:=by
 unfold TabS.mark;rw [h];rfl
theorem TabAt.marked {g:GW} {t b r c k:Nat} {T:TabS} {o:One} {s:Bool} (h:TabAt g t b T) (hk:k<T.l.length) (ho:T.l[k]?=some o)
 (hb:Blk g t b 109 [.slice (some ⟨r,0,none⟩) T.l.length c,.int .i64 (T.cnt 0),.int .i64 (T.cnt 1),.int .i64 (T.cnt 2)])
 (hr:Row g t 265 3 (.slice (some ⟨r,0,none⟩) T.l.length c) T.l.length (T.l.flatMap One.cells)) (hne:r≠b):
 TabAt ⟨g.own,g.w.setCell ⟨r,k*3+2,none⟩ (.bool s)⟩ t b ⟨T.l.set k ⟨o.state,o.head,s⟩⟩:=by
 refine ⟨⟨some ⟨r,0,none⟩,c,?_,?_⟩,by simpa using h.len,fun u hu=>?_⟩
 · simp only [List.length_set];rw [TabS.cnt_set ho,TabS.cnt_set ho,TabS.cnt_set ho];have:=hb.setOther (k*3+2) (.bool s) hne;simpa using this
 · simp only [List.length_set];have:=hr.store (k*3+2) (.bool s);rw [ybk _ _ hk];obtain ⟨st,hd,se⟩:=o;have e0:(T.l.flatMap One.cells)[k*3]?=some (zI z6 st):=yaw One.cells_len T.l k 0 _ ho zo;have e1:(T.l.flatMap One.cells)[k*3+1]?=some (.bool hd):=yaw One.cells_len T.l k 1 _ ho zo;rw [show ((T.l.flatMap One.cells).set (k*3) (zI z6 st)).set (k*3+1) (.bool hd)=T.l.flatMap One.cells from ?_]
   · exact this
   · apply List.ext_getElem?;intro i;rw [List.getElem?_set,List.getElem?_set];by_cases h1:k*3+1=i
     · subst h1;rw [if_pos rfl,e1];simp;have:=(List.getElem?_eq_some_iff.1 e1).1;simpa using this
     · rw [if_neg h1];by_cases h2:k*3=i
       · subst h2;rw [if_pos rfl,e0];have:=(List.getElem?_eq_some_iff.1 e0).1;rw [if_pos this]
       · rw [if_neg h2]
 · rcases List.mem_or_eq_of_mem_set hu with hu|rfl
   · exact h.st u hu
   · exact h.st o (List.mem_of_getElem? ho)
theorem yhu (g:GW) (t b:Nat) (i:Int) (s:Bool) (T:TabS) (h:TabAt g t b T):
 Calls prog 163 #[.pointer (some ⟨b,0,none⟩),.int .i64 i,.bool s] g.w (Does (.bool (T.state i==2&& !T.black i s)) g (fun x=>x=t) (fun g'=>TabAt g' t b (T.mark i s))):=by
 have HS:=zH (yaW g t b i T h);have HB:=zH (yct g t b i s T h);cases hst:T.state i==2
 · have hz:((T.state i:Int) !=2)=true:=by
    have h1:T.state i≠2:=by simpa using hst
    exact bne_iff_ne.2 zo
   have HM:=zH (show T.mark i s=T from TabS.mark_no (by rw [hst];rfl));have H:=zH h;generalize T.state i=x at *;clear hst h;go_enter func163,ntmps163;go_wp2_with fail;refine (HS.out).mono ?_;rintro e w1 ⟨rfl,rfl⟩;go_wp2_with fail;go_ret;exact Does.of g rfl rfl (Mod.refl _ _) (by rw [HM.out];exact H.out)
 · have hz:((T.state i:Int) !=2)=false:=by
    have h1:T.state i=2:=by simpa using hst
    rw [h1];rfl
   cases hbl:T.black i s
   · cases hin:inB i T.l.length
     · rw [show T.state i=0 by unfold TabS.state;rw [TabS.at_out hin];rfl] at hst;cases hst
     obtain ⟨k,rfl,hk⟩:=yai hin;obtain ⟨r,c,o,ho,h2,hb,hr,hrl, -, -,k2,kf,hne⟩:=h.one hk;have e2:T.state k=2:=by simpa using hst
     have HM:=zH (TabS.mark_yes ho e2 hbl);have HOR:=zH (hr.own r rfl);have H:=zH (h.marked (s:=s) hk ho hb hr (fun e=>hne e.symm));rw [hbl] at HB;rw [e2] at HS;have c0:=hb.cell (i:=0) rfl;have hlen:=h.len;have f2:=kf (k*3+2);generalize T.l.length=n at *;clear hb hr h ho hst hz e2 hbl kf;go_enter func163,ntmps163;go_wp2_with fail;refine (HS.out).mono ?_;rintro e w1 ⟨rfl,rfl⟩;go_wp2_with fail;refine (HB.out).mono ?_;rintro e w1 ⟨rfl,rfl⟩;go_wp2_with fail;go_ret;exact Does.of ⟨g.own,_⟩ rfl rfl (Mod.st Mod.self HOR.out) (by rw [HM.out];exact H.out)
   · have HM:=zH (show T.mark i s=T from TabS.mark_no (by rw [hst,hbl];rfl));have H:=zH h;rw [hbl] at HB;generalize T.state i=x at *;clear hst h hbl;go_enter func163,ntmps163;go_wp2_with fail;refine (HS.out).mono ?_;rintro e w1 ⟨rfl,rfl⟩;go_wp2_with fail;refine (HB.out).mono ?_;rintro e w1 ⟨rfl,rfl⟩;go_wp2_with fail;go_ret;exact Does.of g rfl rfl (Mod.refl _ _) (by rw [HM.out];exact H.out)
theorem yfI (g:GW) (t b:Nat) (i:Int) (p:PileS) (h:PileAt g t b p):
 Calls prog 164 #[.pointer (some ⟨b,0,none⟩),.int .i64 i] g.w (Does (.bool (!((p.l.length:Int)==p.most))) g (fun x=>x=t) (fun g'=>PileAt g' t b (p.push i))):=by
 obtain ⟨i0,hi,hz0,hz1,hz2⟩:=info_parts yaE;obtain ⟨A,c,hb,hr⟩:=h.ex;have c0:=hb.cell (i:=0) rfl;have c1:=hb.cell (i:=1) rfl;have c2:=hb.cell (i:=2) rfl;have f0:=hb.live 0;have f2:=hb.live 2;have hl:=hb.lt;have HO:=zH hb.own;have HB:=zH hb;have HR:=zH hr;have HM:=zH h.most;have HL:=zH h.len;have hll:p.l.length≤256:=by have:=h.len;have:=h.most;omega
 by_cases hf:(p.l.length:Int)=p.most
 · have hz:((p.l.length:Int)==p.most)=true:=beq_iff_eq.2 hf;have HP:=zH (show p.push i={ p with lost:=true } by unfold PileS.push;rw [if_pos hf]);clear hf hb hr h;go_enter func164,ntmps164;go_wp2_with fail;refine yab [zT,zT,zT,zT,zT,zT,zT,zT,zT,zT] 0 10 ?_;intro X00;simp only [pickOps];repeat (go_big_quiet_step (fail))
   refine wpQuiet_nil (fun X0=>?_);clear X00;refine yaa zQ (fun X0'=>?_) _;go_wp2_with fail;go_ret;refine Does.ext ⟨g.own,g.w.setCell ⟨b,2,none⟩ (.bool true)⟩ zE (by rw [hz];rfl) (Mod.st Mod.self HO.out) (fun g2 m=>?_);rw [HP.out];exact PileAt.keep ⟨⟨A,c,HB.out.set 2 (.bool true),HR.out.setOther 2 _ (fun x hx=>HR.out.ne_type HB.out zd hx)⟩,HM.out,HL.out⟩ m id
 · have hz:((p.l.length:Int)==p.most)=false:=beq_eq_false_iff_ne.2 hf;have HP:=zH (show p.push i={ p with l:=p.l++[i] } by unfold PileS.push;rw [if_neg hf]);have HLT:=zH (show ((p.l++[i]).length:Int)≤p.most from by have:=h.len;simp;omega);clear hf hb hr h;go_enter func164,ntmps164;go_wp2_with fail;refine yab [zT,zT,zT,zT,zT,zT,zT,zT,zT,zT] 0 10 ?_;intro X00;simp only [pickOps];repeat (go_big_quiet_step (fail))
   refine wpQuiet_nil (fun X0=>?_);clear X00;refine yaa zQ (fun X0'=>?_) _;obtain ⟨X1,hX⟩:=(show Ext g.w ((g.w.patch X0).patch X0') from Ext.trans ⟨X0,rfl⟩ ⟨X0',rfl⟩);rw [hX];clear hX;have R1:=zH (HR.out.ptx X1);have B1:=zH (HB.out.pt X1);have hbl:b<(g.w.patch X1).heap.size:=B1.out.lt;have HEX:=zH (fun o=>show Ext (g.pt X1).w ((g.w.patch X1).alloc o) from Ext.alloc (Ext.refl _) o)
   go_wp2_with (at_builtin;refine wpList_append_own_at _ rfl (.tmp 22) (.tmp 24) 97 rfl 0 3 i0 (zI z6 0) 1 8 Tryz.underlying97 hi hz0 hz1 hz2 rfl zd _ _ _ rfl (R1.out.row.alloc _) ⟨(g.w.patch X1).heap.size,0,none⟩ 1 1 [.int .i64 i] rfl rfl (cell_one_new _ _ _) (by intro u hu;simp at hu;subst hu;rfl) (by unfold maxLen;omega) zo (Nat.zero_le _) ?_;intro v2 w2 hown hgrow hnil hat;obtain ⟨A2,cp2,rfl⟩:=yag hown;have R2:=zH ((R1.out.ext (HEX.out (.cells #[.int .i64 i] 3)) 0).grown hown hat);have B2:=zH ((B1.out.ext (HEX.out (.cells #[.int .i64 i] 3)) 0).grown (t':=t) hgrow (fun x hx=>R1.out.ne_type B1.out zd hx));have M2:=zH (((Mod.pt (Mod.refl (fun x=>x=t) g) X1).trans (Mod.ext (T:=fun x=>x=t) (HEX.out (.cells #[.int .i64 i] 3)) 0)).trans (Mod.grown hgrow t (fun k hk hl=>(R1.out.ext (HEX.out (.cells #[.int .i64 i] 3)) 0).own k hk)));have d0:=B2.out.cell (i:=0) rfl;have e0:=B2.out.live 0;have hbl2:=B2.out.lt;simp only [GW.to] at d0 e0 hbl2;clear hown hgrow hnil hat c0 f0 hbl hl);go_ret;refine ⟨by rw [hz];rfl,_,M2.out.trans (Mod.st Mod.self B2.out.own),?_⟩;rw [HP.out]
   exact ⟨⟨A2,cp2,(by simp only [List.length_append,List.length_cons,List.length_nil];exact B2.out.set 0 _),(by simp only [List.length_append,List.length_cons,List.length_nil,List.map_append,List.map_cons,List.map_nil];exact R2.out.setOther 0 _ (fun x hx=>R2.out.ne_type B2.out zd hx))⟩,HM.out,HLT.out⟩
theorem yf9 (g:GW) (tt bt:Nat) (T:TabS) (i:Int) (s:Bool) (h:TabAt g tt bt T):Calls prog 162 #[.agg #[.pointer (some ⟨bt,0,none⟩)],.int .i64 i,.bool s] g.w (Gives (.bool (T.white i s)) g.w):=by
 have HH:=zH (fun w' (he:Ext g.w w')=>yht (g.to 0 w') tt bt i T (h.keep (Mod.ext (T:=fun _=>False) he 0) id));have HB:=zH (fun w' (he:Ext g.w w')=>yct (g.to 0 w') tt bt i s T (h.keep (Mod.ext (T:=fun _=>False) he 0) id));have HV:=zH (show T.white i s=(T.head i&& !T.black i s) from rfl);rw [HV.out];generalize T.head i=a at *;generalize T.black i s=b at *;clear h HV;cases a
 · go_enter func162,ntmps162;go_wp2_with fail;refine (HH.out _ zE).mono ?_;rintro e w1 ⟨rfl,rfl⟩;go_wp2_with fail;go_ret;exact Gives.mk rfl (by (try simp only [GW.to]);exact zE)
 · go_enter func162,ntmps162;go_wp2_with fail;refine (HH.out _ zE).mono ?_;rintro e w1 ⟨rfl,rfl⟩;simp only [GW.to];go_wp2_with fail;refine (HB.out _ zE).mono ?_;rintro e w1 ⟨rfl,rfl⟩;simp only [GW.to];go_wp2_with fail;go_ret;exact Gives.mk (by simp) (by (try simp only [GW.to]);exact zE)
structure ShdAt (g:GW) (t b bt tt bp tp:Nat) (T:TabS) (p:PileS) (n:Int):Prop where
 blk:Blk g t b 57 [.pointer (some ⟨bt,0,none⟩),.pointer (some ⟨bp,0,none⟩),.int .i64 n]
 tab:TabAt g tt bt T
 pile:PileAt g tp bp p
theorem ShdAt.keep {S:Nat→Prop} {g g':GW} {t b bt tt bp tp:Nat} {T:TabS} {p:PileS} {n:Int} (h:ShdAt g t b bt tt bp tp T p n) (m:Mod S g g') (h1: ¬S t) (h2: ¬S tt) (h3: ¬S tp):ShdAt g' t b bt tt bp tp T p n:=⟨h.blk.keep m h1,h.tab.keep m h2,h.pile.keep m h3⟩
theorem ShdAt.tick {g:GW} {t b bt tt bp tp:Nat} {T:TabS} {p:PileS} {n:Int} (h:ShdAt g t b bt tt bp tp T p n) (h1:t≠tt) (h2:t≠tp):ShdAt ⟨g.own,g.w.setCell ⟨b,2,none⟩ (zI z6 (n+1))⟩ t b bt tt bp tp T p (n+1):=by
 have m:Mod (fun x=>x=t) g ⟨g.own,g.w.setCell ⟨b,2,none⟩ (zI z6 (n+1))⟩:=Mod.st Mod.self h.blk.own;exact ⟨h.blk.set 2 (zI z6 (n+1)),h.tab.keep m (fun e=>h1 e.symm),h.pile.keep m (fun e=>h2 e.symm)⟩
theorem yeG (g:GW) (t b bt tt bp tp:Nat) (T:TabS) (p:PileS) (n i:Int) (s:Bool) (h:ShdAt g t b bt tt bp tp T p n) (hn:0≤n∧n≤1099511627776) (h1:t≠tt) (h2:t≠tp) (h3:tt≠tp):
 Calls prog 89 #[.pointer (some ⟨b,0,none⟩),.int .i64 i,.bool s] g.w (Does (.bool (T.white i s)) g (fun x=>x=t∨x=tt∨x=tp) (fun g'=>ShdAt g' t b bt tt bp tp (T.grey i s) (p.grey T i s) (n+1))):=by
 have c0:=h.blk.cell (i:=0) rfl;have c2:=h.blk.cell (i:=2) rfl;have f2:=h.blk.live 2;have hl:=h.blk.lt;have HO:=zH h.blk.own;have HN:=zH (And.intro h1 (And.intro h2 h3));have H1:=zH (h.tick h1 h2);have M1:=zH (show Mod (fun x=>x=t) g ⟨g.own,g.w.setCell ⟨b,2,none⟩ (zI z6 (n+1))⟩ from Mod.st Mod.self HO.out);have HW:=zH (yf9 ⟨g.own,g.w.setCell ⟨b,2,none⟩ (zI z6 (n+1))⟩ tt bt T i s H1.out.tab);obtain ⟨hn0,hn1⟩:=hn;clear h h1 h2 h3;cases hw:T.white i s
 · have HG:=zH (And.intro (show T.grey i s=T by unfold TabS.grey;rw [hw];rfl) (show p.grey T i s=p by unfold PileS.grey;rw [hw];rfl));rw [hw] at HW;clear hw;go_enter func89,ntmps89;go_wp2_with fail;refine HW.out.mono ?_;rintro e w1 ⟨rfl,hE⟩;have M2:=zH (Mod.ext (T:=fun _=>False) (g:=⟨g.own,g.w.setCell ⟨b,2,none⟩ (zI z6 (n+1))⟩) (show Ext (g.w.setCell ⟨b,2,none⟩ (zI z6 (n+1))) w1 from hE) 0);clear hE;go_wp2_with fail;go_ret;exact ⟨rfl,_,(M1.out.mono (fun x hx=>Or.inl hx)).trans (M2.out.mono (fun _=>False.elim)),by rw [HG.out.1,HG.out.2];exact H1.out.keep M2.out id id id⟩
 · have HG:=zH (And.intro (show T.grey i s=T.mark i s by unfold TabS.grey;rw [hw];rfl) (show p.grey T i s=p.push i by unfold PileS.grey;rw [hw];rfl));rw [hw] at HW;clear hw;go_enter func89,ntmps89;go_wp2_with fail;refine HW.out.mono ?_;rintro e w1 ⟨rfl,hE⟩;have M2:=zH (Mod.ext (T:=fun _=>False) (g:=⟨g.own,g.w.setCell ⟨b,2,none⟩ (zI z6 (n+1))⟩) (show Ext (g.w.setCell ⟨b,2,none⟩ (zI z6 (n+1))) w1 from hE) 0);have H2:=zH (H1.out.keep M2.out id id id);clear hE c0 c2 f2 hl;have c0:=H2.out.blk.cell (i:=0) rfl;have hl:=H2.out.blk.lt;simp only [GW.to] at c0 hl;go_wp2_with fail;refine (yhu (GW.to ⟨g.own,g.w.setCell ⟨b,2,none⟩ (zI z6 (n+1))⟩ 0 w1) tt bt i s T H2.out.tab).mono ?_;rintro e w2 ⟨rfl,own2,m2,r2⟩;have M3:=zH m2;have B3:=zH (H2.out.blk.keep m2 HN.out.1);have P3:=zH (H2.out.pile.keep m2 (fun e=>HN.out.2.2 e.symm));have T3:=zH r2;clear m2 r2 c0 hl;have c1:=B3.out.cell (i:=1) rfl;have hl:=B3.out.lt;simp only at c1 hl;go_wp2_with fail;refine (yfI ⟨own2,w2⟩ tp bp i p P3.out).mono ?_;rintro e w3 ⟨rfl,own3,m3,r3⟩;have M4:=zH m3;have R4:=zH (show ShdAt ⟨own3,w3⟩ t b bt tt bp tp (T.mark i s) (p.push i) (n+1) from ⟨B3.out.keep m3 HN.out.2.1,T3.out.keep m3 HN.out.2.2,r3⟩)
   clear m3 r3 c1 hl;go_wp2_with fail;go_ret;exact ⟨rfl,own3,(M1.out.mono (fun x hx=>Or.inl hx)).trans ((M2.out.mono (fun _=>False.elim)).trans ((M3.out.mono (fun x hx=>Or.inr (Or.inl hx))).trans (M4.out.mono (fun x hx=>Or.inr (Or.inr hx))))),by rw [HG.out.1,HG.out.2];exact R4.out⟩
section
variable {g g':GW} {B b bm bs bt bp bsp bh:Nat} {K:CoreS} {cm:Cnf}
theorem CoreIn.putMem (h:CoreIn g B b K bm bs bt bp bsp bh cm) {M:MemS} (m:Mod (fun x=>x=B+62) g g') (hm:MemAt g' (B+62) bm M):CoreIn g' B b { K with mem:=M } bm bs bt bp bsp bh cm:=
 ⟨h.blk.keep m zo,hm,h.sh.keep m zo,h.pile.keep m zo,h.sp.keep m (fun x hx=>by omega),h.hand.keep m zo,h.cnf.keep m zo,h.same⟩
theorem CoreIn.putHand (h:CoreIn g B b K bm bs bt bp bsp bh cm) {H:HandS} (m:Mod (fun x=>x=B+63) g g') (hm:HandAt g' (B+63) bh H):CoreIn g' B b { K with hand:=H } bm bs bt bp bsp bh cm:=
 ⟨h.blk.keep m zo,h.mem.keep m zo,h.sh.keep m zo,h.pile.keep m zo,h.sp.keep m (fun x hx=>by omega),hm,h.cnf.keep m zo,h.same⟩
theorem CoreIn.putSp (h:CoreIn g B b K bm bs bt bp bsp bh cm) {S:SpaceS} (m:Mod (inst B) g g') (hm:SpaceAt g' B bsp bt S):CoreIn g' B b { K with sp:=S } bm bs bt bp bsp bh cm:=
 ⟨h.blk.keep m (fun hx=>by have:=hx.2;omega),h.mem.keep m (fun hx=>by have:=hx.2;omega),h.sh.keep m (fun hx=>by have:=hx.2;omega),h.pile.keep m (fun hx=>by have:=hx.2;omega),hm,h.hand.keep m (fun hx=>by have:=hx.2;omega),h.cnf.keep m (fun hx=>by have:=hx.2;omega),h.same⟩
theorem SpaceAt.putTab {S:SpaceS} (h:SpaceAt g B b bt S) {T:TabS} (m:Mod (fun x=>x=B+60∨x=B+50∨x=B+61) g g') (ht:TabAt g' (B+50) bt T):SpaceAt g' B b bt { S with tab:=T }:=by
 obtain ⟨bp,bk,bl,A,cs,cm,bs,h⟩:=h;exact ⟨bp,bk,bl,A,cs,cm,bs,⟨h.blk.keep m zo,h.row.keep m zo,ht,h.pool.keep m zo,h.coil.keep m zo,h.line.keep m zo zo,h.cnf.keep m zo,h.same,h.blen,fun j x s hx hs=>(h.stock j x s hx hs).keep m (by have h1:j<S.stocks.length:=(List.getElem?_eq_some_iff.1 hs).1;have:=h.few;omega),h.check,h.few⟩⟩
theorem SpaceAt.tab {S:SpaceS} (h:SpaceAt g B b bt S):TabAt g (B+50) bt S.tab:=by
 obtain ⟨bp,bk,bl,A,cs,cm,bs,h⟩:=h;exact h.tab
theorem CoreIn.shd (h:CoreIn g B b K bm bs bt bp bsp bh cm):ShdAt g (B+60) bs bt (B+50) bp (B+61) K.sp.tab K.pile K.n:=⟨h.sh,h.sp.tab,h.pile⟩
theorem CoreIn.putShd (h:CoreIn g B b K bm bs bt bp bsp bh cm) {T:TabS} {p:PileS} {n:Int} (m:Mod (fun x=>x=B+60∨x=B+50∨x=B+61) g g') (hs:ShdAt g' (B+60) bs bt (B+50) bp (B+61) T p n):CoreIn g' B b { K with sp:={ K.sp with tab:=T },pile:=p,n:=n } bm bs bt bp bsp bh cm:=
 ⟨h.blk.keep m zo,h.mem.keep m zo,hs.blk,hs.pile,h.sp.putTab m hs.tab,h.hand.keep m zo,h.cnf.keep m zo,h.same⟩
end
end Go.Proofs.YtdhjjpnajjingaaGreat
namespace Go
open Go.RowKit
namespace HandS
def polled (h:HandS) (i:Int):Bool:=h.own i== -1 || h.own i==h.status
def knownB (s:Int):Bool:=decide (0≤s)&&decide (s≤4)
def post (h:HandS) (s:Int) (flip:Bool):HandS:=if knownB s then { h.tick with status:=s,sense:=h.sense !=flip } else h.tick
def mayAnswer (h:HandS) (i s:Int):Bool:= !(h.own i== -1)&&knownB s
def answer (h:HandS) (i s:Int):HandS:=if h.mayAnswer i s then { h.tick with l:=h.l.set i.toNat s } else h.tick
def mayJoin (h:HandS) (i:Int):Bool:=inB i h.l.length&&(h.l.getD i.toNat 0== -1)
def join (h:HandS) (i:Int):HandS:=if h.mayJoin i then { h.tick with l:=h.l.set i.toNat h.status } else h.tick
def joined (h:HandS) (i:Int):Value:=if h.mayJoin i then .tuple #[.int .i64 h.status,.bool h.sense,.bool true] else .tuple #[.int .i64 0,.bool false,.bool false]
def mayLeave (h:HandS) (i:Int):Bool:= !(h.own i== -1)
def leave (h:HandS) (i:Int):HandS:=if h.mayLeave i then { h.tick with l:=h.l.set i.toNat (-1) } else h.tick
theorem own_in {h:HandS} {i:Int} (hi:(h.own i== -1)=false): ∃k:Nat,i=k∧k<h.l.length:=by
 unfold own at hi;cases hb:inB i h.l.length
 · rw [hb] at hi;simp at hi
 · exact yai hb
end HandS
end Go
namespace Go.Proofs.YtdhjjpnajjingaaGreat
open Go Go.RowKit
theorem yfp (s:Int) (w:World):Calls prog 160 #[.int .i64 s] w (Gives (.bool (HandS.knownB s)) w):=by
 by_cases h0:0≤s
 · have d0:decide (0≤s)=true:=decide_eq_true h0;have HV:=zH (show HandS.knownB s=decide (s≤4) by unfold HandS.knownB;rw [d0,Bool.true_and]);go_enter func160,ntmps160;go_wp2_with fail;go_ret;exact Gives.bool (by rw [HV.out]) zE
 · have d0:decide (0≤s)=false:=decide_eq_false h0;have HV:=zH (show HandS.knownB s=false by unfold HandS.knownB;rw [d0,Bool.false_and]);go_enter func160,ntmps160;go_wp2_with fail;go_ret;exact Gives.bool (by rw [HV.out]) zE
theorem HandAt.tick {g:GW} {t b:Nat} {h:HandS} (H:HandAt g t b h):HandAt ⟨g.own,g.w.setCell ⟨b,3,none⟩ (zI z6 (h.count+1))⟩ t b h.tick:=by
 obtain ⟨A,c,hb,hr⟩:=H.ex;exact ⟨⟨A,c,hb.set 3 _,hr.setOther 3 _ (fun x hx=>hr.ne_type hb zd hx)⟩,H.len⟩
theorem HandAt.put {g:GW} {t b r c k:Nat} {h:HandS} (s:Int) (H:HandAt g t b h) (hk:k<h.l.length) (hb:Blk g t b 137 [.int .i64 h.status,.bool h.sense,.slice (some ⟨r,0,none⟩) h.l.length c,.int .i64 h.count]):
 HandAt ⟨g.own,g.w.setCell ⟨r,k,none⟩ (zI z6 s)⟩ t b { h with l:=h.l.set k s }∧g.own r=t:=by
 obtain ⟨A,c',hb',hr⟩:=H.ex;have he:=hb.same hb';simp only [List.cons.injEq,Value.slice.injEq,and_true,true_and] at he;obtain ⟨rfl,rfl⟩:=he;obtain ⟨r',hA,hrl,ho,hcell,hfr⟩:=hr.block zo;injection hA with hA;injection hA with hA;subst hA;refine ⟨⟨⟨some ⟨r,0,none⟩,c,?_,?_⟩,by show (h.l.set k s).length≤16;rw [List.length_set];exact H.len⟩,ho⟩
 · have hne:r≠b:=fun e=>(hr.ne_type hb zd (x:=r) rfl) e.symm;show Blk _ t b _ [.int .i64 h.status,.bool h.sense,.slice (some ⟨r,0,none⟩) (h.l.set k s).length c,.int .i64 h.count];rw [List.length_set];exact hb.setOther k _ hne
 · show Row _ t 3 1 (.slice (some ⟨r,0,none⟩) (h.l.set k s).length c) (h.l.set k s).length ((h.l.set k s).map (Value.int .i64));rw [List.length_set,List.map_set];exact hr.store k (zI z6 s)
theorem ydk (g:GW) (t b:Nat) (i s:Int) (h:HandS) (H:HandAt g t b h) (hc:0≤h.count∧h.count≤1099511627776):
 Calls prog 128 #[.pointer (some ⟨b,0,none⟩),.int .i64 i,.int .i64 s] g.w (Does (.bool (h.mayAnswer i s)) g (fun x=>x=t) (fun g'=>HandAt g' t b (h.answer i s))):=by
 have HST:=zH (ybF _ t b i h.tick H.tick);have HT:=zH H.tick;obtain ⟨A,c,hb,hr⟩:=H.ex;obtain ⟨hc0,hc1⟩:=hc;have HK:=zH (fun w'=>yfp s w');have M0:=zH (show Mod (fun x=>x=t) g ⟨g.own,g.w.setCell ⟨b,3,none⟩ (zI z6 (h.count+1))⟩ from Mod.set hb.own);rw [show h.tick.own i=h.own i from rfl] at HST;obtain ⟨a0,a1,a2,a3,al⟩:=hb.k4;have af3:=hb.liv 3;have HB:=zH hb;have HR:=zH hr;clear hb hr;cases hx:(h.own i== -1)
 case true=>
  have HV:=zH (show h.mayAnswer i s=false by unfold HandS.mayAnswer;rw [hx];rfl);have HW:=zH (show h.answer i s=h.tick by unfold HandS.answer;rw [HV.out];rfl);go_enter func128,ntmps128;go_wp2_with fail;refine HST.out.mono ?_;rintro e w1 ⟨rfl,rfl⟩;go_wp2_with fail;go_ret;exact Does.of ⟨g.own,_⟩ rfl (by rw [HV.out];try rfl) M0.out (by rw [HW.out];exact HT.out)
 obtain ⟨k,rfl,hk⟩:=HandS.own_in hx;cases hkn:HandS.knownB s
 · rw [hkn] at HK;have HV:=zH (show h.mayAnswer k s=false by unfold HandS.mayAnswer;rw [hx,hkn];rfl);have HW:=zH (show h.answer k s=h.tick by unfold HandS.answer;rw [HV.out];rfl);clear hkn;go_enter func128,ntmps128;go_wp2_with fail;refine HST.out.mono ?_;rintro e w1 ⟨rfl,rfl⟩;go_wp2_with fail;refine (HK.out _).mono ?_;rintro e w1 ⟨rfl,hE⟩;obtain ⟨own1,m1⟩: ∃own1,Mod (fun _=>False) ⟨g.own,g.w.setCell ⟨b,3,none⟩ (zI z6 (h.count+1))⟩ ⟨own1,w1⟩:=⟨_,Mod.ext (g:=⟨g.own,g.w.setCell ⟨b,3,none⟩ (zI z6 (h.count+1))⟩) (show Ext _ w1 from hE) 0⟩;have M1:=zH (M0.out.trans (m1.mono (S:=fun x=>x=t) (fun _=>False.elim)));have H1:=zH (HT.out.keep m1 id);clear m1 hE;go_wp2_with fail;go_ret;exact Does.of ⟨own1,w1⟩ rfl (by rw [HV.out];try rfl) M1.out (by rw [HW.out];exact H1.out)
 · rw [hkn] at HK;have HV:=zH (show h.mayAnswer k s=true by unfold HandS.mayAnswer;rw [hx,hkn];rfl);have HW:=zH (show h.answer k s={ h.tick with l:=h.tick.l.set k s } by unfold HandS.answer;rw [HV.out,if_pos rfl,Int.toNat_natCast];rfl);clear hkn;go_enter func128,ntmps128;go_wp2_with fail;refine HST.out.mono ?_;rintro e w1 ⟨rfl,rfl⟩;go_wp2_with fail;refine (HK.out _).mono ?_;rintro e w1 ⟨rfl,hE⟩;obtain ⟨own1,m1⟩: ∃own1,Mod (fun _=>False) ⟨g.own,g.w.setCell ⟨b,3,none⟩ (zI z6 (h.count+1))⟩ ⟨own1,w1⟩:=⟨_,Mod.ext (g:=⟨g.own,g.w.setCell ⟨b,3,none⟩ (zI z6 (h.count+1))⟩) (show Ext _ w1 from hE) 0⟩;have M1:=zH (M0.out.trans (m1.mono (S:=fun x=>x=t) (fun _=>False.elim)));have H1:=zH (HT.out.keep m1 id);have B1:=zH ((HB.out.set 3 (zI z6 (h.count+1))).keep m1 id);have R1:=zH ((HR.out.setOther 3 (zI z6 (h.count+1)) (fun x hx=>HR.out.ne_type HB.out zd hx)).keep m1 id);have hlen:=H.len;clear m1 hE a0 a1 a2 a3 af3 al;obtain ⟨a0,a1,a2,a3,al⟩:=B1.out.k4;obtain ⟨r,rfl,hrl,ho,hcell,hfr⟩:=R1.out.block zo;have k0:=hcell k (zI z6 (h.l.getD k 0)) (by simp [List.getD_eq_getElem?_getD,hk]);have kf:=hfr k;have HP:=zH (HandAt.put s H1.out (show k<h.tick.l.length from hk) B1.out);(try simp only at k0 kf hrl)
   clear hcell hfr H;generalize h.l.getD k 0=x at *;go_wp2_with fail;go_ret;exact Does.of ⟨own1,w1.setCell ⟨r,k,none⟩ (zI z6 s)⟩ rfl (by rw [HV.out];try rfl) (Mod.st M1.out HP.out.2) (by rw [HW.out];exact HP.out.1)
theorem yec (g:GW) (t b:Nat) (i:Int) (h:HandS) (H:HandAt g t b h) (hc:0≤h.count∧h.count≤1099511627776):
 Calls prog 132 #[.pointer (some ⟨b,0,none⟩),.int .i64 i] g.w (Does (.bool (h.mayLeave i)) g (fun x=>x=t) (fun g'=>HandAt g' t b (h.leave i))):=by
 have HST:=zH (ybF _ t b i h.tick H.tick);have HT:=zH H.tick;obtain ⟨A,c,hb,hr⟩:=H.ex;obtain ⟨hc0,hc1⟩:=hc;have M0:=zH (show Mod (fun x=>x=t) g ⟨g.own,g.w.setCell ⟨b,3,none⟩ (zI z6 (h.count+1))⟩ from Mod.set hb.own);rw [show h.tick.own i=h.own i from rfl] at HST;obtain ⟨a0,a1,a2,a3,al⟩:=hb.k4;have af3:=hb.liv 3;have HB:=zH hb;have HR:=zH hr;clear hb hr;cases hx:(h.own i== -1)
 case true=>
  have HV:=zH (show h.mayLeave i=false by unfold HandS.mayLeave;rw [hx];rfl);have HW:=zH (show h.leave i=h.tick by unfold HandS.leave;rw [HV.out];rfl);go_enter func132,ntmps132;go_wp2_with fail;refine HST.out.mono ?_;rintro e w1 ⟨rfl,rfl⟩;go_wp2_with fail;go_ret;exact Does.of ⟨g.own,_⟩ rfl (by rw [HV.out];try rfl) M0.out (by rw [HW.out];exact HT.out)
 obtain ⟨k,rfl,hk⟩:=HandS.own_in hx;have HV:=zH (show h.mayLeave k=true by unfold HandS.mayLeave;rw [hx];rfl);have HW:=zH (show h.leave k={ h.tick with l:=h.tick.l.set k (-1) } by unfold HandS.leave;rw [HV.out,if_pos rfl,Int.toNat_natCast];rfl);have B1:=zH (HB.out.set 3 (zI z6 (h.count+1)));have R1:=zH (HR.out.setOther 3 (zI z6 (h.count+1)) (fun x hx=>HR.out.ne_type HB.out zd hx));have hlen:=H.len;obtain ⟨r,rfl,hrl,ho,hcell,hfr⟩:=HR.out.block zo;have hrb:b≠r:=HR.out.ne_type HB.out zd rfl;have hrb2:r≠b:=fun e=>hrb e.symm;have k0:=hcell k (zI z6 (h.l.getD k 0)) (by simp [List.getD_eq_getElem?_getD,hk]);have kf:=hfr k;have HP:=zH (HandAt.put (-1) HT.out (show k<h.tick.l.length from hk) B1.out);(try simp only at k0 kf hrl);clear hcell hfr H;generalize h.l.getD k 0=x at *;go_enter func132,ntmps132;go_wp2_with fail;refine HST.out.mono ?_;rintro e w1 ⟨rfl,rfl⟩;go_wp2_with fail;go_ret;exact Does.of ⟨g.own,(g.w.setCell ⟨b,3,none⟩ (zI z6 (h.count+1))).setCell ⟨r,k,none⟩ (zI z6 (-1))⟩ rfl (by rw [HV.out];try rfl) (Mod.st M0.out HP.out.2) (by rw [HW.out];exact HP.out.1)
theorem yfc (g:GW) (t b:Nat) (i:Int) (h:HandS) (H:HandAt g t b h) (hc:0≤h.count∧h.count≤1099511627776):
 Calls prog 39 #[.pointer (some ⟨b,0,none⟩),.int .i64 i] g.w (Does (h.joined i) g (fun x=>x=t) (fun g'=>HandAt g' t b (h.join i))):=by
 have HT:=zH H.tick;obtain ⟨A,c,hb,hr⟩:=H.ex;obtain ⟨hc0,hc1⟩:=hc;have M0:=zH (show Mod (fun x=>x=t) g ⟨g.own,g.w.setCell ⟨b,3,none⟩ (zI z6 (h.count+1))⟩ from Mod.set hb.own);have HB:=zH hb;have HR:=zH hr;have hlen:=H.len;obtain ⟨a0,a1,a2,a3,al⟩:=hb.k4;have af3:=hb.liv 3;clear hb hr;cases hin:inB i h.l.length
 · have hm:h.mayJoin i=false:=by unfold HandS.mayJoin;rw [hin];rfl
   have HV:=zH (show h.joined i=.tuple #[.int .i64 0,.bool false,.bool false] by unfold HandS.joined;rw [hm];rfl);have HW:=zH (show h.join i=h.tick by unfold HandS.join;rw [hm];rfl);have hq:=yaU hin;clear hm hin H;by_cases h0:i<0
   · have d0:decide (i<0)=true:=decide_eq_true h0;clear hq;go_enter func39,ntmps39;go_wp2_with fail;go_ret3
     exact Does.of ⟨g.own,_⟩ rfl (by rw [HV.out];try rfl) M0.out (by rw [HW.out];exact HT.out)
   · have d0:decide (i<0)=false:=decide_eq_false h0;have d1:decide ((h.l.length:Int)≤i)=true:=decide_eq_true zo;clear hq;go_enter func39,ntmps39;go_wp2_with fail;go_ret3
     exact Does.of ⟨g.own,_⟩ rfl (by rw [HV.out];try rfl) M0.out (by rw [HW.out];exact HT.out)
 obtain ⟨k,rfl,hk⟩:=yai hin;have d0:decide ((k:Int)<0)=false:=decide_eq_false zo;have d1:decide ((h.l.length:Int)≤k)=false:=decide_eq_false zo;obtain ⟨r,rfl,hrl,ho,hcell,hfr⟩:=HR.out.block zo;have hrb:b≠r:=HR.out.ne_type HB.out zd rfl;have hrb2:r≠b:=fun e=>hrb e.symm;have k0:=hcell k (zI z6 (h.l.getD k 0)) (by simp [List.getD_eq_getElem?_getD,hk]);have kf:=hfr k;have B1:=zH (HB.out.set 3 (zI z6 (h.count+1)));have HP:=zH (HandAt.put h.status HT.out (show k<h.tick.l.length from hk) B1.out);have HJ:=zH (show h.mayJoin k=(h.l.getD k 0== -1) by unfold HandS.mayJoin;rw [hin,Int.toNat_natCast];rfl);(try simp only at k0 kf hrl);clear hcell hfr H hin;generalize h.l.getD k 0=x at *;cases hx:(x== -1)
 · have hxx:(x != -1)=true:=by unfold bne;rw [hx];rfl
   have HV:=zH (show h.joined k=.tuple #[.int .i64 0,.bool false,.bool false] by unfold HandS.joined;rw [HJ.out,hx];rfl);have HW:=zH (show h.join k=h.tick by unfold HandS.join;rw [HJ.out,hx];rfl);clear hx;go_enter func39,ntmps39;go_wp2_with fail;go_ret3
   exact Does.of ⟨g.own,_⟩ rfl (by rw [HV.out];try rfl) M0.out (by rw [HW.out];exact HT.out)
 · have hxx:(x != -1)=false:=by unfold bne;rw [hx];rfl
   have HV:=zH (show h.joined k=.tuple #[.int .i64 h.status,.bool h.sense,.bool true] by unfold HandS.joined;rw [HJ.out,hx];rfl);have HW:=zH (show h.join k={ h.tick with l:=h.tick.l.set k h.status } by unfold HandS.join;rw [HJ.out,hx,if_pos rfl,Int.toNat_natCast];rfl);clear hx;have R1:=zH (HR.out.setOther 3 (zI z6 (h.count+1)) (fun x hx=>HR.out.ne_type HB.out zd hx));go_enter func39,ntmps39;go_upto_region 4 with fail
   generalize g.w.setCell ⟨b,3,none⟩ (zI z6 (h.count+1))=w0 at *;clear a0 a1 a2 a3 af3 al k0 kf;obtain ⟨a0,a1,a2,a3,al⟩:=B1.out.k4;obtain ⟨r',hA,hrl',ho',hcell,hfr⟩:=R1.out.block zo;injection hA with hA;injection hA with hA;subst hA;obtain ⟨vk,hvk⟩: ∃v,(h.l.map (Value.int .i64))[k]?=some v:=⟨_,List.getElem?_eq_getElem (by simp;omega)⟩;have k0:=hcell k vk hvk;have kf:=hfr k;simp only at k0 kf hrl';clear hcell hfr hvk;refine yab [zT,zT,zT,zT,zT,zT,zT,zT,zT,zT,zU] 1 10 ?_;intro X00;simp only [pickOps];repeat (go_big_quiet_step (fail))
   refine wpQuiet_nil (fun X0=>?_);clear X00;refine yaj 10 _ zQ zQ rfl rfl (fun X1 K Q' hK=>?_);go_simp;refine hK _ _ (fun X2=>?_);clear hK K Q';(try go_simp);obtain ⟨own2,m2⟩: ∃own2,Mod (fun _=>False) ⟨g.own,w0.setCell ⟨r,k,none⟩ (zI z6 h.status)⟩ ⟨own2,(w0.setCell ⟨r,k,none⟩ (zI z6 h.status)).patch ⟨X0.blocks++(X1.blocks++X2.blocks),X2.drawn⟩⟩:=⟨_,Mod.pt (Mod.refl _ _) _⟩;generalize (w0.setCell ⟨r,k,none⟩ (zI z6 h.status)).patch ⟨X0.blocks++(X1.blocks++X2.blocks),X2.drawn⟩=w2 at *;have H2:=zH (HP.out.1.keep m2 id);have M2:=zH ((Mod.st (i:=k) (v:=.int .i64 h.status) M0.out HP.out.2).trans (m2.mono (S:=fun x=>x=t) (fun _=>False.elim)));clear a0 a1 a2 a3 al k0 kf m2;obtain ⟨A2,c2,hb2,hr2⟩:=H2.out.ex;obtain ⟨a0,a1,a2,a3,al⟩:=hb2.k4;clear hb2 hr2;(try simp only at a0 a1 a2 a3);go_wp2_with fail;refine yab [zT,zT,zT,zT,zT,zT,zT,zT,zT,zT,zT] 0 11 ?_;intro X00;simp only [pickOps];repeat (go_big_quiet_step (fail))
   refine wpQuiet_nil (fun X0=>?_);clear X00;refine yaa zQ (fun X0'=>?_) _;(try go_simp);go_wp2_with fail;go_ret3
   exact Does.ext ⟨own2,w2⟩ zE (by rw [HV.out];try rfl) M2.out (fun g2 m=>by rw [HW.out];exact H2.out.keep m id)
end Go.Proofs.YtdhjjpnajjingaaGreat
namespace Go
open Go.RowKit
namespace PileS
def pop (p:PileS):PileS:={ p with l:=p.l.take (p.l.length-1) }
def top (p:PileS):Int:=p.l.getD (p.l.length-1) 0
def some_ (p:PileS):Bool:=decide (0<p.l.length)
def found (p:PileS):PileS:={ p with lost:=false }
end PileS
end Go
namespace Go.Proofs.YtdhjjpnajjingaaGreat
open Go Go.RowKit
end Go.Proofs.YtdhjjpnajjingaaGreat
namespace Go
theorem ygz {α:Type} {f:α→List Value} {n:Nat} (hf: ∀a,(f a).length=n) (l:List α) (k j:Nat) (x y:α) (v:Value) (hk:l[k]?=some x) (hj:j<n) (hy:f y=(f x).set j v):(l.set k y).flatMap f=(l.flatMap f).set (k*n+j) v:=by
 induction l generalizing k with
 |nil=>simp at hk
 |cons z l ih=>
  cases k with
  |zero=>
   simp at hk;subst hk;simp only [List.set_cons_zero,List.flatMap_cons,Nat.zero_mul,Nat.zero_add];rw [List.set_append_left _ _ (by rw [hf];exact hj),hy]
  |succ k=>
   simp only [List.set_cons_succ,List.flatMap_cons];rw [List.set_append_right _ _ (by rw [hf,Nat.succ_mul];omega),hf,ih k (by simpa using hk)];congr 2
   rw [Nat.succ_mul];omega
end Go
namespace Go.Proofs.YtdhjjpnajjingaaGreat
open Go Go.RowKit
end Go.Proofs.YtdhjjpnajjingaaGreat
namespace Go
def failL (L:List Ent):List Ent:=if placeOf waitB L<0 then L else L.modify (placeOf waitB L).toNat fun e=>{ e with state:=2 }
def grantL (L:List Ent) (got:List Int) (a:Int):List Ent:=if placeOf waitB L<0 then L else L.modify (placeOf waitB L).toNat fun e=>{ e with state:=1,got:=got,at_:=a }
def noteE (e:Ent):Ent:={ e with noted:=waitB e }
def endE (e:Ent):Ent:={ e with cycles:=if e.noted&&waitB e then e.cycles+1 else e.cycles,noted:=false }
def EntM.ended (m:EntM):EntM:=⟨endE m.e,m.A,m.cap⟩
def EntM.cyc (m:EntM) (v:Int):EntM:=⟨{ m.e with cycles:=v },m.A,m.cap⟩
end Go
namespace Go.Proofs.YtdhjjpnajjingaaGreat
open Go Go.RowKit
structure LineIn (g:GW) (t b:Nat) (A:Option Addr) (c:Nat) (ms:List EntM):Prop where
 blk:Blk g t b 222 [.slice A ms.length c]
 row:Row g t 224 8 (.slice A ms.length c) ms.length (ms.flatMap EntM.cells)
 at_: ∀m∈ms,m.At g (t+1)
theorem LineIn.out {g:GW} {t b c:Nat} {A:Option Addr} {ms:List EntM} {L:List Ent} (h:LineIn g t b A c ms) (e:ms.map EntM.e=L) (hl:L.length≤1000000):LineAt g t b L:=by
 have e':L.length=ms.length:=by rw [←e,List.length_map]
 refine ⟨⟨A,c,ms,?_,?_,e,h.at_⟩,hl⟩
 · rw [e'];exact h.blk
 · rw [e'];exact h.row
theorem LineIn.keep {S:Nat→Prop} {g g':GW} {t b c:Nat} {A:Option Addr} {ms:List EntM} (h:LineIn g t b A c ms) (d:Mod S g g') (hs: ¬S t) (hs1: ¬S (t+1)):LineIn g' t b A c ms:=
 ⟨h.blk.keep d hs,h.row.keep d hs,fun m hm=>(h.at_ m hm).keep d hs1⟩
theorem LineIn.put {g:GW} {t b r c:Nat} {ms:List EntM} (h:LineIn g t b (some ⟨r,0,none⟩) c ms) {k j:Nat} {x y:EntM} {v:Value} (hk:ms[k]?=some x) (hj:j<8) (hy:y.cells=x.cells.set j v) (ho:g.own r=t) (hn:b≠r) (hat:y.At g (t+1)):
 LineIn ⟨g.own,g.w.setCell ⟨r,k*8+j,none⟩ v⟩ t b (some ⟨r,0,none⟩) c (ms.set k y):=by
 have m1:Mod (fun x=>x=t) g ⟨g.own,g.w.setCell ⟨r,k*8+j,none⟩ v⟩:=Mod.set ho;refine ⟨?_,?_,fun m hm=>?_⟩
 · simp only [List.length_set];exact h.blk.setOther _ _ (fun e=>hn e.symm)
 · simp only [List.length_set];rw [ygz EntM.cells_len ms k j x y v hk hj hy];exact h.row.store _ _
 · rcases List.mem_or_eq_of_mem_set hm with hm|rfl
   · exact (h.at_ m hm).keep m1 zo
   · exact hat.keep m1 zo
end Go.Proofs.YtdhjjpnajjingaaGreat
namespace Go
open Go.RowKit
variable {P:Program}
end Go
namespace Go.Proofs.YtdhjjpnajjingaaGreat
open Go Go.RowKit
def dropL (th:Int) (L:List Ent):List Ent:=if placeOf (ofB th) L<0 then L else L.eraseIdx (placeOf (ofB th) L).toNat
end Go.Proofs.YtdhjjpnajjingaaGreat
namespace Go
open Go.RowKit
def ent0:Ent:=⟨0,0,0,0,0,0,[],false⟩
end Go
namespace Go.Proofs.YtdhjjpnajjingaaGreat
open Go Go.RowKit
def beginS (S:SpaceS):SpaceS:={ S.tick with forced:=false,line:=S.line.map noteE }
def endS (S:SpaceS):SpaceS:={ S.tick with line:=S.line.map endE }
def look (S:SpaceS) (t:Int):AskR:=
 if placeOf (ofB t) S.line<0 then ((3,[], -1),S.tick)
 else if (S.line.getD (placeOf (ofB t) S.line).toNat ent0).state=0 then ((0,[], -1),S.tick)
 else if (S.line.getD (placeOf (ofB t) S.line).toNat ent0).state=2 then ((2,[], -1),{ S.tick with line:=dropL t S.line })
 else ((1,(S.line.getD (placeOf (ofB t) S.line).toNat ent0).got,(S.line.getD (placeOf (ofB t) S.line).toNat ent0).at_),{ S.tick with line:=dropL t S.line })
end Go.Proofs.YtdhjjpnajjingaaGreat
namespace Go
end Go
namespace Go.Proofs.YtdhjjpnajjingaaGreat
open Go Go.RowKit
def serveE (S:SpaceS):Ent:=S.line.getD (placeOf waitB S.line).toNat ent0
def serveYes (S:SpaceS) (got:List Int) (sp:Int) (sense:Bool):SpaceS:={ takesS S got sp with tab:=S.tab.setAll got 2 sense,line:=grantL S.line got (takesAt S got sp) }
def serve (S:SpaceS) (sense:Bool):Bool × SpaceS:=
 if placeOf waitB S.line<0 then (false,S.tick)
 else if S.fits (serveE S).frags (serveE S).spine then (true,serveYes S.tick (askGot S (serveE S).frags) (serveE S).spine sense)
 else if 2≤(serveE S).cycles then (true,{ S.tick with line:=failL S.line })
 else (false,S.tick)
def c4 (A:Option Addr):Cnf:=⟨4,0,0,1,1,0,1,0,A,1,[⟨false,none,0,[]⟩]⟩
def s4 (A:Option Addr):SpaceS:=SpaceS.fresh (c4 A) (TabS.fresh 4)
end Go.Proofs.YtdhjjpnajjingaaGreat
namespace Go
end Go
namespace Go.Proofs.YtdhjjpnajjingaaGreat
open Go Go.RowKit
end Go.Proofs.YtdhjjpnajjingaaGreat
namespace Go
theorem Mod.none {T:Nat→Prop} {g g':GW} (h:Mod T g g') (hn: ∀k,k<g.w.heap.size→ ¬T (g.own k)):Mod (fun _=>False) g g':=⟨h.os,h.tape,h.output,h.size,h.own,fun k hk _=>h.block k hk (hn k hk)⟩
end Go
namespace Go.Proofs.YtdhjjpnajjingaaGreat
open Go Go.RowKit
def sweeps (S:SpaceS) (i:Int) (sense:Bool):Bool:=S.tab.state i==2&& !S.tab.black i sense
def sweepS (S:SpaceS) (i:Int) (sense:Bool):SpaceS:=if sweeps S i sense then { S.tick with tab:=S.tab.set i 0 false false,pool:=S.pool.give i } else S.tick
def turnS (S:SpaceS):SpaceS:={ S.tick with coil:=S.coil.turn }
def doneS (S:SpaceS):SpaceS:={ S.tick with coil:=S.coil.done }
def wantsS (S:SpaceS):Bool:=decide (0<Ent.wait S.line) || (decide ((S.pool.free:Int)<S.c.low) || S.forced)
theorem ybL (g:GW) (B b bt:Nat) (S:SpaceS) (h:SpaceAt g B b bt S) (hB:100≤B) (hc:0≤S.count∧S.count≤1099511627776):
 Calls prog 44 #[.pointer (some ⟨b,0,none⟩)] g.w (Does (.bool (wantsS S)) g (inst B) (fun g'=>SpaceAt g' B b bt S.tick)):=by
 obtain ⟨bp,bk,bl,A,cs,cm,bs,h⟩:=h;obtain ⟨hc0,hc1⟩:=hc;have M0:=zH (show Mod (inst B) g ⟨g.own,g.w.setCell ⟨b,3,none⟩ (zI z6 (S.count+1))⟩ from Mod.set (by rw [h.blk.own];exact ⟨zo,zo⟩));have H0:=zH (show SpaceIn ⟨g.own,g.w.setCell ⟨b,3,none⟩ (zI z6 (S.count+1))⟩ B b bt S.tick bp bk bl A cs cm bs from h.tick);have HV:=zH (show wantsS S=(decide (0<Ent.wait S.line) || (decide ((S.pool.free:Int)<cm.low) || S.forced)) from by unfold wantsS;rw [h.same.low]);have HW:=zH (fun X=>ya6 ((⟨g.own,g.w.setCell ⟨b,3,none⟩ (zI z6 (S.count+1))⟩:GW).pt X) (B+3) cm bp bk bl _ (H0.out.line.keep (Mod.pt (Mod.refl (fun _=>False) _) X) id id));have HR:=zH (fun X=>yhW ((⟨g.own,g.w.setCell ⟨b,3,none⟩ (zI z6 (S.count+1))⟩:GW).pt X) (B+1) cm bp bk bl S.pool (H0.out.pool.keep (Mod.pt (Mod.refl (fun _=>False) _) X) id));rw [show S.tick.line=S.line from rfl] at HW;have c3:=h.blk.cell (i:=3) rfl;have f3:=h.blk.live 3;have hbl:=h.blk.lt;have HB0:=H0.out.blk;rw [show S.tick.forced=S.forced from rfl] at HB0;obtain ⟨a0,a1,a2,a3,a4,a5,a6,a7,a8,a9,a10,a11,a12,a13,a14,a15,al⟩:=HB0.k16;unfold shelves at HW HR;clear h HB0;generalize S.pool.free=fr at *;generalize Ent.wait S.line=wt at *
 generalize S.forced=fo at *;by_cases hw:0<wt
 · have d1:decide (0<wt)=true:=decide_eq_true hw;have HV2:=zH (show wantsS S=true from by rw [HV.out,decide_eq_true hw,Bool.true_or]);clear hw;go_enter func44,ntmps44;go_wp2_with fail;refine yab [zT,zT,zT,zT,zT,zT,zT,zT,zT,zT,zT,zT,zT,zT,zT,zT,zT,zT,zT,zT,zT,zT,zT,zT,zT,zT,zT] 0 27 ?_;intro X00;simp only [pickOps];repeat (go_big_quiet_step (first|(go_at_call 58;exact Calls.added (HW.out _))|(go_at_call 16;exact Calls.added (HR.out _))))
   refine wpQuiet_nil (fun X0=>?_);clear X00;refine yaa zQ (fun X0'=>?_) _;go_wp2_with fail;go_ret;exact Does.ext ⟨g.own,_⟩ zE (by rw [HV2.out];try rfl) M0.out (fun g2 m=>⟨_,_,_,_,_,_,_,H0.out.keep m (fun x hx=>hx.elim)⟩)
 · have d1:decide (0<wt)=false:=decide_eq_false hw;by_cases hl:(fr:Int)<cm.low
   · have d2:decide ((fr:Int)<cm.low)=true:=decide_eq_true hl;have HV2:=zH (show wantsS S=true from by rw [HV.out,decide_eq_true hl];simp);clear hw hl;go_enter func44,ntmps44;go_wp2_with fail;refine yab [zT,zT,zT,zT,zT,zT,zT,zT,zT,zT,zT,zT,zT,zT,zT,zT,zT,zT,zT,zT,zT,zT,zT,zT,zT,zT,zT] 0 27 ?_;intro X00;simp only [pickOps];repeat (go_big_quiet_step (first|(go_at_call 58;exact Calls.added (HW.out _))|(go_at_call 16;exact Calls.added (HR.out _))))
     refine wpQuiet_nil (fun X0=>?_);clear X00;refine yaa zQ (fun X0'=>?_) _;go_wp2_with fail;go_ret;exact Does.ext ⟨g.own,_⟩ zE (by rw [HV2.out];try rfl) M0.out (fun g2 m=>⟨_,_,_,_,_,_,_,H0.out.keep m (fun x hx=>hx.elim)⟩)
   · have d2:decide ((fr:Int)<cm.low)=false:=decide_eq_false hl;have HV2:=zH (show wantsS S=fo from by rw [HV.out,decide_eq_false hl,decide_eq_false hw];simp);clear hw hl;go_enter func44,ntmps44;go_wp2_with fail;refine yab [zT,zT,zT,zT,zT,zT,zT,zT,zT,zT,zT,zT,zT,zT,zT,zT,zT,zT,zT,zT,zT,zT,zT,zT,zT,zT,zT] 0 27 ?_;intro X00;simp only [pickOps];repeat (go_big_quiet_step (first|(go_at_call 58;exact Calls.added (HW.out _))|(go_at_call 16;exact Calls.added (HR.out _))))
     refine wpQuiet_nil (fun X0=>?_);clear X00;refine yaa zQ (fun X0'=>?_) _;go_wp2_with fail;go_ret;exact Does.ext ⟨g.own,_⟩ zE (by rw [HV2.out];try rfl) M0.out (fun g2 m=>⟨_,_,_,_,_,_,_,H0.out.keep m (fun x hx=>hx.elim)⟩)
end Go.Proofs.YtdhjjpnajjingaaGreat
namespace Go
section
variable {P:Program} {ops:Array Oper} {Q:Exit→Act→World→Prop} {md:Region.Mode} {w0:World}
def moveOf (ops:Array Oper) (i:Nat):Option (Option Tmp × Operand):=match ops[i]? with
 |some o=>match o.op,o.guard with
  |.move x,none=>some (o.dst,x)
  |_,_=>none
 |none=>none
def movesOk (md:Region.Mode) (ops:Array Oper):List Nat→Array Bool→Bool
 |[],_=>true
 |i::E,l=>(moveOf ops i).isSome&&(Region.ready md ops l).contains i&&Region.free md ops l i&&movesOk md ops E (l.setIfInBounds i true)
def movesAct (ops:Array Oper):List Nat→Act→Act
 |[],a=>a
 |i::E,a=>match moveOf ops i with
  |some (d,x)=>movesAct ops E (a.put d (a.eval x))
  |none=>movesAct ops E a
def movesList:List Nat→Array Bool→Array Bool
 |[],l=>l
 |i::E,l=>movesList E (l.setIfInBounds i true)
theorem ydq {i:Nat} {d:Option Tmp} {x:Operand} (h:moveOf ops i=some (d,x)): ∃o,ops[i]?=some o∧o.op=.move x∧o.guard=none∧o.dst=d:=by
 unfold moveOf at h;split at h
 · rename_i o ho
   split at h
   · rename_i y h1 h2
     simp only [Option.some.injEq,Prod.mk.injEq] at h;obtain ⟨rfl,rfl⟩:=h;exact ⟨o,ho,h1,h2,rfl⟩
   · cases h
 · cases h
theorem ydG {o:Oper} {x:Operand} {a:Act} (h1:o.op=.move x) (h2:o.guard=none):Yields P ops o (a.eval x) a:=by
 unfold Yields;refine Or.inl ⟨by simp [Region.wanted,h2],fun w=>?_⟩;unfold execOp;rw [h1];rfl
theorem ybN (hs:Region.noSelect ops=true) (hQ: ∀(c:List PanicEntry) (a:Act) (d:Option Tmp) (v:Value) (w:World),Q (.panic c) (a.put d v) w→Q (.panic c) a w): ∀(E:List Nat) (fuel:Nat) (listed:Array Bool) (a:Act) (w:World),movesOk md ops E listed=true→
 wpAny P md ops Q fuel (movesList E listed) (movesAct ops E a) w→wpAny P md ops Q (fuel+E.length) listed a w
 |[],_,_,_,_,_,h=>h
 |i::E,fuel,listed,a,w,hm,h=>by
  simp only [movesOk,Bool.and_eq_true] at hm;obtain ⟨⟨⟨h1,h2⟩,h3⟩,h4⟩:=hm;obtain ⟨⟨d,x⟩,hx⟩:=Option.isSome_iff_exists.1 h1;obtain ⟨o,ho,hop,hg,rfl⟩:=ydq hx;simp only [movesAct,hx,movesList] at h;exact wpAny_take (v:=a.eval x) ho hs h3 h2 (fun c a w h=>hQ c a _ _ w h) (ydG hop hg) (ybN hs hQ E fuel _ _ w h4 h)
def Region.sinkE (md:Region.Mode) (ops:Array Oper) (E:List Nat) (n:Nat):Bool:=
 (List.range n).all fun i=>E.contains i || (List.range (n+1)).any fun j=>decide (i<j)&&Region.waitsFor md ops j i
def Region.treeB (md:Region.Mode) (ops:Array Oper) (L:Nat):Bool:=(List.range ops.size).all fun t=>decide (t≤L) || (List.range t).any fun s=>decide (L≤s)&&Region.waitsFor md ops t s
def Region.lastE (md:Region.Mode) (ops:Array Oper) (E:List Nat) (L:Nat):Bool:=Region.sinkE md ops E L&&Region.treeB md ops L&&decide (L<ops.size)
theorem ydp {L:Nat} {listed:Array Bool} (hc:Closed md ops listed) (hC:Region.treeB md ops L=true): ∀(d t:Nat),t-L=d→L≤t→listed.getD t false=true→listed.getD L false=true:=by
 intro d;induction d using Nat.strongRecOn with
 |_ d ih=>
  intro t hd hL hl;by_cases htL:t=L
  · rw [←htL];exact hl
  · have htlt:t<ops.size:=by
     rw [←hc.1];rcases Nat.lt_or_ge t listed.size with h|h
     · exact h
     · simp [Array.getElem?_eq_none h] at hl
    have h1:=List.all_eq_true.1 hC t (List.mem_range.2 htlt);simp only [Bool.or_eq_true,decide_eq_true_eq] at h1;rcases h1 with h1|h1
    · omega
    · obtain ⟨s,hs,hs2⟩:=List.any_eq_true.1 h1;simp only [Bool.and_eq_true,decide_eq_true_eq] at hs2;obtain ⟨oj,hoj,e,he,hb,hon⟩:=Region.waitsFor_spec hs2.2;have h2:=hc.2 t oj hoj hl e he hb;rw [hon] at h2;have h3:=List.mem_range.1 hs;exact ih (s-L) zo s rfl hs2.1 h2
theorem yeW {L:Nat} {E:List Nat} {listed:Array Bool} (hc:Closed md ops listed) (hs:Region.sinkE md ops E L=true) (hE: ∀i,E.contains i=true→listed.getD i false=true) (hL: ∀oj,ops[L]?=some oj→ ∀e∈oj.after,Region.binds md e=true→listed.getD e.on false=true): ∀(d i:Nat),L-i=d→i<L→listed.getD i false=true:=by
 intro d;induction d using Nat.strongRecOn with
 |_ d ih=>
  intro i hd hi;have h1:=List.all_eq_true.1 hs i (List.mem_range.2 hi);rw [Bool.or_eq_true] at h1;rcases h1 with h1|h1
  · exact hE i h1
  · obtain ⟨j,hj,hj2⟩:=List.any_eq_true.1 h1;simp only [Bool.and_eq_true,decide_eq_true_eq] at hj2;obtain ⟨oj,hoj,e,he,hb,hon⟩:=Region.waitsFor_spec hj2.2;have hjle:j≤L:=by have:=List.mem_range.1 hj;omega
    rw [←hon];by_cases hjL:j=L
    · subst hjL;exact hL oj hoj e he hb
    · exact hc.2 j oj hoj (ih (L-j) zo j rfl zo) e he hb
theorem ydo {L:Nat} {E:List Nat} (hL:Region.lastE md ops E L=true) {listed:Array Bool} (hc:Closed md ops listed) (hE: ∀i,E.contains i=true→listed.getD i false=true) {i:Nat} (hi:i∈Region.ready md ops listed) (hne:i<L): ∀j∈Region.ready md ops listed,j<L:=by
 intro j hr;simp only [Region.lastE,Bool.and_eq_true,decide_eq_true_eq] at hL;obtain ⟨⟨hs,hC⟩,hz⟩:=hL;obtain ⟨hun, -⟩:=mem_ready.1 hi;refine Nat.lt_of_not_le fun hLj=>?_;obtain ⟨hjun,oj,hoj,hall⟩:=mem_ready.1 hr
 have hbelow:listed.getD i false=true:=by
  by_cases hjL:j=L
  · subst hjL;exact yeW hc hs hE (fun o ho e he hb=>by rw [hoj] at ho;injection ho with ho;subst ho;exact hall e he hb) _ i rfl hne
  · have h1:=List.all_eq_true.1 hC j (List.mem_range.2 (Array.getElem?_eq_some_iff.1 hoj).1);simp only [Bool.or_eq_true,decide_eq_true_eq] at h1;rcases h1 with h1|h1
    · omega
    · obtain ⟨s,hs',hs2⟩:=List.any_eq_true.1 h1;simp only [Bool.and_eq_true,decide_eq_true_eq] at hs2;obtain ⟨oj',hoj',e,he,hb,hon⟩:=Region.waitsFor_spec hs2.2;rw [hoj] at hoj';injection hoj' with hoj';subst hoj';have h2:=hall e he hb;rw [hon] at h2;have h3:=ydp hc hC _ s rfl hs2.1 h2;exact yeW hc hs hE (fun o ho e he hb=>hc.2 L o ho h3 e he hb) _ i rfl hne
 rw [getD_both hun] at hbelow;cases hbelow
theorem ycC {L:Nat} {E:List Nat} {i:Nat} {oi:Oper} {v:Value} (hLast:Region.lastE md ops E L=true) (hiL:i<L) (hi:ops[i]?=some oi) (hsel: ∀(j:Nat) (o:Oper) cs b,ops[j]?=some o→o.op≠.select cs b)
 (hQ: ∀c a w,Q (.panic c) (a.put oi.dst v) w→Q (.panic c) a w):
 ∀(fuel:Nat) (listed:Array Bool) (a:Act) (w:World),Closed md ops listed→(∀i,E.contains i=true→listed.getD i false=true)→
  (∀j oj,ops[j]?=some oj→j≠i→listed.getD j true=false→(∀e∈oj.after,Region.binds md e=true→e.on≠i)→oi.apart ops oj=true)→
  i∈Region.ready md ops listed→YieldsE P ops w0 oi v a→Ext w0 w→
  wpAnyM P md ops Q w0 L fuel (listed.setIfInBounds i true) (a.put oi.dst v) w→wpAnyM P md ops Q w0 L (fuel+1) listed a w:=by
 intro fuel;induction fuel with
 |zero=>
  intro listed a w hcl _ _ hr hy hS H w1 hw1;refine ⟨fun h=>(by rw [h] at hr;cases hr),fun j hj=>?_⟩;by_cases hji:j=i
  · subst hji;exact ⟨fun _=>hy.wpOp hi (hS.trans hw1) (fun w' hw'=>⟨(hS.trans hw1).trans hw',H.ext (hw1.trans hw')⟩),fun h=>by omega⟩
  · have:=ready_mono hj hji;rw [H.1] at this;cases this
 |succ fuel ih=>
  intro listed a w hcl hEl hfree hr hy hS H w1 hw1;refine ⟨fun h=>(by rw [h] at hr;cases hr),fun j hj=>?_⟩;have hjL:j<L:=ydo hLast hcl hEl hr hiL j hj;refine ⟨fun _=>?_,fun h=>by omega⟩;by_cases hji:j=i
  · subst hji;exact hy.wpOp hi (hS.trans hw1) (fun w' hw'=>⟨(hS.trans hw1).trans hw',H.ext (hw1.trans hw')⟩)
  · have h1:=((H w1 hw1).2 j (ready_mono hj hji)).1 hjL;obtain ⟨hjun,oj,hoj,hall⟩:=mem_ready.1 hj
    have hnot: ∀e∈oj.after,Region.binds md e=true→e.on≠i:=fun e he hb heq=>by
     have h1:=hall e he hb;have h0:=(mem_ready.1 hr).1;rw [heq] at h1;rcases Nat.lt_or_ge i listed.size with h'|h'
     · simp [h'] at h0 h1;rw [h0] at h1;cases h1
     · simp [Array.getElem?_eq_none h'] at h1
    have h2:=yby hoj (hfree j oj hoj hji hjun hnot) (fun cs b=>hsel i oi cs b hi) (fun cs b=>hsel j oj cs b hoj) hQ hy h1
    have hfree': ∀k ok,ops[k]?=some ok→k≠i→(listed.setIfInBounds j true).getD k true=false→
     (∀e∈ok.after,Region.binds md e=true→e.on≠i)→oi.apart ops ok=true:=fun k ok hk hki hun hno=>by
     refine hfree k ok hk hki ?_ hno;by_cases hjk:j=k
     · subst hjk;exact hjun
     · rw [getD_set_ne true hjk] at hun;exact hun
    refine wpOp_mono (fun a' w' h3=>⟨h3.2.1,ih (listed.setIfInBounds j true) a' w' (hcl.set hj) (fun k hk=>getD_set_true (hEl k hk)) hfree' (ready_mono hr (Ne.symm hji)) h3.1 h3.2.1 ?_⟩) h2;rw [Array.setIfInBounds_comm _ _ hji];exact h3.2.2
theorem yaX {L:Nat} {E:List Nat} (hLast:Region.lastE md ops E L=true) (hs:Region.noSelect ops=true) (hQ: ∀(c:List PanicEntry) (a:Act) (d:Option Tmp) (v:Value) (w:World),Q (.panic c) (a.put d v) w→Q (.panic c) a w) (n:Nat): ∀(m:List Bool) (l:List Oper) (k:Nat) (listed:Array Bool) (a:Act),Closed md ops listed→(∀i,E.contains i=true→listed.getD i false=true)→(∀j,l[j]?=ops[k+j]?)→m.length≤l.length→
 lexMask md ops m k listed=true→maskBut L m k=true→wpCalm P ops w0 (fun a'=> ∀X,wpAnyM P md ops Q w0 L n (markOps m k listed) a' (w0.patch X)) (pickOps m l) a→
 ∀X,wpAnyM P md ops Q w0 L (n+countB m) listed a (w0.patch X)
 |[],_,_,_,_,_,_,_,_,_,_,h,X=>by
  simp only [pickOps,wpCalm,markOps] at h;exact h X
 |_::_,[],_,_,_,_,_,_,hlen,_,_,_,_=>by simp at hlen
 |false::m,o::l,k,listed,a,hcl,hEl,hl,hlen,hB,hM,h,X=>
  yaX hLast hs hQ n m l (k+1) listed a hcl hEl (fun j=>by have:=hl (j+1);simpa [Nat.add_assoc,Nat.add_comm 1 j] using this) (by simpa using hlen) (by simpa [lexMask] using hB) (by simpa [maskBut] using hM) (by simpa [pickOps,markOps] using h) X
 |true::m,o::l,k,listed,a,hcl,hEl,hl,hlen,hB,hM,h,X=>by
  have h0:ops[k]?=some o:=by simpa using (hl 0).symm
  simp only [lexMask,Bool.and_eq_true] at hB;obtain ⟨⟨hr,hf⟩,hB'⟩:=hB;simp only [maskBut,Bool.and_eq_true,decide_eq_true_eq] at hM;simp only [pickOps,markOps] at h;obtain ⟨v,hy,hK⟩:=yay h;have hr':k∈Region.ready md ops listed:=by simpa using hr
  refine ycC hLast hM.1 h0 (Region.noSelect_spec hs) (fun c a w h=>hQ c a _ _ w h) (n+countB m) listed a _ hcl hEl (Region.free_spec h0 hf) hr' hy ⟨X,rfl⟩ ?_;exact yaX hLast hs hQ n m l (k+1) _ _ (hcl.set hr') (fun k hk=>getD_set_true (hEl k hk)) (fun j=>by have:=hl (j+1);simpa [Nat.add_assoc,Nat.add_comm 1 j] using this) (by simpa using hlen) hB' hM.2 hK X
theorem ybe: ∀(E:List Nat) (listed:Array Bool),Closed md ops listed→movesOk md ops E listed=true→Closed md ops (movesList E listed)∧ ∀i,listed.getD i false=true∨E.contains i=true→(movesList E listed).getD i false=true
 |[],listed,hc,_=>⟨hc,fun i h=>by rcases h with h|h;exact h;simp at h⟩
 |i::E,listed,hc,hm=>by
  simp only [movesOk,Bool.and_eq_true] at hm;obtain ⟨⟨⟨h1,h2⟩,h3⟩,h4⟩:=hm;have hr:i∈Region.ready md ops listed:=by simpa using h2
  obtain ⟨c1,c2⟩:=ybe E _ (hc.set hr) h4;refine ⟨c1,fun k hk=>c2 k ?_⟩;rcases hk with hk|hk
  · exact Or.inl (getD_set_true hk)
  · by_cases hki:k=i
    · subst hki;refine Or.inl ?_;obtain ⟨_,o,ho,_⟩:=mem_ready.1 hr;have hlt:k<listed.size:=by rw [hc.1];exact (Array.getElem?_eq_some_iff.1 ho).1
      simp [hlt]
    · refine Or.inr ?_;simpa [hki] using hk
theorem yaG {Q1 Q2:Act→Prop} (h: ∀a,Q1 a→Q2 a): ∀(l:List Oper) (a:Act),wpCalm P ops w0 Q1 l a→wpCalm P ops w0 Q2 l a
 |[],_,hh=>h _ hh
 |o::rest,a,hh=>by
  unfold wpCalm at hh ⊢;split
  · rename_i hw
    rw [if_pos hw] at hh;obtain ⟨v,h1,h2⟩:=hh;exact ⟨v,h1,yaG h rest _ h2⟩
  · rename_i hw
    rw [if_neg hw] at hh;exact yaG h rest _ hh
end
end Go
namespace Go.Proofs.YtdhjjpnajjingaaGreat
open Go Go.RowKit
structure HaulS where
 c:Cnf
 frm:Int
 fin:Int
 sense:Bool
 pc:Int
 k:Int
 dst:Int
 head:Int
 d:Int
 j:Int
 wp:Nat
 wq:Nat
 e:Int
 moved:Int
 steps:Int
namespace HaulS
def cells (S:HaulS):List Value:=[.int .i64 S.c.frags,.int .i64 S.c.spine,.int .i64 S.c.globals,.int .i64 S.c.threads,.int .i64 S.c.locals,.int .i64 S.c.cache,.int .i64 S.c.stack,.int .i64 S.c.low,.slice S.c.A S.c.shapes.length S.c.cap,
 .int .i64 S.frm,.int .i64 S.fin,.bool S.sense,.int .i64 S.pc,.int .i64 S.k,.int .i64 S.dst,.int .i64 S.head,.int .i64 S.d,.int .i64 S.j,.complex .f64 S.wp S.wq,.int .i64 S.e,.int .i64 S.moved,.int .i64 S.steps]
def fresh (c:Cnf) (frm fin:Int) (sense:Bool):HaulS:=⟨c,frm,fin,sense,0,0,0,0,0,0,0,0,0,0,0⟩
def next (S:HaulS):HaulS:={ S with k:=S.k+(S.d+2),pc:=if S.fin≤S.k+(S.d+2) then 11 else 0 }
end HaulS
structure HaulAt (g:GW) (t b:Nat) (S:HaulS):Prop where
 blk:Blk g t b 214 S.cells
 cnf:CnfAt g (t+1) S.c
theorem HaulAt.keep {T:Nat→Prop} {g g':GW} {t b:Nat} {S:HaulS} (h:HaulAt g t b S) (m:Mod T g g') (h1: ¬T t) (h2: ¬T (t+1)):HaulAt g' t b S:=⟨h.blk.keep m h1,h.cnf.keep m h2⟩
theorem HaulAt.st {g:GW} {t b:Nat} {S:HaulS} (h:HaulAt g t b S) (i:Nat) (v:Value) (S':HaulS) (hc:S'.cells=S.cells.set i v) (hcc:S'.c=S.c):HaulAt ⟨g.own,g.w.setCell ⟨b,i,none⟩ v⟩ t b S':=by
 refine ⟨by rw [hc];exact h.blk.set i v,?_⟩;rw [hcc];exact h.cnf.keep (Mod.set (T:=fun x=>x=t) h.blk.own) zo
end Go.Proofs.YtdhjjpnajjingaaGreat
namespace Go
theorem ycE {P:Program} {a:Act} {w:World} {Q:Exit→Act→World→Prop} {c R:Code} (l:Nat) (J:Act→World→Prop) (μ:Act→World→Nat) (hf:findLabel c l=some (Code.skip.seq R))
 (pass: ∀a w,J a w→R.wp P (Exit.jump l (fun a' w'=>J a' w'∧μ a' w'<μ a w) Q) a w)
 (first:(∀a w,J a w→R.wp P (Exit.jump l J Q) a w)→c.wp P (Exit.jump l J Q) a w):(Code.scope c).wp P Q a w:=by
 refine wp_scope_jumps l J μ hf (first fun a w h=>wp_mono (pass a w h) fun e _ _ hq=>?_) fun a w h=>?_
 · cases e<;>first|exact hq|exact ⟨hq.1,hq.2.1⟩
 · exact wp_seq (wp_skip (pass a w h))
section
variable {P:Program} {a:Act} {w:World} {Q:Exit→Act→World→Prop}
end
end Go
namespace Go
section
variable {P:Program} {a:Act} {w:World} {Q:Exit→Act→World→Prop}
end
end Go
namespace Go
open Go.RowKit Go.Maps
theorem ycO {l:List Int} {k:Nat} (h:k<l.length):l.getD k 0∈l:=by
 rw [List.getD_eq_getElem?_getD,List.getElem?_eq_getElem h];exact List.getElem_mem h
theorem ye8 {l:List Int} {k:Nat} (h:k<l.length):l.take (k+1)=l.take k++[l.getD k 0]:=by
 rw [List.take_add_one,List.getElem?_eq_getElem h,List.getD_eq_getElem?_getD,List.getElem?_eq_getElem h];rfl
def keyI (x:Int):Lit:=.int .i64 x
theorem ygH (l:List Int): ∀x∈l.map keyI,WideAt.IsKeyLit x:=by
 intro x hx;obtain ⟨y,_,rfl⟩:=List.mem_map.1 hx;trivial
theorem yfo (x y:Int):(keyI x).sameKey (keyI y)=decide (x=y):=by
 simp [keyI,Lit.sameKey]
def addI (acc:List Int) (x:Int):List Int:=if x∈acc then acc else acc++[x]
theorem ybE: ∀(l acc:List Int),(l.map keyI).foldl addKey (acc.map keyI)=(l.foldl addI acc).map keyI
 |[],_=>rfl
 |x::l,acc=>by
  simp only [List.map_cons,List.foldl_cons]
  have h:addKey (acc.map keyI) (keyI x)=(addI acc x).map keyI:=by
   unfold addKey addI
   have e:((acc.map keyI).any fun y=>y.sameKey (keyI x))=decide (x∈acc):=by
    rw [Bool.eq_iff_iff];simp only [List.any_map,List.any_eq_true,Function.comp,yfo,decide_eq_true_eq];exact ⟨fun ⟨y,hy,e⟩=>e▸hy,fun hx=>⟨x,hx,rfl⟩⟩
   rw [e];by_cases hx:x∈acc<;>simp [hx]
  rw [h,ybE l]
theorem yaN: ∀(l acc:List Int),(l.foldl addI acc).length≤acc.length+l.length
 |[],_=>by simp
 |x::l,acc=>by
  have:=yaN l (addI acc x);have h2:(addI acc x).length≤acc.length+1:=by unfold addI;split<;>simp
  simp only [List.foldl_cons,List.length_cons];omega
theorem ybn: ∀(l acc:List Int),acc.Nodup→((l.foldl addI acc).length=acc.length+l.length↔(acc++l).Nodup)
 |[],acc,h=>by simp [h]
 |x::l,acc,h=>by
  simp only [List.foldl_cons,List.length_cons];by_cases hx:x∈acc
  · have:=yaN l acc;have e:addI acc x=acc:=by simp [addI,hx]
    rw [e];constructor
    · intro h';omega
    · intro h';rw [List.nodup_append] at h';exact absurd rfl (h'.2.2 x hx x (by simp))
  · have e:addI acc x=acc++[x]:=by simp [addI,hx]
    rw [e]
    have hn:(acc++[x]).Nodup:=by
     rw [List.nodup_append];refine ⟨h,by simp,fun a ha b hb=>?_⟩;simp at hb;subst hb;rintro rfl;exact hx ha
    have:=ybn l (acc++[x]) hn;simp only [List.length_append,List.length_cons,List.length_nil] at this;rw [show acc.length+(l.length+1)=acc.length+(0+1)+l.length by omega,this,List.append_assoc];rfl
def twiceIn (l:List Int):Bool:=decide (¬l.Nodup)
theorem yfX (u:DataW Unit) (l:List Int):decide (Maps.size (setOf u (l.map keyI))<l.length)=twiceIn l:=by
 rw [size_setOf u _ (ygH l)];have h:=ybE l [];simp only [List.map_nil] at h;rw [h,List.length_map,twiceIn];have h1:=yaN l [];have h2:=ybn l [] List.nodup_nil;simp only [List.length_nil,Nat.zero_add,List.nil_append] at h1 h2;rw [decide_eq_decide, ←h2];omega
theorem yhG {H:Type} {w w':World} {P:Program} {k:TypeId} {R:Value→Option (DataW H × List MemPlace)} {b n:Nat} {D:DataW H} (h:w.ownsMap P k R b n D) (he:Ext w w'):w'.ownsMap P k R b n D:=by
 obtain ⟨es,clock,hb,rest⟩:=h;exact ⟨es,clock,(he.heap b (Array.getElem?_eq_some_iff.1 hb).1).trans hb,rest⟩
end Go
