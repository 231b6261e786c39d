import Derived.Test.YtdhjjpnajjingaaGreatKQ07
import Derived.Deep.RegionWith
set_option linter.unusedVariables false
set_option linter.unnecessarySimpa false
set_option linter.unusedSimpArgs false
open Bool renaming true→zT,false→zU
open Go.Value renaming int→zI
open Go.IntKind renaming i64→z6
set_option maxHeartbeats 8000000
set_option maxRecDepth 100000
open Go.Proofs.Tryz
open Go.Lib renaming hid→zH
open Go.Ext renaming alloc→zA,patch→zP,drew→zD,drewN→zN,more→zM,refl→zR,setCell→zS
open Nat renaming le_refl→zL,le_add_right→zK
namespace Go.Proofs.YtdhjjpnajjingaaGreat
open Go Go.RowKit Go.Maps
def fewTo (l:List Shp) (k:Nat):Bool:=(l.take k).all fun s=>decide (s.refs.length≤1000)
def Few (c:Cnf):Bool:=fewTo c.shapes 100&&decide (c.shapes.length≤100)
def fragOk (c:Cnf) (i:Int):Bool:=decide (c.check=0∧0≤i∧i<c.frags)
def wFrags (c:Cnf) (got:List Int):Value:=if got.all (fragOk c) then .tuple #[.bool false,.bool (twiceIn got)] else .tuple #[.bool true,.bool false]
theorem yh6:Keyed prog 3:=int_keyed Tryz.underlying3
theorem ye7 (c:Cnf) (A:Option Addr) (cap:Nat) (got:List Int) (w:World) (hc:c.Ok w) (hg:CellsAt w A (got.map (Value.int .i64))) (hl:got.length≤140737488355328) (hw: ∀x∈got, -9223372036854775808≤x∧x≤9223372036854775807):
 Calls prog 256 #[c.val,.slice A got.length cap] w (Gives (wFrags c got) w):=by
 have hmm:= @run_makeMap prog;have HC:=zH (fun i w' (he:Ext w w')=>ycN c i 0 w' (hc.ext he));unfold Cnf.val at HC ⊢;go_enter func256,ntmps256;go_wp2_with fail;go_loopw [14] (fun i wr=> ∃k:Nat,k≤got.length∧i=.int .i64 k∧(got.take k).all (fragOk c)=true∧wr.ownsMap prog 3 (plainElem (H:=Unit) prog 4) (w.heap.size+1) k (setOf (.lit (.bool true)) ((got.take k).map keyI))∧Ext (w.alloc (.cells #[.int .i64 c.frags,.int .i64 c.spine,.int .i64 c.globals,.int .i64 c.threads,.int .i64 c.locals,.int .i64 c.cache,.int .i64 c.stack,.int .i64 c.low,.slice c.A c.shapes.length c.cap] 34)) wr) (fun i _=>got.length-(intOf i).toNat)
 case atStart=>exact ⟨0,Nat.zero_le _,rfl,rfl,by have:=World.ownsMap_made (H:=Unit) (w.alloc (.cells #[.int .i64 c.frags,.int .i64 c.spine,.int .i64 c.globals,.int .i64 c.threads,.int .i64 c.locals,.int .i64 c.cache,.int .i64 c.stack,.int .i64 c.low,.slice c.A c.shapes.length c.cap] 34)) prog 3 (plainElem (H:=Unit) prog 4);simpa [setOf] using this,zE⟩
 case round=>
  obtain ⟨k,hk,rfl,hs,hown,X,rfl⟩:=hrel;have HS:=zH hs;have HO:=zH hown;clear hs hown hmm;by_cases hlt:k<got.length
  · obtain ⟨b,o,hA,hb,hcell⟩:=ybA hg hlt;rw [hA];have g0:=hcell k hlt;have hwx:=hw _ (ycO hlt);have HT:=zH (ye8 hlt);have HN:=zH (show fragOk c (got.getD k 0)=false→got.all (fragOk c)=false from fun h=>List.all_eq_false.2 ⟨got.getD k 0,ycO hlt,by rw [h];decide⟩);generalize got.getD k 0=x at *;clear hA hg hcell hw;cases hx:fragOk c x
    · have HX:=zH (show cFrag c x 0=.tuple #[.int .i64 0,.int .i64 1] from if_neg (fun h=>of_decide_eq_false hx ⟨h.1,h.2.1,h.2.2.1⟩));have HF:=zH (HN.out hx);clear hx;go_wp2_with (go_at_call 214;refine (HC.out _ _ zE).mono ?_;rw [HX.out];rintro e w1 ⟨rfl,X1,rfl⟩);go_ret2;unfold wFrags;rw [HF.out];exact Gives.mk rfl zE
    · have hx':c.check=0∧0≤x∧x<c.frags:=by simpa [fragOk] using hx
      have HX:=zH (show cFrag c x 0=.tuple #[.int .i64 (x*8+0),.int .i64 0] by unfold cFrag;rw [if_pos ⟨hx'.1,hx'.2.1,hx'.2.2,zo,zo⟩]);have HY:=zH (show (got.take (k+1)).all (fragOk c)=true by rw [HT.out,List.all_append,HS.out];simp [hx]);clear hx hx';obtain ⟨hw1,hw2⟩:=hwx
      go_wp2_with (first
       |(go_at_call 214;refine (HC.out _ _ zE).mono ?_;rw [HX.out];rintro e w1 ⟨rfl,X1,rfl⟩)
       |(at_mapUpdate;refine wpList_mapUpdate_own _ rfl _ _ _ 298 rfl 3 4 yh6 Tryz.underlying298 _ (w.heap.size+1) k _ rfl (yhG HO.out zE) (by unfold maxLen;omega) _ _ (keyI x) rfl rfl (keyOf_int_mk Tryz.underlying3 (WalkArith.wf_i64 zo)) _ [] (plainElem_bool Tryz.underlying4 true) ?_;intro w1 hown1 hgrow1))
      have HR:=zH (yaB (w:=w.alloc (.cells #[.int .i64 c.frags,.int .i64 c.spine,.int .i64 c.globals,.int .i64 c.threads,.int .i64 c.locals,.int .i64 c.cache,.int .i64 c.stack,.int .i64 c.low,.slice c.A c.shapes.length c.cap] 34)) zE hgrow1 (fun j hj=>by cases hj;simp));go_roundw
      case rel=>exact ⟨k+1,zo,by go_num,HY.out,by rw [HT.out,List.map_append,List.map_cons,List.map_nil,setOf_snoc];exact hown1,HR.out⟩
      case measure=>simp [intOf];omega
  · obtain rfl:k=got.length:=zo;rw [List.take_of_length_le (Nat.le_refl _)] at HS HO;go_wp2_with (at_len;refine wpList_len_own _ rfl _ 298 rfl 3 4 Tryz.underlying298 _ (w.heap.size+1) got.length _ rfl HO.out ?_);go_ret2;unfold wFrags;rw [HS.out];exact Gives.bb rfl (by rw [←yfX (.lit (.bool true))]) zE
open Go Go.RowKit
theorem yfl:(prog.info? 194).map (fun i=>(i.zero,i.size,i.bytes))=some (some (.agg #[.int .i64 0,.complex .f64 0 0]),2,24):=zQ
theorem yei (x0 x1 x2 x3 x4 x5 x6 x7:Value) (w:World):
 (Instr.index 254 (.agg #[x0,x1,x2,x3,x4,x5,x6,x7]) (zI z6 ((0:Nat):Int))).run prog w=.ok x0 w∧
 (Instr.index 254 (.agg #[x0,x1,x2,x3,x4,x5,x6,x7]) (zI z6 ((1:Nat):Int))).run prog w=.ok x1 w∧
 (Instr.index 254 (.agg #[x0,x1,x2,x3,x4,x5,x6,x7]) (zI z6 ((2:Nat):Int))).run prog w=.ok x2 w∧
 (Instr.index 254 (.agg #[x0,x1,x2,x3,x4,x5,x6,x7]) (zI z6 ((3:Nat):Int))).run prog w=.ok x3 w∧
 (Instr.index 254 (.agg #[x0,x1,x2,x3,x4,x5,x6,x7]) (zI z6 ((4:Nat):Int))).run prog w=.ok x4 w∧
 (Instr.index 254 (.agg #[x0,x1,x2,x3,x4,x5,x6,x7]) (zI z6 ((5:Nat):Int))).run prog w=.ok x5 w∧
 (Instr.index 254 (.agg #[x0,x1,x2,x3,x4,x5,x6,x7]) (zI z6 ((6:Nat):Int))).run prog w=.ok x6 w∧
 (Instr.index 254 (.agg #[x0,x1,x2,x3,x4,x5,x6,x7]) (zI z6 ((7:Nat):Int))).run prog w=.ok x7 w:=
 ⟨zQ,zQ,zQ,zQ,zQ,zQ,zQ,zQ⟩
theorem yh4 (f:Nat→Nat × Nat) (k:Nat) (hk:k<8) (w:World):(Instr.index 254 (.agg #[cx (f 0),cx (f 1),cx (f 2),cx (f 3),cx (f 4),cx (f 5),cx (f 6),cx (f 7)]) (zI z6 k)).run prog w=.ok (cx (f k)) w:=by
 obtain ⟨h0,h1,h2,h3,h4,h5,h6,h7⟩:=yei (cx (f 0)) (cx (f 1)) (cx (f 2)) (cx (f 3)) (cx (f 4)) (cx (f 5)) (cx (f 6)) (cx (f 7)) w;rcases (show k=0∨k=1∨k=2∨k=3∨k=4∨k=5∨k=6∨k=7 by omega) with rfl|rfl|rfl|rfl|rfl|rfl|rfl|rfl
 · exact h0
 · exact h1
 · exact h2
 · exact h3
 · exact h4
 · exact h5
 · exact h6
 · exact h7
theorem yfS {w0 wr w1 w3:World} {l v':Value} {base m bb:Nat} {T:TypeId} {size:Nat} {xs:List Value} {o:Obj} (HR:wr.ownsRow base T size l m xs) (HX:Ext w0 wr) (HB:wr.heap[bb]?=some o) (HD:l.ownBlock≠some bb) (hg:w1.grownBy w3 l.ownBlock) (he:Ext wr w1) (hb0:w0.heap.size≤base) (hblk:v'.ownBlock=l.ownBlock∨v'.ownBlock=some w1.heap.size):
 Ext w0 w3∧w3.heap[bb]?=some o∧v'.ownBlock≠some bb∧wr.heap.size≤w3.heap.size:=by
 have h1:=he.size;have hb:bb<wr.heap.size:=(Array.getElem?_eq_some_iff.1 HB).1;refine ⟨yaB (HX.trans he) hg (fun k hk=>Nat.le_trans hb0 (HR.lt k hk).1),?_,?_,Nat.le_trans h1 hg.size⟩
 · rw [hg.block bb zo (fun e=>HD e.symm),he.heap bb hb,HB]
 · rcases hblk with h|h
   · rw [h];exact HD
   · rw [h];intro e;injection e with e;omega
def WholeGot (w0:World) (base:Nat) (n:Nat) (xs:List Value) (i:Int) (f:Nat→Nat × Nat) (w:World) (e:Ending) (w':World):Prop:=
 ∃v',e=.returned v'∧w'.ownsRow base 194 2 v' (n+8) (xs++writes i f 8)∧Ext w0 w'∧w.heap.size≤w'.heap.size
theorem yhE (c:Cnf) (v:Value) (n:Nat) (xs:List Value) (i:Int) (f:Nat→Nat × Nat) (w w0:World) (base:Nat) (hc:c.Ok w0) (hi:fragOk c i=true) (he:Ext w0 w) (hb0:w0.heap.size≤base) (hbase:base≤w.heap.size) (hown:w.ownsRow base 194 2 v n xs) (hn:n≤1000000) (hf:c.frags≤1099511627776):
 Calls prog 222 #[c.val,v,.int .i64 i,.agg (cxs f).toArray] w (WholeGot w0 base n xs i f w):=by
 obtain ⟨i0,hi0,hz0,hz1,hz2⟩:=info_parts yfl;have hi':c.check=0∧0≤i∧i<c.frags:=by simpa [fragOk] using hi
 have HF:=zH (fun (k:Nat) (hk:k<8) w' (he':Ext w0 w')=>show Calls prog 214 #[c.val,.int .i64 i,.int .i64 k] w' (Gives (.tuple #[.int .i64 (i*8+k),.int .i64 0]) w') from (show cFrag c i k=Value.tuple #[.int .i64 (i*8+k),.int .i64 0] by unfold cFrag;rw [if_pos ⟨hi'.1,hi'.2.1,hi'.2.2,zo,zo⟩])▸ycN c i k w' (hc.ext he'));have HE:=zH he;have HO:=zH hown;have hi1:=hi'.2.1;have hi2:i≤1099511627776:=zo;clear hi hi' hown he hc hf;unfold Cnf.val at HF ⊢;rw [show (cxs f).toArray=#[cx (f 0),cx (f 1),cx (f 2),cx (f 3),cx (f 4),cx (f 5),cx (f 6),cx (f 7)] from rfl];unfold cx;go_enter func222,ntmps222;go_wp2_with fail;go_loopw [1,14] (fun l j wr=> ∃k:Nat,k≤8∧j=.int .i64 k∧wr.ownsRow base 194 2 l (n+k) (xs++writes i f k)∧Ext w0 wr∧wr.heap[w.heap.size]?=some (.cells #[.int .i64 c.frags,.int .i64 c.spine,.int .i64 c.globals,.int .i64 c.threads,.int .i64 c.locals,.int .i64 c.cache,.int .i64 c.stack,.int .i64 c.low,.slice c.A c.shapes.length c.cap] 34)∧l.ownBlock≠some w.heap.size∧w.heap.size≤wr.heap.size) (fun _ i _=>8-(intOf i).toNat)
 case atStart=>exact ⟨0,Nat.zero_le _,rfl,by simpa [writes] using yaZ HO.out (show Ext w _ from zE),HE.out.trans zE,by rw [World.row_alloc_past _ (by rw [World.size_alloc];omega)];exact World.row_alloc_new _,fun h=>by have:=(HO.out.lt _ h).2;omega,Ext.size zE⟩
 case round=>
  obtain ⟨k,hk,rfl,hrow,hext,hbox,hdis,hsz⟩:=hrel;have HR:=zH hrow;have HX:=zH hext;have HB:=zH hbox;have HD:=zH hdis;by_cases hlt:k<8
  · have hbb:w.heap.size<wr.heap.size:=(Array.getElem?_eq_some_iff.1 hbox).1;have g0:wr.cell? ⟨w.heap.size,0,none⟩=some (zI z6 c.frags):=by simp only [World.cell?,hbox];rfl
    have g1:wr.cell? ⟨w.heap.size,1,none⟩=some (zI z6 c.spine):=by simp only [World.cell?,hbox];rfl
    have g2:wr.cell? ⟨w.heap.size,2,none⟩=some (zI z6 c.globals):=by simp only [World.cell?,hbox];rfl
    have g3:wr.cell? ⟨w.heap.size,3,none⟩=some (zI z6 c.threads):=by simp only [World.cell?,hbox];rfl
    have g4:wr.cell? ⟨w.heap.size,4,none⟩=some (zI z6 c.locals):=by simp only [World.cell?,hbox];rfl
    have g5:wr.cell? ⟨w.heap.size,5,none⟩=some (zI z6 c.cache):=by simp only [World.cell?,hbox];rfl
    have g6:wr.cell? ⟨w.heap.size,6,none⟩=some (zI z6 c.stack):=by simp only [World.cell?,hbox];rfl
    have g7:wr.cell? ⟨w.heap.size,7,none⟩=some (zI z6 c.low):=by simp only [World.cell?,hbox];rfl
    have g8:wr.cell? ⟨w.heap.size,8,none⟩=some (.slice c.A c.shapes.length c.cap):=by simp only [World.cell?,hbox];rfl
    have HS:=zH hsz;have HBA:=zH (Nat.le_trans hbase hsz);clear hbase;clear hrow hext hbox hdis hsz;generalize w.heap.size=bb at *;have hx:=fun w=>yh4 f k hlt w;unfold cx at hx;generalize hfk:f k=fk at hx;have HK:=zH hfk;clear hfk;go_wp2_with fail;refine (HF.out k hlt _ HX.out).mono ?_;rintro e w1 ⟨rfl,X1,rfl⟩;go_wp2_with (at_builtin;refine wpList_append_own_at _ rfl (.tmp 25) (.tmp 29) 99 rfl base 194 i0 (.agg #[.int .i64 0,.complex .f64 0 0]) 2 24 Tryz.underlying99 hi0 hz0 hz1 hz2 rfl zd _ (n+k) _ rfl (yaZ HR.out (show Ext wr _ from zE)) _ 1 1 [.int .i64 (i*8+k),.complex .f64 fk.1 fk.2] rfl rfl (ybU _ _ _) (by intro u hu;simp at hu;rcases hu with rfl|rfl<;>rfl) (by unfold maxLen;omega) zo (Nat.le_trans (HBA.out) (Ext.size (show Ext wr _ from zE))) ?_;intro v' w3 hown3 hgrow3 _ hblk3);obtain ⟨r1,r2,r3,r4⟩:=yfS HR.out HX.out HB.out HD.out hgrow3 (show Ext wr _ from zE) hb0 hblk3;refine ⟨⟨k+1,zo,by go_num,?_,r1,r2,r3,Nat.le_trans HS.out r4⟩,by simp [intOf];omega⟩;rw [writes,HK.out, ←List.append_assoc];exact hown3
  · obtain rfl:k=8:=zo;go_wp2_with fail;go_ret;exact ⟨_,rfl,HR.out,HX.out,hsz⟩
structure ShAt (g:GW) (t b bt tt bp:Nat) (T:TabS) (n:Int):Prop where
 blk:Blk g t b 57 [.pointer (some ⟨bt,0,none⟩),.pointer (some ⟨bp,0,none⟩),.int .i64 n]
 tab:TabAt g tt bt T
theorem ShAt.keep {S:Nat→Prop} {g g':GW} {t b bt tt bp:Nat} {T:TabS} {n:Int} (h:ShAt g t b bt tt bp T n) (m:Mod S g g') (h1: ¬S t) (h2: ¬S tt):ShAt g' t b bt tt bp T n:=⟨h.blk.keep m h1,h.tab.keep m h2⟩
structure CyS where
 stage:Int
 at_:Int
 i:Int
 head:Int
 rescan:Bool
 sense:Bool
 started:Int
 finished:Int
 freed:Int
 moved:Int
 steps:Int
 e:Int
namespace CyS
def cells (Y:CyS) (tp hp:Option Addr):List Value:=[.int .i64 Y.stage,.int .i64 Y.at_,.int .i64 Y.i,.int .i64 Y.head,.bool Y.rescan,.pointer tp,.pointer hp,.bool Y.sense,.int .i64 Y.started,.int .i64 Y.finished,.int .i64 Y.freed,.int .i64 Y.moved,.int .i64 Y.steps,.int .i64 Y.e]
def fresh:CyS:=⟨0,0,0,0,false,false,0,0,0,0,0,0⟩
def enters (Y:CyS) (s:Int):CyS:={ Y with stage:=s,at_:=0,i:=0 }
end CyS
structure CyW where
 y:CyS
 tr:Option TraceS
 h:Option HaulS
 K:CoreS
namespace CyW
def polled (W:CyW):Bool:=W.K.hand.polled W.y.i
def nextI (W:CyW):Int:=if W.polled then W.y.i+1 else W.y.i
def pollsB (W:CyW):Bool:=W.nextI==W.K.c.threads
def polls (W:CyW):CyW:={ W with y:={ W.y with i:=W.nextI },K:={ W.K with hand:=W.K.hand.tick } }
def posts (W:CyW) (s:Int) (flip:Bool):CyW:={ W with K:={ W.K with hand:=W.K.hand.post s flip } }
def atY (W:CyW) (a:Int):CyW:={ W with y:={ W.y with at_:=a } }
def ent (W:CyW) (s:Int):CyW:={ W with y:=W.y.enters s }
def hands (W:CyW) (status stage:Int):CyW:=if W.y.at_=0 then (if W.pollsB then W.polls.atY 2 else W.polls) else (W.posts status false).ent stage
def spc (W:CyW) (S:SpaceS):CyW:={ W with K:={ W.K with sp:=S } }
def starts (W:CyW):CyW:=if W.y.at_=0 then (W.spc (beginS W.K.sp)).atY 2 else
 let V:=W.posts 1 true
 CyW.ent { V with y:={ V.y with started:=V.y.started+1,sense:= !V.y.sense,steps:=0 } } 2
def turns (W:CyW):CyW:=if W.y.at_=0 then (W.spc (turnS W.K.sp)).atY 2 else if W.y.at_=2 then (W.posts 4 false).atY 1 else if W.pollsB then { W.polls.ent 7 with h:=none } else W.polls
def settles (W:CyW):CyW:=if W.y.at_=0 then (if W.pollsB then W.polls.atY 7 else W.polls) else (W.spc (doneS W.K.sp)).ent 9
def swept (W:CyW):Bool:=sweeps W.K.sp W.y.i W.y.sense
def sweep1 (W:CyW):CyW:={ W.spc (sweepS W.K.sp W.y.i W.y.sense) with y:={ W.y with freed:=if W.swept then W.y.freed+1 else W.y.freed,i:=W.y.i+1 } }
def sweepsY (W:CyW):CyW:=if W.y.i+1=W.K.c.frags then W.sweep1.ent 10 else W.sweep1
def serves (W:CyW):CyW:=if W.y.at_=0 then (W.spc (endS W.K.sp)).atY 7 else
 let V:=W.spc (serve W.K.sp W.y.sense).2
 if (serve W.K.sp W.y.sense).1 then V else CyW.ent { V with y:={ V.y with finished:=V.y.finished+1 } } 0
end CyW
structure CyAt (g:GW) (t b:Nat) (Y:CyS) (tr:Option TraceS) (h:Option HaulS) (tp hp:Option Addr):Prop where
 blk:Blk g t b 113 (Y.cells tp hp)
 tr: ∀S,tr=some S→ ∃bt cm,tp=some ⟨bt,0,none⟩∧cm.Same S.c∧TraceAt g (t+1) bt { S with c:=cm }
 hn:h=none→hp=none
 hl: ∀S,h=some S→ ∃bh cm,hp=some ⟨bh,0,none⟩∧cm.Same S.c∧HaulAt g (t+3) bh { S with c:=cm }
theorem CyAt.keep {T:Nat→Prop} {g g':GW} {t b:Nat} {Y:CyS} {tr:Option TraceS} {h:Option HaulS} {tp hp:Option Addr} (H:CyAt g t b Y tr h tp hp) (m:Mod T g g') (hT: ∀x,T x→x<t∨t+5≤x):CyAt g' t b Y tr h tp hp:=by
 have q: ∀k,k<5→ ¬T (t+k):=fun k hk ht=>by have:=hT _ ht;omega
 refine ⟨H.blk.keep m (q 0 zo),fun S hS=>?_,H.hn,fun S hS=>?_⟩
 · obtain ⟨bt,cm,h1,h2,h3⟩:=H.tr S hS;exact ⟨bt,cm,h1,h2,h3.keep m (q 1 zo) (q 2 zo)⟩
 · obtain ⟨bt,cm,h1,h2,h3⟩:=H.hl S hS;exact ⟨bt,cm,h1,h2,h3.keep m (q 3 zo) (q 4 zo)⟩
theorem CyAt.set {g:GW} {t b:Nat} {Y:CyS} {tr:Option TraceS} {h:Option HaulS} {tp hp:Option Addr} (H:CyAt g t b Y tr h tp hp) (i:Nat) (v:Value) (Y':CyS) (hv:Y'.cells tp hp=(Y.cells tp hp).set i v):CyAt ⟨g.own,g.w.setCell ⟨b,i,none⟩ v⟩ t b Y' tr h tp hp:=by
 have m:Mod (fun x=>x=t) g ⟨g.own,g.w.setCell ⟨b,i,none⟩ v⟩:=Mod.set H.blk.own;refine ⟨by rw [hv];exact H.blk.set i v,fun S hS=>?_,H.hn,fun S hS=>?_⟩
 · obtain ⟨bt,cm,h1,h2,h3⟩:=H.tr S hS;exact ⟨bt,cm,h1,h2,h3.keep m zo zo⟩
 · obtain ⟨bt,cm,h1,h2,h3⟩:=H.hl S hS;exact ⟨bt,cm,h1,h2,h3.keep m zo zo⟩
structure CyApart (t B:Nat):Prop where
 hb:100≤B
 ht:100≤t
 apart:t+5≤B∨B+70≤t
def cyT (t B:Nat) (x:Nat):Prop:=(t≤x∧x<t+5)∨(B≤x∧x<B+70)
structure CyIn (g:GW) (t B b k:Nat) (W:CyW) (tp hp:Option Addr) (bm bs bt bp bsp bh:Nat) (cm:Cnf):Prop where
 y:CyAt g t b W.y W.tr W.h tp hp
 c:CoreIn g B k W.K bm bs bt bp bsp bh cm
def CyWAt (g:GW) (t B b k:Nat) (W:CyW):Prop:= ∃tp hp bm bs bt bp bsp bh cm,CyIn g t B b k W tp hp bm bs bt bp bsp bh cm
structure CyW.Bd (W:CyW):Prop where
 i:0≤W.y.i∧W.y.i≤1099511627776
 started:0≤W.y.started∧W.y.started≤1099511627776
 finished:0≤W.y.finished∧W.y.finished≤1099511627776
 freed:0≤W.y.freed∧W.y.freed≤1099511627776
 moved:0≤W.y.moved∧W.y.moved≤1099511627776
 steps:0≤W.y.steps∧W.y.steps≤1099511627776
 hand:0≤W.K.hand.count∧W.K.hand.count≤1099511627776
 sp:0≤W.K.sp.count∧W.K.sp.count≤1099511627776
 mem:0≤W.K.mem.count∧W.K.mem.count≤1099511627776
 n:0≤W.K.n∧W.K.n≤1099511627776
section
variable {g:GW} {t B b k:Nat} {W:CyW} {tp hp:Option Addr} {bm bs bt bp bsp bh:Nat} {cm:Cnf}
theorem CyIn.set (H:CyIn g t B b k W tp hp bm bs bt bp bsp bh cm) (A:CyApart t B) (i:Nat) (v:Value) (Y':CyS) (hv:Y'.cells tp hp=(W.y.cells tp hp).set i v):CyIn ⟨g.own,g.w.setCell ⟨b,i,none⟩ v⟩ t B b k { W with y:=Y' } tp hp bm bs bt bp bsp bh cm:=
 ⟨H.y.set i v Y' hv,H.c.keep (Mod.set (T:=fun x=>x=t) H.y.blk.own) (fun x (hx:x=_)=>by have:=A.apart;omega)⟩
theorem CyIn.hand {g':GW} (H:CyIn g t B b k W tp hp bm bs bt bp bsp bh cm) (A:CyApart t B) {h:HandS} (m:Mod (fun x=>x=B+63) g g') (hh:HandAt g' (B+63) bh h):CyIn g' t B b k { W with K:={ W.K with hand:=h } } tp hp bm bs bt bp bsp bh cm:=
 ⟨H.y.keep m (fun x (hx:x=_)=>by have:=A.apart;omega),H.c.putHand m hh⟩
theorem CyIn.spc {g':GW} (H:CyIn g t B b k W tp hp bm bs bt bp bsp bh cm) (A:CyApart t B) {S:SpaceS} (m:Mod (inst B) g g') (hs:SpaceAt g' B bsp bt S):CyIn g' t B b k (W.spc S) tp hp bm bs bt bp bsp bh cm:=
 ⟨H.y.keep m (fun x hx=>by have:=A.apart;have h1:=hx.1;have h2:=hx.2;omega),H.c.putSp m hs⟩
theorem CyIn.keep {T:Nat→Prop} {g':GW} (H:CyIn g t B b k W tp hp bm bs bt bp bsp bh cm) (m:Mod T g g') (h1: ∀x,T x→x<t∨t+5≤x) (h2: ∀x,T x→x<B∨B+70≤x):CyIn g' t B b k W tp hp bm bs bt bp bsp bh cm:=
 ⟨H.y.keep m h1,H.c.keep m h2⟩
theorem CyIn.modY (H:CyIn g t B b k W tp hp bm bs bt bp bsp bh cm):cyT t B (g.own b):=by rw [H.y.blk.own];exact Or.inl ⟨Nat.le_refl _,zo⟩
end
theorem ycM {t B x:Nat} (h:inst B x):cyT t B x:=Or.inr (by have h1:=h.1;have h2:=h.2;omega)
section
variable (g:GW) (t b:Nat) (Y:CyS) (tr:Option TraceS) (hh:Option HaulS) (tp hp:Option Addr)
theorem ygt (h:CyAt g t b Y tr hh tp hp):Calls prog 35 #[.pointer (some ⟨b,0,none⟩)] g.w (fun e w'=>e=.returned (zI z6 Y.stage)∧g.w=w'):=by
 obtain ⟨a0,a1,a2,a3,a4,a5,a6,a7,a8,a9,a10,a11,a12,a13,al⟩:=h.blk.k14;clear h;go_enter func35,ntmps35;go_wp2_with fail;go_ret;exact ⟨rfl,rfl⟩
theorem yd5 (h:CyAt g t b Y tr hh tp hp):Calls prog 36 #[.pointer (some ⟨b,0,none⟩)] g.w (fun e w'=>e=.returned (zI z6 Y.started)∧g.w=w'):=by
 obtain ⟨a0,a1,a2,a3,a4,a5,a6,a7,a8,a9,a10,a11,a12,a13,al⟩:=h.blk.k14;clear h;go_enter func36,ntmps36;go_wp2_with fail;go_ret;exact ⟨rfl,rfl⟩
theorem ydg (h:CyAt g t b Y tr hh tp hp):Calls prog 17 #[.pointer (some ⟨b,0,none⟩)] g.w (fun e w'=>e=.returned (zI z6 Y.finished)∧g.w=w'):=by
 obtain ⟨a0,a1,a2,a3,a4,a5,a6,a7,a8,a9,a10,a11,a12,a13,al⟩:=h.blk.k14;clear h;go_enter func17,ntmps17;go_wp2_with fail;go_ret;exact ⟨rfl,rfl⟩
theorem ygs (h:CyAt g t b Y tr hh tp hp):Calls prog 14 #[.pointer (some ⟨b,0,none⟩)] g.w (fun e w'=>e=.returned (zI z6 Y.freed)∧g.w=w'):=by
 obtain ⟨a0,a1,a2,a3,a4,a5,a6,a7,a8,a9,a10,a11,a12,a13,al⟩:=h.blk.k14;clear h;go_enter func14,ntmps14;go_wp2_with fail;go_ret;exact ⟨rfl,rfl⟩
end
theorem ye3 (g:GW) (t:Nat):Calls prog 34 #[] g.w (fun e w'=> ∃own' b,e=.returned (.pointer (some ⟨b,0,none⟩))∧Mod (fun _=>False) g ⟨own',w'⟩∧CyAt ⟨own',w'⟩ t b CyS.fresh none none none none):=by
 go_enter func34,ntmps34;go_wp2_with fail;go_ret;exact ⟨_,g.w.heap.size,rfl,Mod.ext (show Ext g.w (g.w.alloc (.cells ((CyS.fresh.cells none none).toArray) 113)) from zE) t,⟨Blk.new g t 113 (CyS.fresh.cells none none),(fun S hS=>by cases hS),(fun _=>rfl),(fun S hS=>by cases hS)⟩⟩
section
variable {g:GW} {t B b k:Nat} {W:CyW} {tp hp:Option Addr} {bm bs bt bp bsp bh:Nat} {cm:Cnf}
theorem ycj (A:CyApart t B) (s:Int) (H:CyIn g t B b k W tp hp bm bs bt bp bsp bh cm):Calls prog 45 #[.pointer (some ⟨b,0,none⟩),.int .i64 s] g.w (Does (.tuple #[]) g (cyT t B) (fun g'=>CyIn g' t B b k (W.ent s) tp hp bm bs bt bp bsp bh cm)):=by
 have H3:=zH (((H.set A 0 (zI z6 s) { W.y with stage:=s } rfl).set A 1 (zI z6 0) { W.y with stage:=s,at_:=0 } rfl).set A 2 (zI z6 0) (W.y.enters s) rfl);have M:=zH (show Mod (cyT t B) g ⟨g.own,((g.w.setCell ⟨b,0,none⟩ (zI z6 s)).setCell ⟨b,1,none⟩ (zI z6 0)).setCell ⟨b,2,none⟩ (zI z6 0)⟩ from Mod.st (Mod.st (Mod.st Mod.self H.modY) H.modY) H.modY);obtain ⟨a0,a1,a2,a3,a4,a5,a6,a7,a8,a9,a10,a11,a12,a13,al⟩:=H.y.blk.k14;have af0:=H.y.blk.liv 0;have af1:=H.y.blk.liv 1;have af2:=H.y.blk.liv 2;clear H;go_enter func45,ntmps45;go_wp2_with fail;exact bodyPost_end (results_none rfl _ _ _) rfl (Does.of ⟨g.own,_⟩ rfl rfl M.out H3.out)
theorem CyIn.pt (H:CyIn g t B b k W tp hp bm bs bt bp bsp bh cm) (X:Extra):CyIn (g.pt X) t B b k W tp hp bm bs bt bp bsp bh cm:=H.keep (T:=fun _=>False) (Mod.pt (Mod.refl _ _) X) (fun _=>False.elim) (fun _=>False.elim)
end
end Go.Proofs.YtdhjjpnajjingaaGreat
namespace Go.Proofs.YtdhjjpnajjingaaGreat
open Go Go.RowKit
section
variable {g:GW} {t B b k:Nat} {W:CyW}
theorem CyIn.at_ {tp hp:Option Addr} {bm bs bt bp bsp bh:Nat} {cm:Cnf} (H:CyIn g t B b k W tp hp bm bs bt bp bsp bh cm):CyWAt g t B b k W:=⟨tp,hp,bm,bs,bt,bp,bsp,bh,cm,H⟩
end
end Go.Proofs.YtdhjjpnajjingaaGreat
namespace Go.Proofs.YtdhjjpnajjingaaGreat
open Go Go.RowKit
section
variable {g:GW} {t B b k:Nat} {W:CyW}
theorem CyIn.drop {tp hp:Option Addr} {bm bs bt bp bsp bh:Nat} {cm:Cnf} (H:CyIn g t B b k W tp hp bm bs bt bp bsp bh cm) (A:CyApart t B):CyIn ⟨g.own,g.w.setCell ⟨b,6,none⟩ (.pointer none)⟩ t B b k { W with h:=none } tp none bm bs bt bp bsp bh cm:=by
 have m:Mod (fun x=>x=t) g ⟨g.own,g.w.setCell ⟨b,6,none⟩ (.pointer none)⟩:=Mod.set H.y.blk.own;refine ⟨⟨H.y.blk.set 6 (.pointer none),fun S hS=>?_,(fun _=>rfl),(fun S hS=>by cases hS)⟩,H.c.keep m (fun x (hx:x=_)=>by have:=A.apart;omega)⟩;obtain ⟨bt,cm,h1,h2,h3⟩:=H.y.tr S hS;exact ⟨bt,cm,h1,h2,h3.keep m zo zo⟩
end
end Go.Proofs.YtdhjjpnajjingaaGreat
namespace Go
section
variable {P:Program} {ops:Array Oper} {Q:Exit→Act→World→Prop} {md:Region.Mode} {w0:World}
theorem yb8 {v:Value} {fuel:Nat} {listed:Array Bool} {a:Act} {w:World} (i:Nat) (o:Oper) (ho:ops[i]?=some o) (hs:Region.noSelect ops=true) (hf:Region.free md ops listed i=true) (hr:(Region.ready md ops listed).contains i=true)
 (hQ: ∀(c:List PanicEntry) (a:Act) (d:Option Tmp) (v:Value) (w:World),Q (.panic c) (a.put d v) w→Q (.panic c) a w) (hg:o.guard=none) (hv: ∀w,(execOp a.eval o).run P w=.ok (.value v) w) (h:wpAny P md ops Q fuel (listed.setIfInBounds i true) (a.put o.dst v) w):wpAny P md ops Q (fuel+1) listed a w:=
 wpAny_take ho hs hf hr (fun c a w h=>hQ c a _ _ w h) (Or.inl ⟨by simp [Region.wanted,hg],hv⟩) h
theorem yb6 {fuel:Nat} {listed:Array Bool} {a:Act} {w:World} (i:Nat) (o:Oper) (hr:Region.ready md ops listed=[i]) (ho:ops[i]?=some o) (hg:o.guard=none)
 (h: ∀K:Act→World→Prop, ∀Q':Exit→Act→World→Prop,(∀a' w',wpAny P md ops Q fuel (listed.setIfInBounds i true) a' w'→K a' w')→o.wp P a w K Q'):wpAny P md ops Q (fuel+1) listed a w:=by
 refine wpAny_all hr (by simp) (fun j hj=>?_);simp only [List.mem_cons,List.not_mem_nil,or_false] at hj;subst hj;unfold wpOp;simp only [ho,Region.wanted,hg,if_true];exact .inl (h _ Q fun a2 w2 h4=>h4)
theorem yah {v:Value} {fuel:Nat} {listed:Array Bool} {a:Act} {w:World} (i:Nat) {o:Oper} (h:wpAny P md ops Q fuel (listed.setIfInBounds i true) (a.put o.dst v) w) (ho:ops[i]?=some o:=by exact rfl) (hg:o.guard=none:=by exact rfl)
 (hs:Region.noSelect ops=true:=by kernel_rfl) (hf:Region.free md ops listed i=true:=by kernel_rfl) (hr:(Region.ready md ops listed).contains i=true:=by kernel_rfl)
 (hQ: ∀(c:List PanicEntry) (a:Act) (d:Option Tmp) (v:Value) (w:World),Q (.panic c) (a.put d v) w→Q (.panic c) a w:=by (intro c a d v w h;cases d<;>exact h)) (hv: ∀w,(execOp a.eval o).run P w=.ok (.value v) w:=by (intro w;exact rfl)):wpAny P md ops Q (fuel+1) listed a w:=
 yb8 i o ho hs hf hr hQ hg hv h
theorem yam {fuel:Nat} {listed:Array Bool} {a:Act} {w:World} (i:Nat) {o:Oper}
 (h: ∀K:Act→World→Prop, ∀Q':Exit→Act→World→Prop,(∀a' w',wpAny P md ops Q fuel (listed.setIfInBounds i true) a' w'→K a' w')→o.wp P a w K Q') (ho:ops[i]?=some o:=by exact rfl) (hg:o.guard=none:=by exact rfl) (hr:Region.ready md ops listed=[i]:=by kernel_rfl):wpAny P md ops Q (fuel+1) listed a w:=
 yb6 i o hr ho hg h
theorem ybd {id:Nat} {a:Act} {w:World} {l:List Oper} (E:List Nat) (m:List Bool) (L:Nat) (o:Oper) (n2:Nat) (hm:P.follows .mixedOrders=true) (hs:Region.noSelect l.toArray=true) (hE:movesOk .any l.toArray E (Array.replicate l.length false)=true) (hLast:Region.lastE .any l.toArray E L=true) (hQ: ∀(c:List PanicEntry) (a:Act) (d:Option Tmp) (v:Value) (w:World),Q (.panic c) (a.put d v) w→Q (.panic c) a w)
 (hlen:m.length≤l.length) (hn:n2+1+countB m+E.length=l.length) (hM:maskBut L m 0=true) (hB:lexMask .any l.toArray m 0 (movesList E (Array.replicate l.length false))=true)
 (hr:Region.ready .any l.toArray (markOps m 0 (movesList E (Array.replicate l.length false)))=[L]) (ho:l[L]?=some o) (hg:o.guard=none)
 (h: ∀X00:Extra,wpQuiet P l.toArray (fun w'=> ∃X:Extra,w'=w.patch ⟨X00.blocks++X.blocks,X.drawn⟩) (fun a'=> ∀X, ∀K:Act→World→Prop, ∀Q':Exit→Act→World→Prop,
  (∀a2 w2,wpAny P .any l.toArray Q n2 ((markOps m 0 (movesList E (Array.replicate l.length false))).setIfInBounds L true) a2 w2→K a2 w2)→o.wp P a' (w.patch X) K Q') (pickOps m l) (movesAct l.toArray E a)):(Code.region id l.toArray true).wp P Q a w:=by
 obtain ⟨c1,c2⟩:=ybe (md:=.any) (ops:=l.toArray) E _ (Closed.start _ (by simp)) hE;obtain ⟨X,hX⟩:=Ext.drew (Ext.refl w)
 have h2:wpCalm P l.toArray w (fun a'=> ∀X,wpAnyM P .any l.toArray Q w L (n2+1) (markOps m 0 (movesList E (Array.replicate l.length false))) a' (w.patch X)) (pickOps m l) (movesAct l.toArray E a):=by
  refine yaG (fun a' h3 X=>?_) _ _ (yaq _ _ h);rintro w1 ⟨Y,rfl⟩;refine ⟨fun h0=>(by rw [hr] at h0;cases h0),fun j hj=>?_⟩;rw [hr] at hj;simp only [List.mem_singleton] at hj;subst hj;refine ⟨fun h0=>by omega,fun _=>?_⟩;obtain ⟨Z,hZ⟩:=(show Ext w ((w.patch X).patch Y) from Ext.trans ⟨X,rfl⟩ ⟨Y,rfl⟩);rw [hZ];have ho':l.toArray[j]?=some o:=by simpa using ho
  unfold wpOp;simp only [ho',Region.wanted,hg,if_true];exact .inl (h3 Z _ Q fun a2 w2 h4=>h4)
 have h5:=yaX (md:=.any) hLast hs hQ (n2+1) m l 0 _ _ c1 (fun i hi=>c2 i (Or.inr hi)) (by simp) hlen hB hM h2 X;rw [←hX] at h5;refine wp_region_any hm ?_;have h6:=ybN (md:=.any) hs hQ E (n2+1+countB m) _ a _ hE (yaK (w0:=w) (L:=L) _ _ _ _ h5);simpa [hn] using h6
theorem yaQ {id:Nat} {a:Act} {w:World} {l:List Oper} (E:List Nat) (m:List Bool) (L n2:Nat) {o:Oper}
 (h: ∀X00:Extra,wpQuiet P l.toArray (fun w'=> ∃X:Extra,w'=w.patch ⟨X00.blocks++X.blocks,X.drawn⟩) (fun a'=> ∀X, ∀K:Act→World→Prop, ∀Q':Exit→Act→World→Prop,
  (∀a2 w2,wpAny P .any l.toArray Q n2 ((markOps m 0 (movesList E (Array.replicate l.length false))).setIfInBounds L true) a2 w2→K a2 w2)→o.wp P a' (w.patch X) K Q') (pickOps m l) (movesAct l.toArray E a))
 (ho:l[L]?=some o:=by exact rfl) (hg:o.guard=none:=by exact rfl) (hm:P.follows .mixedOrders=true:=by kernel_rfl) (hs:Region.noSelect l.toArray=true:=by kernel_rfl) (hE:movesOk .any l.toArray E (Array.replicate l.length false)=true:=by kernel_rfl) (hLast:Region.lastE .any l.toArray E L=true:=by kernel_rfl)
 (hQ: ∀(c:List PanicEntry) (a:Act) (d:Option Tmp) (v:Value) (w:World),Q (.panic c) (a.put d v) w→Q (.panic c) a w:=by (intro c a d v w h;cases d<;>exact h))
 (hlen:m.length≤l.length:=by decide) (hn:n2+1+countB m+E.length=l.length:=by decide) (hM:maskBut L m 0=true:=by decide) (hB:lexMask .any l.toArray m 0 (movesList E (Array.replicate l.length false))=true:=by kernel_rfl)
 (hr:Region.ready .any l.toArray (markOps m 0 (movesList E (Array.replicate l.length false)))=[L]:=by kernel_rfl):(Code.region id l.toArray true).wp P Q a w:=
 ybd E m L o n2 hm hs hE hLast hQ hlen hn hM hB hr ho hg h
end
end Go
namespace Go
section
variable {P:Program} {a:Act} {w:World} {Q:Exit→Act→World→Prop}
end
end Go
namespace Go.Proofs.YtdhjjpnajjingaaGreat
open Go Go.RowKit
namespace CyW
def rootsV (W:CyW):CyW:=if W.y.at_=0 then { W with y:={ W.y with at_:=1,i:=0 } } else W
def rootsPoll (W:CyW):CyW:=if W.rootsV.pollsB then W.rootsV.polls.ent 5 else W.rootsV.polls
def rootsNone (W:CyW):CyW:={ W with y:={ W.y with head:=0,at_:=0,i:=W.y.i+1 },K:={ W.K with mem:=W.K.mem.tick } }
def marksEmpty (W:CyW):CyW:={ W with y:={ W.y with head:=W.K.pile.top,at_:=5,rescan:=false },K:={ W.K with pile:=W.K.pile.pop,n:=W.K.n+1 } }
def marksFound (W:CyW):CyW:=CyW.ent { W with K:={ W.K with pile:=W.K.pile.found,n:=W.K.n+1 } } 6
def hauled (W:CyW):HaulS:={ HaulS.fresh W.K.c (1-W.K.sp.coil.cur) 0 W.y.sense with pc:=11,steps:=1 }
def haulsNone (W:CyW):CyW:={ W with h:=some W.hauled,y:={ W.y with e:=0,at_:=2 } }
def haulsPost (W:CyW):CyW:=(W.posts 0 false).ent 8
end CyW
section
variable {P:Program} {a:Act} {w:World} {Q:Exit→Act→World→Prop}
end
section
variable {g:GW} {t B b k:Nat} {W:CyW}
end
end Go.Proofs.YtdhjjpnajjingaaGreat
namespace Go.Proofs.YtdhjjpnajjingaaGreat
open Go Go.RowKit
namespace CyW
def tick1 (W:CyW):CyW:=if 0<W.y.started then { W with y:={ W.y with steps:=W.y.steps+1 } } else W
theorem tick1_K (W:CyW):W.tick1.K=W.K:=by unfold tick1;split<;>rfl
theorem tick1_h (W:CyW):W.tick1.h=W.h:=by unfold tick1;split<;>rfl
theorem tick1_at (W:CyW):W.tick1.y.at_=W.y.at_:=by unfold tick1;split<;>rfl
theorem tick1_i (W:CyW):W.tick1.y.i=W.y.i:=by unfold tick1;split<;>rfl
end CyW
section
variable {g:GW} {t B b k:Nat} {W:CyW}
end
end Go.Proofs.YtdhjjpnajjingaaGreat
namespace Go.Proofs.YtdhjjpnajjingaaGreat
open Go Go.RowKit
structure IdleK (c:Cnf) (N:Int) (K:CoreS):Prop where
 cc:K.c=c
 own: ∀i,K.hand.own i= -1
 line:K.sp.line=[]
 free:(K.sp.pool.free:Int)=c.frags
 cur:K.sp.coil.cur<2
 u0:K.sp.coil.u0=0
 u1:K.sp.coil.u1=0
 kept:K.sp.coil.kept=0
 tab: ∀i,K.sp.tab.state i=0
 pl:K.pile.l=[]
 lost:K.pile.lost=false
 mem: ∀i,0≤i→i<c.globals→inB (i+cAhead c 3) K.mem.l.length=true∧wIndex (K.mem.peek (i+cAhead c 3))=none
 hc:0≤K.hand.count∧K.hand.count≤N
 sc:0≤K.sp.count∧K.sp.count≤N
 mc:0≤K.mem.count∧K.mem.count≤N
 nc:0≤K.n∧K.n≤N
theorem up {a N M:Int} (h:a≤N) (hm:N≤M):a≤M:=Int.le_trans h hm
namespace IdleK
variable {c:Cnf} {N:Int} {K:CoreS}
theorem mono (h:IdleK c N K) {M:Int} (hm:N≤M):IdleK c M K:=⟨h.cc,h.own,h.line,h.free,h.cur,h.u0,h.u1,h.kept,h.tab,h.pl,h.lost,h.mem,⟨h.hc.1,up h.hc.2 zo⟩,⟨h.sc.1,up h.sc.2 zo⟩,⟨h.mc.1,up h.mc.2 zo⟩,⟨h.nc.1,up h.nc.2 zo⟩⟩
theorem hand (h:IdleK c N K) {H:HandS} (hl:H.l=K.hand.l) (hc:H.count=K.hand.count+1):IdleK c (N+1) { K with hand:=H }:=by
 obtain ⟨a0,a1⟩:=h.hc;exact ⟨h.cc,(fun i=>by have:=h.own i;unfold HandS.own at this ⊢;simp only [hl];exact this),h.line,h.free,h.cur,h.u0,h.u1,h.kept,h.tab,h.pl,h.lost,h.mem,⟨by show 0≤H.count;omega,by show H.count≤_;omega⟩,⟨h.sc.1,up h.sc.2 zo⟩,⟨h.mc.1,up h.mc.2 zo⟩,⟨h.nc.1,up h.nc.2 zo⟩⟩
theorem yfL (H:HandS) (s:Int) (f:Bool):(H.post s f).l=H.l∧(H.post s f).count=H.count+1:=by
 unfold HandS.post HandS.tick;split<;>exact ⟨rfl,rfl⟩
theorem post (h:IdleK c N K) (s:Int) (f:Bool):IdleK c (N+1) { K with hand:=K.hand.post s f }:=h.hand (yfL _ s f).1 (yfL _ s f).2
theorem tick (h:IdleK c N K):IdleK c (N+1) { K with hand:=K.hand.tick }:=h.hand rfl rfl
theorem sp (h:IdleK c N K) {S:SpaceS} (hl:S.line=[]) (hf:S.pool=K.sp.pool) (ht:S.tab=K.sp.tab) (hcur:S.coil.cur<2) (h0:S.coil.u0=0) (h1:S.coil.u1=0) (hk:S.coil.kept=0) (hc:S.count=K.sp.count+1):IdleK c (N+1) { K with sp:=S }:=by
 obtain ⟨a0,a1⟩:=h.sc;exact ⟨h.cc,h.own,hl,by show (S.pool.free:Int)=_;rw [hf];exact h.free,hcur,h0,h1,hk,(fun i=>by show S.tab.state i=0;rw [ht];exact h.tab i),h.pl,h.lost,h.mem,⟨h.hc.1,up h.hc.2 zo⟩,⟨by show 0≤S.count;omega,by show S.count≤_;omega⟩,⟨h.mc.1,up h.mc.2 zo⟩,⟨h.nc.1,up h.nc.2 zo⟩⟩
theorem yid (h:IdleK c N K):IdleK c (N+1) { K with sp:=beginS K.sp }:=h.sp (show K.sp.line.map noteE=[] by rw [h.line];rfl) rfl rfl h.cur h.u0 h.u1 h.kept rfl
theorem ends (h:IdleK c N K):IdleK c (N+1) { K with sp:=endS K.sp }:=h.sp (show K.sp.line.map endE=[] by rw [h.line];rfl) rfl rfl h.cur h.u0 h.u1 h.kept rfl
theorem used (h:IdleK c N K) (s:Nat):K.sp.coil.used s=0:=by
 unfold CoilS.used;split
 · exact h.u0
 · exact h.u1
theorem turn (h:IdleK c N K):IdleK c (N+1) { K with sp:=turnS K.sp }:=by
 have ht:K.sp.coil.turn={ K.sp.coil with kept:=K.sp.coil.used K.sp.coil.cur,cur:=1-K.sp.coil.cur }:=if_pos (by unfold CoilS.turnable;rw [h.used];rfl);refine h.sp (S:=turnS K.sp) h.line rfl rfl ?_ ?_ ?_ ?_ rfl
 · show K.sp.coil.turn.cur<2;rw [ht];show 1-K.sp.coil.cur<2;omega
 · show K.sp.coil.turn.u0=0;rw [ht];exact h.u0
 · show K.sp.coil.turn.u1=0;rw [ht];exact h.u1
 · show K.sp.coil.turn.kept=0;rw [ht];exact h.used _
theorem done (h:IdleK c N K):IdleK c (N+1) { K with sp:=doneS K.sp }:=by
 have ht:K.sp.coil.done=if K.sp.coil.cur=0 then { K.sp.coil with u1:=0 } else { K.sp.coil with u0:=0 }:=if_pos (by unfold CoilS.doneable;rw [h.kept];rfl);refine h.sp (S:=doneS K.sp) h.line rfl rfl ?_ ?_ ?_ ?_ rfl
 · show K.sp.coil.done.cur<2;rw [ht];split<;>exact h.cur
 · show K.sp.coil.done.u0=0;rw [ht];split
   · exact h.u0
   · rfl
 · show K.sp.coil.done.u1=0;rw [ht];split
   · rfl
   · exact h.u1
 · show K.sp.coil.done.kept=0;rw [ht];split<;>exact h.kept
theorem yie (h:IdleK c N K) (hf:K.sp.forced=true):wantsS K.sp=true:=by
 unfold wantsS;rw [hf,Bool.or_true,Bool.or_true]
theorem pile (h:IdleK c N K) {p:PileS} (hp:p.l=[]) (hl:p.lost=false):IdleK c (N+1) { K with pile:=p,n:=K.n+1 }:=by
 obtain ⟨a0,a1⟩:=h.nc;exact ⟨h.cc,h.own,h.line,h.free,h.cur,h.u0,h.u1,h.kept,h.tab,hp,hl,h.mem,⟨h.hc.1,up h.hc.2 zo⟩,⟨h.sc.1,up h.sc.2 zo⟩,⟨h.mc.1,up h.mc.2 zo⟩,⟨by show 0≤K.n+1;omega,by show K.n+1≤_;omega⟩⟩
end IdleK
structure JB (c:Cnf) (n N:Int) (W:CyW):Prop where
 K:IdleK c N W.K
 e:W.y.e=0
 fin:W.y.finished=n
 fr:W.y.freed=0
 mv:W.y.moved=0
 st:0≤W.y.steps∧W.y.steps≤N
 ib:0≤W.y.i∧W.y.i≤5000
namespace JB
variable {c:Cnf} {n N:Int} {W:CyW}
theorem polled (h:JB c n N W):W.polled=true:=by
 unfold CyW.polled HandS.polled;rw [h.K.own];rfl
theorem nextI (h:JB c n N W):W.nextI=W.y.i+1:=by
 unfold CyW.nextI;rw [h.polled];rfl
theorem pollsB (h:JB c n N W):W.pollsB=(W.y.i+1==c.threads):=by
 unfold CyW.pollsB;rw [h.nextI,h.K.cc]
theorem polls (h:JB c n N W) (hi:W.y.i≤4999):JB c n (N+1) W.polls:=
 ⟨h.K.tick,h.e,h.fin,h.fr,h.mv,⟨h.st.1,up h.st.2 zo⟩,⟨by show 0≤W.nextI;rw [h.nextI];have:=h.ib;omega,by show W.nextI≤_;rw [h.nextI];omega⟩⟩
theorem posts (h:JB c n N W) (s:Int) (f:Bool):JB c n (N+1) (W.posts s f):=⟨h.K.post s f,h.e,h.fin,h.fr,h.mv,⟨h.st.1,up h.st.2 zo⟩,h.ib⟩
theorem ent (h:JB c n N W) (s:Int):JB c n N (W.ent s):=⟨h.K,h.e,h.fin,h.fr,h.mv,h.st,by show (0:Int)≤0∧(0:Int)≤5000;omega⟩
theorem atY (h:JB c n N W) (s:Int):JB c n N (W.atY s):=⟨h.K,h.e,h.fin,h.fr,h.mv,h.st,h.ib⟩
theorem spc (h:JB c n N W) {S:SpaceS} (hk:IdleK c (N+1) { W.K with sp:=S }):JB c n (N+1) (W.spc S):=⟨hk,h.e,h.fin,h.fr,h.mv,⟨h.st.1,up h.st.2 zo⟩,h.ib⟩
theorem mono (h:JB c n N W) {M:Int} (hm:N≤M):JB c n M W:=⟨h.K.mono hm,h.e,h.fin,h.fr,h.mv,⟨h.st.1,up h.st.2 zo⟩,h.ib⟩
theorem tick1 (h:JB c n N W):JB c n (N+1) W.tick1:=by
 obtain ⟨s0,s1⟩:=h.st;unfold CyW.tick1;split
 · exact ⟨h.K.mono zo,h.e,h.fin,h.fr,h.mv,⟨by show 0≤W.y.steps+1;omega,by show W.y.steps+1≤_;omega⟩,h.ib⟩
 · exact h.mono zo
end JB
theorem CyW.tick1_stage (W:CyW):W.tick1.y.stage=W.y.stage:=by unfold CyW.tick1;split<;>rfl
theorem CyW.tick1_started (W:CyW):W.tick1.y.started=W.y.started:=by unfold CyW.tick1;split<;>rfl
theorem CyW.tick1_sense (W:CyW):W.tick1.y.sense=W.y.sense:=by unfold CyW.tick1;split<;>rfl
end Go.Proofs.YtdhjjpnajjingaaGreat
namespace Go.Proofs.YtdhjjpnajjingaaGreat
open Go Go.RowKit
structure Tk (c:Cnf) (n N:Int) (W V:CyW):Prop where
 b:JB c n N V
 s:V.y.stage=W.y.stage
 a:V.y.at_=W.y.at_
 i:V.y.i=W.y.i
 st:V.y.started=W.y.started
 se:V.y.sense=W.y.sense
 h:V.h=W.h
 K:V.K=W.K
theorem JB.tk {c:Cnf} {n N:Int} {W:CyW} (h:JB c n N W):Tk c n (N+1) W W.tick1:=⟨h.tick1,W.tick1_stage,W.tick1_at,W.tick1_i,W.tick1_started,W.tick1_sense,W.tick1_h,W.tick1_K⟩
section
variable {c:Cnf} {n L:Int} {s0:Bool} {W V:CyW}
end
end Go.Proofs.YtdhjjpnajjingaaGreat
namespace Go.Proofs.YtdhjjpnajjingaaGreat
open Go Go.RowKit
def CyW.idles (W:CyW):CyW:=if wantsS W.K.sp then (W.spc W.K.sp.tick).ent 1 else W.spc W.K.sp.tick
section
variable {g:GW} {t B b k:Nat} {W:CyW}
theorem ybh (A:CyApart t B) (hd:W.Bd) (he:W.y.e=0) (hst:W.y.stage=0) (H:CyWAt g t B b k W):Calls prog 19 #[.pointer (some ⟨b,0,none⟩),.pointer (some ⟨k,0,none⟩)] g.w (Does (.tuple #[]) g (cyT t B) (fun g'=>CyWAt g' t B b k W.tick1.idles)):=by
 obtain ⟨tp,hp,bm,bs,bt,bp,bsp,bh,cm,H⟩:=H;have HH:=zH H;have HD:=zH hd;obtain ⟨a0,a1,a2,a3,a4,a5,a6,a7,a8,a9,a10,a11,a12,a13,al⟩:=H.y.blk.k14;have af12:=H.y.blk.liv 12;obtain ⟨c0,c1,c2,c3,c4,c5,c6,c7,c8,c9,c10,c11,c12,cl⟩:=H.c.blk.k13;rw [hst] at a0;rw [he] at a13;obtain ⟨hs0,hs1⟩:=hd.steps;clear H hd hst he;by_cases hs:0<W.y.started
 · have d1:decide (0<W.y.started)=true:=decide_eq_true hs;have HT:=zH (show W.tick1={ W with y:={ W.y with steps:=W.y.steps+1 } } from if_pos hs);have H1:=zH (show CyIn ⟨g.own,g.w.setCell ⟨b,12,none⟩ (zI z6 (W.y.steps+1))⟩ t B b k { W with y:={ W.y with steps:=W.y.steps+1 } } tp hp bm bs bt bp bsp bh cm from HH.out.set A 12 (zI z6 (W.y.steps+1)) { W.y with steps:=W.y.steps+1 } rfl);have M1:=zH (show Mod (cyT t B) g ⟨g.own,g.w.setCell ⟨b,12,none⟩ (zI z6 (W.y.steps+1))⟩ from Mod.st Mod.self HH.out.modY);clear hs;have HWT:=zH (ybL ⟨g.own,g.w.setCell ⟨b,12,none⟩ (zI z6 (W.y.steps+1))⟩ B bsp bt W.K.sp H1.out.c.sp A.hb HD.out.sp);go_enter func19,ntmps19;go_wp2_with fail;refine HWT.out.mono ?_;rintro e w2 ⟨rfl,own2,m2,h2⟩;have M2:=zH (M1.out.trans (m2.mono (S:=cyT t B) (fun x hx=>ycM hx)));have H2:=zH (show CyIn ⟨own2,w2⟩ t B b k { y:={ W.y with steps:=W.y.steps+1 },tr:=W.tr,h:=W.h,K:={ W.K with sp:=W.K.sp.tick } } tp hp bm bs bt bp bsp bh cm from H1.out.spc A m2 h2);clear m2 h2 HWT a0 a1 a2 a3 a4 a5 a6 a7 a8 a9 a10 a11 a12 a13 af12 al c0 c1 c2 c3 c4 c5 c6 c7 c8 c9 c10 c11 c12 cl;cases hw:wantsS W.K.sp
   · have HF:=zH (show W.tick1.idles={ y:={ W.y with steps:=W.y.steps+1 },tr:=W.tr,h:=W.h,K:={ W.K with sp:=W.K.sp.tick } } from by rw [HT.out];unfold CyW.idles;rw [hw];rfl);clear hw;go_wp2_with fail;exact bodyPost_end (results_none rfl _ _ _) rfl (Does.of ⟨own2,w2⟩ rfl rfl M2.out (by rw [HF.out];exact H2.out.at_))
   · have HF:=zH (show W.tick1.idles=CyW.ent { y:={ W.y with steps:=W.y.steps+1 },tr:=W.tr,h:=W.h,K:={ W.K with sp:=W.K.sp.tick } } 1 from by rw [HT.out];unfold CyW.idles;rw [hw];rfl);clear hw;go_wp2_with fail;refine (ycj A 1 H2.out).mono ?_;rintro e w3 ⟨rfl,own3,m3,h3⟩;have M3:=zH (M2.out.trans m3);have H3:=zH h3;clear m3 h3;go_wp2_with fail;exact bodyPost_end (results_none rfl _ _ _) rfl (Does.of ⟨own3,w3⟩ rfl rfl M3.out (by rw [HF.out];exact H3.out.at_))
 · have d1:decide (0<W.y.started)=false:=decide_eq_false hs;have HT:=zH (show W.tick1=W from if_neg hs);have H1:=zH (show CyIn ⟨g.own,g.w⟩ t B b k W tp hp bm bs bt bp bsp bh cm from HH.out);have M1:=zH (show Mod (cyT t B) g ⟨g.own,g.w⟩ from Mod.self);clear hs;have HWT:=zH (ybL ⟨g.own,g.w⟩ B bsp bt W.K.sp H1.out.c.sp A.hb HD.out.sp);go_enter func19,ntmps19;go_wp2_with fail;refine HWT.out.mono ?_;rintro e w2 ⟨rfl,own2,m2,h2⟩;have M2:=zH (M1.out.trans (m2.mono (S:=cyT t B) (fun x hx=>ycM hx)));have H2:=zH (show CyIn ⟨own2,w2⟩ t B b k { y:=W.y,tr:=W.tr,h:=W.h,K:={ W.K with sp:=W.K.sp.tick } } tp hp bm bs bt bp bsp bh cm from H1.out.spc A m2 h2);clear m2 h2 HWT a0 a1 a2 a3 a4 a5 a6 a7 a8 a9 a10 a11 a12 a13 af12 al c0 c1 c2 c3 c4 c5 c6 c7 c8 c9 c10 c11 c12 cl;cases hw:wantsS W.K.sp
   · have HF:=zH (show W.tick1.idles={ y:=W.y,tr:=W.tr,h:=W.h,K:={ W.K with sp:=W.K.sp.tick } } from by rw [HT.out];unfold CyW.idles;rw [hw];rfl);clear hw;go_wp2_with fail;exact bodyPost_end (results_none rfl _ _ _) rfl (Does.of ⟨own2,w2⟩ rfl rfl M2.out (by rw [HF.out];exact H2.out.at_))
   · have HF:=zH (show W.tick1.idles=CyW.ent { y:=W.y,tr:=W.tr,h:=W.h,K:={ W.K with sp:=W.K.sp.tick } } 1 from by rw [HT.out];unfold CyW.idles;rw [hw];rfl);clear hw;go_wp2_with fail;refine (ycj A 1 H2.out).mono ?_;rintro e w3 ⟨rfl,own3,m3,h3⟩;have M3:=zH (M2.out.trans m3);have H3:=zH h3;clear m3 h3;go_wp2_with fail;exact bodyPost_end (results_none rfl _ _ _) rfl (Does.of ⟨own3,w3⟩ rfl rfl M3.out (by rw [HF.out];exact H3.out.at_))
end
section
variable {g:GW} {t B b k:Nat} {W:CyW} {c:Cnf} {n L:Int} {s0:Bool}
end
end Go.Proofs.YtdhjjpnajjingaaGreat
namespace Go.Proofs.YtdhjjpnajjingaaGreat
open Go Go.RowKit
namespace CyW
def cOk (n:Int):Bool:=decide (0≤n∧n≤1099511627776)
def bdB (W:CyW):Bool:=cOk W.y.i&&(cOk W.y.started&&(cOk W.y.finished&&(cOk W.y.freed&&(cOk W.y.moved&&(cOk W.y.steps&&(cOk W.K.hand.count&&(cOk W.K.sp.count&&(cOk W.K.mem.count&&cOk W.K.n))))))))
theorem bdB_of {W:CyW} (h:W.bdB=true):W.Bd:=by
 unfold bdB cOk at h;simp only [Bool.and_eq_true,decide_eq_true_eq] at h;obtain ⟨h1,h2,h3,h4,h5,h6,h7,h8,h9,h10⟩:=h;exact ⟨h1,h2,h3,h4,h5,h6,h7,h8,h9,h10⟩
def entOk (e:Ent):Bool:=decide ((0≤e.cycles∧e.cycles≤1099511627776)∧(1≤e.frags∧e.frags≤1099511627776∧0≤e.spine∧e.spine≤1099511627776))
def rootsO (W:CyW):Option CyW:=
 if W.y.at_=3 then none
 else if W.K.c.globals≤W.y.i∨W.y.at_=1 then some W.rootsPoll
 else if W.y.at_=0∧0≤W.y.i∧W.K.c.check=0∧inB (W.y.i+cAhead W.K.c 3) W.K.mem.l.length=true∧(wIndex (W.K.mem.peek (W.y.i+cAhead W.K.c 3))).isNone=true then some W.rootsNone else none
def marksO (W:CyW):Option CyW:=
 if W.y.at_=0 then (if W.K.pile.some_=false then some W.marksEmpty else none)
 else if W.y.at_=5 then (if W.K.pile.lost=false then some W.marksFound else none) else none
def haulsO (W:CyW):Option CyW:=
 if W.y.at_=0 then (if W.h.isNone=true∧W.K.c.check=0∧W.K.sp.coil.used (1-W.K.sp.coil.cur)=0 then some W.haulsNone else none)
 else if W.y.at_=2 then some W.haulsPost else none
def stageO (W:CyW):Option CyW:=
 if W.y.stage=1 then some W.starts else if W.y.stage=2 then some (W.hands 2 3) else if W.y.stage=3 then some (W.hands 3 4)
 else if W.y.stage=4 then W.rootsO else if W.y.stage=5 then W.marksO else if W.y.stage=6 then some W.turns
 else if W.y.stage=7 then W.haulsO
 else if W.y.stage=8 then (if W.y.at_=0∨W.K.sp.coil.kept≤0 then some W.settles else none)
 else if W.y.stage=9 then some W.sweepsY
 else if W.y.stage=10 then (if W.K.sp.line.all entOk then some W.serves else none)
 else none
def stepO (W:CyW):Option CyW:=
 if (W.bdB&&(W.tick1.bdB&&W.y.e==0))=false then none
 else if W.y.stage=0 then some W.tick1.idles
 else W.tick1.stageO
end CyW
section
variable {g:GW} {t B b k:Nat} {W:CyW}
end
end Go.Proofs.YtdhjjpnajjingaaGreat
namespace Go.Proofs.YtdhjjpnajjingaaGreat
open Go Go.RowKit
structure TraceS.Bd (S:TraceS):Prop where
 j:0≤S.j∧S.j≤1000
 n:0≤S.n∧S.n≤512
 base:0≤S.base∧S.base≤100000
 chk:S.c.check=0
 may:S.shp.may=true
theorem TraceIs.tail {g:GW} {t b:Nat} {S:TraceS} {P:TrPl} {x:Int} {l:List Int} {bq oq:Nat} (h:TraceIs g t b S P) (hw:S.words=x::l) (hA:P.wA=some ⟨bq,oq,none⟩):
 TraceIs ⟨g.own,g.w.setCell ⟨b,16,none⟩ (.slice (if P.wc=1 then some ⟨bq,oq,none⟩ else some ⟨bq,oq+1,none⟩) l.length (P.wc-1))⟩ t b { S with words:=l } ⟨P.sA,P.sc,if P.wc=1 then some ⟨bq,oq,none⟩ else some ⟨bq,oq+1,none⟩,P.wc-1⟩:=by
 have m2:Mod (fun x=>x=t) g ⟨g.own,g.w.setCell ⟨b,16,none⟩ (.slice (if P.wc=1 then some ⟨bq,oq,none⟩ else some ⟨bq,oq+1,none⟩) l.length (P.wc-1))⟩:=Mod.st Mod.self h.blk.own;have hl:=h.wlen;rw [hw] at hl;simp only [List.length_cons] at hl;refine ⟨h.blk.set 16 (.slice (if P.wc=1 then some ⟨bq,oq,none⟩ else some ⟨bq,oq+1,none⟩) l.length (P.wc-1)),h.cnf.keep m2 zo,h.shp.keep m2 zo,?_,⟨by show l.length≤P.wc-1;omega,by show P.wc-1≤_;omega⟩⟩;have hs:=h.words;rw [hw,hA] at hs;refine Seg.keep (S:=fun x=>x=t) (g:=g) ?_ m2 zo;by_cases hc:P.wc=1
 · have:l=[]:=by cases l with
    |nil=>rfl
    |cons y l=>simp at hl;omega
   rw [this];exact Seg.nil _ _ _
 · rw [if_neg hc];refine ⟨?_,fun a ha hv=>?_⟩
   · have:=hs.cells.sub 1;simpa [Addr.add] using this
   · injection ha with ha;subst ha;exact hs.own ⟨bq,oq,none⟩ rfl (by simp)
end Go.Proofs.YtdhjjpnajjingaaGreat
namespace Go
section
variable {P:Program} {a:Act} {w:World} {Q:Exit→Act→World→Prop}
end
end Go
namespace Go.Proofs.YtdhjjpnajjingaaGreat
open Go Go.RowKit
theorem TraceAt.ticked {g:GW} {t b:Nat} {S:TraceS} (h:TraceAt g t b S):TraceAt ⟨g.own,g.w.setCell ⟨b,22,none⟩ (zI z6 (S.steps+1))⟩ t b { S with steps:=S.steps+1 }:=by
 obtain ⟨P,h⟩:=h;exact ⟨P,h.st 22 (zI z6 (S.steps+1)) { S with steps:=S.steps+1 } rfl rfl rfl rfl rfl⟩
open Go Go.RowKit Go.Maps
theorem yf6 (c:Cnf) (got:List Int):wFrags c got=.tuple #[.bool (!got.all (fragOk c)),.bool (got.all (fragOk c)&&twiceIn got)]:=by
 unfold wFrags;cases got.all (fragOk c)<;>rfl
def wrongE (c:Cnf) (is:Bool) (s:Shp) (n:Int) (array:Bool) (got:List Int):Int:=
 if c.check≠0∨got.all (fragOk c)=false then 1
 else if is=false∨s.arr≠array then 4
 else if s.size n<0 then 5
 else if (got.length:Int)≠s.size n∨twiceIn got=true then 2 else 0
def WrongGot (c:Cnf) (kind n:Int) (array:Bool) (got:List Int) (w:World) (e:Ending) (w':World):Prop:=
 ∃s':Shp,e=.returned (.tuple #[s'.val,.int .i64 (wrongE c (c.shapeAt kind).isSome s' n array got)])∧(s'.arr,s'.refs)=(c.shapeAt kind).getD (false,[])∧s'.Ok w'∧Ext w w'
theorem ygd (c:Cnf) (kind n:Int) (array:Bool) (A:Option Addr) (cap:Nat) (got:List Int) (w:World) (hc:c.Ok w) (hg:CellsAt w A (got.map (Value.int .i64))) (hl:got.length≤140737488355328) (hw: ∀x∈got, -9223372036854775808≤x∧x≤9223372036854775807):
 Calls prog 218 #[c.val,.int .i64 kind,.int .i64 n,.bool array,.slice A got.length cap] w (WrongGot c kind n array got w):=by
 have HF:=zH (fun w' (he:Ext w w')=>yf6 c got▸ye7 c A cap got w' (hc.ext he) (hg.ext he) hl hw);have HS:=zH (fun w' (he:Ext w w')=>ybu c kind w' (hc.ext he));have HC:=zH (fun w' (he:Ext w w')=>yaA c w' (hc.ext he));unfold Cnf.val at HF HS HC ⊢;generalize hA:got.all (fragOk c)=al at HF;generalize hT:twiceIn got=tw at HF;have HA:=zH hA;have HT:=zH hT;clear hA hT;go_enter func218,ntmps218;go_wp2_with fail;refine ydd 0 rfl ?_;go_wp2_with fail;refine (HF.out _ zE).mono ?_;rintro e w1 ⟨rfl,X1,rfl⟩;go_wp2_with fail;refine (HS.out _ zE).mono ?_;rintro e w1 ⟨s',rfl,hs',hfr,hok,X2,rfl⟩;obtain ⟨arr,A',cap',refs⟩:=s';unfold Shp.val;rw [World.patch_patch] at hok;have HX:=zH hs'
 have HF':=zH (show∀a,A'=some a→w.heap.size+1≠a.block from fun a ha e=>by
  have:=hfr a ha;simp only [World.size_patch,World.size_alloc] at this;omega)
 clear hfr;have HO:=zH hok;generalize hI:(c.shapeAt kind).isSome=is;have HI:=zH hI;clear hs' hok hI;go_wp2_with fail;refine (HC.out _ zE).mono ?_;rintro e w1 ⟨rfl,X3,rfl⟩;generalize hK:c.check=ck;have HK:=zH hK;clear hK;have HZ:=zH (fun w' (he:Ext ((w.alloc (.cells #[.int .i64 c.frags,.int .i64 c.spine,.int .i64 c.globals,.int .i64 c.threads,.int .i64 c.locals,.int .i64 c.cache,.int .i64 c.stack,.int .i64 c.low,.slice c.A c.shapes.length c.cap] 34)).alloc (.cells #[.bool false,.slice none 0 0] 94) |>.patch ⟨X1.blocks++X2.blocks,X2.drawn⟩) w')=>yc9 ⟨arr,A',cap',refs⟩ n w' (HO.out.ext he));unfold Shp.val at HZ;simp only at HZ;cases al
 · have HE:=zH (show wrongE c is ⟨arr,A',cap',refs⟩ n array got=1 from if_pos (Or.inr HA.out));go_wp2_with fail
   all_goals
    go_step3
    refine ⟨rfl,?_⟩;go_wp2_with fail;rw [Exit.noGoto_ret];refine bodyPost_ret (v:=.tuple #[.agg #[.bool arr,.slice A' refs.length cap'],.int .i64 1]) (by simp [results,Tryz.results218,go_sem]) rfl ?_;exact ⟨⟨arr,A',cap',refs⟩,by rw [HI.out,HE.out];rfl,HX.out,((HO.out.ext zE).setCell HF'.out).setCell HF'.out,zE⟩
 by_cases h0:ck≠0
 · have HE:=zH (show wrongE c is ⟨arr,A',cap',refs⟩ n array got=1 from if_pos (Or.inl (by rw [HK.out];exact h0)));go_wp2_with fail;go_step3
   refine ⟨rfl,?_⟩;go_wp2_with fail;rw [Exit.noGoto_ret];refine bodyPost_ret (v:=.tuple #[.agg #[.bool arr,.slice A' refs.length cap'],.int .i64 1]) (by simp [results,Tryz.results218,go_sem]) rfl ?_;exact ⟨⟨arr,A',cap',refs⟩,by rw [HI.out,HE.out];rfl,HX.out,((HO.out.ext zE).setCell HF'.out).setCell HF'.out,zE⟩
 obtain rfl:ck=0:=zo;have HN:=zH (show¬(c.check≠0∨got.all (fragOk c)=false) by rw [HK.out,HA.out];simp);clear h0;by_cases hq:is=false∨arr≠array
 · have HE:=zH (show wrongE c is ⟨arr,A',cap',refs⟩ n array got=4 from (if_neg HN.out).trans (if_pos hq));cases is
   · clear hq;go_wp2_with fail;go_step3
     refine ⟨rfl,?_⟩;go_wp2_with fail;rw [Exit.noGoto_ret];refine bodyPost_ret (v:=.tuple #[.agg #[.bool arr,.slice A' refs.length cap'],.int .i64 4]) (by simp [results,Tryz.results218,go_sem]) rfl ?_;exact ⟨⟨arr,A',cap',refs⟩,by rw [HI.out,HE.out];rfl,HX.out,((HO.out.ext zE).setCell HF'.out).setCell HF'.out,zE⟩
   · rcases (show (arr=true∧array=false)∨(arr=false∧array=true) by cases arr<;>cases array<;>simp_all) with ⟨rfl,rfl⟩|⟨rfl,rfl⟩
     · clear hq;go_wp2_with fail;go_step3
       refine ⟨rfl,?_⟩;go_wp2_with fail;rw [Exit.noGoto_ret];refine bodyPost_ret (v:=.tuple #[.agg #[.bool true,.slice A' refs.length cap'],.int .i64 4]) (by simp [results,Tryz.results218,go_sem]) rfl ?_;exact ⟨⟨true,A',cap',refs⟩,by rw [HI.out,HE.out];rfl,HX.out,((HO.out.ext zE).setCell HF'.out).setCell HF'.out,zE⟩
     · clear hq;go_wp2_with fail;go_step3
       refine ⟨rfl,?_⟩;go_wp2_with fail;rw [Exit.noGoto_ret];refine bodyPost_ret (v:=.tuple #[.agg #[.bool false,.slice A' refs.length cap'],.int .i64 4]) (by simp [results,Tryz.results218,go_sem]) rfl ?_;exact ⟨⟨false,A',cap',refs⟩,by rw [HI.out,HE.out];rfl,HX.out,((HO.out.ext zE).setCell HF'.out).setCell HF'.out,zE⟩
 obtain ⟨rfl,rfl⟩:is=true∧array=arr:=by
  constructor
  · cases is
    · exact absurd (Or.inl rfl) hq
    · rfl
  · cases arr<;>cases array<;>simp_all
 have HN2:=zH hq;clear hq;generalize hS:Shp.size ⟨array,A',cap',refs⟩ n=sz at HZ;have HS':=zH hS;clear hS;by_cases h5:sz<0
 · have HE:=zH (show wrongE c true ⟨array,A',cap',refs⟩ n array got=5 from (if_neg HN.out).trans ((if_neg HN2.out).trans (if_pos (by rw [HS'.out];exact h5))));cases array
   · go_wp2_with fail;refine (HZ.out _ zE).mono ?_;rintro e w1 ⟨rfl,X4,rfl⟩;go_wp2_with fail;go_step3
     refine ⟨rfl,?_⟩;go_wp2_with fail;rw [Exit.noGoto_ret];refine bodyPost_ret (v:=.tuple #[.agg #[.bool false,.slice A' refs.length cap'],.int .i64 5]) (by simp [results,Tryz.results218,go_sem]) rfl ?_;exact ⟨⟨false,A',cap',refs⟩,by rw [HI.out,HE.out];rfl,HX.out,((HO.out.ext zE).setCell HF'.out).setCell HF'.out,zE⟩
   · go_wp2_with fail;refine (HZ.out _ zE).mono ?_;rintro e w1 ⟨rfl,X4,rfl⟩;go_wp2_with fail;go_step3
     refine ⟨rfl,?_⟩;go_wp2_with fail;rw [Exit.noGoto_ret];refine bodyPost_ret (v:=.tuple #[.agg #[.bool true,.slice A' refs.length cap'],.int .i64 5]) (by simp [results,Tryz.results218,go_sem]) rfl ?_;exact ⟨⟨true,A',cap',refs⟩,by rw [HI.out,HE.out];rfl,HX.out,((HO.out.ext zE).setCell HF'.out).setCell HF'.out,zE⟩
 by_cases h6:(got.length:Int)=sz
 · subst h6;clear h5;cases tw
   · have HE:=zH (show wrongE c true ⟨array,A',cap',refs⟩ n array got=0 from (if_neg HN.out).trans ((if_neg HN2.out).trans ((if_neg (by rw [HS'.out];omega)).trans (if_neg (by rw [HS'.out,HT.out];simp)))));cases array
     · go_wp2_with fail;refine (HZ.out _ zE).mono ?_;rintro e w1 ⟨rfl,X4,rfl⟩;go_wp2_with fail;refine (HZ.out _ zE).mono ?_;rintro e w1 ⟨rfl,X5,rfl⟩;go_wp2_with fail;go_step3
       go_wp2_with fail;rw [Exit.jump_ret];refine bodyPost_ret (v:=.tuple #[.agg #[.bool false,.slice A' refs.length cap'],.int .i64 0]) (by simp [results,Tryz.results218,go_sem]) rfl ?_;exact ⟨⟨false,A',cap',refs⟩,by rw [HI.out,HE.out];rfl,HX.out,((HO.out.ext zE).setCell HF'.out).setCell HF'.out,zE⟩
     · go_wp2_with fail;refine (HZ.out _ zE).mono ?_;rintro e w1 ⟨rfl,X4,rfl⟩;go_wp2_with fail;refine (HZ.out _ zE).mono ?_;rintro e w1 ⟨rfl,X5,rfl⟩;go_wp2_with fail;go_step3
       go_wp2_with fail;rw [Exit.jump_ret];refine bodyPost_ret (v:=.tuple #[.agg #[.bool true,.slice A' refs.length cap'],.int .i64 0]) (by simp [results,Tryz.results218,go_sem]) rfl ?_;exact ⟨⟨true,A',cap',refs⟩,by rw [HI.out,HE.out];rfl,HX.out,((HO.out.ext zE).setCell HF'.out).setCell HF'.out,zE⟩
   · have HE:=zH (show wrongE c true ⟨array,A',cap',refs⟩ n array got=2 from (if_neg HN.out).trans ((if_neg HN2.out).trans ((if_neg (by rw [HS'.out];omega)).trans (if_pos (Or.inr HT.out)))));cases array
     · go_wp2_with fail;refine (HZ.out _ zE).mono ?_;rintro e w1 ⟨rfl,X4,rfl⟩;go_wp2_with fail;refine (HZ.out _ zE).mono ?_;rintro e w1 ⟨rfl,X5,rfl⟩;go_wp2_with fail;go_step3
       go_wp2_with fail;rw [Exit.jump_ret];refine bodyPost_ret (v:=.tuple #[.agg #[.bool false,.slice A' refs.length cap'],.int .i64 2]) (by simp [results,Tryz.results218,go_sem]) rfl ?_;exact ⟨⟨false,A',cap',refs⟩,by rw [HI.out,HE.out];rfl,HX.out,((HO.out.ext zE).setCell HF'.out).setCell HF'.out,zE⟩
     · go_wp2_with fail;refine (HZ.out _ zE).mono ?_;rintro e w1 ⟨rfl,X4,rfl⟩;go_wp2_with fail;refine (HZ.out _ zE).mono ?_;rintro e w1 ⟨rfl,X5,rfl⟩;go_wp2_with fail;go_step3
       go_wp2_with fail;rw [Exit.jump_ret];refine bodyPost_ret (v:=.tuple #[.agg #[.bool true,.slice A' refs.length cap'],.int .i64 2]) (by simp [results,Tryz.results218,go_sem]) rfl ?_;exact ⟨⟨true,A',cap',refs⟩,by rw [HI.out,HE.out];rfl,HX.out,((HO.out.ext zE).setCell HF'.out).setCell HF'.out,zE⟩
 · have HE:=zH (show wrongE c true ⟨array,A',cap',refs⟩ n array got=2 from (if_neg HN.out).trans ((if_neg HN2.out).trans ((if_neg (by rw [HS'.out];exact h5)).trans (if_pos (Or.inl (by rw [HS'.out];exact h6))))));cases array
   · go_wp2_with fail;refine (HZ.out _ zE).mono ?_;rintro e w1 ⟨rfl,X4,rfl⟩;go_wp2_with fail;refine (HZ.out _ zE).mono ?_;rintro e w1 ⟨rfl,X5,rfl⟩;go_wp2_with fail;go_step3
     go_wp2_with fail;rw [Exit.jump_ret];refine bodyPost_ret (v:=.tuple #[.agg #[.bool false,.slice A' refs.length cap'],.int .i64 2]) (by simp [results,Tryz.results218,go_sem]) rfl ?_;exact ⟨⟨false,A',cap',refs⟩,by rw [HI.out,HE.out];rfl,HX.out,((HO.out.ext zE).setCell HF'.out).setCell HF'.out,zE⟩
   · go_wp2_with fail;refine (HZ.out _ zE).mono ?_;rintro e w1 ⟨rfl,X4,rfl⟩;go_wp2_with fail;refine (HZ.out _ zE).mono ?_;rintro e w1 ⟨rfl,X5,rfl⟩;go_wp2_with fail;go_step3
     go_wp2_with fail;rw [Exit.jump_ret];refine bodyPost_ret (v:=.tuple #[.agg #[.bool true,.slice A' refs.length cap'],.int .i64 2]) (by simp [results,Tryz.results218,go_sem]) rfl ?_;exact ⟨⟨true,A',cap',refs⟩,by rw [HI.out,HE.out];rfl,HX.out,((HO.out.ext zE).setCell HF'.out).setCell HF'.out,zE⟩
end Go.Proofs.YtdhjjpnajjingaaGreat
