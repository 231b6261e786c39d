import Derived.Test.YtdhjjpnajjingaaGreatKL03
import Derived.Test.YtdhjjpnajjingaaGreatChecked
import Derived.Deep.RegionLaw
import Derived.Deep.AppendLies
set_option linter.unusedVariables false
set_option linter.unnecessarySimpa false
set_option linter.unusedSimpArgs false
open Bool renaming true→zT,false→zU
open Go.Value renaming int→zI
open Go.IntKind renaming i64→z6
set_option maxHeartbeats 8000000
set_option maxRecDepth 100000
open Go.Proofs.Tryz
open Go.Lib renaming hid→zH
open Go.Ext renaming alloc→zA,patch→zP,drew→zD,drewN→zN,more→zM,refl→zR,setCell→zS
open Nat renaming le_refl→zL,le_add_right→zK
namespace Go.Proofs.YtdhjjpnajjingaaGreat
open Go Go.RowKit
structure LineAt (g:GW) (t b:Nat) (L:List Ent):Prop where
 ex: ∃A c, ∃ms:List EntM,Blk g t b 222 [.slice A L.length c]∧Row g t 224 8 (.slice A L.length c) L.length (ms.flatMap EntM.cells)∧ms.map EntM.e=L∧ ∀m∈ms,m.At g (t+1)
 len:L.length≤1000000
theorem LineAt.keep {S:Nat→Prop} {g g':GW} {t b:Nat} {L:List Ent} (h:LineAt g t b L) (d:Mod S g g') (hs: ¬S t) (hs1: ¬S (t+1)):LineAt g' t b L:=by
 obtain ⟨A,c,ms,h1,h2,h3,h4⟩:=h.ex;exact ⟨⟨A,c,ms,h1.keep d hs,h2.keep d hs,h3,fun m hm=>(h4 m hm).keep d hs1⟩,h.len⟩
theorem ylf (m:EntM) (p:Nat) (th:Int) (w:World) (hp:w.cell? ⟨p,0,none⟩=some (zI z6 th)) (hl:p<w.heap.size):
 Calls prog 255 #[.agg #[.int .i64 m.e.thread,.int .i64 m.e.frags,.int .i64 m.e.spine,.int .i64 m.e.state,.int .i64 m.e.cycles,.int .i64 m.e.at_,.slice m.A m.e.got.length m.cap,.bool m.e.noted],.pointer (some ⟨p,0,none⟩)] w (Gives (.bool (ofB th m.e)) w):=by
 go_enter func255,ntmps255;go_wp2_with fail;go_ret;exact Gives.bool rfl zE
theorem ybP {w:World} {A:Option Addr} {ms:List EntM} (h:CellsAt w A (ms.flatMap EntM.cells)) {k:Nat} (hk:k<ms.length): ∃b o,A=some ⟨b,o,none⟩∧b<w.heap.size∧
 w.cell? ⟨b,o+k*8,none⟩=some (zI z6 ms[k].e.thread)∧w.cell? ⟨b,o+k*8+1,none⟩=some (zI z6 ms[k].e.frags)∧w.cell? ⟨b,o+k*8+2,none⟩=some (zI z6 ms[k].e.spine)∧w.cell? ⟨b,o+k*8+3,none⟩=some (zI z6 ms[k].e.state)∧
 w.cell? ⟨b,o+k*8+4,none⟩=some (zI z6 ms[k].e.cycles)∧w.cell? ⟨b,o+k*8+5,none⟩=some (zI z6 ms[k].e.at_)∧w.cell? ⟨b,o+k*8+6,none⟩=some (.slice ms[k].A ms[k].e.got.length ms[k].cap)∧w.cell? ⟨b,o+k*8+7,none⟩=some (.bool ms[k].e.noted):=by
 obtain ⟨b,o,hA,hb,hc⟩:=h.cases (by rw [ycA ms EntM.cells_len];omega);have hx:=List.getElem?_eq_getElem hk;have q:=fun (j:Nat) (v:Value) (hj:j<8) (hv:(ms[k].cells)[j]?=some v)=>hc (k*8+j) v (by rw [yaI EntM.cells_len ms k j _ hx hj];exact hv);refine ⟨b,o,hA,hb,?_,?_,?_,?_,?_,?_,?_,?_⟩
 · exact q 0 _ zo rfl
 · have:=q 1 _ zo rfl;rwa [←Nat.add_assoc] at this
 · have:=q 2 _ zo rfl;rwa [←Nat.add_assoc] at this
 · have:=q 3 _ zo rfl;rwa [←Nat.add_assoc] at this
 · have:=q 4 _ zo rfl;rwa [←Nat.add_assoc] at this
 · have:=q 5 _ zo rfl;rwa [←Nat.add_assoc] at this
 · have:=q 6 _ zo rfl;rwa [←Nat.add_assoc] at this
 · have:=q 7 _ zo rfl;rwa [←Nat.add_assoc] at this
def IdxGot (p:Ent→Bool) (ms:List EntM) (w:World) (e:Ending) (w':World):Prop:=Gives (zI z6 (placeOf p (ms.map EntM.e))) w e w'
theorem ymq (A:Option Addr) (c:Nat) (ms:List EntM) (p:Nat) (th:Int) (w:World) (hc:CellsAt w A (ms.flatMap EntM.cells)) (hl:ms.length≤1000000) (hp:w.cell? ⟨p,0,none⟩=some (zI z6 th)) (hpl:p<w.heap.size):
 Calls prog 254 #[.slice A ms.length c,.func (.func 255) #[] #[.pointer (some ⟨p,0,none⟩)]] w (IdxGot (ofB th) ms w):=by
 have HC:=zH hc;have HP:=zH (fun w' (he:Ext w w')=>(⟨(he.cell hpl).trans hp,Nat.lt_of_lt_of_le hpl he.size⟩:w'.cell? ⟨p,0,none⟩=some (zI z6 th)∧p<w'.heap.size));clear hc hp;go_enter func254,ntmps254;go_wp2_with fail;go_loopw [8] (fun i wr=> ∃k:Nat,k≤ms.length∧i=.int .i64 k∧Hid (∀e∈(ms.map EntM.e).take k,ofB th e=false)∧Hid (Ext w wr)) (fun i _=>ms.length-(intOf i).toNat)
 case atStart=>exact ⟨0,Nat.zero_le _,rfl,zH (by simp),zH (Ext.refl _)⟩
 case round=>
  obtain ⟨k,hk,rfl,hm,HE⟩:=hrel;by_cases hlt:k<ms.length
  · obtain ⟨b,o,hA,hb,g0,g1,g2,g3,g4,g5,g6,g7⟩:=ybP (HC.out.ext HE.out) hlt;have hx:=List.getElem?_eq_getElem hlt;have HX:=zH (show (ms.map EntM.e)[k]?=some ms[k].e by rw [List.getElem?_map,hx];rfl);generalize ms[k]=m at *;obtain ⟨hp1,hp2⟩:=HP.out wr HE.out;have HF:=zH (ylf m p th wr hp1 hp2);subst hA;clear hx hp1 hp2;go_wp2_with fail;refine HF.out.mono ?_;rintro e w1 ⟨rfl,hX⟩;have HE1:=zH (HE.out.trans (show Ext wr w1 from hX));clear hX;cases hv:ofB th m.e
    · have HN:=zH (ybK HX.out hm.out hv);clear hv;go_wp2_with fail;go_roundw
      case rel=>exact ⟨k+1,zo,by go_num,HN,HE1⟩
      case measure=>simp [intOf];omega
    · have HN:=zH (ycK HX.out hv hm.out);clear hv;go_wp2_with fail;go_ret;exact Gives.int HN.out.symm HE1.out
  · have HN:=zH (ycJ (p:=ofB th) (l:=ms.map EntM.e) (fun e he=>hm.out e (by rw [List.take_of_length_le (by simp;omega)];exact he)));go_wp2_with fail;go_ret;exact Gives.int HN.out.symm HE.out
theorem ygF (g:GW) (t b:Nat) (th:Int) (L:List Ent) (h:LineAt g t b L):
 Calls prog 216 #[.pointer (some ⟨b,0,none⟩),.int .i64 th] g.w (Gives (zI z6 (placeOf (ofB th) L)) g.w):=by
 obtain ⟨A,c,ms,hb,hr,hm, -⟩:=h.ex;have hml:ms.length=L.length:=by rw [←hm,List.length_map]
 have HI:=zH (fun w' p (he:Ext g.w w') hp hpl=>ymq A c ms p th w' (hr.cells.ext he) (by have:=h.len;omega) hp hpl);unfold IdxGot at HI;rw [hm,hml] at HI;have c0:=hb.cell (i:=0) rfl;have hbl:=hb.lt;clear hr hm hml hb h;go_enter func216,ntmps216;go_wp2_with fail;refine (HI.out _ g.w.heap.size zE (by go_simp) (by go_simp)).mono ?_;rintro e w1 ⟨rfl,hX⟩;have HE:=zH (show Ext g.w w1 from (show Ext g.w _ by exact zE).trans hX);clear hX;go_wp2_with fail;go_ret;exact Gives.int rfl HE.out
def Ent.wait (l:List Ent):Nat:=l.countP waitB
theorem yhz (g:GW) (t b:Nat) (L:List Ent) (h:LineAt g t b L):
 Calls prog 111 #[.pointer (some ⟨b,0,none⟩)] g.w (Gives (zI z6 (Ent.wait L)) g.w):=by
 obtain ⟨A,c,ms,hb,hr,hm, -⟩:=h.ex;have hml:ms.length=L.length:=by rw [←hm,List.length_map]
 have hlen:=h.len;have c0:=hb.cell (i:=0) rfl;have hbl:=hb.lt;have HC:=zH hr.cells;have HM:=zH hm;rw [←hml] at c0 hlen;have HL:=zH hml;clear hr hm hb h hml;go_enter func111,ntmps111;go_wp2_with fail;go_loopw [3,11] (fun v i wr=> ∃(k:Nat),k≤ms.length∧i=.int .i64 k∧v=.int .i64 (Ent.wait (L.take k):Nat)∧Hid (Ext g.w wr)) (fun _ i _=>ms.length-(intOf i).toNat)
 case atStart=>exact ⟨0,Nat.zero_le _,rfl,rfl,zH (Ext.refl _)⟩
 case round=>
  obtain ⟨k,hk,rfl,rfl,HE⟩:=hrel;by_cases hlt:k<ms.length
  · obtain ⟨q,o,hA,hq,g0,g1,g2,g3,g4,g5,g6,g7⟩:=ybP (HC.out.ext HE.out) hlt;have hx:=List.getElem?_eq_getElem hlt;have hxe:L[k]?=some ms[k].e:=by rw [←HM.out,List.getElem?_map,hx];rfl
    have HS:=zH (show Ent.wait (L.take (k+1))=Ent.wait (L.take k)+if waitB ms[k].e then 1 else 0 by
     unfold Ent.wait;rw [List.take_add_one,hxe,List.countP_append];simp [List.countP_cons])
    have hw0:Ent.wait (L.take k)≤k:=Nat.le_trans List.countP_le_length (List.length_take_le _ _);generalize ms[k]=m at *;generalize Ent.wait (L.take k)=n at *;subst hA;clear hx hxe;cases hz:(m.e.state==0)
    · have HN:=zH (show Ent.wait (L.take (k+1))=n by rw [HS.out];unfold waitB;rw [hz];simp);go_wp2_with fail;go_roundw
      case rel=>exact ⟨k+1,zo,by go_num,by rw [HN.out],zH (HE.out.trans zE)⟩
      case measure=>simp [intOf];omega
    · have HN:=zH (show Ent.wait (L.take (k+1))=n+1 by rw [HS.out];unfold waitB;rw [hz];simp);go_wp2_with fail;go_roundw
      case rel=>exact ⟨k+1,zo,by go_num,by rw [HN.out];go_num,zH (HE.out.trans zE)⟩
      case measure=>simp [intOf];omega
  · obtain rfl:k=ms.length:=zo;have HN:=zH (show L.take ms.length=L from List.take_of_length_le (by rw [HL.out];exact Nat.le_refl _));go_wp2_with fail;go_ret;exact Gives.int (by rw [HN.out];try rfl) HE.out
theorem ykw (t:Nat) (g:GW):Calls prog 123 #[] g.w (fun e w'=> ∃b,e=.returned (.pointer (some ⟨b,0,none⟩))∧Ext g.w w'∧LineAt (g.to t w') t b []):=by
 go_enter func123,ntmps123;go_wp2_with fail;go_ret;exact ⟨_,rfl,zE,⟨none,0,[],Blk.made (World.row_alloc_new _) (Nat.le_refl _),Row.nil _ _ _ _,rfl,by simp⟩,by simp⟩
def ReqOf (L:List Ent) (i:Int) (v:Value) (g':GW):Prop:=
 ∃(r:List Value) (ok:Bool),v=.tuple #[.agg r.toArray,.bool ok]∧(i<0→ok=false∧r=[.int .i64 0,.int .i64 0,.int .i64 0,.int .i64 0,.int .i64 0,.int .i64 0,.slice none 0 0])∧
  (0≤i→ok=true∧ ∃e A c,L[i.toNat]?=some e∧r=[.int .i64 e.thread,.int .i64 e.frags,.int .i64 e.spine,.int .i64 e.state,.int .i64 e.cycles,.int .i64 e.at_,.slice A e.got.length c]∧Row g' 0 3 1 (.slice A e.got.length c) e.got.length (e.got.map (Value.int .i64)))
theorem ygE (g:GW) (t b:Nat) (i:Int) (L:List Ent) (h:LineAt g t b L) (hi1:i<L.length):
 Calls prog 215 #[.pointer (some ⟨b,0,none⟩),.int .i64 i] g.w (Makes g (fun _=>False) (ReqOf L i)):=by
 by_cases h0:i<0
 · clear h hi1;have HI:=zH h0;go_enter func215,ntmps215;go_wp2_with fail;refine bodyPost_ret (v:=.tuple #[.agg #[.int .i64 0,.int .i64 0,.int .i64 0,.int .i64 0,.int .i64 0,.int .i64 0,.slice none 0 0],.bool false]) (by simp [results,Tryz.results215,go_sem]) rfl ?_;exact ⟨_,_,rfl,Mod.ext (show Ext g.w _ from zE) 0,[.int .i64 0,.int .i64 0,.int .i64 0,.int .i64 0,.int .i64 0,.int .i64 0,.slice none 0 0],false,rfl,fun _=>⟨rfl,rfl⟩,fun hh=>by have:=HI.out;omega⟩
 · obtain ⟨k,rfl⟩:=Int.eq_ofNat_of_zero_le (show 0≤i by omega);obtain ⟨A,c,ms,hb,hr,hm,hat⟩:=h.ex;have hml:ms.length=L.length:=by rw [←hm,List.length_map]
   have hlen:=h.len;have c0:=hb.cell (i:=0) rfl;have hbl:=hb.lt;have hkm:k<ms.length:=zo;obtain ⟨q,o,hA,hq,g0,g1,g2,g3,g4,g5,g6,g7⟩:=ybP hr.cells hkm;have hx:=List.getElem?_eq_getElem hkm;have hmm:=hat _ (List.getElem_mem hkm);have HX:=zH (show L[k]?=some ms[k].e by rw [←hm,List.getElem?_map,hx];rfl);generalize ms[k]=m at *;have HCl:=zH (fun w' (he:Ext g.w w')=>ybl m.A m.cap m.e.got.length m.e.got 0 (g.to 9 w') rfl (hmm.seg.cells.ext he) (by have:=hmm.len;omega));subst hA;clear hr hm hat hmm hx hb h h0;generalize L.length=n at *;go_enter func215,ntmps215;go_wp2_with fail;refine (HCl.out _ zE).mono ?_;rintro e w1 ⟨A',c',rfl,m1,r1,he1,f1⟩;have E1:=zH (show Ext _ w1 from he1);obtain ⟨q1,q2⟩:=yaA g.w (.cells #[.int .i64 0,.int .i64 0,.int .i64 0,.int .i64 0,.int .i64 0,.int .i64 0,.slice none 0 0] 199) (.cells #[.int .i64 m.e.thread,.int .i64 m.e.frags,.int .i64 m.e.spine,.int .i64 m.e.state,.int .i64 m.e.cycles,.int .i64 m.e.at_,.slice m.A m.e.got.length m.cap] 199);have B1:=zH ((Blk.made (g:=g) (t:=9) q1 (Nat.le_refl _)).keep m1 id);have B2:=zH ((Blk.made (g:=g) (t:=9) q2 zo).keep m1 id);have R1:=zH r1
   have M1:=zH ((Mod.ext (T:=fun _=>False) (show Ext g.w ((g.w.alloc (.cells #[.int .i64 0,.int .i64 0,.int .i64 0,.int .i64 0,.int .i64 0,.int .i64 0,.slice none 0 0] 199)).alloc (.cells #[.int .i64 m.e.thread,.int .i64 m.e.frags,.int .i64 m.e.spine,.int .i64 m.e.state,.int .i64 m.e.cycles,.int .i64 m.e.at_,.slice m.A m.e.got.length m.cap] 199)) from zE) 9).trans m1);clear q1 q2 m1 r1 he1 f1;obtain ⟨d0,d1,d2,d3,d4,d5,d6,dl⟩:=B1.out.k7;have df0:=B1.out.liv 0;have df1:=B1.out.liv 1;have df2:=B1.out.liv 2;have df3:=B1.out.liv 3;have df4:=B1.out.liv 4;have df5:=B1.out.liv 5;have df6:=B1.out.liv 6;obtain ⟨e0,e1,e2,e3,e4,e5,e6,el⟩:=B2.out.k7;have ef6:=B2.out.liv 6;go_wp2_with fail;refine bodyPost_ret (v:=.tuple #[.agg #[.int .i64 m.e.thread,.int .i64 m.e.frags,.int .i64 m.e.spine,.int .i64 m.e.state,.int .i64 m.e.cycles,.int .i64 m.e.at_,.slice A' m.e.got.length c'],.bool true]) (by simp [results,Tryz.results215,go_sem,d0,d1,d2,d3,d4,d5,d6]) rfl ?_
   have M9:Mod (fun _=>False) g ⟨_,_⟩:=Mod.stn (Mod.stn (Mod.stn (Mod.stn (Mod.stn (Mod.stn (Mod.stn (Mod.stn (b:=g.w.heap.size+1) (i:=6) (v:=.slice A' m.e.got.length c') M1.out zo) (b:=g.w.heap.size) (i:=0) (v:=.int .i64 m.e.thread) zo) (b:=g.w.heap.size) (i:=1) (v:=.int .i64 m.e.frags) zo) (b:=g.w.heap.size) (i:=2) (v:=.int .i64 m.e.spine) zo) (b:=g.w.heap.size) (i:=3) (v:=.int .i64 m.e.state) zo) (b:=g.w.heap.size) (i:=4) (v:=.int .i64 m.e.cycles) zo) (b:=g.w.heap.size) (i:=5) (v:=.int .i64 m.e.at_) zo) (b:=g.w.heap.size) (i:=6) (v:=.slice A' m.e.got.length c') zo
   have T9:Mod (fun x=>x=9) ⟨_,w1⟩ ⟨_,_⟩:=Mod.st (Mod.st (Mod.st (Mod.st (Mod.st (Mod.st (Mod.st (Mod.st (b:=g.w.heap.size+1) (i:=6) (v:=.slice A' m.e.got.length c') (Mod.refl _ _) B2.out.own) (b:=g.w.heap.size) (i:=0) (v:=.int .i64 m.e.thread) B1.out.own) (b:=g.w.heap.size) (i:=1) (v:=.int .i64 m.e.frags) B1.out.own) (b:=g.w.heap.size) (i:=2) (v:=.int .i64 m.e.spine) B1.out.own) (b:=g.w.heap.size) (i:=3) (v:=.int .i64 m.e.state) B1.out.own) (b:=g.w.heap.size) (i:=4) (v:=.int .i64 m.e.cycles) B1.out.own) (b:=g.w.heap.size) (i:=5) (v:=.int .i64 m.e.at_) B1.out.own) (b:=g.w.heap.size) (i:=6) (v:=.slice A' m.e.got.length c') B1.out.own;refine ⟨_,_,rfl,M9,[.int .i64 m.e.thread,.int .i64 m.e.frags,.int .i64 m.e.spine,.int .i64 m.e.state,.int .i64 m.e.cycles,.int .i64 m.e.at_,.slice A' m.e.got.length c'],true,rfl,fun hh=>by omega,fun _=>⟨rfl,m.e,A',c',by rw [Int.toNat_natCast];exact HX.out,rfl,R1.out.keep T9 zd⟩⟩
theorem ygD (g:GW) (t b:Nat) (th:Int) (L:List Ent) (h:LineAt g t b L):
 Calls prog 154 #[.pointer (some ⟨b,0,none⟩),.int .i64 th] g.w (Makes g (fun _=>False) (ReqOf L (placeOf (ofB th) L))):=by
 have HO:=zH (fun g' (m:Mod (fun _=>False) g g')=>ygF g' t b th L (h.keep m id id));have HA:=zH (fun g' (m:Mod (fun _=>False) g g')=>ygE g' t b (placeOf (ofB th) L) L (h.keep m id id) (ybt _ _).2);generalize placeOf (ofB th) L=i at *;clear h;go_enter func154,ntmps154;go_wp2_with fail;have hE0:Ext g.w (g.w.alloc (.cells #[.int .i64 0,.int .i64 0,.int .i64 0,.int .i64 0,.int .i64 0,.int .i64 0,.slice none 0 0] 199)):=zE;have B0:=zH (Blk.new g 9 199 [.int .i64 0,.int .i64 0,.int .i64 0,.int .i64 0,.int .i64 0,.int .i64 0,.slice none 0 0]);have M0:=zH (Mod.ext (T:=fun _=>False) hE0 9);clear hE0;refine (HO.out (g.to 9 (g.w.alloc (.cells #[.int .i64 0,.int .i64 0,.int .i64 0,.int .i64 0,.int .i64 0,.int .i64 0,.slice none 0 0] 199))) M0.out).mono ?_;rintro e w1 ⟨rfl,hE1⟩;have E1:=zH (show Ext (g.w.alloc (.cells #[.int .i64 0,.int .i64 0,.int .i64 0,.int .i64 0,.int .i64 0,.int .i64 0,.slice none 0 0] 199)) w1 from hE1);have N1:=zH (Mod.ext (T:=fun _=>False) (g:=g.to 9 (g.w.alloc (.cells #[.int .i64 0,.int .i64 0,.int .i64 0,.int .i64 0,.int .i64 0,.int .i64 0,.slice none 0 0] 199))) E1.out 0);have M1:=zH (M0.out.trans N1.out);have B1:=zH (B0.out.keep N1.out id);clear hE1
 go_wp2_with fail;refine (HA.out _ M1.out).mono ?_;rintro e w2 ⟨v,own2,rfl,m2,r,ok,rfl,hn,hp⟩;have M2:=zH (M1.out.trans m2);have B2:=zH (B1.out.keep m2 id);clear m2 E1;obtain ⟨d0,d1,d2,d3,d4,d5,d6,dl⟩:=B2.out.k7;have df0:=B2.out.liv 0;have df1:=B2.out.liv 1;have df2:=B2.out.liv 2;have df3:=B2.out.liv 3;have df4:=B2.out.liv 4;have df5:=B2.out.liv 5;have df6:=B2.out.liv 6;by_cases h0:i<0
 · obtain ⟨rfl,rfl⟩:=hn h0;have HN:=zH hp;have H0:=zH h0;clear hn hp h0;go_wp2_with fail;refine bodyPost_ret (v:=.tuple #[.agg #[.int .i64 0,.int .i64 0,.int .i64 0,.int .i64 0,.int .i64 0,.int .i64 0,.slice none 0 0],.bool false]) (by simp [results,Tryz.results154,go_sem,d0,d1,d2,d3,d4,d5,d6]) rfl ?_;have M9:Mod (fun _=>False) g ⟨own2,_⟩:=Mod.stn (Mod.stn (Mod.stn (Mod.stn (Mod.stn (Mod.stn (Mod.stn (b:=g.w.heap.size) (i:=0) (v:=.int .i64 0) M2.out (Nat.le_refl _)) (b:=g.w.heap.size) (i:=1) (v:=.int .i64 0) (Nat.le_refl _)) (b:=g.w.heap.size) (i:=2) (v:=.int .i64 0) (Nat.le_refl _)) (b:=g.w.heap.size) (i:=3) (v:=.int .i64 0) (Nat.le_refl _)) (b:=g.w.heap.size) (i:=4) (v:=.int .i64 0) (Nat.le_refl _)) (b:=g.w.heap.size) (i:=5) (v:=.int .i64 0) (Nat.le_refl _)) (b:=g.w.heap.size) (i:=6) (v:=.slice none 0 0) (Nat.le_refl _);exact ⟨_,_,rfl,M9,[.int .i64 0,.int .i64 0,.int .i64 0,.int .i64 0,.int .i64 0,.int .i64 0,.slice none 0 0],false,rfl,fun _=>⟨rfl,rfl⟩,fun hh=>by have:=H0.out;omega⟩
 · obtain ⟨rfl,e,A',c',hL,rfl,hr⟩:=hp zo;have HL:=zH hL;have HR:=zH hr;have H0:=zH h0;clear hn hL hr h0;go_wp2_with fail;refine bodyPost_ret (v:=.tuple #[.agg #[.int .i64 e.thread,.int .i64 e.frags,.int .i64 e.spine,.int .i64 e.state,.int .i64 e.cycles,.int .i64 e.at_,.slice A' e.got.length c'],.bool true]) (by simp [results,Tryz.results154,go_sem,d0,d1,d2,d3,d4,d5,d6]) rfl ?_;have M9:Mod (fun _=>False) g ⟨own2,_⟩:=Mod.stn (Mod.stn (Mod.stn (Mod.stn (Mod.stn (Mod.stn (Mod.stn (b:=g.w.heap.size) (i:=0) (v:=.int .i64 e.thread) M2.out (Nat.le_refl _)) (b:=g.w.heap.size) (i:=1) (v:=.int .i64 e.frags) (Nat.le_refl _)) (b:=g.w.heap.size) (i:=2) (v:=.int .i64 e.spine) (Nat.le_refl _)) (b:=g.w.heap.size) (i:=3) (v:=.int .i64 e.state) (Nat.le_refl _)) (b:=g.w.heap.size) (i:=4) (v:=.int .i64 e.cycles) (Nat.le_refl _)) (b:=g.w.heap.size) (i:=5) (v:=.int .i64 e.at_) (Nat.le_refl _)) (b:=g.w.heap.size) (i:=6) (v:=.slice A' e.got.length c') (Nat.le_refl _)
   have T9:Mod (fun x=>x=9) ⟨own2,w2⟩ ⟨own2,_⟩:=Mod.st (Mod.st (Mod.st (Mod.st (Mod.st (Mod.st (Mod.st (b:=g.w.heap.size) (i:=0) (v:=.int .i64 e.thread) (Mod.refl _ _) B2.out.own) (b:=g.w.heap.size) (i:=1) (v:=.int .i64 e.frags) B2.out.own) (b:=g.w.heap.size) (i:=2) (v:=.int .i64 e.spine) B2.out.own) (b:=g.w.heap.size) (i:=3) (v:=.int .i64 e.state) B2.out.own) (b:=g.w.heap.size) (i:=4) (v:=.int .i64 e.cycles) B2.out.own) (b:=g.w.heap.size) (i:=5) (v:=.int .i64 e.at_) B2.out.own) (b:=g.w.heap.size) (i:=6) (v:=.slice A' e.got.length c') B2.out.own;exact ⟨_,_,rfl,M9,[.int .i64 e.thread,.int .i64 e.frags,.int .i64 e.spine,.int .i64 e.state,.int .i64 e.cycles,.int .i64 e.at_,.slice A' e.got.length c'],true,rfl,fun hh=>by have:=H0.out;omega,fun _=>⟨rfl,e,A',c',HL.out,rfl,HR.out.keep T9 zd⟩⟩
theorem yk7:(prog.info? 224).map (fun i=>(i.zero,i.size,i.bytes))=some (some (.agg #[.int .i64 0,.int .i64 0,.int .i64 0,.int .i64 0,.int .i64 0,.int .i64 0,.slice none 0 0,.bool false]),8,80):=zQ
def Ent.asked (th fr sp:Int):Ent:=⟨th,fr,sp,0,0, -1,[],false⟩
theorem yb6 (g:GW) (t b:Nat) (th fr sp:Int) (L:List Ent) (h:LineAt g t b L) (hno:placeOf (ofB th) L<0) (hn:L.length<1000000) (ht:t≠0∧t≠9∧t+1≠9):
 Calls prog 244 #[.pointer (some ⟨b,0,none⟩),.agg #[.int .i64 th,.int .i64 fr,.int .i64 sp,.int .i64 0,.int .i64 0,.int .i64 0,.slice none 0 0]] g.w (Does (.bool true) g (fun x=>x=t) (fun g'=>LineAt g' t b (L++[Ent.asked th fr sp]))):=by
 obtain ⟨i0,hi,hz0,hz1,hz2⟩:=info_parts yk7;have HO:=zH (fun g' (m:Mod (fun _=>False) g g')=>ygF g' t b th L (h.keep m id id));obtain ⟨A,c,ms,hb,hr,hm,hat⟩:=h.ex;have H:=zH h;have HB:=zH hb;have HR:=zH hr;have HM:=zH hm;have HAT:=zH hat;have HT:=zH ht;generalize placeOf (ofB th) L=i at *;generalize hnl:L.length=n at *;have HNL:=zH hnl;have hd:decide ((0:Int)≤i)=false:=decide_eq_false zo;clear h hb hr hm hat hnl ht;go_enter func244,ntmps244;go_wp2_with fail;have hE0:Ext g.w (g.w.alloc (.cells #[.int .i64 th,.int .i64 fr,.int .i64 sp,.int .i64 0,.int .i64 0,.int .i64 0,.slice none 0 0] 199)):=zE;have B0:=zH (Blk.new g 9 199 [.int .i64 th,.int .i64 fr,.int .i64 sp,.int .i64 0,.int .i64 0,.int .i64 0,.slice none 0 0]);have M0:=zH (Mod.ext (T:=fun _=>False) hE0 9);clear hE0;refine (HO.out (g.to 9 (g.w.alloc (.cells #[.int .i64 th,.int .i64 fr,.int .i64 sp,.int .i64 0,.int .i64 0,.int .i64 0,.slice none 0 0] 199))) M0.out).mono ?_;rintro e w1 ⟨rfl,hE1⟩;have E1:=zH (show Ext (g.w.alloc (.cells #[.int .i64 th,.int .i64 fr,.int .i64 sp,.int .i64 0,.int .i64 0,.int .i64 0,.slice none 0 0] 199)) w1 from hE1)
 have N1:=zH (Mod.ext (T:=fun _=>False) (g:=g.to 9 (g.w.alloc (.cells #[.int .i64 th,.int .i64 fr,.int .i64 sp,.int .i64 0,.int .i64 0,.int .i64 0,.slice none 0 0] 199))) E1.out 0);obtain ⟨own1,m1,b1⟩: ∃own1,Mod (fun _=>False) g ⟨own1,w1⟩∧Blk ⟨own1,w1⟩ 9 g.w.heap.size 199 [.int .i64 th,.int .i64 fr,.int .i64 sp,.int .i64 0,.int .i64 0,.int .i64 0,.slice none 0 0]:=⟨_,M0.out.trans N1.out,B0.out.keep N1.out id⟩;have M1:=zH m1;have B1:=zH b1;have L1:=zH (HB.out.keep m1 id);clear hE1 E1 m1 b1 B0 M0 N1;obtain ⟨d0,d1,d2,d3,d4,d5,d6,dl⟩:=B1.out.k7;have df3:=B1.out.liv 3;have df4:=B1.out.liv 4;have df5:=B1.out.liv 5;have df6:=B1.out.liv 6;have e0:=L1.out.cell (i:=0) rfl;have ef0:=L1.out.live 0;have el:=L1.out.lt;(try simp only [GW.to] at e0 ef0 el);have hne:g.w.heap.size≠b:=B1.out.ne L1.out (fun e=>HT.out.2.1 e.symm);have hne':b≠g.w.heap.size:=fun e=>hne e.symm;go_wp2_with fail
 have m9:Mod (fun _=>False) g ⟨own1,_⟩:=Mod.stn (Mod.stn (Mod.stn (Mod.stn (b:=g.w.heap.size) (i:=3) (v:=.int .i64 0) M1.out (Nat.le_refl _)) (b:=g.w.heap.size) (i:=4) (v:=.int .i64 0) (Nat.le_refl _)) (b:=g.w.heap.size) (i:=5) (v:=.int .i64 (-1)) (Nat.le_refl _)) (b:=g.w.heap.size) (i:=6) (v:=.slice none 0 0) (Nat.le_refl _);have b9:Blk ⟨own1,(((w1.setCell ⟨g.w.heap.size,3,none⟩ (zI z6 0)).setCell ⟨g.w.heap.size,4,none⟩ (zI z6 0)).setCell ⟨g.w.heap.size,5,none⟩ (zI z6 (-1))).setCell ⟨g.w.heap.size,6,none⟩ (.slice none 0 0)⟩ 9 g.w.heap.size 199 [.int .i64 th,.int .i64 fr,.int .i64 sp,.int .i64 0,.int .i64 0,.int .i64 (-1),.slice none 0 0]:=(((B1.out.set 3 (zI z6 0)).set 4 (zI z6 0)).set 5 (zI z6 (-1))).set 6 (.slice none 0 0);generalize (((w1.setCell ⟨g.w.heap.size,3,none⟩ (zI z6 0)).setCell ⟨g.w.heap.size,4,none⟩ (zI z6 0)).setCell ⟨g.w.heap.size,5,none⟩ (zI z6 (-1))).setCell ⟨g.w.heap.size,6,none⟩ (.slice none 0 0)=W at *;have M9:=zH m9;have B9:=zH b9;have L9:=zH (HB.out.keep m9 id);have R9:=zH (HR.out.keep m9 id);have A9:=zH (fun m hm=>(HAT.out m hm).keep m9 id);clear m9 b9 d0 d1 d2 d3 d4 d5 d6 df3 df4 df5 df6 dl e0 ef0 el M1 B1 L1;obtain ⟨d0,d1,d2,d3,d4,d5,d6,dl⟩:=B9.out.k7
 have e0:=L9.out.cell (i:=0) rfl;have ef0:=L9.out.live 0;have el:=L9.out.lt;(try simp only [GW.to] at e0 ef0 el);have hrow:=zH (show∀x,(Value.slice A n c).ownBlock=some x→b≠x from fun x hx=>R9.out.ne_type L9.out zd hx);have hnb:=zH (show some b≠(Value.slice A n c).ownBlock from fun e=>hrow.out b e.symm rfl);have hnx:=zH (show some g.w.heap.size≠(Value.slice A n c).ownBlock from fun e=>R9.out.ne_type B9.out zd e.symm rfl);have fc:=fun o=>(show ((W.alloc o).drew).cell? ⟨b,0,none⟩=some (.slice A n c) from (World.cell?_alloc_past _ _ _ el).trans e0);have fz:=fun o=>(show ((W.alloc o).drew).frozen? ⟨b,0,none⟩=false from (World.frozen?_alloc_past _ _ _ el).trans ef0)
 go_region_law ((refine step_append_lies _ (by rfl) _ _ _ (by rfl) 0 224 i0 _ 8 80 Tryz.underlying220 hi hz0 hz1 hz2 rfl zo (.slice A n c) n (ms.flatMap EntM.cells) (by rfl) ((R9.out.row.alloc _).drew) ⟨W.heap.size,0,none⟩ 1 1 [.int .i64 th,.int .i64 fr,.int .i64 sp,.int .i64 0,.int .i64 0,.int .i64 (-1),.slice none 0 0,.bool false] (by rfl) (by rfl) (World.news_of_block (cs:=#[.int .i64 th,.int .i64 fr,.int .i64 sp,.int .i64 0,.int .i64 0,.int .i64 (-1),.slice none 0 0,.bool false]) (t:=224) (fr:=(0,0)) (heap_alloc_new W _)) (by simp [Value.oneCell']) zo (by unfold maxLen;omega) zo (Nat.zero_le _) (W.heap.size+1) (by simp) ?_;intro gg cap w2 hown hgrow hat hlt;have y0:=(hgrow.cell_far ⟨b,0,none⟩ (by simp;omega) hnb.out).trans (fc _);have yf0:=(hgrow.frozen_far ⟨b,0,none⟩ (by simp;omega) hnb.out).trans (fz _)))
 all_goals
  go_wp2_with fail;go_ret;have hEd:Ext W ((W.alloc (.cells #[.int .i64 th,.int .i64 fr,.int .i64 sp,.int .i64 0,.int .i64 0,.int .i64 (-1),.slice none 0 0,.bool false] 224)).drew):=zE
  have hat':(Value.slice (some ⟨gg,0,none⟩) (n+1) cap).ownBlock=(Value.slice A n c).ownBlock∨(Value.slice (some ⟨gg,0,none⟩) (n+1) cap).ownBlock=some ((W.alloc (.cells #[.int .i64 th,.int .i64 fr,.int .i64 sp,.int .i64 0,.int .i64 0,.int .i64 (-1),.slice none 0 0,.bool false] 224)).drew).heap.size:=by
   rcases hat with e|e
   · exact Or.inl e.symm
   · refine Or.inr ?_;rw [e];show some (W.heap.size+1)=some (W.alloc _).heap.size;rw [World.size_alloc]
  have q1:Mod (fun x=>x=t) (⟨own1,W⟩:GW) ((⟨own1,W⟩:GW).to 9 ((W.alloc (.cells #[.int .i64 th,.int .i64 fr,.int .i64 sp,.int .i64 0,.int .i64 0,.int .i64 (-1),.slice none 0 0,.bool false] 224)).drew)):=Mod.ext hEd 9;have q2:=Mod.grown (T:=fun x=>x=t) (g:=(⟨own1,W⟩:GW).to 9 ((W.alloc (.cells #[.int .i64 th,.int .i64 fr,.int .i64 sp,.int .i64 0,.int .i64 0,.int .i64 (-1),.slice none 0 0,.bool false] 224)).drew)) hgrow t (fun k hk hl=>(R9.out.ext hEd 9).own k hk);have q3:=(R9.out.ext hEd 9).grown (g:=(⟨own1,W⟩:GW).to 9 ((W.alloc (.cells #[.int .i64 th,.int .i64 fr,.int .i64 sp,.int .i64 0,.int .i64 0,.int .i64 (-1),.slice none 0 0,.bool false] 224)).drew)) hown hat';have q4:=(L9.out.ext hEd 9).grown (t':=t) (g:=(⟨own1,W⟩:GW).to 9 ((W.alloc (.cells #[.int .i64 th,.int .i64 fr,.int .i64 sp,.int .i64 0,.int .i64 0,.int .i64 (-1),.slice none 0 0,.bool false] 224)).drew)) hgrow (fun x hx=>hrow.out x hx);have q5:=((M9.out.mono (fun x hx=>hx.elim)).trans q1).trans q2;have q6:=fun m hm=>((A9.out m hm).keep q1 (by have:=HT.out;omega)).keep q2 (by have:=HT.out;omega);refine Does.of ⟨_,_⟩ rfl rfl (Mod.st q5 q4.own) ⟨⟨some ⟨gg,0,none⟩,cap,ms++[⟨Ent.asked th fr sp,none,0⟩],?_,?_,?_,?_⟩,?_⟩
  · simp only [List.length_append,HNL.out];exact q4.set 0 _
  · simp only [List.length_append,HNL.out];exact (q3.setOther 0 _ (fun x hx=>q3.ne_type q4 zd hx)).weak rfl (by rw [List.flatMap_append];rfl)
  · rw [List.map_append,HM.out];rfl
  · intro m hm;rcases List.mem_append.1 hm with hm|hm
    · exact (q6 m hm).keep (S:=fun x=>x=t) (Mod.set (b:=b) (by exact q4.own)) (by show¬(t+1=t);omega)
    · simp only [List.mem_singleton] at hm;subst hm;exact ⟨Seg.nil _ _ _,by simp [Ent.asked]⟩
  · simp only [List.length_append,HNL.out,List.length_singleton];omega
theorem yiX:(prog.info? 94).map (fun i=>(i.zero,i.size,i.bytes))=some (some (.agg #[.bool false,.slice none 0 0]),2,32):=zQ
def Copied (c:Cnf) (t:Nat) (g:GW) (e:Ending) (w':World):Prop:= ∃c':Cnf,e=.returned c'.val∧c'.Same c∧CnfAt (g.to t w') t c'∧Ext g.w w'
theorem ybC (c:Cnf) (t:Nat) (g:GW) (hc:c.Ok g.w) (hmax:c.shapes.length≤1000000):Calls prog 69 #[c.val] g.w (Copied c t g):=by
 obtain ⟨i0,hi,hz0,hz1,hz2⟩:=info_parts yiX;have HC:=zH hc;unfold Cnf.val;clear hc;go_enter func69,ntmps69;go_wp2_with fail;obtain ⟨q1,q2⟩:=yaA g.w (.cells #[.int .i64 c.frags,.int .i64 c.spine,.int .i64 c.globals,.int .i64 c.threads,.int .i64 c.locals,.int .i64 c.cache,.int .i64 c.stack,.int .i64 c.low,.slice c.A c.shapes.length c.cap] 34) (.cells #[.int .i64 0,.int .i64 0,.int .i64 0,.int .i64 0,.int .i64 0,.int .i64 0,.int .i64 0,.int .i64 0,.slice none 0 0] 34);have HB1:=zH (Blk.made (g:=g) (t:=9) q1 (Nat.le_refl _));have HB2:=zH (Blk.made (g:=g) (t:=9) q2 zo);have HE:=zH (Mod.ext (T:=fun _=>False) (show Ext g.w ((g.w.alloc (.cells #[.int .i64 c.frags,.int .i64 c.spine,.int .i64 c.globals,.int .i64 c.threads,.int .i64 c.locals,.int .i64 c.cache,.int .i64 c.stack,.int .i64 c.low,.slice c.A c.shapes.length c.cap] 34)).alloc (.cells #[.int .i64 0,.int .i64 0,.int .i64 0,.int .i64 0,.int .i64 0,.int .i64 0,.int .i64 0,.int .i64 0,.slice none 0 0] 34)) from zE) 9);clear q1 q2;have HMX:=zH hmax;generalize hnl:c.shapes.length=nl at *;have HNL:=zH hnl;clear hnl
 go_loopw [3,9] (fun v i wr=> ∃(k:Nat) (own:Nat→Nat) (ss:List Shp),k≤nl∧i=.int .i64 k∧Hid (ss.map Shp.data=(c.shapes.take k).map Shp.data)∧Hid (Mod (fun _=>False) g ⟨own,wr⟩)∧Hid (∀s∈ss,ShpAt ⟨own,wr⟩ 1 s∧ ∀a,s.A=some a→g.w.heap.size≤a.block)∧Hid (Mine g ⟨own,wr⟩ 94 2 v k (ss.flatMap Shp.cells))∧
  Hid (Blk ⟨own,wr⟩ 9 g.w.heap.size 34 [.int .i64 c.frags,.int .i64 c.spine,.int .i64 c.globals,.int .i64 c.threads,.int .i64 c.locals,.int .i64 c.cache,.int .i64 c.stack,.int .i64 c.low,.slice c.A nl c.cap])∧Hid (Blk ⟨own,wr⟩ 9 (g.w.heap.size+1) 34 [.int .i64 0,.int .i64 0,.int .i64 0,.int .i64 0,.int .i64 0,.int .i64 0,.int .i64 0,.int .i64 0,.slice none 0 0])) (fun _ i _=>nl-(intOf i).toNat)
 case atStart=>exact ⟨0,_,[],Nat.zero_le _,rfl,zH rfl,HE,zH (by simp),zH (Mine.nil _ _ _ _),HB1,HB2⟩
 case round=>
  obtain ⟨k,own,ss,hk,rfl,HS,M,HA,R,B1,B2⟩:=hrel;clear HE HB1 HB2;obtain ⟨A5,c5,hv5⟩:=yak R.out.row.row;subst hv5;by_cases hlt:k<nl
  · obtain ⟨b,o,hA,hb,g0,g1⟩:=ycN (HC.out.cells.ext M.out.toExt) (k:=k) (by rw [HNL.out];exact hlt);have hsk:=(HC.out.shapes _ (List.getElem_mem (by rw [HNL.out];exact hlt:k<c.shapes.length))).ext M.out.toExt;have hx:=List.getElem?_eq_getElem (by rw [HNL.out];exact hlt:k<c.shapes.length);generalize c.shapes[k]'(by rw [HNL.out];exact hlt)=s at *;have HSK:=zH (fun w' (he:Ext wr w')=>ydr s w' (hsk.ext he));have HX:=zH hx;obtain ⟨arr,As,caps,refs⟩:=s;unfold Shp.val at HSK;simp only at g0 g1 HSK hb;rw [hA] at B1 ⊢;clear hx hsk hA;go_wp2_with fail;refine (HSK.out _ zE).mono ?_;rintro e w1 ⟨s',rfl,ha,hr,hfr,hok,hE1⟩;obtain ⟨arr',A',cap',refs'⟩:=s';simp only at ha hr hfr hok;obtain rfl:=ha;obtain rfl:=hr;have E1:=zH (show Ext wr w1 from (show Ext wr _ by exact zE).trans hE1);have O1:=zH hok;have F1:=zH (show∀a,A'=some a→wr.heap.size≤a.block from fun a ha=>Nat.le_trans (by go_simp) (hfr a ha));have N1:=zH (show Mod (fun _=>False) ⟨own,wr⟩ ((⟨own,wr⟩:GW).to 1 w1) from Mod.ext E1.out 1);have M1:=zH (M.out.trans N1.out);have R1:=zH (R.out.keep N1.out id);clear hE1 hok hfr g0 g1 hb
    go_wp2_with (at_builtin;refine wpList_append_own_at _ rfl (.tmp 13) (.tmp 16) 32 rfl 0 94 i0 _ 2 32 Tryz.underlying32 hi hz0 hz1 hz2 rfl zd _ _ _ rfl (R1.out.row.row.alloc _) ⟨w1.heap.size,0,none⟩ 1 1 [.bool arr',.slice A' refs'.length cap'] rfl rfl (yca _ _ _) (by intro u hu;simp at hu;rcases hu with rfl|rfl<;>rfl) (by unfold maxLen;omega) zo (Nat.zero_le _) ?_;intro v2 w2 hown hgrow hnil hat);obtain ⟨own2,m2,r2,k2⟩:=R1.out.app M1.out (Ext.alloc (Ext.refl _) _) hown hgrow hat;have M2:=zH m2;have R2:=zH r2;have K2:=zH k2;clear m2 r2 k2 hown hgrow hnil hat;go_wp2_with fail;go_roundw
    case rel=>
     refine ⟨k+1,own2,ss++[⟨arr',A',cap',refs'⟩],zo,by go_num,zH ?_,M2,zH ?_,zH ⟨R2.out.row.weak rfl (by rw [List.flatMap_append];rfl),R2.out.new⟩,zH ((B1.out.keep N1.out id).keep K2.out zd),zH ((B2.out.keep N1.out id).keep K2.out zd)⟩
     · rw [List.map_append,HS.out,List.take_add_one,HX.out,List.map_append];rfl
     · intro s hs;rcases List.mem_append.1 hs with hs|hs
       · exact ⟨((HA.out s hs).1.keep N1.out id).keep K2.out zd,(HA.out s hs).2⟩
       · simp only [List.mem_singleton] at hs;subst hs;exact ⟨ShpAt.keep (g:=(⟨own,wr⟩:GW).to 1 w1) ⟨⟨O1.out.refs,fun a ha _=>GW.to_new (F1.out a ha)⟩,O1.out.len,O1.out.max⟩ K2.out zd,fun a ha=>Nat.le_trans M.out.size (F1.out a ha)⟩
    case measure=>simp [intOf];omega
  · obtain rfl:k=nl:=zo;have c0:=B1.out.cell (i:=0) rfl;have c1:=B1.out.cell (i:=1) rfl;have c2:=B1.out.cell (i:=2) rfl;have c3:=B1.out.cell (i:=3) rfl;have c4:=B1.out.cell (i:=4) rfl;have c5':=B1.out.cell (i:=5) rfl;have c6:=B1.out.cell (i:=6) rfl;have c7:=B1.out.cell (i:=7) rfl;have c8:=B1.out.cell (i:=8) rfl;have f8:=B1.out.live 8;have d0:=B2.out.cell (i:=0) rfl;have d1:=B2.out.cell (i:=1) rfl;have d2:=B2.out.cell (i:=2) rfl;have d3:=B2.out.cell (i:=3) rfl;have d4:=B2.out.cell (i:=4) rfl;have d5:=B2.out.cell (i:=5) rfl;have d6:=B2.out.cell (i:=6) rfl;have d7:=B2.out.cell (i:=7) rfl;have d8:=B2.out.cell (i:=8) rfl;have e0:=B2.out.live 0;have e1:=B2.out.live 1;have e2:=B2.out.live 2;have e3:=B2.out.live 3;have e4:=B2.out.live 4;have e5:=B2.out.live 5;have e6:=B2.out.live 6;have e7:=B2.out.live 7;have e8:=B2.out.live 8;have l1:=B1.out.lt;have l2:=B2.out.lt;simp only at c0 c1 c2 c3 c4 c5' c6 c7 c8 f8 d0 d1 d2 d3 d4 d5 d6 d7 d8 e0 e1 e2 e3 e4 e5 e6 e7 e8 l1 l2;go_wp2_with fail
    refine bodyPost_ret (v:=.agg #[.int .i64 c.frags,.int .i64 c.spine,.int .i64 c.globals,.int .i64 c.threads,.int .i64 c.locals,.int .i64 c.cache,.int .i64 c.stack,.int .i64 c.low,.slice A5 k c5]) (by simp [results,Tryz.results69,go_sem,d0,d1,d2,d3,d4,d5,d6,d7,d8]) rfl ?_;clear c0 c1 c2 c3 c4 c5' c6 c7 c8 f8 d0 d1 d2 d3 d4 d5 d6 d7 d8 e0 e1 e2 e3 e4 e5 e6 e7 e8;have hss:ss.length=k:=by have:=congrArg List.length HS.out;simp only [List.length_map,List.length_take,HNL.out] at this;omega
    have M9:Mod (fun _=>False) g ⟨own,_⟩:=Mod.stn (Mod.stn (Mod.stn (Mod.stn (Mod.stn (Mod.stn (Mod.stn (Mod.stn (Mod.stn (Mod.stn (b:=g.w.heap.size) (i:=8) (v:=.slice A5 k c5) M.out (Nat.le_refl _)) (b:=g.w.heap.size+1) (i:=0) (v:=.int .i64 c.frags) zo) (b:=g.w.heap.size+1) (i:=1) (v:=.int .i64 c.spine) zo) (b:=g.w.heap.size+1) (i:=2) (v:=.int .i64 c.globals) zo) (b:=g.w.heap.size+1) (i:=3) (v:=.int .i64 c.threads) zo) (b:=g.w.heap.size+1) (i:=4) (v:=.int .i64 c.locals) zo) (b:=g.w.heap.size+1) (i:=5) (v:=.int .i64 c.cache) zo) (b:=g.w.heap.size+1) (i:=6) (v:=.int .i64 c.stack) zo) (b:=g.w.heap.size+1) (i:=7) (v:=.int .i64 c.low) zo) (b:=g.w.heap.size+1) (i:=8) (v:=.slice A5 k c5) zo
    have T9:Mod (fun x=>x=9) ⟨own,wr⟩ ⟨own,_⟩:=Mod.st (Mod.st (Mod.st (Mod.st (Mod.st (Mod.st (Mod.st (Mod.st (Mod.st (Mod.st (b:=g.w.heap.size) (i:=8) (v:=.slice A5 k c5) (Mod.refl _ _) B1.out.own) (b:=g.w.heap.size+1) (i:=0) (v:=.int .i64 c.frags) B2.out.own) (b:=g.w.heap.size+1) (i:=1) (v:=.int .i64 c.spine) B2.out.own) (b:=g.w.heap.size+1) (i:=2) (v:=.int .i64 c.globals) B2.out.own) (b:=g.w.heap.size+1) (i:=3) (v:=.int .i64 c.threads) B2.out.own) (b:=g.w.heap.size+1) (i:=4) (v:=.int .i64 c.locals) B2.out.own) (b:=g.w.heap.size+1) (i:=5) (v:=.int .i64 c.cache) B2.out.own) (b:=g.w.heap.size+1) (i:=6) (v:=.int .i64 c.stack) B2.out.own) (b:=g.w.heap.size+1) (i:=7) (v:=.int .i64 c.low) B2.out.own) (b:=g.w.heap.size+1) (i:=8) (v:=.slice A5 k c5) B2.out.own;refine ⟨⟨c.frags,c.spine,c.globals,c.threads,c.locals,c.cache,c.stack,c.low,A5,c5,ss⟩,by unfold Cnf.val;simp only [hss],Cnf.Same.of rfl rfl rfl rfl rfl rfl rfl rfl (by rw [HS.out,List.take_of_length_le (by rw [HNL.out];exact Nat.le_refl _)]),?_,M9.toExt⟩;have hR:=R.out.keep T9 zd;refine ⟨⟨hR.row.cells,fun a ha _=>GW.to_new (hR.new a.block (by simp only at ha;rw [ha];rfl))⟩,fun s hs=>?_,?_,?_⟩
    · obtain ⟨h1,h2⟩:=HA.out s hs;have h3:=h1.keep T9 zd;exact ⟨⟨h3.seg.cells,fun a ha _=>GW.to_new (h2 a ha)⟩,h3.len,h3.max⟩
    · obtain ⟨A',c',hv,hn1,_⟩:=hR.row.form;injection hv with _ _ hv;subst hv;simp only [hss];exact hn1
    · simp only [hss];omega
def cSizes (c:Cnf):Value:=if c.check=0 then .agg #[.int .i64 (c.frags*8),.int .i64 c.spine,.int .i64 c.spine,.int .i64 c.globals] else .agg #[.int .i64 0,.int .i64 0,.int .i64 0,.int .i64 0]
theorem Cnf.check_zero {c:Cnf} (h:c.check=0):c.rangedTo 8=true∧c.threads*c.cache≤c.frags∧within c.shapes.length 1 8=true∧badIn c.shapes=false:=by
 unfold Cnf.check at h;split at h
 · rename_i h1
   split at h
   · rename_i h2
     simp only [Bool.and_eq_true,decide_eq_true_eq,Bool.not_eq_true'] at h1 h2;exact ⟨h1.1,h1.2,h2.1,h2.2⟩
   · cases h
 · cases h
theorem yey (c:Cnf) (w:World) (hc:c.Ok w):Calls prog 117 #[c.val] w (Gives (cSizes c) w):=by
 have HC:=zH (fun w' (he:Ext w w')=>yar c w' (hc.ext he));by_cases h0:c.check=0
 · obtain ⟨⟨_,_⟩,⟨_,_⟩,_⟩:=Cnf.ranged (Cnf.check_zero h0).1;have HV:=zH (show cSizes c=.agg #[.int .i64 (c.frags*8),.int .i64 c.spine,.int .i64 c.spine,.int .i64 c.globals] by unfold cSizes;rw [if_pos h0]);have H0:=zH h0;clear h0;unfold Cnf.val at HC ⊢;go_enter func117,ntmps117;go_wp2_with fail;refine (HC.out _ zE).mono ?_;rw [H0.out];rintro e w1 ⟨rfl,X1,rfl⟩;go_wp2_with fail;refine bodyPost_ret (v:=.agg #[.int .i64 (c.frags*8),.int .i64 c.spine,.int .i64 c.spine,.int .i64 c.globals]) (by simp [results,Tryz.results117,go_sem]) rfl ?_;rw [HV.out];exact Gives.mk rfl zE
 · have HV:=zH (show cSizes c=.agg #[.int .i64 0,.int .i64 0,.int .i64 0,.int .i64 0] by unfold cSizes;rw [if_neg h0]);have hb:(c.check !=0)=true:=by simp [h0]
   clear h0;unfold Cnf.val at HC ⊢;go_enter func117,ntmps117;go_wp2_with fail;refine (HC.out _ zE).mono ?_;rintro e w1 ⟨rfl,X1,rfl⟩;go_wp2_with fail;refine bodyPost_ret (v:=.agg #[.int .i64 0,.int .i64 0,.int .i64 0,.int .i64 0]) (by simp [results,Tryz.results117,go_sem]) rfl ?_;rw [HV.out];exact Gives.mk rfl zE
def cSize (c:Cnf) (r:Nat):Int:=if c.check=0 then ([c.frags*8,c.spine,c.spine,c.globals][r]?).getD 0 else 0
def cAhead (c:Cnf) (r:Nat):Int:=if c.check=0 then ([c.frags*8,c.spine,c.spine,c.globals].take r).sum else 0
def cAt (c:Cnf) (r:Nat) (k:Int):Value:=if 0≤k∧k<cSize c r then .tuple #[.int .i64 (k+cAhead c r),.int .i64 0] else .tuple #[.int .i64 0,.int .i64 1]
theorem yfb (c:Cnf) (r:Nat) (k:Int) (w:World) (hc:c.Ok w) (hr:r<4):Calls prog 125 #[c.val,.int .i64 (r+1:Nat),.int .i64 k] w (Gives (cAt c r k) w):=by
 have HC:=zH (fun w' (he:Ext w w')=>yey c w' (hc.ext he))
 obtain ⟨a0,a1,a2,a3,hS,hz,ha,h0,h1,h2,h3⟩: ∃a0 a1 a2 a3:Int,cSizes c=.agg #[.int .i64 a0,.int .i64 a1,.int .i64 a2,.int .i64 a3]∧cSize c r=([a0,a1,a2,a3][r]?).getD 0∧cAhead c r=([a0,a1,a2,a3].take r).sum∧(0≤a0∧a0≤8192)∧(0≤a1∧a1≤2048)∧(0≤a2∧a2≤2048)∧(0≤a3∧a3≤8):=by
  by_cases h0:c.check=0
  · obtain ⟨⟨_,_⟩,⟨_,_⟩,⟨_,_⟩,_⟩:=Cnf.ranged (Cnf.check_zero h0).1;exact ⟨_,_,_,_,by unfold cSizes;rw [if_pos h0],by unfold cSize;rw [if_pos h0],by unfold cAhead;rw [if_pos h0],zo,zo,zo,zo⟩
  · refine ⟨0,0,0,0,by unfold cSizes;rw [if_neg h0],?_,?_,zo,zo,zo,zo⟩
    · unfold cSize;rw [if_neg h0];rcases (show r=0∨r=1∨r=2∨r=3 by omega) with rfl|rfl|rfl|rfl<;>rfl
    · unfold cAhead;rw [if_neg h0];rcases (show r=0∨r=1∨r=2∨r=3 by omega) with rfl|rfl|rfl|rfl<;>rfl
 rw [hS] at HC;have HV:=zH (show cAt c r k=if 0≤k∧k<([a0,a1,a2,a3][r]?).getD 0 then .tuple #[.int .i64 (k+([a0,a1,a2,a3].take r).sum),.int .i64 0] else .tuple #[.int .i64 0,.int .i64 1] by unfold cAt;rw [hz,ha]);clear hS hz ha;unfold Cnf.val at HC ⊢;rcases (show r=0∨r=1∨r=2∨r=3 by omega) with rfl|rfl|rfl|rfl
 · replace HV:=zH (show cAt c 0 k=if 0≤k∧k<a0 then .tuple #[.int .i64 (k+([a0,a1,a2,a3].take 0).sum),.int .i64 0] else .tuple #[.int .i64 0,.int .i64 1] from HV.out);rw [show ([a0,a1,a2,a3].take 0).sum=0 by simp] at HV;rw [show ((0+1:Nat):Int)=1 from rfl];clear hr;by_cases hk0:k<0
   · rw [if_neg zo] at HV;go_enter func125,ntmps125;go_wp2_with (go_at_call 117;refine (HC.out _ zE).mono ?_;rintro e w1 ⟨rfl,X1,rfl⟩);go_ret2;rw [HV.out];exact Gives.mk rfl zE
   · by_cases hk1:k<a0
     · rw [if_pos zo] at HV;go_enter func125,ntmps125;go_wp2_with (go_at_call 117;refine (HC.out _ zE).mono ?_;rintro e w1 ⟨rfl,X1,rfl⟩);go_loop [2,27] (fun q i=> ∃n:Nat,n≤0∧i=.int .i64 n∧q=.int .i64 (k+([a0,a1,a2,a3].take n).sum)) (fun _ i=>0-(intOf i).toNat)
       case atStart=>exact ⟨0,zo,rfl,by simp⟩
       case round=>
        obtain ⟨n,hn,rfl,rfl⟩:=hrel;obtain rfl:n=0:=zo;rw [show ([a0,a1,a2,a3].take 0).sum=0 by simp];go_wp2_with fail;go_ret2;rw [HV.out];exact Gives.ii zo rfl zE
     · rw [if_neg zo] at HV;go_enter func125,ntmps125;go_wp2_with (go_at_call 117;refine (HC.out _ zE).mono ?_;rintro e w1 ⟨rfl,X1,rfl⟩);go_ret2;rw [HV.out];exact Gives.mk rfl zE
 · replace HV:=zH (show cAt c 1 k=if 0≤k∧k<a1 then .tuple #[.int .i64 (k+([a0,a1,a2,a3].take 1).sum),.int .i64 0] else .tuple #[.int .i64 0,.int .i64 1] from HV.out);rw [show ([a0,a1,a2,a3].take 1).sum=a0 by simp] at HV;rw [show ((1+1:Nat):Int)=2 from rfl];clear hr;by_cases hk0:k<0
   · rw [if_neg zo] at HV;go_enter func125,ntmps125;go_wp2_with (go_at_call 117;refine (HC.out _ zE).mono ?_;rintro e w1 ⟨rfl,X1,rfl⟩);go_ret2;rw [HV.out];exact Gives.mk rfl zE
   · by_cases hk1:k<a1
     · rw [if_pos zo] at HV;go_enter func125,ntmps125;go_wp2_with (go_at_call 117;refine (HC.out _ zE).mono ?_;rintro e w1 ⟨rfl,X1,rfl⟩);go_loop [2,27] (fun q i=> ∃n:Nat,n≤1∧i=.int .i64 n∧q=.int .i64 (k+([a0,a1,a2,a3].take n).sum)) (fun _ i=>1-(intOf i).toNat)
       case atStart=>exact ⟨0,zo,rfl,by simp⟩
       case round=>
        obtain ⟨n,hn,rfl,rfl⟩:=hrel;by_cases hn0:n=0
        · subst hn0;rw [show ([a0,a1,a2,a3].take 0).sum=0 by simp];go_wp2_with fail;exact ⟨⟨1,zo,rfl,congrArg (Value.int .i64) (by first|(simp;done)|(simp;omega))⟩,by simp [intOf]⟩
        obtain rfl:n=1:=zo;rw [show ([a0,a1,a2,a3].take 1).sum=a0 by simp];go_wp2_with fail;go_ret2;rw [HV.out];exact Gives.ii zo rfl zE
     · rw [if_neg zo] at HV;go_enter func125,ntmps125;go_wp2_with (go_at_call 117;refine (HC.out _ zE).mono ?_;rintro e w1 ⟨rfl,X1,rfl⟩);go_ret2;rw [HV.out];exact Gives.mk rfl zE
 · replace HV:=zH (show cAt c 2 k=if 0≤k∧k<a2 then .tuple #[.int .i64 (k+([a0,a1,a2,a3].take 2).sum),.int .i64 0] else .tuple #[.int .i64 0,.int .i64 1] from HV.out);rw [show ([a0,a1,a2,a3].take 2).sum=a0+a1 by first|(simp;done)|(simp;omega)] at HV;rw [show ((2+1:Nat):Int)=3 from rfl];clear hr;by_cases hk0:k<0
   · rw [if_neg zo] at HV;go_enter func125,ntmps125;go_wp2_with (go_at_call 117;refine (HC.out _ zE).mono ?_;rintro e w1 ⟨rfl,X1,rfl⟩);go_ret2;rw [HV.out];exact Gives.mk rfl zE
   · by_cases hk1:k<a2
     · rw [if_pos zo] at HV;go_enter func125,ntmps125;go_wp2_with (go_at_call 117;refine (HC.out _ zE).mono ?_;rintro e w1 ⟨rfl,X1,rfl⟩);go_loop [2,27] (fun q i=> ∃n:Nat,n≤2∧i=.int .i64 n∧q=.int .i64 (k+([a0,a1,a2,a3].take n).sum)) (fun _ i=>2-(intOf i).toNat)
       case atStart=>exact ⟨0,zo,rfl,by simp⟩
       case round=>
        obtain ⟨n,hn,rfl,rfl⟩:=hrel;by_cases hn0:n=0
        · subst hn0;rw [show ([a0,a1,a2,a3].take 0).sum=0 by simp];go_wp2_with fail;exact ⟨⟨1,zo,rfl,congrArg (Value.int .i64) (by first|(simp;done)|(simp;omega))⟩,by simp [intOf]⟩
        by_cases hn1:n=1
        · subst hn1;rw [show ([a0,a1,a2,a3].take 1).sum=a0 by simp];go_wp2_with fail;exact ⟨⟨2,zo,rfl,congrArg (Value.int .i64) (by first|(simp;done)|(simp;omega))⟩,by simp [intOf]⟩
        obtain rfl:n=2:=zo;rw [show ([a0,a1,a2,a3].take 2).sum=a0+a1 by first|(simp;done)|(simp;omega)];go_wp2_with fail;go_ret2;rw [HV.out];exact Gives.ii zo rfl zE
     · rw [if_neg zo] at HV;go_enter func125,ntmps125;go_wp2_with (go_at_call 117;refine (HC.out _ zE).mono ?_;rintro e w1 ⟨rfl,X1,rfl⟩);go_ret2;rw [HV.out];exact Gives.mk rfl zE
 · replace HV:=zH (show cAt c 3 k=if 0≤k∧k<a3 then .tuple #[.int .i64 (k+([a0,a1,a2,a3].take 3).sum),.int .i64 0] else .tuple #[.int .i64 0,.int .i64 1] from HV.out);rw [show ([a0,a1,a2,a3].take 3).sum=a0+a1+a2 by first|(simp;done)|(simp;omega)] at HV;rw [show ((3+1:Nat):Int)=4 from rfl];clear hr;by_cases hk0:k<0
   · rw [if_neg zo] at HV;go_enter func125,ntmps125;go_wp2_with (go_at_call 117;refine (HC.out _ zE).mono ?_;rintro e w1 ⟨rfl,X1,rfl⟩);go_ret2;rw [HV.out];exact Gives.mk rfl zE
   · by_cases hk1:k<a3
     · rw [if_pos zo] at HV;go_enter func125,ntmps125;go_wp2_with (go_at_call 117;refine (HC.out _ zE).mono ?_;rintro e w1 ⟨rfl,X1,rfl⟩);go_loop [2,27] (fun q i=> ∃n:Nat,n≤3∧i=.int .i64 n∧q=.int .i64 (k+([a0,a1,a2,a3].take n).sum)) (fun _ i=>3-(intOf i).toNat)
       case atStart=>exact ⟨0,zo,rfl,by simp⟩
       case round=>
        obtain ⟨n,hn,rfl,rfl⟩:=hrel;by_cases hn0:n=0
        · subst hn0;rw [show ([a0,a1,a2,a3].take 0).sum=0 by simp];go_wp2_with fail;exact ⟨⟨1,zo,rfl,congrArg (Value.int .i64) (by first|(simp;done)|(simp;omega))⟩,by simp [intOf]⟩
        by_cases hn1:n=1
        · subst hn1;rw [show ([a0,a1,a2,a3].take 1).sum=a0 by simp];go_wp2_with fail;exact ⟨⟨2,zo,rfl,congrArg (Value.int .i64) (by first|(simp;done)|(simp;omega))⟩,by simp [intOf]⟩
        by_cases hn2:n=2
        · subst hn2;rw [show ([a0,a1,a2,a3].take 2).sum=a0+a1 by first|(simp;done)|(simp;omega)];go_wp2_with fail;exact ⟨⟨3,zo,rfl,congrArg (Value.int .i64) (by first|(simp;done)|(simp;omega))⟩,by simp [intOf]⟩
        obtain rfl:n=3:=zo;rw [show ([a0,a1,a2,a3].take 3).sum=a0+a1+a2 by first|(simp;done)|(simp;omega)];go_wp2_with fail;go_ret2;rw [HV.out];exact Gives.ii zo rfl zE
     · rw [if_neg zo] at HV;go_enter func125,ntmps125;go_wp2_with (go_at_call 117;refine (HC.out _ zE).mono ?_;rintro e w1 ⟨rfl,X1,rfl⟩);go_ret2;rw [HV.out];exact Gives.mk rfl zE
def cFrag (c:Cnf) (i k:Int):Value:=if c.check=0∧0≤i∧i<c.frags∧0≤k∧k<8 then .tuple #[.int .i64 (i*8+k),.int .i64 0] else .tuple #[.int .i64 0,.int .i64 1]
theorem ybH (c:Cnf) (i k:Int) (w:World) (hc:c.Ok w):Calls prog 214 #[c.val,.int .i64 i,.int .i64 k] w (Gives (cFrag c i k) w):=by
 have HC:=zH (fun w' (he:Ext w w')=>yar c w' (hc.ext he));by_cases h1:i<0
 · have HV:=zH (show cFrag c i k=.tuple #[.int .i64 0,.int .i64 1] by unfold cFrag;rw [if_neg zo]);unfold Cnf.val at HC ⊢;go_enter func214,ntmps214;go_wp2_with fail;go_ret2;rw [HV.out];exact Gives.mk rfl zE
 · by_cases h2:c.frags≤i
   · have HV:=zH (show cFrag c i k=.tuple #[.int .i64 0,.int .i64 1] by unfold cFrag;rw [if_neg zo]);unfold Cnf.val at HC ⊢;go_enter func214,ntmps214;go_wp2_with fail;go_ret2;rw [HV.out];exact Gives.mk rfl zE
   · by_cases h3:k<0
     · have HV:=zH (show cFrag c i k=.tuple #[.int .i64 0,.int .i64 1] by unfold cFrag;rw [if_neg zo]);unfold Cnf.val at HC ⊢;go_enter func214,ntmps214;go_wp2_with fail;go_ret2;rw [HV.out];exact Gives.mk rfl zE
     · by_cases h4:8≤k
       · have HV:=zH (show cFrag c i k=.tuple #[.int .i64 0,.int .i64 1] by unfold cFrag;rw [if_neg zo]);unfold Cnf.val at HC ⊢;go_enter func214,ntmps214;go_wp2_with fail;go_ret2;rw [HV.out];exact Gives.mk rfl zE
       · by_cases h5:c.check=0
         · obtain ⟨⟨_,_⟩,_⟩:=Cnf.ranged (Cnf.check_zero h5).1;have HV:=zH (show cFrag c i k=.tuple #[.int .i64 (i*8+k),.int .i64 0] by unfold cFrag;rw [if_pos zo]);have HA:=zH (fun w' (he:Ext w w')=>yfb c 0 (i*8+k) w' (hc.ext he) zo);rw [show cAt c 0 (i*8+k)=.tuple #[.int .i64 (i*8+k),.int .i64 0] by unfold cAt cSize cAhead;rw [if_pos h5,if_pos h5,if_pos (by simp;omega)];simp] at HA;rw [h5] at HC;clear h5;unfold Cnf.val at HC HA ⊢;go_enter func214,ntmps214;go_wp2_with (first|(go_at_call 60;refine (HC.out _ zE).mono ?_;rintro e w1 ⟨rfl,X1,rfl⟩)|(go_at_call 125;refine (HA.out _ zE).mono ?_;rintro e w1 ⟨rfl,X1,rfl⟩));go_ret2;rw [HV.out];exact Gives.mk rfl zE
         · have HV:=zH (show cFrag c i k=.tuple #[.int .i64 0,.int .i64 1] by unfold cFrag;rw [if_neg zo]);have hb:(c.check !=0)=true:=by simp [h5]
           clear h5;unfold Cnf.val at HC ⊢;go_enter func214,ntmps214;go_wp2_with (go_at_call 60;refine (HC.out _ zE).mono ?_;rintro e w1 ⟨rfl,X1,rfl⟩);go_ret2;rw [HV.out];exact Gives.mk rfl zE
theorem ycU (x0 x1 x2 x3:Value) (w:World):
 (Instr.index 165 (.agg #[x0,x1,x2,x3]) (zI z6 0)).run prog w=.ok x0 w∧
 (Instr.index 165 (.agg #[x0,x1,x2,x3]) (zI z6 1)).run prog w=.ok x1 w∧
 (Instr.index 165 (.agg #[x0,x1,x2,x3]) (zI z6 2)).run prog w=.ok x2 w∧
 (Instr.index 165 (.agg #[x0,x1,x2,x3]) (zI z6 3)).run prog w=.ok x3 w:=
 ⟨zQ,zQ,zQ,zQ⟩
def cWords (c:Cnf):Int:=if c.check=0 then c.frags*8+c.spine+c.spine+c.globals else 0
theorem yeD (c:Cnf) (w:World) (hc:c.Ok w):Calls prog 62 #[c.val] w (Gives (zI z6 (cWords c)) w):=by
 have HC:=zH (fun w' (he:Ext w w')=>yey c w' (hc.ext he))
 obtain ⟨a0,a1,a2,a3,hS,hz,h0,h1,h2,h3⟩: ∃a0 a1 a2 a3:Int,cSizes c=.agg #[.int .i64 a0,.int .i64 a1,.int .i64 a2,.int .i64 a3]∧cWords c=a0+a1+a2+a3∧(0≤a0∧a0≤8192)∧(0≤a1∧a1≤2048)∧(0≤a2∧a2≤2048)∧(0≤a3∧a3≤8):=by
  by_cases h0:c.check=0
  · obtain ⟨⟨_,_⟩,⟨_,_⟩,⟨_,_⟩,_⟩:=Cnf.ranged (Cnf.check_zero h0).1;exact ⟨_,_,_,_,by unfold cSizes;rw [if_pos h0],by unfold cWords;rw [if_pos h0],zo,zo,zo,zo⟩
  · exact ⟨0,0,0,0,by unfold cSizes;rw [if_neg h0],by unfold cWords;rw [if_neg h0];rfl,zo,zo,zo,zo⟩
 rw [hS] at HC;have HZ:=zH hz;clear hS hz;have q0:=fun w=>(ycU (zI z6 a0) (zI z6 a1) (zI z6 a2) (zI z6 a3) w).1;have q1:=fun w=>(ycU (zI z6 a0) (zI z6 a1) (zI z6 a2) (zI z6 a3) w).2.1;have q2:=fun w=>(ycU (zI z6 a0) (zI z6 a1) (zI z6 a2) (zI z6 a3) w).2.2.1;have q3:=fun w=>(ycU (zI z6 a0) (zI z6 a1) (zI z6 a2) (zI z6 a3) w).2.2.2;unfold Cnf.val at HC ⊢;go_enter func62,ntmps62;go_wp2_with fail;refine (HC.out _ zE).mono ?_;rintro e w1 ⟨rfl,X1,rfl⟩;go_wp2_with fail;refine wp_loop_rounds 5 ?_;rw [rounds_succ];go_wp2_with fail;rw [rounds_succ];go_wp2_with fail;rw [rounds_succ];go_wp2_with fail;rw [rounds_succ];go_wp2_with fail;rw [rounds_succ];go_wp2_with fail;go_ret;exact Gives.int (by rw [HZ.out];try simp) zE
theorem ya5 (c:Cnf) (k:Int) (w:World) (hc:c.Ok w):Calls prog 66 #[c.val,.int .i64 k] w (Gives (cAt c 3 k) w):=by
 have HC:=zH (fun w' (he:Ext w w')=>yfb c 3 k w' (hc.ext he) zo);have HV: ∃x y:Int,cAt c 3 k=.tuple #[.int .i64 x,.int .i64 y]:=by unfold cAt;split<;>exact ⟨_,_,rfl⟩
 obtain ⟨x,y,hv⟩:=HV;rw [hv] at HC ⊢;clear hv;unfold Cnf.val at HC ⊢;go_enter func66,ntmps66;go_wp2_with fail;refine (HC.out _ zE).mono ?_;rintro e w1 ⟨rfl,X1,rfl⟩;go_wp2_with fail;go_ret2;exact Gives.ii rfl rfl zE
theorem yjN (c:Cnf) (s:Nat) (k:Int) (w:World) (hc:c.Ok w) (hs:s<2):Calls prog 238 #[c.val,.int .i64 s,.int .i64 k] w (Gives (cAt c (s+1) k) w):=by
 have HC:=zH (fun w' (he:Ext w w')=>yfb c (s+1) k w' (hc.ext he) zo);have HV: ∃x y:Int,cAt c (s+1) k=.tuple #[.int .i64 x,.int .i64 y]:=by unfold cAt;split<;>exact ⟨_,_,rfl⟩
 obtain ⟨x,y,hv⟩:=HV;rw [hv] at HC ⊢;clear hv;unfold Cnf.val at HC ⊢;rcases (show s=0∨s=1 by omega) with rfl|rfl
 · go_enter func238,ntmps238;go_wp2_with fail;refine (HC.out _ zE).mono ?_;rintro e w1 ⟨rfl,X1,rfl⟩;go_wp2_with fail;go_ret2;exact Gives.ii rfl rfl zE
 · go_enter func238,ntmps238;go_wp2_with fail;refine (HC.out _ zE).mono ?_;rintro e w1 ⟨rfl,X1,rfl⟩;go_wp2_with fail;go_ret2;exact Gives.ii rfl rfl zE
end Go.Proofs.YtdhjjpnajjingaaGreat
namespace Go
def sideTo (l:List Int) (k:Nat):Bool:=(List.range k).all fun i=>decide (l.getD i 0≠9223372036854775807∧l.getD (i+1) 0=l.getD i 0+1)
def isSide (l:List Int):Bool:=sideTo l (l.length-1)
theorem ygj (l:List Int) (k:Nat):sideTo l (k+1)=(sideTo l k&&decide (l.getD k 0≠9223372036854775807∧l.getD (k+1) 0=l.getD k 0+1)):=by
 simp [sideTo,List.range_succ,List.all_append]
theorem yi1 {l:List Int} {k:Nat} (hk:k+1<l.length) (h: ¬(l.getD k 0≠9223372036854775807∧l.getD (k+1) 0=l.getD k 0+1)):isSide l=false:=by
 unfold isSide sideTo;rw [List.all_eq_false];exact ⟨k,List.mem_range.2 zo,by simpa using h⟩
end Go
namespace Go.Proofs.YtdhjjpnajjingaaGreat
open Go Go.RowKit
theorem ycV {w:World} {A:Option Addr} {l:List Int} (h:CellsAt w A (l.map (Value.int .i64))) {k:Nat} (hk:k<l.length): ∃b o,A=some ⟨b,o,none⟩∧b<w.heap.size∧ ∀j,j<l.length→w.cell? ⟨b,o+j,none⟩=some (zI z6 (l.getD j 0)):=by
 obtain ⟨b,o,hA,hb,hc⟩:=h.cases (by simp;omega);refine ⟨b,o,hA,hb,fun j hj=>hc j _ ?_⟩;rw [List.getElem?_map,List.getElem?_eq_getElem hj];simp [List.getD,List.getElem?_eq_getElem hj]
theorem yfF (A:Option Addr) (cap:Nat) (l:List Int) (w:World) (hc:CellsAt w A (l.map (Value.int .i64))) (hl:l.length≤140737488355328) (hw: ∀x∈l, -9223372036854775808≤x∧x≤9223372036854775807):
 Calls prog 220 #[.slice A l.length cap] w (Gives (.bool (isSide l)) w):=by
 go_enter func220,ntmps220;go_wp2_with fail;go_loopw [3] (fun i wr=> ∃k:Nat,(k+1≤l.length∨k=0)∧i=.int .i64 (k+1:Nat)∧sideTo l k=true∧Ext w wr) (fun i _=>l.length+1-(intOf i).toNat)
 case atStart=>exact ⟨0,.inr rfl,rfl,rfl,Ext.refl _⟩
 case round=>
  obtain ⟨k,hk,rfl,hs,X,rfl⟩:=hrel;have HS:=zH hs;clear hs;by_cases hlt:k+1<l.length
  · obtain ⟨b,o,rfl,hb,hcell⟩:=ycV hc hlt;have g0:=hcell k zo;have g1:=hcell (k+1) hlt;have w0:=hw (l.getD k 0) (by simp [List.getD,List.getElem?_eq_getElem (show k<l.length by omega)]);have HT:=zH (ygj l k);have HN:=zH (fun h=>yi1 (l:=l) hlt h);clear hcell hc hw;generalize l.getD k 0=x at *;generalize l.getD (k+1) 0=y at *;have hk':((k+1:Nat):Int)=(k:Int)+1:=rfl;rw [hk'];clear hk';go_wp2_with fail;have hk2:k<l.length:=zo;have hi1:IntKind.i64.wrap ((k:Int)+1-1)=k:=by rw [IntWalk.i64_in _ zo];omega
    obtain ⟨w0a,w0b⟩:=w0;cases hb:(x==9223372036854775807)
    · have hx:x≤9223372036854775806:=by have:=beq_eq_false_iff_ne.1 hb;omega
      clear w0b;go_quiet (fail)
      cases hy:(y !=x+1)
      · have HY:=zH (HT.out.trans (by rw [HS.out,decide_eq_true (⟨zo,by simpa using hy⟩:x≠9223372036854775807∧y=x+1)]));go_wp2_with fail;go_roundw
        case rel=>exact ⟨k+1,zo,by go_num,HY.out,zE⟩
        case measure=>simp [intOf];omega
      · have HF:=zH (HN.out (fun h=>by rw [bne_iff_ne] at hy;exact hy h.2));go_wp2_with fail;go_ret;exact Gives.bool HF.out.symm zE
    · have HF:=zH (HN.out (fun h=>h.1 (beq_iff_eq.1 hb)));clear HN;go_quiet (fail)
      go_wp2_with fail;go_ret;exact Gives.bool HF.out.symm zE
  · have HV:=zH (show isSide l=true by unfold isSide;rw [show l.length-1=k by omega];exact HS.out);go_wp2_with fail;go_ret;exact Gives.bool HV.out.symm zE
end Go.Proofs.YtdhjjpnajjingaaGreat
namespace Go
open Go.RowKit
structure SpaceS where
 tab:TabS
 stocks:List StockS
 forced:Bool
 count:Int
 c:Cnf
 pool:PoolS
 coil:CoilS
 line:List Ent
theorem Cnf.Same.refl (c:Cnf):c.Same c:=⟨rfl,rfl,rfl,rfl,rfl,rfl,rfl,rfl,rfl⟩
def inst (B:Nat) (x:Nat):Prop:=B≤x∧x<B+60
end Go
namespace Go.Proofs.YtdhjjpnajjingaaGreat
open Go Go.RowKit
theorem Cnf.Same.cAt {c d:Cnf} (h:c.Same d) (r:Nat) (k:Int):cAt c r k=cAt d r k:=by
 have hc:=h.check;obtain ⟨h1,h2,h3,h4,h5,h6,h7,h8,_⟩:=h;unfold Go.Proofs.YtdhjjpnajjingaaGreat.cAt cSize cAhead;rw [hc,h1,h2,h3]
structure SpaceIn (g:GW) (B b bt:Nat) (S:SpaceS) (bp bk bl:Nat) (A:Option Addr) (cs:Nat) (cm:Cnf) (bs:List Nat):Prop where
 blk:Blk g B b 67 [.pointer (some ⟨bt,0,none⟩),.slice A S.stocks.length cs,.bool S.forced,.int .i64 S.count,.int .i64 cm.frags,.int .i64 cm.spine,.int .i64 cm.globals,.int .i64 cm.threads,.int .i64 cm.locals,.int .i64 cm.cache,.int .i64 cm.stack,.int .i64 cm.low,.slice cm.A cm.shapes.length cm.cap,.pointer (some ⟨bp,0,none⟩),.pointer (some ⟨bk,0,none⟩),.pointer (some ⟨bl,0,none⟩)]
 row:Row g B 176 1 (.slice A S.stocks.length cs) S.stocks.length (bs.map fun x=>Value.pointer (some ⟨x,0,none⟩))
 tab:TabAt g (B+50) bt S.tab
 pool:PoolAt g (B+1) bp S.pool
 coil:CoilAt g (B+2) bk S.coil
 line:LineAt g (B+3) bl S.line
 cnf:CnfAt g (B+5) cm
 same:cm.Same S.c
 blen:bs.length=S.stocks.length
 stock: ∀j x s,bs[j]?=some x→S.stocks[j]?=some s→StockAt g (B+10+j) x s
 check:S.c.check=0
 few:S.stocks.length≤16
def SpaceAt (g:GW) (B b bt:Nat) (S:SpaceS):Prop:= ∃bp bk bl A cs cm bs,SpaceIn g B b bt S bp bk bl A cs cm bs
namespace SpaceIn
variable {g g':GW} {B b bt bp bk bl cs:Nat} {S:SpaceS} {A:Option Addr} {cm:Cnf} {bs:List Nat}
theorem keep {T:Nat→Prop} (h:SpaceIn g B b bt S bp bk bl A cs cm bs) (m:Mod T g g') (hT: ∀x,T x→x<B∨B+60≤x):SpaceIn g' B b bt S bp bk bl A cs cm bs:=by
 have q: ∀k,k<60→ ¬T (B+k):=fun k hk ht=>by have:=hT _ ht;omega
 refine ⟨h.blk.keep m (q 0 zo),h.row.keep m (q 0 zo),h.tab.keep m (q 50 zo),h.pool.keep m (q 1 zo),h.coil.keep m (q 2 zo),h.line.keep m (q 3 zo) (q 4 zo),h.cnf.keep m (q 5 zo),h.same,h.blen,fun j x s hx hs=>(h.stock j x s hx hs).keep m (fun e=>?_),h.check,h.few⟩;have:=(List.getElem?_eq_some_iff.1 hs).1;have:=h.few;exact q (10+j) zo (by rw [←Nat.add_assoc];exact e)
theorem withTab (h:SpaceIn g B b bt S bp bk bl A cs cm bs) {T:TabS} (m:Mod (fun x=>x=B+50) g g') (ht:TabAt g' (B+50) bt T):SpaceIn g' B b bt { S with tab:=T } bp bk bl A cs cm bs:=
 ⟨h.blk.keep m zo,h.row.keep m zo,ht,h.pool.keep m zo,h.coil.keep m zo,h.line.keep m zo zo,h.cnf.keep m zo,h.same,h.blen,fun j x s hx hs=>(h.stock j x s hx hs).keep m (by have h1:j<S.stocks.length:=(List.getElem?_eq_some_iff.1 hs).1;have:=h.few;omega),h.check,h.few⟩
theorem withPool (h:SpaceIn g B b bt S bp bk bl A cs cm bs) {T:PoolS} (m:Mod (fun x=>x=B+1) g g') (ht:PoolAt g' (B+1) bp T):SpaceIn g' B b bt { S with pool:=T } bp bk bl A cs cm bs:=
 ⟨h.blk.keep m zo,h.row.keep m zo,h.tab.keep m zo,ht,h.coil.keep m zo,h.line.keep m zo zo,h.cnf.keep m zo,h.same,h.blen,fun j x s hx hs=>(h.stock j x s hx hs).keep m zo,h.check,h.few⟩
theorem withCoil (h:SpaceIn g B b bt S bp bk bl A cs cm bs) {T:CoilS} (m:Mod (fun x=>x=B+2) g g') (ht:CoilAt g' (B+2) bk T):SpaceIn g' B b bt { S with coil:=T } bp bk bl A cs cm bs:=
 ⟨h.blk.keep m zo,h.row.keep m zo,h.tab.keep m zo,h.pool.keep m zo,ht,h.line.keep m zo zo,h.cnf.keep m zo,h.same,h.blen,fun j x s hx hs=>(h.stock j x s hx hs).keep m zo,h.check,h.few⟩
theorem withLine (h:SpaceIn g B b bt S bp bk bl A cs cm bs) {T:List Ent} (m:Mod (fun x=>x=B+3∨x=B+4) g g') (ht:LineAt g' (B+3) bl T):SpaceIn g' B b bt { S with line:=T } bp bk bl A cs cm bs:=
 ⟨h.blk.keep m zo,h.row.keep m zo,h.tab.keep m zo,h.pool.keep m zo,h.coil.keep m zo,ht,h.cnf.keep m zo,h.same,h.blen,fun j x s hx hs=>(h.stock j x s hx hs).keep m zo,h.check,h.few⟩
theorem withStock (h:SpaceIn g B b bt S bp bk bl A cs cm bs) {k y:Nat} {s':StockS} (hk:k<S.stocks.length) (hy:bs[k]?=some y) (m:Mod (fun x=>x=B+10+k) g g') (ht:StockAt g' (B+10+k) y s'):SpaceIn g' B b bt { S with stocks:=S.stocks.set k s' } bp bk bl A cs cm bs:=by
 have hf:=h.few;refine ⟨?_,?_,h.tab.keep m zo,h.pool.keep m zo,h.coil.keep m zo,h.line.keep m zo zo,h.cnf.keep m zo,h.same,by simpa using h.blen,fun j x s hx hs=>?_,h.check,by simpa using h.few⟩
 · simp only [List.length_set];exact h.blk.keep m zo
 · simp only [List.length_set];exact h.row.keep m zo
 · by_cases hj:k=j
   · subst hj;rw [hy] at hx;injection hx with hx;simp only at hs;rw [List.getElem?_set_self hk] at hs;injection hs with hs;rw [←hx, ←hs];exact ht
   · simp only at hs;rw [List.getElem?_set_ne hj] at hs;exact (h.stock j x s hx hs).keep m zo
theorem tick (h:SpaceIn g B b bt S bp bk bl A cs cm bs):SpaceIn ⟨g.own,g.w.setCell ⟨b,3,none⟩ (zI z6 (S.count+1))⟩ B b bt { S with count:=S.count+1 } bp bk bl A cs cm bs:=by
 have m:Mod (fun x=>x=B) g ⟨g.own,g.w.setCell ⟨b,3,none⟩ (zI z6 (S.count+1))⟩:=Mod.set h.blk.own;exact ⟨h.blk.set 3 _,h.row.setOther 3 _ (fun x hx=>h.row.ne_type h.blk zd hx),h.tab.keep m zo,h.pool.keep m zo,h.coil.keep m zo,h.line.keep m zo zo,h.cnf.keep m zo,h.same,h.blen,fun j x s hx hs=>(h.stock j x s hx hs).keep m zo,h.check,h.few⟩
end SpaceIn
end Go.Proofs.YtdhjjpnajjingaaGreat
