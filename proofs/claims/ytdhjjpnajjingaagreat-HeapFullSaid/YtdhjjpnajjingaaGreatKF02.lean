import Derived.Test.YtdhjjpnajjingaaGreatKF01
import Derived.Test.YtdhjjpnajjingaaGreatChecked
import Derived.Deep.RegionLaw
import Derived.Deep.AppendLies
set_option linter.unusedVariables false
set_option linter.unnecessarySimpa false
set_option linter.unusedSimpArgs false
open Bool renaming true→zT,false→zU
open Go.Value renaming int→zI,complex→zc,pointer→zp,bool→zb
open Go.IntKind renaming i64→z6
open Go.FloatKind renaming f64→z4
set_option maxHeartbeats 8000000
set_option maxRecDepth 100000
open Go.Proofs.Tryz
open Go.Lib renaming hid→zH
open Go.Ext renaming alloc→zA,patch→zP,drew→zD,drewN→zN,more→zM,refl→zR,setCell→zS
open Nat renaming le_refl→zL,le_add_right→zK
namespace Go.Proofs.YtdhjjpnajjingaaGreat
open Go Go.RowKit
structure LineAt (g:GW) (t b:Nat) (L:List Ent):Prop where
 ex: ∃A c, ∃ms:List EntM,Blk g t b 222 [.slice A L.length c]∧Row g t 224 8 (.slice A L.length c) L.length (ms.flatMap EntM.cells)∧ms.map EntM.e=L∧ ∀m∈ms,m.At g (t+1)
 len:L.length≤1000000
theorem LineAt.keep {S:Nat→Prop} {g g':GW} {t b:Nat} {L:List Ent} (h:LineAt g t b L) (d:Mod S g g') (hs: ¬S t) (hs1: ¬S (t+1)):LineAt g' t b L:=by
 obtain ⟨A,c,ms,h1,h2,h3,h4⟩:=h.ex;exact ⟨⟨A,c,ms,h1.keep d hs,h2.keep d hs,h3,fun m hm=>(h4 m hm).keep d hs1⟩,h.len⟩
theorem ylB (m:EntM) (p:Nat) (th:Int) (w:World) (hp:w.cell? ⟨p,0,none⟩=some (zI z6 th)) (hl:p<w.heap.size):
 Calls prog 255 #[.agg #[zI z6 m.e.thread,zI z6 m.e.frags,zI z6 m.e.spine,zI z6 m.e.state,zI z6 m.e.cycles,zI z6 m.e.at_,.slice m.A m.e.got.length m.cap,zb m.e.noted],zp (some ⟨p,0,none⟩)] w (Gives (zb (ofB th m.e)) w):=by
 go_enter func255,ntmps255;go_wp2_with fail;go_ret;exact Gives.bool rfl zE
theorem ybU {w:World} {A:Option Addr} {ms:List EntM} (h:CellsAt w A (ms.flatMap EntM.cells)) {k:Nat} (hk:k<ms.length): ∃b o,A=some ⟨b,o,none⟩∧b<w.heap.size∧
 w.cell? ⟨b,o+k*8,none⟩=some (zI z6 ms[k].e.thread)∧w.cell? ⟨b,o+k*8+1,none⟩=some (zI z6 ms[k].e.frags)∧w.cell? ⟨b,o+k*8+2,none⟩=some (zI z6 ms[k].e.spine)∧w.cell? ⟨b,o+k*8+3,none⟩=some (zI z6 ms[k].e.state)∧
 w.cell? ⟨b,o+k*8+4,none⟩=some (zI z6 ms[k].e.cycles)∧w.cell? ⟨b,o+k*8+5,none⟩=some (zI z6 ms[k].e.at_)∧w.cell? ⟨b,o+k*8+6,none⟩=some (.slice ms[k].A ms[k].e.got.length ms[k].cap)∧w.cell? ⟨b,o+k*8+7,none⟩=some (zb ms[k].e.noted):=by
 obtain ⟨b,o,hA,hb,hc⟩:=h.cases (by rw [yaH ms EntM.cells_len];omega);have hx:=List.getElem?_eq_getElem hk;have q:=fun (j:Nat) (v:Value) (hj:j<8) (hv:(ms[k].cells)[j]?=some v)=>hc (k*8+j) v (by rw [yaP EntM.cells_len ms k j _ hx hj];exact hv);refine ⟨b,o,hA,hb,?_,?_,?_,?_,?_,?_,?_,?_⟩
 · exact q 0 _ zo rfl
 · have:=q 1 _ zo rfl;rwa [←Nat.add_assoc] at this
 · have:=q 2 _ zo rfl;rwa [←Nat.add_assoc] at this
 · have:=q 3 _ zo rfl;rwa [←Nat.add_assoc] at this
 · have:=q 4 _ zo rfl;rwa [←Nat.add_assoc] at this
 · have:=q 5 _ zo rfl;rwa [←Nat.add_assoc] at this
 · have:=q 6 _ zo rfl;rwa [←Nat.add_assoc] at this
 · have:=q 7 _ zo rfl;rwa [←Nat.add_assoc] at this
def IdxGot (p:Ent→Bool) (ms:List EntM) (w:World) (e:Ending) (w':World):Prop:=Gives (zI z6 (placeOf p (ms.map EntM.e))) w e w'
theorem yl8 (A:Option Addr) (c:Nat) (ms:List EntM) (p:Nat) (th:Int) (w:World) (hc:CellsAt w A (ms.flatMap EntM.cells)) (hl:ms.length≤1000000) (hp:w.cell? ⟨p,0,none⟩=some (zI z6 th)) (hpl:p<w.heap.size):
 Calls prog 254 #[.slice A ms.length c,.func (.func 255) #[] #[zp (some ⟨p,0,none⟩)]] w (IdxGot (ofB th) ms w):=by
 have HC:=zH hc;have HP:=zH (fun w' (he:Ext w w')=>(⟨(he.cell hpl).trans hp,Nat.lt_of_lt_of_le hpl he.size⟩:w'.cell? ⟨p,0,none⟩=some (zI z6 th)∧p<w'.heap.size));clear hc hp;go_enter func254,ntmps254;go_wp2_with fail;go_loopw [8] (fun i wr=> ∃k:Nat,k≤ms.length∧i=zI z6 k∧Hid (∀e∈(ms.map EntM.e).take k,ofB th e=false)∧Hid (Ext w wr)) (fun i _=>ms.length-(intOf i).toNat)
 case atStart=>exact ⟨0,Nat.zero_le _,rfl,zH (by simp),zH (Ext.refl _)⟩
 case round=>
  obtain ⟨k,hk,rfl,hm,HE⟩:=hrel;by_cases hlt:k<ms.length
  · obtain ⟨b,o,hA,hb,g0,g1,g2,g3,g4,g5,g6,g7⟩:=ybU (HC.o.ext HE.o) hlt;have hx:=List.getElem?_eq_getElem hlt;have HX:=zH (show (ms.map EntM.e)[k]?=some ms[k].e by rw [List.getElem?_map,hx];rfl);generalize ms[k]=m at *;obtain ⟨hp1,hp2⟩:=HP.o wr HE.o;have HF:=zH (ylB m p th wr hp1 hp2);subst hA;clear hx hp1 hp2;go_wp2_with fail;refine HF.o.mono ?_;rintro e w1 ⟨rfl,hX⟩;have HE1:=zH (HE.o.trans (show Ext wr w1 from hX));clear hX;cases hv:ofB th m.e
    · have HN:=zH (ybS HX.o hm.o hv);clear hv;go_wp2_with fail;go_roundw
      case rel=>exact ⟨k+1,zo,by go_num,HN,HE1⟩
      case measure=>simp [intOf];omega
    · have HN:=zH (ycM HX.o hv hm.o);clear hv;go_wp2_with fail;go_ret;exact Gives.int HN.o.symm HE1.o
  · have HN:=zH (ycL (p:=ofB th) (l:=ms.map EntM.e) (fun e he=>hm.o e (by rw [List.take_of_length_le (by simp;omega)];exact he)));go_wp2_with fail;go_ret;exact Gives.int HN.o.symm HE.o
theorem yeg (g:GW) (t b:Nat) (th:Int) (L:List Ent) (h:LineAt g t b L):
 Calls prog 216 #[zp (some ⟨b,0,none⟩),zI z6 th] g.w (Gives (zI z6 (placeOf (ofB th) L)) g.w):=by
 obtain ⟨A,c,ms,hb,hr,hm, -⟩:=h.ex;have hml:ms.length=L.length:=by rw [←hm,List.length_map]
 have HI:=zH (fun w' p (he:Ext g.w w') hp hpl=>yl8 A c ms p th w' (hr.cells.ext he) (by have:=h.len;omega) hp hpl);unfold IdxGot at HI;rw [hm,hml] at HI;have c0:=hb.cell (i:=0) rfl;have hbl:=hb.lt;clear hr hm hml hb h;go_enter func216,ntmps216;go_wp2_with fail;refine (HI.o _ g.w.heap.size zE (by go_simp) (by go_simp)).mono ?_;rintro e w1 ⟨rfl,hX⟩;have HE:=zH (show Ext g.w w1 from (show Ext g.w _ by exact zE).trans hX);clear hX;go_wp2_with fail;go_ret;exact Gives.int rfl HE.o
def Ent.wait (l:List Ent):Nat:=l.countP waitB
theorem yh7 (g:GW) (t b:Nat) (L:List Ent) (h:LineAt g t b L):
 Calls prog 111 #[zp (some ⟨b,0,none⟩)] g.w (Gives (zI z6 (Ent.wait L)) g.w):=by
 obtain ⟨A,c,ms,hb,hr,hm, -⟩:=h.ex;have hml:ms.length=L.length:=by rw [←hm,List.length_map]
 have hlen:=h.len;have c0:=hb.cell (i:=0) rfl;have hbl:=hb.lt;have HC:=zH hr.cells;have HM:=zH hm;rw [←hml] at c0 hlen;have HL:=zH hml;clear hr hm hb h hml;go_enter func111,ntmps111;go_wp2_with fail;go_loopw [3,11] (fun v i wr=> ∃(k:Nat),k≤ms.length∧i=zI z6 k∧v=zI z6 (Ent.wait (L.take k):Nat)∧Hid (Ext g.w wr)) (fun _ i _=>ms.length-(intOf i).toNat)
 case atStart=>exact ⟨0,Nat.zero_le _,rfl,rfl,zH (Ext.refl _)⟩
 case round=>
  obtain ⟨k,hk,rfl,rfl,HE⟩:=hrel;by_cases hlt:k<ms.length
  · obtain ⟨q,o,hA,hq,g0,g1,g2,g3,g4,g5,g6,g7⟩:=ybU (HC.o.ext HE.o) hlt;have hx:=List.getElem?_eq_getElem hlt;have hxe:L[k]?=some ms[k].e:=by rw [←HM.o,List.getElem?_map,hx];rfl
    have HS:=zH (show Ent.wait (L.take (k+1))=Ent.wait (L.take k)+if waitB ms[k].e then 1 else 0 by
     unfold Ent.wait;rw [List.take_add_one,hxe,List.countP_append];simp [List.countP_cons])
    have hw0:Ent.wait (L.take k)≤k:=Nat.le_trans List.countP_le_length (List.length_take_le _ _);generalize ms[k]=m at *;generalize Ent.wait (L.take k)=n at *;subst hA;clear hx hxe;cases hz:(m.e.state==0)
    · have HN:=zH (show Ent.wait (L.take (k+1))=n by rw [HS.o];unfold waitB;rw [hz];simp);go_wp2_with fail;go_roundw
      case rel=>exact ⟨k+1,zo,by go_num,by rw [HN.o],zH (HE.o.trans zE)⟩
      case measure=>simp [intOf];omega
    · have HN:=zH (show Ent.wait (L.take (k+1))=n+1 by rw [HS.o];unfold waitB;rw [hz];simp);go_wp2_with fail;go_roundw
      case rel=>exact ⟨k+1,zo,by go_num,by rw [HN.o];go_num,zH (HE.o.trans zE)⟩
      case measure=>simp [intOf];omega
  · obtain rfl:k=ms.length:=zo;have HN:=zH (show L.take ms.length=L from List.take_of_length_le (by rw [HL.o];exact Nat.le_refl _));go_wp2_with fail;go_ret;exact Gives.int (by rw [HN.o];try rfl) HE.o
theorem yk3 (t:Nat) (g:GW):Calls prog 123 #[] g.w (fun e w'=> ∃b,e=.returned (zp (some ⟨b,0,none⟩))∧Ext g.w w'∧LineAt (g.to t w') t b []):=by
 go_enter func123,ntmps123;go_wp2_with fail;go_ret;exact ⟨_,rfl,zE,⟨none,0,[],Blk.made (World.row_alloc_new _) (Nat.le_refl _),Row.nil _ _ _ _,rfl,by simp⟩,by simp⟩
def ReqOf (L:List Ent) (i:Int) (v:Value) (g':GW):Prop:=
 ∃(r:List Value) (ok:Bool),v=.tuple #[.agg r.toArray,zb ok]∧(i<0→ok=false∧r=[zI z6 0,zI z6 0,zI z6 0,zI z6 0,zI z6 0,zI z6 0,.slice none 0 0])∧
  (0≤i→ok=true∧ ∃e A c,L[i.toNat]?=some e∧r=[zI z6 e.thread,zI z6 e.frags,zI z6 e.spine,zI z6 e.state,zI z6 e.cycles,zI z6 e.at_,.slice A e.got.length c]∧Row g' 0 3 1 (.slice A e.got.length c) e.got.length (e.got.map (zI z6)))
theorem yhe (g:GW) (t b:Nat) (i:Int) (L:List Ent) (h:LineAt g t b L) (hi1:i<L.length):
 Calls prog 215 #[zp (some ⟨b,0,none⟩),zI z6 i] g.w (Makes g (fun _=>False) (ReqOf L i)):=by
 by_cases h0:i<0
 · clear h hi1;have HI:=zH h0;go_enter func215,ntmps215;go_wp2_with fail;refine bodyPost_ret (v:=.tuple #[.agg #[zI z6 0,zI z6 0,zI z6 0,zI z6 0,zI z6 0,zI z6 0,.slice none 0 0],zb false]) (by simp [results,Tryz.results215,go_sem]) rfl ?_;exact ⟨_,_,rfl,Mod.ext (show Ext g.w _ from zE) 0,[zI z6 0,zI z6 0,zI z6 0,zI z6 0,zI z6 0,zI z6 0,.slice none 0 0],false,rfl,fun _=>⟨rfl,rfl⟩,fun hh=>by have:=HI.o;omega⟩
 · obtain ⟨k,rfl⟩:=Int.eq_ofNat_of_zero_le (show 0≤i by omega);obtain ⟨A,c,ms,hb,hr,hm,hat⟩:=h.ex;have hml:ms.length=L.length:=by rw [←hm,List.length_map]
   have hlen:=h.len;have c0:=hb.cell (i:=0) rfl;have hbl:=hb.lt;have hkm:k<ms.length:=zo;obtain ⟨q,o,hA,hq,g0,g1,g2,g3,g4,g5,g6,g7⟩:=ybU hr.cells hkm;have hx:=List.getElem?_eq_getElem hkm;have hmm:=hat _ (List.getElem_mem hkm);have HX:=zH (show L[k]?=some ms[k].e by rw [←hm,List.getElem?_map,hx];rfl);generalize ms[k]=m at *;have HCl:=zH (fun w' (he:Ext g.w w')=>ybp m.A m.cap m.e.got.length m.e.got 0 (g.to 9 w') rfl (hmm.seg.cells.ext he) (by have:=hmm.len;omega));subst hA;clear hr hm hat hmm hx hb h h0;generalize L.length=n at *;go_enter func215,ntmps215;go_wp2_with fail;refine (HCl.o _ zE).mono ?_;rintro e w1 ⟨A',c',rfl,m1,r1,he1,f1⟩;have E1:=zH (show Ext _ w1 from he1);obtain ⟨q1,q2⟩:=yaI g.w (.cells #[zI z6 0,zI z6 0,zI z6 0,zI z6 0,zI z6 0,zI z6 0,.slice none 0 0] 199) (.cells #[zI z6 m.e.thread,zI z6 m.e.frags,zI z6 m.e.spine,zI z6 m.e.state,zI z6 m.e.cycles,zI z6 m.e.at_,.slice m.A m.e.got.length m.cap] 199);have B1:=zH ((Blk.made (g:=g) (t:=9) q1 (Nat.le_refl _)).keep m1 id);have B2:=zH ((Blk.made (g:=g) (t:=9) q2 zo).keep m1 id);have R1:=zH r1
   have M1:=zH ((Mod.ext (T:=fun _=>False) (show Ext g.w ((g.w.alloc (.cells #[zI z6 0,zI z6 0,zI z6 0,zI z6 0,zI z6 0,zI z6 0,.slice none 0 0] 199)).alloc (.cells #[zI z6 m.e.thread,zI z6 m.e.frags,zI z6 m.e.spine,zI z6 m.e.state,zI z6 m.e.cycles,zI z6 m.e.at_,.slice m.A m.e.got.length m.cap] 199)) from zE) 9).trans m1);clear q1 q2 m1 r1 he1 f1;obtain ⟨d0,d1,d2,d3,d4,d5,d6,dl⟩:=B1.o.k7;have df0:=B1.o.liv 0;have df1:=B1.o.liv 1;have df2:=B1.o.liv 2;have df3:=B1.o.liv 3;have df4:=B1.o.liv 4;have df5:=B1.o.liv 5;have df6:=B1.o.liv 6;obtain ⟨e0,e1,e2,e3,e4,e5,e6,el⟩:=B2.o.k7;have ef6:=B2.o.liv 6;go_wp2_with fail;refine bodyPost_ret (v:=.tuple #[.agg #[zI z6 m.e.thread,zI z6 m.e.frags,zI z6 m.e.spine,zI z6 m.e.state,zI z6 m.e.cycles,zI z6 m.e.at_,.slice A' m.e.got.length c'],zb true]) (by simp [results,Tryz.results215,go_sem,d0,d1,d2,d3,d4,d5,d6]) rfl ?_
   have M9:Mod (fun _=>False) g ⟨_,_⟩:=Mod.stn (Mod.stn (Mod.stn (Mod.stn (Mod.stn (Mod.stn (Mod.stn (Mod.stn (b:=g.w.heap.size+1) (i:=6) (v:=.slice A' m.e.got.length c') M1.o zo) (b:=g.w.heap.size) (i:=0) (v:=zI z6 m.e.thread) zo) (b:=g.w.heap.size) (i:=1) (v:=zI z6 m.e.frags) zo) (b:=g.w.heap.size) (i:=2) (v:=zI z6 m.e.spine) zo) (b:=g.w.heap.size) (i:=3) (v:=zI z6 m.e.state) zo) (b:=g.w.heap.size) (i:=4) (v:=zI z6 m.e.cycles) zo) (b:=g.w.heap.size) (i:=5) (v:=zI z6 m.e.at_) zo) (b:=g.w.heap.size) (i:=6) (v:=.slice A' m.e.got.length c') zo
   have T9:Mod (fun x=>x=9) ⟨_,w1⟩ ⟨_,_⟩:=Mod.st (Mod.st (Mod.st (Mod.st (Mod.st (Mod.st (Mod.st (Mod.st (b:=g.w.heap.size+1) (i:=6) (v:=.slice A' m.e.got.length c') (Mod.refl _ _) B2.o.own) (b:=g.w.heap.size) (i:=0) (v:=zI z6 m.e.thread) B1.o.own) (b:=g.w.heap.size) (i:=1) (v:=zI z6 m.e.frags) B1.o.own) (b:=g.w.heap.size) (i:=2) (v:=zI z6 m.e.spine) B1.o.own) (b:=g.w.heap.size) (i:=3) (v:=zI z6 m.e.state) B1.o.own) (b:=g.w.heap.size) (i:=4) (v:=zI z6 m.e.cycles) B1.o.own) (b:=g.w.heap.size) (i:=5) (v:=zI z6 m.e.at_) B1.o.own) (b:=g.w.heap.size) (i:=6) (v:=.slice A' m.e.got.length c') B1.o.own;refine ⟨_,_,rfl,M9,[zI z6 m.e.thread,zI z6 m.e.frags,zI z6 m.e.spine,zI z6 m.e.state,zI z6 m.e.cycles,zI z6 m.e.at_,.slice A' m.e.got.length c'],true,rfl,fun hh=>by omega,fun _=>⟨rfl,m.e,A',c',by rw [Int.toNat_natCast];exact HX.o,rfl,R1.o.keep T9 zd⟩⟩
theorem yef (g:GW) (t b:Nat) (th:Int) (L:List Ent) (h:LineAt g t b L):
 Calls prog 154 #[zp (some ⟨b,0,none⟩),zI z6 th] g.w (Makes g (fun _=>False) (ReqOf L (placeOf (ofB th) L))):=by
 have HO:=zH (fun g' (m:Mod (fun _=>False) g g')=>yeg g' t b th L (h.keep m id id));have HA:=zH (fun g' (m:Mod (fun _=>False) g g')=>yhe g' t b (placeOf (ofB th) L) L (h.keep m id id) (ybd _ _).2);generalize placeOf (ofB th) L=i at *;clear h;go_enter func154,ntmps154;go_wp2_with fail;have hE0:Ext g.w (g.w.alloc (.cells #[zI z6 0,zI z6 0,zI z6 0,zI z6 0,zI z6 0,zI z6 0,.slice none 0 0] 199)):=zE;have B0:=zH (Blk.new g 9 199 [zI z6 0,zI z6 0,zI z6 0,zI z6 0,zI z6 0,zI z6 0,.slice none 0 0]);have M0:=zH (Mod.ext (T:=fun _=>False) hE0 9);clear hE0;refine (HO.o (g.to 9 (g.w.alloc (.cells #[zI z6 0,zI z6 0,zI z6 0,zI z6 0,zI z6 0,zI z6 0,.slice none 0 0] 199))) M0.o).mono ?_;rintro e w1 ⟨rfl,hE1⟩;have E1:=zH (show Ext (g.w.alloc (.cells #[zI z6 0,zI z6 0,zI z6 0,zI z6 0,zI z6 0,zI z6 0,.slice none 0 0] 199)) w1 from hE1);have N1:=zH (Mod.ext (T:=fun _=>False) (g:=g.to 9 (g.w.alloc (.cells #[zI z6 0,zI z6 0,zI z6 0,zI z6 0,zI z6 0,zI z6 0,.slice none 0 0] 199))) E1.o 0);have M1:=zH (M0.o.trans N1.o);have B1:=zH (B0.o.keep N1.o id);clear hE1
 go_wp2_with fail;refine (HA.o _ M1.o).mono ?_;rintro e w2 ⟨v,own2,rfl,m2,r,ok,rfl,hn,hp⟩;have M2:=zH (M1.o.trans m2);have B2:=zH (B1.o.keep m2 id);clear m2 E1;obtain ⟨d0,d1,d2,d3,d4,d5,d6,dl⟩:=B2.o.k7;have df0:=B2.o.liv 0;have df1:=B2.o.liv 1;have df2:=B2.o.liv 2;have df3:=B2.o.liv 3;have df4:=B2.o.liv 4;have df5:=B2.o.liv 5;have df6:=B2.o.liv 6;by_cases h0:i<0
 · obtain ⟨rfl,rfl⟩:=hn h0;have HN:=zH hp;have H0:=zH h0;clear hn hp h0;go_wp2_with fail;refine bodyPost_ret (v:=.tuple #[.agg #[zI z6 0,zI z6 0,zI z6 0,zI z6 0,zI z6 0,zI z6 0,.slice none 0 0],zb false]) (by simp [results,Tryz.results154,go_sem,d0,d1,d2,d3,d4,d5,d6]) rfl ?_;have M9:Mod (fun _=>False) g ⟨own2,_⟩:=Mod.stn (Mod.stn (Mod.stn (Mod.stn (Mod.stn (Mod.stn (Mod.stn (b:=g.w.heap.size) (i:=0) (v:=zI z6 0) M2.o (Nat.le_refl _)) (b:=g.w.heap.size) (i:=1) (v:=zI z6 0) (Nat.le_refl _)) (b:=g.w.heap.size) (i:=2) (v:=zI z6 0) (Nat.le_refl _)) (b:=g.w.heap.size) (i:=3) (v:=zI z6 0) (Nat.le_refl _)) (b:=g.w.heap.size) (i:=4) (v:=zI z6 0) (Nat.le_refl _)) (b:=g.w.heap.size) (i:=5) (v:=zI z6 0) (Nat.le_refl _)) (b:=g.w.heap.size) (i:=6) (v:=.slice none 0 0) (Nat.le_refl _);exact ⟨_,_,rfl,M9,[zI z6 0,zI z6 0,zI z6 0,zI z6 0,zI z6 0,zI z6 0,.slice none 0 0],false,rfl,fun _=>⟨rfl,rfl⟩,fun hh=>by have:=H0.o;omega⟩
 · obtain ⟨rfl,e,A',c',hL,rfl,hr⟩:=hp zo;have HL:=zH hL;have HR:=zH hr;have H0:=zH h0;clear hn hL hr h0;go_wp2_with fail;refine bodyPost_ret (v:=.tuple #[.agg #[zI z6 e.thread,zI z6 e.frags,zI z6 e.spine,zI z6 e.state,zI z6 e.cycles,zI z6 e.at_,.slice A' e.got.length c'],zb true]) (by simp [results,Tryz.results154,go_sem,d0,d1,d2,d3,d4,d5,d6]) rfl ?_;have M9:Mod (fun _=>False) g ⟨own2,_⟩:=Mod.stn (Mod.stn (Mod.stn (Mod.stn (Mod.stn (Mod.stn (Mod.stn (b:=g.w.heap.size) (i:=0) (v:=zI z6 e.thread) M2.o (Nat.le_refl _)) (b:=g.w.heap.size) (i:=1) (v:=zI z6 e.frags) (Nat.le_refl _)) (b:=g.w.heap.size) (i:=2) (v:=zI z6 e.spine) (Nat.le_refl _)) (b:=g.w.heap.size) (i:=3) (v:=zI z6 e.state) (Nat.le_refl _)) (b:=g.w.heap.size) (i:=4) (v:=zI z6 e.cycles) (Nat.le_refl _)) (b:=g.w.heap.size) (i:=5) (v:=zI z6 e.at_) (Nat.le_refl _)) (b:=g.w.heap.size) (i:=6) (v:=.slice A' e.got.length c') (Nat.le_refl _)
   have T9:Mod (fun x=>x=9) ⟨own2,w2⟩ ⟨own2,_⟩:=Mod.st (Mod.st (Mod.st (Mod.st (Mod.st (Mod.st (Mod.st (b:=g.w.heap.size) (i:=0) (v:=zI z6 e.thread) (Mod.refl _ _) B2.o.own) (b:=g.w.heap.size) (i:=1) (v:=zI z6 e.frags) B2.o.own) (b:=g.w.heap.size) (i:=2) (v:=zI z6 e.spine) B2.o.own) (b:=g.w.heap.size) (i:=3) (v:=zI z6 e.state) B2.o.own) (b:=g.w.heap.size) (i:=4) (v:=zI z6 e.cycles) B2.o.own) (b:=g.w.heap.size) (i:=5) (v:=zI z6 e.at_) B2.o.own) (b:=g.w.heap.size) (i:=6) (v:=.slice A' e.got.length c') B2.o.own;exact ⟨_,_,rfl,M9,[zI z6 e.thread,zI z6 e.frags,zI z6 e.spine,zI z6 e.state,zI z6 e.cycles,zI z6 e.at_,.slice A' e.got.length c'],true,rfl,fun hh=>by have:=H0.o;omega,fun _=>⟨rfl,e,A',c',HL.o,rfl,HR.o.keep T9 zd⟩⟩
theorem yec:(prog.info? 224).map (fun i=>(i.zero,i.size,i.bytes))=some (some (.agg #[zI z6 0,zI z6 0,zI z6 0,zI z6 0,zI z6 0,zI z6 0,.slice none 0 0,zb false]),8,80):=zQ
def Ent.asked (th fr sp:Int):Ent:=⟨th,fr,sp,0,0, -1,[],false⟩
theorem ycb (g:GW) (t b:Nat) (th fr sp:Int) (L:List Ent) (h:LineAt g t b L) (hno:placeOf (ofB th) L<0) (hn:L.length<1000000) (ht:t≠0∧t≠9∧t+1≠9):
 Calls prog 244 #[zp (some ⟨b,0,none⟩),.agg #[zI z6 th,zI z6 fr,zI z6 sp,zI z6 0,zI z6 0,zI z6 0,.slice none 0 0]] g.w (Does (zb true) g (fun x=>x=t) (fun g'=>LineAt g' t b (L++[Ent.asked th fr sp]))):=by
 obtain ⟨i0,hi,hz0,hz1,hz2⟩:=info_parts yec;have HO:=zH (fun g' (m:Mod (fun _=>False) g g')=>yeg g' t b th L (h.keep m id id));obtain ⟨A,c,ms,hb,hr,hm,hat⟩:=h.ex;have H:=zH h;have HB:=zH hb;have HR:=zH hr;have HM:=zH hm;have HAT:=zH hat;have HT:=zH ht;generalize placeOf (ofB th) L=i at *;generalize hnl:L.length=n at *;have HNL:=zH hnl;have hd:decide ((0:Int)≤i)=false:=decide_eq_false zo;clear h hb hr hm hat hnl ht;go_enter func244,ntmps244;go_wp2_with fail;have hE0:Ext g.w (g.w.alloc (.cells #[zI z6 th,zI z6 fr,zI z6 sp,zI z6 0,zI z6 0,zI z6 0,.slice none 0 0] 199)):=zE;have B0:=zH (Blk.new g 9 199 [zI z6 th,zI z6 fr,zI z6 sp,zI z6 0,zI z6 0,zI z6 0,.slice none 0 0]);have M0:=zH (Mod.ext (T:=fun _=>False) hE0 9);clear hE0;refine (HO.o (g.to 9 (g.w.alloc (.cells #[zI z6 th,zI z6 fr,zI z6 sp,zI z6 0,zI z6 0,zI z6 0,.slice none 0 0] 199))) M0.o).mono ?_;rintro e w1 ⟨rfl,hE1⟩;have E1:=zH (show Ext (g.w.alloc (.cells #[zI z6 th,zI z6 fr,zI z6 sp,zI z6 0,zI z6 0,zI z6 0,.slice none 0 0] 199)) w1 from hE1)
 have N1:=zH (Mod.ext (T:=fun _=>False) (g:=g.to 9 (g.w.alloc (.cells #[zI z6 th,zI z6 fr,zI z6 sp,zI z6 0,zI z6 0,zI z6 0,.slice none 0 0] 199))) E1.o 0);obtain ⟨own1,m1,b1⟩: ∃own1,Mod (fun _=>False) g ⟨own1,w1⟩∧Blk ⟨own1,w1⟩ 9 g.w.heap.size 199 [zI z6 th,zI z6 fr,zI z6 sp,zI z6 0,zI z6 0,zI z6 0,.slice none 0 0]:=⟨_,M0.o.trans N1.o,B0.o.keep N1.o id⟩;have M1:=zH m1;have B1:=zH b1;have L1:=zH (HB.o.keep m1 id);clear hE1 E1 m1 b1 B0 M0 N1;obtain ⟨d0,d1,d2,d3,d4,d5,d6,dl⟩:=B1.o.k7;have df3:=B1.o.liv 3;have df4:=B1.o.liv 4;have df5:=B1.o.liv 5;have df6:=B1.o.liv 6;have e0:=L1.o.cell (i:=0) rfl;have ef0:=L1.o.live 0;have el:=L1.o.lt;(try simp only [GW.to] at e0 ef0 el);have hne:g.w.heap.size≠b:=B1.o.ne L1.o (fun e=>HT.o.2.1 e.symm);have hne':b≠g.w.heap.size:=fun e=>hne e.symm;go_wp2_with fail
 have m9:Mod (fun _=>False) g ⟨own1,_⟩:=Mod.stn (Mod.stn (Mod.stn (Mod.stn (b:=g.w.heap.size) (i:=3) (v:=zI z6 0) M1.o (Nat.le_refl _)) (b:=g.w.heap.size) (i:=4) (v:=zI z6 0) (Nat.le_refl _)) (b:=g.w.heap.size) (i:=5) (v:=zI z6 (-1)) (Nat.le_refl _)) (b:=g.w.heap.size) (i:=6) (v:=.slice none 0 0) (Nat.le_refl _);have b9:Blk ⟨own1,(((w1.setCell ⟨g.w.heap.size,3,none⟩ (zI z6 0)).setCell ⟨g.w.heap.size,4,none⟩ (zI z6 0)).setCell ⟨g.w.heap.size,5,none⟩ (zI z6 (-1))).setCell ⟨g.w.heap.size,6,none⟩ (.slice none 0 0)⟩ 9 g.w.heap.size 199 [zI z6 th,zI z6 fr,zI z6 sp,zI z6 0,zI z6 0,zI z6 (-1),.slice none 0 0]:=(((B1.o.set 3 (zI z6 0)).set 4 (zI z6 0)).set 5 (zI z6 (-1))).set 6 (.slice none 0 0);generalize (((w1.setCell ⟨g.w.heap.size,3,none⟩ (zI z6 0)).setCell ⟨g.w.heap.size,4,none⟩ (zI z6 0)).setCell ⟨g.w.heap.size,5,none⟩ (zI z6 (-1))).setCell ⟨g.w.heap.size,6,none⟩ (.slice none 0 0)=W at *;have M9:=zH m9;have B9:=zH b9;have L9:=zH (HB.o.keep m9 id);have R9:=zH (HR.o.keep m9 id);have A9:=zH (fun m hm=>(HAT.o m hm).keep m9 id);clear m9 b9 d0 d1 d2 d3 d4 d5 d6 df3 df4 df5 df6 dl e0 ef0 el M1 B1 L1;obtain ⟨d0,d1,d2,d3,d4,d5,d6,dl⟩:=B9.o.k7
 have e0:=L9.o.cell (i:=0) rfl;have ef0:=L9.o.live 0;have el:=L9.o.lt;(try simp only [GW.to] at e0 ef0 el);have hrow:=zH (show∀x,(Value.slice A n c).ownBlock=some x→b≠x from fun x hx=>R9.o.ne_type L9.o zd hx);have hnb:=zH (show some b≠(Value.slice A n c).ownBlock from fun e=>hrow.o b e.symm rfl);have hnx:=zH (show some g.w.heap.size≠(Value.slice A n c).ownBlock from fun e=>R9.o.ne_type B9.o zd e.symm rfl);have fc:=fun o=>(show ((W.alloc o).drew).cell? ⟨b,0,none⟩=some (.slice A n c) from (World.cell?_alloc_past _ _ _ el).trans e0);have fz:=fun o=>(show ((W.alloc o).drew).frozen? ⟨b,0,none⟩=false from (World.frozen?_alloc_past _ _ _ el).trans ef0)
 go_region_law ((refine step_append_lies _ (by rfl) _ _ _ (by rfl) 0 224 i0 _ 8 80 Tryz.underlying220 hi hz0 hz1 hz2 rfl zo (.slice A n c) n (ms.flatMap EntM.cells) (by rfl) ((R9.o.row.alloc _).drew) ⟨W.heap.size,0,none⟩ 1 1 [zI z6 th,zI z6 fr,zI z6 sp,zI z6 0,zI z6 0,zI z6 (-1),.slice none 0 0,zb false] (by rfl) (by rfl) (World.news_of_block (cs:=#[zI z6 th,zI z6 fr,zI z6 sp,zI z6 0,zI z6 0,zI z6 (-1),.slice none 0 0,zb false]) (t:=224) (fr:=(0,0)) (heap_alloc_new W _)) (by simp [Value.oneCell']) zo (by unfold maxLen;omega) zo (Nat.zero_le _) (W.heap.size+1) (by simp) ?_;intro gg cap w2 hown hgrow hat hlt;have y0:=(hgrow.cell_far ⟨b,0,none⟩ (by simp;omega) hnb.o).trans (fc _);have yf0:=(hgrow.frozen_far ⟨b,0,none⟩ (by simp;omega) hnb.o).trans (fz _)))
 all_goals
  go_wp2_with fail;go_ret;have hEd:Ext W ((W.alloc (.cells #[zI z6 th,zI z6 fr,zI z6 sp,zI z6 0,zI z6 0,zI z6 (-1),.slice none 0 0,zb false] 224)).drew):=zE
  have hat':(Value.slice (some ⟨gg,0,none⟩) (n+1) cap).ownBlock=(Value.slice A n c).ownBlock∨(Value.slice (some ⟨gg,0,none⟩) (n+1) cap).ownBlock=some ((W.alloc (.cells #[zI z6 th,zI z6 fr,zI z6 sp,zI z6 0,zI z6 0,zI z6 (-1),.slice none 0 0,zb false] 224)).drew).heap.size:=by
   rcases hat with e|e
   · exact Or.inl e.symm
   · refine Or.inr ?_;rw [e];show some (W.heap.size+1)=some (W.alloc _).heap.size;rw [World.size_alloc]
  have q1:Mod (fun x=>x=t) (⟨own1,W⟩:GW) ((⟨own1,W⟩:GW).to 9 ((W.alloc (.cells #[zI z6 th,zI z6 fr,zI z6 sp,zI z6 0,zI z6 0,zI z6 (-1),.slice none 0 0,zb false] 224)).drew)):=Mod.ext hEd 9;have q2:=Mod.grown (T:=fun x=>x=t) (g:=(⟨own1,W⟩:GW).to 9 ((W.alloc (.cells #[zI z6 th,zI z6 fr,zI z6 sp,zI z6 0,zI z6 0,zI z6 (-1),.slice none 0 0,zb false] 224)).drew)) hgrow t (fun k hk hl=>(R9.o.ext hEd 9).own k hk);have q3:=(R9.o.ext hEd 9).grown (g:=(⟨own1,W⟩:GW).to 9 ((W.alloc (.cells #[zI z6 th,zI z6 fr,zI z6 sp,zI z6 0,zI z6 0,zI z6 (-1),.slice none 0 0,zb false] 224)).drew)) hown hat';have q4:=(L9.o.ext hEd 9).grown (t':=t) (g:=(⟨own1,W⟩:GW).to 9 ((W.alloc (.cells #[zI z6 th,zI z6 fr,zI z6 sp,zI z6 0,zI z6 0,zI z6 (-1),.slice none 0 0,zb false] 224)).drew)) hgrow (fun x hx=>hrow.o x hx);have q5:=((M9.o.mono zG).trans q1).trans q2;have q6:=fun m hm=>((A9.o m hm).keep q1 (by have:=HT.o;omega)).keep q2 (by have:=HT.o;omega);refine Does.of ⟨_,_⟩ rfl rfl (Mod.st q5 q4.own) ⟨⟨some ⟨gg,0,none⟩,cap,ms++[⟨Ent.asked th fr sp,none,0⟩],?_,?_,?_,?_⟩,?_⟩
  · simp only [List.length_append,HNL.o];exact q4.set 0 _
  · simp only [List.length_append,HNL.o];exact (q3.setOther 0 _ (fun x hx=>q3.ne_type q4 zd hx)).weak rfl (by rw [List.flatMap_append];rfl)
  · rw [List.map_append,HM.o];rfl
  · intro m hm;rcases List.mem_append.1 hm with hm|hm
    · exact (q6 m hm).keep (S:=fun x=>x=t) (Mod.set (b:=b) (by exact q4.own)) (by show¬(t+1=t);omega)
    · simp only [List.mem_singleton] at hm;subst hm;exact ⟨Seg.nil _ _ _,by simp [Ent.asked]⟩
  · simp only [List.length_append,HNL.o,List.length_singleton];omega
theorem yjC:(prog.info? 94).map (fun i=>(i.zero,i.size,i.bytes))=some (some (.agg #[zb false,.slice none 0 0]),2,32):=zQ
def Copied (c:Cnf) (t:Nat) (g:GW) (e:Ending) (w':World):Prop:= ∃c':Cnf,e=.returned c'.val∧c'.Same c∧CnfAt (g.to t w') t c'∧Ext g.w w'
theorem ybG (c:Cnf) (t:Nat) (g:GW) (hc:c.Ok g.w) (hmax:c.shapes.length≤1000000):Calls prog 69 #[c.val] g.w (Copied c t g):=by
 obtain ⟨i0,hi,hz0,hz1,hz2⟩:=info_parts yjC;have HC:=zH hc;unfold Cnf.val;clear hc;go_enter func69,ntmps69;go_wp2_with fail;obtain ⟨q1,q2⟩:=yaI g.w (.cells #[zI z6 c.frags,zI z6 c.spine,zI z6 c.globals,zI z6 c.threads,zI z6 c.locals,zI z6 c.cache,zI z6 c.stack,zI z6 c.low,.slice c.A c.shapes.length c.cap] 34) (.cells #[zI z6 0,zI z6 0,zI z6 0,zI z6 0,zI z6 0,zI z6 0,zI z6 0,zI z6 0,.slice none 0 0] 34);have HB1:=zH (Blk.made (g:=g) (t:=9) q1 (Nat.le_refl _));have HB2:=zH (Blk.made (g:=g) (t:=9) q2 zo);have HE:=zH (Mod.ext (T:=fun _=>False) (show Ext g.w ((g.w.alloc (.cells #[zI z6 c.frags,zI z6 c.spine,zI z6 c.globals,zI z6 c.threads,zI z6 c.locals,zI z6 c.cache,zI z6 c.stack,zI z6 c.low,.slice c.A c.shapes.length c.cap] 34)).alloc (.cells #[zI z6 0,zI z6 0,zI z6 0,zI z6 0,zI z6 0,zI z6 0,zI z6 0,zI z6 0,.slice none 0 0] 34)) from zE) 9);clear q1 q2;have HMX:=zH hmax;generalize hnl:c.shapes.length=nl at *;have HNL:=zH hnl;clear hnl
 go_loopw [3,9] (fun v i wr=> ∃(k:Nat) (own:Nat→Nat) (ss:List Shp),k≤nl∧i=zI z6 k∧Hid (ss.map Shp.data=(c.shapes.take k).map Shp.data)∧Hid (Mod (fun _=>False) g ⟨own,wr⟩)∧Hid (∀s∈ss,ShpAt ⟨own,wr⟩ 1 s∧ ∀a,s.A=some a→g.w.heap.size≤a.block)∧Hid (Mine g ⟨own,wr⟩ 94 2 v k (ss.flatMap Shp.cells))∧
  Hid (Blk ⟨own,wr⟩ 9 g.w.heap.size 34 [zI z6 c.frags,zI z6 c.spine,zI z6 c.globals,zI z6 c.threads,zI z6 c.locals,zI z6 c.cache,zI z6 c.stack,zI z6 c.low,.slice c.A nl c.cap])∧Hid (Blk ⟨own,wr⟩ 9 (g.w.heap.size+1) 34 [zI z6 0,zI z6 0,zI z6 0,zI z6 0,zI z6 0,zI z6 0,zI z6 0,zI z6 0,.slice none 0 0])) (fun _ i _=>nl-(intOf i).toNat)
 case atStart=>exact ⟨0,_,[],Nat.zero_le _,rfl,zH rfl,HE,zH (by simp),zH (Mine.nil _ _ _ _),HB1,HB2⟩
 case round=>
  obtain ⟨k,own,ss,hk,rfl,HS,M,HA,R,B1,B2⟩:=hrel;clear HE HB1 HB2;obtain ⟨A5,c5,hv5⟩:=yak R.o.row.row;subst hv5;by_cases hlt:k<nl
  · obtain ⟨b,o,hA,hb,g0,g1⟩:=ycP (HC.o.cells.ext M.o.toExt) (k:=k) (by rw [HNL.o];exact hlt);have hsk:=(HC.o.shapes _ (List.getElem_mem (by rw [HNL.o];exact hlt:k<c.shapes.length))).ext M.o.toExt;have hx:=List.getElem?_eq_getElem (by rw [HNL.o];exact hlt:k<c.shapes.length);generalize c.shapes[k]'(by rw [HNL.o];exact hlt)=s at *;have HSK:=zH (fun w' (he:Ext wr w')=>ydB s w' (hsk.ext he));have HX:=zH hx;obtain ⟨arr,As,caps,refs⟩:=s;unfold Shp.val at HSK;simp only at g0 g1 HSK hb;rw [hA] at B1 ⊢;clear hx hsk hA;go_wp2_with fail;refine (HSK.o _ zE).mono ?_;rintro e w1 ⟨s',rfl,ha,hr,hfr,hok,hE1⟩;obtain ⟨arr',A',cap',refs'⟩:=s';simp only at ha hr hfr hok;obtain rfl:=ha;obtain rfl:=hr;have E1:=zH (show Ext wr w1 from (show Ext wr _ by exact zE).trans hE1);have O1:=zH hok;have F1:=zH (show∀a,A'=some a→wr.heap.size≤a.block from fun a ha=>Nat.le_trans (by go_simp) (hfr a ha));have N1:=zH (show Mod (fun _=>False) ⟨own,wr⟩ ((⟨own,wr⟩:GW).to 1 w1) from Mod.ext E1.o 1);have M1:=zH (M.o.trans N1.o);have R1:=zH (R.o.keep N1.o id);clear hE1 hok hfr g0 g1 hb
    go_wp2_with (at_builtin;refine wpList_append_own_at _ rfl (.tmp 13) (.tmp 16) 32 rfl 0 94 i0 _ 2 32 Tryz.underlying32 hi hz0 hz1 hz2 rfl zd _ _ _ rfl (R1.o.row.row.alloc _) ⟨w1.heap.size,0,none⟩ 1 1 [zb arr',.slice A' refs'.length cap'] rfl rfl (ybk _ _ _) (by intro u hu;simp at hu;rcases hu with rfl|rfl<;>rfl) (by unfold maxLen;omega) zo (Nat.zero_le _) ?_;intro v2 w2 hown hgrow hnil hat);obtain ⟨own2,m2,r2,k2⟩:=R1.o.app M1.o (Ext.alloc (Ext.refl _) _) hown hgrow hat;have M2:=zH m2;have R2:=zH r2;have K2:=zH k2;clear m2 r2 k2 hown hgrow hnil hat;go_wp2_with fail;go_roundw
    case rel=>
     refine ⟨k+1,own2,ss++[⟨arr',A',cap',refs'⟩],zo,by go_num,zH ?_,M2,zH ?_,zH ⟨R2.o.row.weak rfl (by rw [List.flatMap_append];rfl),R2.o.new⟩,zH ((B1.o.keep N1.o id).keep K2.o zd),zH ((B2.o.keep N1.o id).keep K2.o zd)⟩
     · rw [List.map_append,HS.o,List.take_add_one,HX.o,List.map_append];rfl
     · intro s hs;rcases List.mem_append.1 hs with hs|hs
       · exact ⟨((HA.o s hs).1.keep N1.o id).keep K2.o zd,(HA.o s hs).2⟩
       · simp only [List.mem_singleton] at hs;subst hs;exact ⟨ShpAt.keep (g:=(⟨own,wr⟩:GW).to 1 w1) ⟨⟨O1.o.refs,fun a ha _=>GW.to_new (F1.o a ha)⟩,O1.o.len,O1.o.max⟩ K2.o zd,fun a ha=>Nat.le_trans M.o.size (F1.o a ha)⟩
    case measure=>simp [intOf];omega
  · obtain rfl:k=nl:=zo;have c0:=B1.o.cell (i:=0) rfl;have c1:=B1.o.cell (i:=1) rfl;have c2:=B1.o.cell (i:=2) rfl;have c3:=B1.o.cell (i:=3) rfl;have c4:=B1.o.cell (i:=4) rfl;have c5':=B1.o.cell (i:=5) rfl;have c6:=B1.o.cell (i:=6) rfl;have c7:=B1.o.cell (i:=7) rfl;have c8:=B1.o.cell (i:=8) rfl;have f8:=B1.o.live 8;have d0:=B2.o.cell (i:=0) rfl;have d1:=B2.o.cell (i:=1) rfl;have d2:=B2.o.cell (i:=2) rfl;have d3:=B2.o.cell (i:=3) rfl;have d4:=B2.o.cell (i:=4) rfl;have d5:=B2.o.cell (i:=5) rfl;have d6:=B2.o.cell (i:=6) rfl;have d7:=B2.o.cell (i:=7) rfl;have d8:=B2.o.cell (i:=8) rfl;have e0:=B2.o.live 0;have e1:=B2.o.live 1;have e2:=B2.o.live 2;have e3:=B2.o.live 3;have e4:=B2.o.live 4;have e5:=B2.o.live 5;have e6:=B2.o.live 6;have e7:=B2.o.live 7;have e8:=B2.o.live 8;have l1:=B1.o.lt;have l2:=B2.o.lt;simp only at c0 c1 c2 c3 c4 c5' c6 c7 c8 f8 d0 d1 d2 d3 d4 d5 d6 d7 d8 e0 e1 e2 e3 e4 e5 e6 e7 e8 l1 l2;go_wp2_with fail
    refine bodyPost_ret (v:=.agg #[zI z6 c.frags,zI z6 c.spine,zI z6 c.globals,zI z6 c.threads,zI z6 c.locals,zI z6 c.cache,zI z6 c.stack,zI z6 c.low,.slice A5 k c5]) (by simp [results,Tryz.results69,go_sem,d0,d1,d2,d3,d4,d5,d6,d7,d8]) rfl ?_;clear c0 c1 c2 c3 c4 c5' c6 c7 c8 f8 d0 d1 d2 d3 d4 d5 d6 d7 d8 e0 e1 e2 e3 e4 e5 e6 e7 e8;have hss:ss.length=k:=by have:=congrArg List.length HS.o;simp only [List.length_map,List.length_take,HNL.o] at this;omega
    have M9:Mod (fun _=>False) g ⟨own,_⟩:=Mod.stn (Mod.stn (Mod.stn (Mod.stn (Mod.stn (Mod.stn (Mod.stn (Mod.stn (Mod.stn (Mod.stn (b:=g.w.heap.size) (i:=8) (v:=.slice A5 k c5) M.o (Nat.le_refl _)) (b:=g.w.heap.size+1) (i:=0) (v:=zI z6 c.frags) zo) (b:=g.w.heap.size+1) (i:=1) (v:=zI z6 c.spine) zo) (b:=g.w.heap.size+1) (i:=2) (v:=zI z6 c.globals) zo) (b:=g.w.heap.size+1) (i:=3) (v:=zI z6 c.threads) zo) (b:=g.w.heap.size+1) (i:=4) (v:=zI z6 c.locals) zo) (b:=g.w.heap.size+1) (i:=5) (v:=zI z6 c.cache) zo) (b:=g.w.heap.size+1) (i:=6) (v:=zI z6 c.stack) zo) (b:=g.w.heap.size+1) (i:=7) (v:=zI z6 c.low) zo) (b:=g.w.heap.size+1) (i:=8) (v:=.slice A5 k c5) zo
    have T9:Mod (fun x=>x=9) ⟨own,wr⟩ ⟨own,_⟩:=Mod.st (Mod.st (Mod.st (Mod.st (Mod.st (Mod.st (Mod.st (Mod.st (Mod.st (Mod.st (b:=g.w.heap.size) (i:=8) (v:=.slice A5 k c5) (Mod.refl _ _) B1.o.own) (b:=g.w.heap.size+1) (i:=0) (v:=zI z6 c.frags) B2.o.own) (b:=g.w.heap.size+1) (i:=1) (v:=zI z6 c.spine) B2.o.own) (b:=g.w.heap.size+1) (i:=2) (v:=zI z6 c.globals) B2.o.own) (b:=g.w.heap.size+1) (i:=3) (v:=zI z6 c.threads) B2.o.own) (b:=g.w.heap.size+1) (i:=4) (v:=zI z6 c.locals) B2.o.own) (b:=g.w.heap.size+1) (i:=5) (v:=zI z6 c.cache) B2.o.own) (b:=g.w.heap.size+1) (i:=6) (v:=zI z6 c.stack) B2.o.own) (b:=g.w.heap.size+1) (i:=7) (v:=zI z6 c.low) B2.o.own) (b:=g.w.heap.size+1) (i:=8) (v:=.slice A5 k c5) B2.o.own;refine ⟨⟨c.frags,c.spine,c.globals,c.threads,c.locals,c.cache,c.stack,c.low,A5,c5,ss⟩,by unfold Cnf.val;simp only [hss],Cnf.Same.of rfl rfl rfl rfl rfl rfl rfl rfl (by rw [HS.o,List.take_of_length_le (by rw [HNL.o];exact Nat.le_refl _)]),?_,M9.toExt⟩;have hR:=R.o.keep T9 zd;refine ⟨⟨hR.row.cells,fun a ha _=>GW.to_new (hR.new a.block (by simp only at ha;rw [ha];rfl))⟩,fun s hs=>?_,?_,?_⟩
    · obtain ⟨h1,h2⟩:=HA.o s hs;have h3:=h1.keep T9 zd;exact ⟨⟨h3.seg.cells,fun a ha _=>GW.to_new (h2 a ha)⟩,h3.len,h3.max⟩
    · obtain ⟨A',c',hv,hn1,_⟩:=hR.row.form;injection hv with _ _ hv;subst hv;simp only [hss];exact hn1
    · simp only [hss];omega
def cSizes (c:Cnf):Value:=if c.check=0 then .agg #[zI z6 (c.frags*8),zI z6 c.spine,zI z6 c.spine,zI z6 c.globals] else .agg #[zI z6 0,zI z6 0,zI z6 0,zI z6 0]
theorem Cnf.check_zero {c:Cnf} (h:c.check=0):c.rangedTo 8=true∧c.threads*c.cache≤c.frags∧within c.shapes.length 1 8=true∧badIn c.shapes=false:=by
 unfold Cnf.check at h;split at h
 · rename_i h1
   split at h
   · rename_i h2
     simp only [Bool.and_eq_true,decide_eq_true_eq,Bool.not_eq_true'] at h1 h2;exact ⟨h1.1,h1.2,h2.1,h2.2⟩
   · cases h
 · cases h
theorem ycQ (c:Cnf) (w:World) (hc:c.Ok w):Calls prog 117 #[c.val] w (Gives (cSizes c) w):=by
 have HC:=zH (fun w' (he:Ext w w')=>yaw c w' (hc.ext he));by_cases h0:c.check=0
 · obtain ⟨⟨_,_⟩,⟨_,_⟩,_⟩:=Cnf.ranged (Cnf.check_zero h0).1;have HV:=zH (show cSizes c=.agg #[zI z6 (c.frags*8),zI z6 c.spine,zI z6 c.spine,zI z6 c.globals] by unfold cSizes;rw [if_pos h0]);have H0:=zH h0;clear h0;unfold Cnf.val at HC ⊢;go_enter func117,ntmps117;go_wp2_with fail;refine (HC.o _ zE).mono ?_;rw [H0.o];rintro e w1 ⟨rfl,X1,rfl⟩;go_wp2_with fail;refine bodyPost_ret (v:=.agg #[zI z6 (c.frags*8),zI z6 c.spine,zI z6 c.spine,zI z6 c.globals]) (by simp [results,Tryz.results117,go_sem]) rfl ?_;rw [HV.o];exact Gives.mk rfl zE
 · have HV:=zH (show cSizes c=.agg #[zI z6 0,zI z6 0,zI z6 0,zI z6 0] by unfold cSizes;rw [if_neg h0]);have hb:(c.check !=0)=true:=by simp [h0]
   clear h0;unfold Cnf.val at HC ⊢;go_enter func117,ntmps117;go_wp2_with fail;refine (HC.o _ zE).mono ?_;rintro e w1 ⟨rfl,X1,rfl⟩;go_wp2_with fail;refine bodyPost_ret (v:=.agg #[zI z6 0,zI z6 0,zI z6 0,zI z6 0]) (by simp [results,Tryz.results117,go_sem]) rfl ?_;rw [HV.o];exact Gives.mk rfl zE
def cSize (c:Cnf) (r:Nat):Int:=if c.check=0 then ([c.frags*8,c.spine,c.spine,c.globals][r]?).getD 0 else 0
def cAhead (c:Cnf) (r:Nat):Int:=if c.check=0 then ([c.frags*8,c.spine,c.spine,c.globals].take r).sum else 0
def cAt (c:Cnf) (r:Nat) (k:Int):Value:=if 0≤k∧k<cSize c r then .tuple #[zI z6 (k+cAhead c r),zI z6 0] else .tuple #[zI z6 0,zI z6 1]
theorem yfA (c:Cnf) (r:Nat) (k:Int) (w:World) (hc:c.Ok w) (hr:r<4):Calls prog 125 #[c.val,zI z6 (r+1:Nat),zI z6 k] w (Gives (cAt c r k) w):=by
 have HC:=zH (fun w' (he:Ext w w')=>ycQ c w' (hc.ext he))
 obtain ⟨a0,a1,a2,a3,hS,hz,ha,h0,h1,h2,h3⟩: ∃a0 a1 a2 a3:Int,cSizes c=.agg #[zI z6 a0,zI z6 a1,zI z6 a2,zI z6 a3]∧cSize c r=([a0,a1,a2,a3][r]?).getD 0∧cAhead c r=([a0,a1,a2,a3].take r).sum∧(0≤a0∧a0≤8192)∧(0≤a1∧a1≤2048)∧(0≤a2∧a2≤2048)∧(0≤a3∧a3≤8):=by
  by_cases h0:c.check=0
  · obtain ⟨⟨_,_⟩,⟨_,_⟩,⟨_,_⟩,_⟩:=Cnf.ranged (Cnf.check_zero h0).1;exact ⟨_,_,_,_,by unfold cSizes;rw [if_pos h0],by unfold cSize;rw [if_pos h0],by unfold cAhead;rw [if_pos h0],zo,zo,zo,zo⟩
  · refine ⟨0,0,0,0,by unfold cSizes;rw [if_neg h0],?_,?_,zo,zo,zo,zo⟩
    · unfold cSize;rw [if_neg h0];rcases (show r=0∨r=1∨r=2∨r=3 by omega) with rfl|rfl|rfl|rfl<;>rfl
    · unfold cAhead;rw [if_neg h0];rcases (show r=0∨r=1∨r=2∨r=3 by omega) with rfl|rfl|rfl|rfl<;>rfl
 rw [hS] at HC;have HV:=zH (show cAt c r k=if 0≤k∧k<([a0,a1,a2,a3][r]?).getD 0 then .tuple #[zI z6 (k+([a0,a1,a2,a3].take r).sum),zI z6 0] else .tuple #[zI z6 0,zI z6 1] by unfold cAt;rw [hz,ha]);clear hS hz ha;unfold Cnf.val at HC ⊢;rcases (show r=0∨r=1∨r=2∨r=3 by omega) with rfl|rfl|rfl|rfl
 · replace HV:=zH (show cAt c 0 k=if 0≤k∧k<a0 then .tuple #[zI z6 (k+([a0,a1,a2,a3].take 0).sum),zI z6 0] else .tuple #[zI z6 0,zI z6 1] from HV.o);rw [show ([a0,a1,a2,a3].take 0).sum=0 by simp] at HV;rw [show ((0+1:Nat):Int)=1 from rfl];clear hr;by_cases hk0:k<0
   · rw [if_neg zo] at HV;go_enter func125,ntmps125;go_wp2_with (go_at_call 117;refine (HC.o _ zE).mono ?_;rintro e w1 ⟨rfl,X1,rfl⟩);go_ret2;rw [HV.o];exact Gives.mk rfl zE
   · by_cases hk1:k<a0
     · rw [if_pos zo] at HV;go_enter func125,ntmps125;go_wp2_with (go_at_call 117;refine (HC.o _ zE).mono ?_;rintro e w1 ⟨rfl,X1,rfl⟩);go_loop [2,27] (fun q i=> ∃n:Nat,n≤0∧i=zI z6 n∧q=zI z6 (k+([a0,a1,a2,a3].take n).sum)) (fun _ i=>0-(intOf i).toNat)
       case atStart=>exact ⟨0,zo,rfl,by simp⟩
       case round=>
        obtain ⟨n,hn,rfl,rfl⟩:=hrel;obtain rfl:n=0:=zo;rw [show ([a0,a1,a2,a3].take 0).sum=0 by simp];go_wp2_with fail;go_ret2;rw [HV.o];exact Gives.ii zo rfl zE
     · rw [if_neg zo] at HV;go_enter func125,ntmps125;go_wp2_with (go_at_call 117;refine (HC.o _ zE).mono ?_;rintro e w1 ⟨rfl,X1,rfl⟩);go_ret2;rw [HV.o];exact Gives.mk rfl zE
 · replace HV:=zH (show cAt c 1 k=if 0≤k∧k<a1 then .tuple #[zI z6 (k+([a0,a1,a2,a3].take 1).sum),zI z6 0] else .tuple #[zI z6 0,zI z6 1] from HV.o);rw [show ([a0,a1,a2,a3].take 1).sum=a0 by simp] at HV;rw [show ((1+1:Nat):Int)=2 from rfl];clear hr;by_cases hk0:k<0
   · rw [if_neg zo] at HV;go_enter func125,ntmps125;go_wp2_with (go_at_call 117;refine (HC.o _ zE).mono ?_;rintro e w1 ⟨rfl,X1,rfl⟩);go_ret2;rw [HV.o];exact Gives.mk rfl zE
   · by_cases hk1:k<a1
     · rw [if_pos zo] at HV;go_enter func125,ntmps125;go_wp2_with (go_at_call 117;refine (HC.o _ zE).mono ?_;rintro e w1 ⟨rfl,X1,rfl⟩);go_loop [2,27] (fun q i=> ∃n:Nat,n≤1∧i=zI z6 n∧q=zI z6 (k+([a0,a1,a2,a3].take n).sum)) (fun _ i=>1-(intOf i).toNat)
       case atStart=>exact ⟨0,zo,rfl,by simp⟩
       case round=>
        obtain ⟨n,hn,rfl,rfl⟩:=hrel;by_cases hn0:n=0
        · subst hn0;rw [show ([a0,a1,a2,a3].take 0).sum=0 by simp];go_wp2_with fail;exact ⟨⟨1,zo,rfl,congrArg (zI z6) (by first|(simp;done)|(simp;omega))⟩,by simp [intOf]⟩
        obtain rfl:n=1:=zo;rw [show ([a0,a1,a2,a3].take 1).sum=a0 by simp];go_wp2_with fail;go_ret2;rw [HV.o];exact Gives.ii zo rfl zE
     · rw [if_neg zo] at HV;go_enter func125,ntmps125;go_wp2_with (go_at_call 117;refine (HC.o _ zE).mono ?_;rintro e w1 ⟨rfl,X1,rfl⟩);go_ret2;rw [HV.o];exact Gives.mk rfl zE
 · replace HV:=zH (show cAt c 2 k=if 0≤k∧k<a2 then .tuple #[zI z6 (k+([a0,a1,a2,a3].take 2).sum),zI z6 0] else .tuple #[zI z6 0,zI z6 1] from HV.o);rw [show ([a0,a1,a2,a3].take 2).sum=a0+a1 by first|(simp;done)|(simp;omega)] at HV;rw [show ((2+1:Nat):Int)=3 from rfl];clear hr;by_cases hk0:k<0
   · rw [if_neg zo] at HV;go_enter func125,ntmps125;go_wp2_with (go_at_call 117;refine (HC.o _ zE).mono ?_;rintro e w1 ⟨rfl,X1,rfl⟩);go_ret2;rw [HV.o];exact Gives.mk rfl zE
   · by_cases hk1:k<a2
     · rw [if_pos zo] at HV;go_enter func125,ntmps125;go_wp2_with (go_at_call 117;refine (HC.o _ zE).mono ?_;rintro e w1 ⟨rfl,X1,rfl⟩);go_loop [2,27] (fun q i=> ∃n:Nat,n≤2∧i=zI z6 n∧q=zI z6 (k+([a0,a1,a2,a3].take n).sum)) (fun _ i=>2-(intOf i).toNat)
       case atStart=>exact ⟨0,zo,rfl,by simp⟩
       case round=>
        obtain ⟨n,hn,rfl,rfl⟩:=hrel;by_cases hn0:n=0
        · subst hn0;rw [show ([a0,a1,a2,a3].take 0).sum=0 by simp];go_wp2_with fail;exact ⟨⟨1,zo,rfl,congrArg (zI z6) (by first|(simp;done)|(simp;omega))⟩,by simp [intOf]⟩
        by_cases hn1:n=1
        · subst hn1;rw [show ([a0,a1,a2,a3].take 1).sum=a0 by simp];go_wp2_with fail;exact ⟨⟨2,zo,rfl,congrArg (zI z6) (by first|(simp;done)|(simp;omega))⟩,by simp [intOf]⟩
        obtain rfl:n=2:=zo;rw [show ([a0,a1,a2,a3].take 2).sum=a0+a1 by first|(simp;done)|(simp;omega)];go_wp2_with fail;go_ret2;rw [HV.o];exact Gives.ii zo rfl zE
     · rw [if_neg zo] at HV;go_enter func125,ntmps125;go_wp2_with (go_at_call 117;refine (HC.o _ zE).mono ?_;rintro e w1 ⟨rfl,X1,rfl⟩);go_ret2;rw [HV.o];exact Gives.mk rfl zE
 · replace HV:=zH (show cAt c 3 k=if 0≤k∧k<a3 then .tuple #[zI z6 (k+([a0,a1,a2,a3].take 3).sum),zI z6 0] else .tuple #[zI z6 0,zI z6 1] from HV.o);rw [show ([a0,a1,a2,a3].take 3).sum=a0+a1+a2 by first|(simp;done)|(simp;omega)] at HV;rw [show ((3+1:Nat):Int)=4 from rfl];clear hr;by_cases hk0:k<0
   · rw [if_neg zo] at HV;go_enter func125,ntmps125;go_wp2_with (go_at_call 117;refine (HC.o _ zE).mono ?_;rintro e w1 ⟨rfl,X1,rfl⟩);go_ret2;rw [HV.o];exact Gives.mk rfl zE
   · by_cases hk1:k<a3
     · rw [if_pos zo] at HV;go_enter func125,ntmps125;go_wp2_with (go_at_call 117;refine (HC.o _ zE).mono ?_;rintro e w1 ⟨rfl,X1,rfl⟩);go_loop [2,27] (fun q i=> ∃n:Nat,n≤3∧i=zI z6 n∧q=zI z6 (k+([a0,a1,a2,a3].take n).sum)) (fun _ i=>3-(intOf i).toNat)
       case atStart=>exact ⟨0,zo,rfl,by simp⟩
       case round=>
        obtain ⟨n,hn,rfl,rfl⟩:=hrel;by_cases hn0:n=0
        · subst hn0;rw [show ([a0,a1,a2,a3].take 0).sum=0 by simp];go_wp2_with fail;exact ⟨⟨1,zo,rfl,congrArg (zI z6) (by first|(simp;done)|(simp;omega))⟩,by simp [intOf]⟩
        by_cases hn1:n=1
        · subst hn1;rw [show ([a0,a1,a2,a3].take 1).sum=a0 by simp];go_wp2_with fail;exact ⟨⟨2,zo,rfl,congrArg (zI z6) (by first|(simp;done)|(simp;omega))⟩,by simp [intOf]⟩
        by_cases hn2:n=2
        · subst hn2;rw [show ([a0,a1,a2,a3].take 2).sum=a0+a1 by first|(simp;done)|(simp;omega)];go_wp2_with fail;exact ⟨⟨3,zo,rfl,congrArg (zI z6) (by first|(simp;done)|(simp;omega))⟩,by simp [intOf]⟩
        obtain rfl:n=3:=zo;rw [show ([a0,a1,a2,a3].take 3).sum=a0+a1+a2 by first|(simp;done)|(simp;omega)];go_wp2_with fail;go_ret2;rw [HV.o];exact Gives.ii zo rfl zE
     · rw [if_neg zo] at HV;go_enter func125,ntmps125;go_wp2_with (go_at_call 117;refine (HC.o _ zE).mono ?_;rintro e w1 ⟨rfl,X1,rfl⟩);go_ret2;rw [HV.o];exact Gives.mk rfl zE
def cFrag (c:Cnf) (i k:Int):Value:=if c.check=0∧0≤i∧i<c.frags∧0≤k∧k<8 then .tuple #[zI z6 (i*8+k),zI z6 0] else .tuple #[zI z6 0,zI z6 1]
theorem ybL (c:Cnf) (i k:Int) (w:World) (hc:c.Ok w):Calls prog 214 #[c.val,zI z6 i,zI z6 k] w (Gives (cFrag c i k) w):=by
 have HC:=zH (fun w' (he:Ext w w')=>yaw c w' (hc.ext he));by_cases h1:i<0
 · have HV:=zH (show cFrag c i k=.tuple #[zI z6 0,zI z6 1] by unfold cFrag;rw [if_neg zo]);unfold Cnf.val at HC ⊢;go_enter func214,ntmps214;go_wp2_with fail;go_ret2;rw [HV.o];exact Gives.mk rfl zE
 · by_cases h2:c.frags≤i
   · have HV:=zH (show cFrag c i k=.tuple #[zI z6 0,zI z6 1] by unfold cFrag;rw [if_neg zo]);unfold Cnf.val at HC ⊢;go_enter func214,ntmps214;go_wp2_with fail;go_ret2;rw [HV.o];exact Gives.mk rfl zE
   · by_cases h3:k<0
     · have HV:=zH (show cFrag c i k=.tuple #[zI z6 0,zI z6 1] by unfold cFrag;rw [if_neg zo]);unfold Cnf.val at HC ⊢;go_enter func214,ntmps214;go_wp2_with fail;go_ret2;rw [HV.o];exact Gives.mk rfl zE
     · by_cases h4:8≤k
       · have HV:=zH (show cFrag c i k=.tuple #[zI z6 0,zI z6 1] by unfold cFrag;rw [if_neg zo]);unfold Cnf.val at HC ⊢;go_enter func214,ntmps214;go_wp2_with fail;go_ret2;rw [HV.o];exact Gives.mk rfl zE
       · by_cases h5:c.check=0
         · obtain ⟨⟨_,_⟩,_⟩:=Cnf.ranged (Cnf.check_zero h5).1;have HV:=zH (show cFrag c i k=.tuple #[zI z6 (i*8+k),zI z6 0] by unfold cFrag;rw [if_pos zo]);have HA:=zH (fun w' (he:Ext w w')=>yfA c 0 (i*8+k) w' (hc.ext he) zo);rw [show cAt c 0 (i*8+k)=.tuple #[zI z6 (i*8+k),zI z6 0] by unfold cAt cSize cAhead;rw [if_pos h5,if_pos h5,if_pos (by simp;omega)];simp] at HA;rw [h5] at HC;clear h5;unfold Cnf.val at HC HA ⊢;go_enter func214,ntmps214;go_wp2_with (first|(go_at_call 60;refine (HC.o _ zE).mono ?_;rintro e w1 ⟨rfl,X1,rfl⟩)|(go_at_call 125;refine (HA.o _ zE).mono ?_;rintro e w1 ⟨rfl,X1,rfl⟩));go_ret2;rw [HV.o];exact Gives.mk rfl zE
         · have HV:=zH (show cFrag c i k=.tuple #[zI z6 0,zI z6 1] by unfold cFrag;rw [if_neg zo]);have hb:(c.check !=0)=true:=by simp [h5]
           clear h5;unfold Cnf.val at HC ⊢;go_enter func214,ntmps214;go_wp2_with (go_at_call 60;refine (HC.o _ zE).mono ?_;rintro e w1 ⟨rfl,X1,rfl⟩);go_ret2;rw [HV.o];exact Gives.mk rfl zE
theorem ycX (x0 x1 x2 x3:Value) (w:World):
 (Instr.index 165 (.agg #[x0,x1,x2,x3]) (zI z6 0)).run prog w=.ok x0 w∧
 (Instr.index 165 (.agg #[x0,x1,x2,x3]) (zI z6 1)).run prog w=.ok x1 w∧
 (Instr.index 165 (.agg #[x0,x1,x2,x3]) (zI z6 2)).run prog w=.ok x2 w∧
 (Instr.index 165 (.agg #[x0,x1,x2,x3]) (zI z6 3)).run prog w=.ok x3 w:=
 ⟨zQ,zQ,zQ,zQ⟩
def cWords (c:Cnf):Int:=if c.check=0 then c.frags*8+c.spine+c.spine+c.globals else 0
theorem ykA (c:Cnf) (w:World) (hc:c.Ok w):Calls prog 62 #[c.val] w (Gives (zI z6 (cWords c)) w):=by
 have HC:=zH (fun w' (he:Ext w w')=>ycQ c w' (hc.ext he))
 obtain ⟨a0,a1,a2,a3,hS,hz,h0,h1,h2,h3⟩: ∃a0 a1 a2 a3:Int,cSizes c=.agg #[zI z6 a0,zI z6 a1,zI z6 a2,zI z6 a3]∧cWords c=a0+a1+a2+a3∧(0≤a0∧a0≤8192)∧(0≤a1∧a1≤2048)∧(0≤a2∧a2≤2048)∧(0≤a3∧a3≤8):=by
  by_cases h0:c.check=0
  · obtain ⟨⟨_,_⟩,⟨_,_⟩,⟨_,_⟩,_⟩:=Cnf.ranged (Cnf.check_zero h0).1;exact ⟨_,_,_,_,by unfold cSizes;rw [if_pos h0],by unfold cWords;rw [if_pos h0],zo,zo,zo,zo⟩
  · exact ⟨0,0,0,0,by unfold cSizes;rw [if_neg h0],by unfold cWords;rw [if_neg h0];rfl,zo,zo,zo,zo⟩
 rw [hS] at HC;have HZ:=zH hz;clear hS hz;have q0:=fun w=>(ycX (zI z6 a0) (zI z6 a1) (zI z6 a2) (zI z6 a3) w).1;have q1:=fun w=>(ycX (zI z6 a0) (zI z6 a1) (zI z6 a2) (zI z6 a3) w).2.1;have q2:=fun w=>(ycX (zI z6 a0) (zI z6 a1) (zI z6 a2) (zI z6 a3) w).2.2.1;have q3:=fun w=>(ycX (zI z6 a0) (zI z6 a1) (zI z6 a2) (zI z6 a3) w).2.2.2;unfold Cnf.val at HC ⊢;go_enter func62,ntmps62;go_wp2_with fail;refine (HC.o _ zE).mono ?_;rintro e w1 ⟨rfl,X1,rfl⟩;go_wp2_with fail;refine wp_loop_rounds 5 ?_;rw [rounds_succ];go_wp2_with fail;rw [rounds_succ];go_wp2_with fail;rw [rounds_succ];go_wp2_with fail;rw [rounds_succ];go_wp2_with fail;rw [rounds_succ];go_wp2_with fail;go_ret;exact Gives.int (by rw [HZ.o];try simp) zE
theorem ybc (c:Cnf) (k:Int) (w:World) (hc:c.Ok w):Calls prog 66 #[c.val,zI z6 k] w (Gives (cAt c 3 k) w):=by
 have HC:=zH (fun w' (he:Ext w w')=>yfA c 3 k w' (hc.ext he) zo);have HV: ∃x y:Int,cAt c 3 k=.tuple #[zI z6 x,zI z6 y]:=by unfold cAt;split<;>exact ⟨_,_,rfl⟩
 obtain ⟨x,y,hv⟩:=HV;rw [hv] at HC ⊢;clear hv;unfold Cnf.val at HC ⊢;go_enter func66,ntmps66;go_wp2_with fail;refine (HC.o _ zE).mono ?_;rintro e w1 ⟨rfl,X1,rfl⟩;go_wp2_with fail;go_ret2;exact Gives.ii rfl rfl zE
theorem ykl (c:Cnf) (s:Nat) (k:Int) (w:World) (hc:c.Ok w) (hs:s<2):Calls prog 238 #[c.val,zI z6 s,zI z6 k] w (Gives (cAt c (s+1) k) w):=by
 have HC:=zH (fun w' (he:Ext w w')=>yfA c (s+1) k w' (hc.ext he) zo);have HV: ∃x y:Int,cAt c (s+1) k=.tuple #[zI z6 x,zI z6 y]:=by unfold cAt;split<;>exact ⟨_,_,rfl⟩
 obtain ⟨x,y,hv⟩:=HV;rw [hv] at HC ⊢;clear hv;unfold Cnf.val at HC ⊢;rcases (show s=0∨s=1 by omega) with rfl|rfl
 · go_enter func238,ntmps238;go_wp2_with fail;refine (HC.o _ zE).mono ?_;rintro e w1 ⟨rfl,X1,rfl⟩;go_wp2_with fail;go_ret2;exact Gives.ii rfl rfl zE
 · go_enter func238,ntmps238;go_wp2_with fail;refine (HC.o _ zE).mono ?_;rintro e w1 ⟨rfl,X1,rfl⟩;go_wp2_with fail;go_ret2;exact Gives.ii rfl rfl zE
end Go.Proofs.YtdhjjpnajjingaaGreat
namespace Go
def sideTo (l:List Int) (k:Nat):Bool:=(List.range k).all fun i=>decide (l.getD i 0≠9223372036854775807∧l.getD (i+1) 0=l.getD i 0+1)
def isSide (l:List Int):Bool:=sideTo l (l.length-1)
theorem ygS (l:List Int) (k:Nat):sideTo l (k+1)=(sideTo l k&&decide (l.getD k 0≠9223372036854775807∧l.getD (k+1) 0=l.getD k 0+1)):=by
 simp [sideTo,List.range_succ,List.all_append]
theorem yjE {l:List Int} {k:Nat} (hk:k+1<l.length) (h: ¬(l.getD k 0≠9223372036854775807∧l.getD (k+1) 0=l.getD k 0+1)):isSide l=false:=by
 unfold isSide sideTo;rw [List.all_eq_false];exact ⟨k,List.mem_range.2 zo,by simpa using h⟩
end Go
namespace Go.Proofs.YtdhjjpnajjingaaGreat
open Go Go.RowKit
theorem yaD {w:World} {A:Option Addr} {l:List Int} (h:CellsAt w A (l.map (zI z6))) {k:Nat} (hk:k<l.length): ∃b o,A=some ⟨b,o,none⟩∧b<w.heap.size∧ ∀j,j<l.length→w.cell? ⟨b,o+j,none⟩=some (zI z6 (l.getD j 0)):=by
 obtain ⟨b,o,hA,hb,hc⟩:=h.cases (by simp;omega);refine ⟨b,o,hA,hb,fun j hj=>hc j _ ?_⟩;rw [List.getElem?_map,List.getElem?_eq_getElem hj];simp [List.getD,List.getElem?_eq_getElem hj]
theorem ydt (A:Option Addr) (cap:Nat) (l:List Int) (w:World) (hc:CellsAt w A (l.map (zI z6))) (hl:l.length≤140737488355328) (hw: ∀x∈l, -9223372036854775808≤x∧x≤9223372036854775807):
 Calls prog 220 #[.slice A l.length cap] w (Gives (zb (isSide l)) w):=by
 go_enter func220,ntmps220;go_wp2_with fail;go_loopw [3] (fun i wr=> ∃k:Nat,(k+1≤l.length∨k=0)∧i=zI z6 (k+1:Nat)∧sideTo l k=true∧Ext w wr) (fun i _=>l.length+1-(intOf i).toNat)
 case atStart=>exact ⟨0,.inr rfl,rfl,rfl,Ext.refl _⟩
 case round=>
  obtain ⟨k,hk,rfl,hs,X,rfl⟩:=hrel;have HS:=zH hs;clear hs;by_cases hlt:k+1<l.length
  · obtain ⟨b,o,rfl,hb,hcell⟩:=yaD hc hlt;have g0:=hcell k zo;have g1:=hcell (k+1) hlt;have w0:=hw (l.getD k 0) (by simp [List.getD,List.getElem?_eq_getElem (show k<l.length by omega)]);have HT:=zH (ygS l k);have HN:=zH (fun h=>yjE (l:=l) hlt h);clear hcell hc hw;generalize l.getD k 0=x at *;generalize l.getD (k+1) 0=y at *;have hk':((k+1:Nat):Int)=(k:Int)+1:=rfl;rw [hk'];clear hk';go_wp2_with fail;have hk2:k<l.length:=zo;have hi1:IntKind.i64.wrap ((k:Int)+1-1)=k:=by rw [IntWalk.i64_in _ zo];omega
    obtain ⟨w0a,w0b⟩:=w0;cases hb:(x==9223372036854775807)
    · have hx:x≤9223372036854775806:=by have:=beq_eq_false_iff_ne.1 hb;omega
      clear w0b;go_quiet (fail)
      cases hy:(y !=x+1)
      · have HY:=zH (HT.o.trans (by rw [HS.o,decide_eq_true (⟨zo,by simpa using hy⟩:x≠9223372036854775807∧y=x+1)]));go_wp2_with fail;go_roundw
        case rel=>exact ⟨k+1,zo,by go_num,HY.o,zE⟩
        case measure=>simp [intOf];omega
      · have HF:=zH (HN.o (fun h=>by rw [bne_iff_ne] at hy;exact hy h.2));go_wp2_with fail;go_ret;exact Gives.bool HF.o.symm zE
    · have HF:=zH (HN.o (fun h=>h.1 (beq_iff_eq.1 hb)));clear HN;go_quiet (fail)
      go_wp2_with fail;go_ret;exact Gives.bool HF.o.symm zE
  · have HV:=zH (show isSide l=true by unfold isSide;rw [show l.length-1=k by omega];exact HS.o);go_wp2_with fail;go_ret;exact Gives.bool HV.o.symm zE
end Go.Proofs.YtdhjjpnajjingaaGreat
namespace Go
open Go.RowKit
structure SpaceS where
 tab:TabS
 stocks:List StockS
 forced:Bool
 count:Int
 c:Cnf
 pool:PoolS
 coil:CoilS
 line:List Ent
theorem Cnf.Same.refl (c:Cnf):c.Same c:=⟨rfl,rfl,rfl,rfl,rfl,rfl,rfl,rfl,rfl⟩
def inst (B:Nat) (x:Nat):Prop:=B≤x∧x<B+60
end Go
namespace Go.Proofs.YtdhjjpnajjingaaGreat
open Go Go.RowKit
theorem Cnf.Same.cAt {c d:Cnf} (h:c.Same d) (r:Nat) (k:Int):cAt c r k=cAt d r k:=by
 have hc:=h.check;obtain ⟨h1,h2,h3,h4,h5,h6,h7,h8,_⟩:=h;unfold Go.Proofs.YtdhjjpnajjingaaGreat.cAt cSize cAhead;rw [hc,h1,h2,h3]
structure SpaceIn (g:GW) (B b bt:Nat) (S:SpaceS) (bp bk bl:Nat) (A:Option Addr) (cs:Nat) (cm:Cnf) (bs:List Nat):Prop where
 blk:Blk g B b 67 [zp (some ⟨bt,0,none⟩),.slice A S.stocks.length cs,zb S.forced,zI z6 S.count,zI z6 cm.frags,zI z6 cm.spine,zI z6 cm.globals,zI z6 cm.threads,zI z6 cm.locals,zI z6 cm.cache,zI z6 cm.stack,zI z6 cm.low,.slice cm.A cm.shapes.length cm.cap,zp (some ⟨bp,0,none⟩),zp (some ⟨bk,0,none⟩),zp (some ⟨bl,0,none⟩)]
 row:Row g B 176 1 (.slice A S.stocks.length cs) S.stocks.length (bs.map fun x=>zp (some ⟨x,0,none⟩))
 tab:TabAt g (B+50) bt S.tab
 pool:PoolAt g (B+1) bp S.pool
 coil:CoilAt g (B+2) bk S.coil
 line:LineAt g (B+3) bl S.line
 cnf:CnfAt g (B+5) cm
 same:cm.Same S.c
 blen:bs.length=S.stocks.length
 stock: ∀j x s,bs[j]?=some x→S.stocks[j]?=some s→StockAt g (B+10+j) x s
 check:S.c.check=0
 few:S.stocks.length≤16
def SpaceAt (g:GW) (B b bt:Nat) (S:SpaceS):Prop:= ∃bp bk bl A cs cm bs,SpaceIn g B b bt S bp bk bl A cs cm bs
namespace SpaceIn
variable {g g':GW} {B b bt bp bk bl cs:Nat} {S:SpaceS} {A:Option Addr} {cm:Cnf} {bs:List Nat}
theorem keep {T:Nat→Prop} (h:SpaceIn g B b bt S bp bk bl A cs cm bs) (m:Mod T g g') (hT: ∀x,T x→x<B∨B+60≤x):SpaceIn g' B b bt S bp bk bl A cs cm bs:=by
 have q: ∀k,k<60→ ¬T (B+k):=fun k hk ht=>by have:=hT _ ht;omega
 refine ⟨h.blk.keep m (q 0 zo),h.row.keep m (q 0 zo),h.tab.keep m (q 50 zo),h.pool.keep m (q 1 zo),h.coil.keep m (q 2 zo),h.line.keep m (q 3 zo) (q 4 zo),h.cnf.keep m (q 5 zo),h.same,h.blen,fun j x s hx hs=>(h.stock j x s hx hs).keep m (fun e=>?_),h.check,h.few⟩;have:=(List.getElem?_eq_some_iff.1 hs).1;have:=h.few;exact q (10+j) zo (by rw [←Nat.add_assoc];exact e)
theorem withTab (h:SpaceIn g B b bt S bp bk bl A cs cm bs) {T:TabS} (m:Mod (fun x=>x=B+50) g g') (ht:TabAt g' (B+50) bt T):SpaceIn g' B b bt { S with tab:=T } bp bk bl A cs cm bs:=
 ⟨h.blk.keep m zo,h.row.keep m zo,ht,h.pool.keep m zo,h.coil.keep m zo,h.line.keep m zo zo,h.cnf.keep m zo,h.same,h.blen,fun j x s hx hs=>(h.stock j x s hx hs).keep m (by have h1:j<S.stocks.length:=(List.getElem?_eq_some_iff.1 hs).1;have:=h.few;omega),h.check,h.few⟩
theorem withPool (h:SpaceIn g B b bt S bp bk bl A cs cm bs) {T:PoolS} (m:Mod (fun x=>x=B+1) g g') (ht:PoolAt g' (B+1) bp T):SpaceIn g' B b bt { S with pool:=T } bp bk bl A cs cm bs:=
 ⟨h.blk.keep m zo,h.row.keep m zo,h.tab.keep m zo,ht,h.coil.keep m zo,h.line.keep m zo zo,h.cnf.keep m zo,h.same,h.blen,fun j x s hx hs=>(h.stock j x s hx hs).keep m zo,h.check,h.few⟩
theorem withCoil (h:SpaceIn g B b bt S bp bk bl A cs cm bs) {T:CoilS} (m:Mod (fun x=>x=B+2) g g') (ht:CoilAt g' (B+2) bk T):SpaceIn g' B b bt { S with coil:=T } bp bk bl A cs cm bs:=
 ⟨h.blk.keep m zo,h.row.keep m zo,h.tab.keep m zo,h.pool.keep m zo,ht,h.line.keep m zo zo,h.cnf.keep m zo,h.same,h.blen,fun j x s hx hs=>(h.stock j x s hx hs).keep m zo,h.check,h.few⟩
theorem withLine (h:SpaceIn g B b bt S bp bk bl A cs cm bs) {T:List Ent} (m:Mod (fun x=>x=B+3∨x=B+4) g g') (ht:LineAt g' (B+3) bl T):SpaceIn g' B b bt { S with line:=T } bp bk bl A cs cm bs:=
 ⟨h.blk.keep m zo,h.row.keep m zo,h.tab.keep m zo,h.pool.keep m zo,h.coil.keep m zo,ht,h.cnf.keep m zo,h.same,h.blen,fun j x s hx hs=>(h.stock j x s hx hs).keep m zo,h.check,h.few⟩
theorem withStock (h:SpaceIn g B b bt S bp bk bl A cs cm bs) {k y:Nat} {s':StockS} (hk:k<S.stocks.length) (hy:bs[k]?=some y) (m:Mod (fun x=>x=B+10+k) g g') (ht:StockAt g' (B+10+k) y s'):SpaceIn g' B b bt { S with stocks:=S.stocks.set k s' } bp bk bl A cs cm bs:=by
 have hf:=h.few;refine ⟨?_,?_,h.tab.keep m zo,h.pool.keep m zo,h.coil.keep m zo,h.line.keep m zo zo,h.cnf.keep m zo,h.same,by simpa using h.blen,fun j x s hx hs=>?_,h.check,by simpa using h.few⟩
 · simp only [List.length_set];exact h.blk.keep m zo
 · simp only [List.length_set];exact h.row.keep m zo
 · by_cases hj:k=j
   · subst hj;rw [hy] at hx;injection hx with hx;simp only at hs;rw [List.getElem?_set_self hk] at hs;injection hs with hs;rw [←hx, ←hs];exact ht
   · simp only at hs;rw [List.getElem?_set_ne hj] at hs;exact (h.stock j x s hx hs).keep m zo
theorem tick (h:SpaceIn g B b bt S bp bk bl A cs cm bs):SpaceIn ⟨g.own,g.w.setCell ⟨b,3,none⟩ (zI z6 (S.count+1))⟩ B b bt { S with count:=S.count+1 } bp bk bl A cs cm bs:=by
 have m:Mod (fun x=>x=B) g ⟨g.own,g.w.setCell ⟨b,3,none⟩ (zI z6 (S.count+1))⟩:=Mod.set h.blk.own;exact ⟨h.blk.set 3 _,h.row.setOther 3 _ (fun x hx=>h.row.ne_type h.blk zd hx),h.tab.keep m zo,h.pool.keep m zo,h.coil.keep m zo,h.line.keep m zo zo,h.cnf.keep m zo,h.same,h.blen,fun j x s hx hs=>(h.stock j x s hx hs).keep m zo,h.check,h.few⟩
end SpaceIn
end Go.Proofs.YtdhjjpnajjingaaGreat
namespace Go
def TabS.setAll (t:TabS) (l:List Int) (s:Int) (sense:Bool):TabS:=l.foldl (fun t i=>t.set i s false sense) t
def SpaceS.fits (S:SpaceS) (fr sp:Int):Bool:=decide (fr≤(S.pool.free:Int))&&(sp==0 || (S.pool.run fr).isSome || decide (sp≤S.coil.room))
end Go
namespace Go.Proofs.YtdhjjpnajjingaaGreat
open Go Go.RowKit
theorem ygV (g:GW) (B b bt:Nat) (S:SpaceS) (h:SpaceAt g B b bt S):
 Calls prog 186 #[zp (some ⟨b,0,none⟩)] g.w (fun e w'=>e=.returned (zI z6 S.count)∧g.w=w'):=by
 obtain ⟨bp,bk,bl,A,cs,cm,bs,h⟩:=h;have c3:=h.blk.cell (i:=3) rfl;clear h;go_enter func186,ntmps186;go_wp2_with fail;go_ret;exact ⟨rfl,rfl⟩
theorem ydb (t:Int) {g:GW} {B b bt bp bk bl cs:Nat} {S:SpaceS} {A:Option Addr} {cm:Cnf} {bs:List Nat} (h:SpaceIn g B b bt S bp bk bl A cs cm bs):
 Calls prog 129 #[zp (some ⟨b,0,none⟩),zI z6 t] g.w (fun e w'=>e=.returned (.pointer (if inB t S.stocks.length then some ⟨bs.getD t.toNat 0,0,none⟩ else none))∧g.w=w'):=by
 have c1:=h.blk.cell (i:=1) rfl;have hlen:=h.few;cases hin:inB t S.stocks.length
 · have hc:=ybX hin;have HI:=zH hin;clear h hin;by_cases h0:t<0
   · clear hc;go_enter func129,ntmps129;go_wp2_with fail;go_ret;exact ⟨rfl,rfl⟩
   · have h1:(S.stocks.length:Int)≤t:=zo;clear hc;go_enter func129,ntmps129;go_wp2_with fail;go_ret;exact ⟨rfl,rfl⟩
 · obtain ⟨k,rfl,hk⟩:=yap hin;obtain ⟨r,rfl,hrl,ho,hcell,hfr⟩:=h.row.block zo;have hbl:=h.blen;have k0:=hcell k (zp (some ⟨bs.getD k 0,0,none⟩)) (by rw [List.getElem?_map,List.getElem?_eq_getElem (by omega:k<bs.length)];simp [List.getD_eq_getElem?_getD,(by omega:k<bs.length)]);rw [Int.toNat_natCast];generalize bs.getD k 0=x at *;generalize S.stocks.length=n at *;clear h hcell hfr hin ho hbl;go_enter func129,ntmps129;go_wp2_with fail;go_ret;exact ⟨rfl,rfl⟩
theorem yan (st:Int) (w:World):Calls prog 155 #[zI z6 st] w (Gives (.agg #[zI z6 st,.slice none 0 0,zI z6 (-1)]) w):=by
 go_enter func155,ntmps155;go_wp2_with fail;refine bodyPost_ret (v:=.agg #[zI z6 st,.slice none 0 0,zI z6 (-1)]) (by simp [results,Tryz.results155,go_sem]) rfl (Gives.of_ext zE)
def shelves (cm:Cnf) (bp bk bl:Nat):Value:=.agg #[zI z6 cm.frags,zI z6 cm.spine,zI z6 cm.globals,zI z6 cm.threads,zI z6 cm.locals,zI z6 cm.cache,zI z6 cm.stack,zI z6 cm.low,.slice cm.A cm.shapes.length cm.cap,zp (some ⟨bp,0,none⟩),zp (some ⟨bk,0,none⟩),zp (some ⟨bl,0,none⟩)]
theorem yds (g:GW) (t:Nat) (cm:Cnf) (bp bk bl:Nat) (L:List Ent) (h:LineAt g t bl L):Calls prog 58 #[shelves cm bp bk bl] g.w (Gives (zI z6 (Ent.wait L)) g.w):=by
 have H:=zH (fun w' (he:Ext g.w w')=>yh7 (g.to 9 w') t bl L (h.keep (Mod.ext (T:=fun _=>False) he 9) id id));unfold shelves;clear h;go_enter func58,ntmps58;go_wp2_with fail;refine (H.o _ zE).mono ?_;rintro e w1 ⟨rfl,hX⟩;have HE:=zH ((show Ext g.w _ from zE).trans (show Ext _ w1 from hX));clear hX;go_wp2_with fail;go_ret;exact Gives.int rfl HE.o
theorem ylL (g:GW) (t:Nat) (cm:Cnf) (bp bk bl:Nat) (p:PoolS) (h:PoolAt g t bp p):Calls prog 16 #[shelves cm bp bk bl] g.w (Gives (zI z6 p.free) g.w):=by
 have H:=zH (fun w' (he:Ext g.w w')=>yeR (g.to 9 w') t bp p (h.keep (Mod.ext (T:=fun _=>False) he 9) id));unfold shelves;clear h;go_enter func16,ntmps16;go_wp2_with fail;refine (H.o _ zE).mono ?_;rintro e w1 ⟨rfl,rfl⟩;go_wp2_with fail;go_ret;exact Gives.int rfl (by simp only [GW.to];exact zE)
theorem ylK (w:World) (cm:Cnf) (bp bk bl:Nat):Calls prog 99 #[shelves cm bp bk bl] w (Gives (zp (some ⟨bk,0,none⟩)) w):=by
 unfold shelves;go_enter func99,ntmps99;go_wp2_with fail;go_ret;exact Gives.of_ext zE
theorem yba (s:Int) (sense:Bool) (Al:Option Addr) (cl:Nat) (l:List Int) {g:GW} {B b bt bp bk bl cs:Nat} {S:SpaceS} {A:Option Addr} {cm:Cnf} {bs:List Nat} (h:SpaceIn g B b bt S bp bk bl A cs cm bs) (hl:Seg g 0 Al (l.map (zI z6))) (hB:100≤B) (hn:l.length≤1000000):
 Calls prog 181 #[zp (some ⟨b,0,none⟩),.slice Al l.length cl,zI z6 s,zb sense] g.w (Does (.tuple #[]) g (fun x=>x=B+50) (fun g'=>SpaceIn g' B b bt { S with tab:=S.tab.setAll l s sense } bp bk bl A cs cm bs)):=by
 have H:=zH h;have HL:=zH hl;clear h hl;go_enter func181,ntmps181;go_wp2_with fail;go_loopw [12] (fun i wr=> ∃(k:Nat) (own:Nat→Nat),k≤l.length∧i=zI z6 k∧Hid (Mod (fun x=>x=B+50) g ⟨own,wr⟩)∧Hid (TabAt ⟨own,wr⟩ (B+50) bt (S.tab.setAll (l.take k) s sense))) (fun i _=>l.length-(intOf i).toNat)
 case atStart=>exact ⟨0,g.own,Nat.zero_le _,rfl,zH (Mod.refl _ _),zH H.o.tab⟩
 case round=>
  obtain ⟨k,own,hk,rfl,M,T⟩:=hrel;have H1:=zH (H.o.withTab M.o T.o);have c0:=H1.o.blk.cell (i:=0) rfl;simp only at c0;by_cases hlt:k<l.length
  · obtain ⟨q,o,hA,hq,hcell⟩:=ygk (HL.o.keep M.o zo).cells hlt;have k0:=hcell k hlt;simp only at k0 hq
    have HS:=zH (show S.tab.setAll (l.take (k+1)) s sense=(S.tab.setAll (l.take k) s sense).set (l.getD k 0) s false sense by
     unfold TabS.setAll;rw [List.take_add_one,List.getElem?_eq_getElem hlt,List.getD_eq_getElem?_getD,List.getElem?_eq_getElem hlt,List.foldl_append];rfl)
    generalize l.getD k 0=x at *;subst hA;clear hcell;go_wp2_with fail;refine (yhi ⟨own,wr⟩ (B+50) bt x s false sense _ T.o).mono ?_;rintro e w1 ⟨rfl,own1,m1,t1⟩;have M1:=zH (Mod.trans M.o m1);have T1:=zH t1;clear m1 t1;go_wp2_with fail;go_roundw
    case rel=>exact ⟨k+1,own1,zo,by go_num,M1,by rw [HS.o];exact T1⟩
    case measure=>simp [intOf];omega
  · obtain rfl:k=l.length:=zo;have HS:=zH (show l.take l.length=l from List.take_of_length_le (Nat.le_refl _));go_wp2_with fail;refine bodyPost_end (results_none rfl _ _ _) rfl (Does.of ⟨own,_⟩ rfl rfl M.o ?_);rw [HS.o] at H1;exact H1.o
theorem yda (i:Int) {g:GW} {B b bt bp bk bl cs:Nat} {S:SpaceS} {A:Option Addr} {cm:Cnf} {bs:List Nat} (h:SpaceIn g B b bt S bp bk bl A cs cm bs) (hB:100≤B):
 Calls prog 131 #[zp (some ⟨b,0,none⟩),zI z6 i] g.w (Does (.tuple #[]) g (fun x=>x=B+50∨x=B+1) (fun g'=>SpaceIn g' B b bt { S with tab:=S.tab.set i 0 false false,pool:=S.pool.give i } bp bk bl A cs cm bs)):=by
 have c0:=h.blk.cell (i:=0) rfl;have H:=zH h;clear h;go_enter func131,ntmps131;go_wp2_with fail;refine (yhi g (B+50) bt i 0 false false _ H.o.tab).mono ?_;rintro e w1 ⟨rfl,own1,m1,t1⟩;have M1:=zH m1;have H1:=zH (H.o.withTab m1 t1);have c13:=H1.o.blk.cell (i:=13) rfl;simp only at c13;clear m1 t1 c0;go_wp2_with fail;refine (yj4 ⟨own1,w1⟩ (B+1) bp i _ H1.o.pool).mono ?_;rintro e w2 ⟨rfl,own2,m2,t2⟩;have M2:=zH m2;have H2:=zH (H1.o.withPool m2 t2);clear m2 t2 c13;go_wp2_with fail;refine bodyPost_end (results_none rfl _ _ _) rfl (Does.of ⟨own2,_⟩ rfl rfl ((M1.o.mono (fun x hx=>Or.inl hx)).trans (M2.o.mono (fun x hx=>Or.inr hx))) H2.o)
end Go.Proofs.YtdhjjpnajjingaaGreat
namespace Go
theorem yau {P:Program} {f:FuncId} {args:Array Value} {w:World} {v:Value} (h:Calls P f args w fun e w'=>e=.returned v∧w=w'):Calls P f args w (Gives v w):=
 h.mono fun e w' ⟨he,hw⟩=>⟨he,by subst hw;exact Ext.refl _⟩
theorem PoolS.low_bd {l:List Bool}: ∀(f k i:Nat), ∀x∈PoolS.lowGo l k f i, ∃j:Nat,x=j∧j<i+f
 |0,k,i,x,h=>by simp [PoolS.lowGo] at h
 |f+1,k,i,x,h=>by
  unfold PoolS.lowGo at h;split at h
  · simp at h
  · split at h
    · rcases List.mem_cons.1 h with rfl|h
      · exact ⟨i,rfl,zo⟩
      · obtain ⟨j,hj,hl⟩:=low_bd f (k-1) (i+1) x h;exact ⟨j,hj,zo⟩
    · obtain ⟨j,hj,hl⟩:=low_bd f k (i+1) x h;exact ⟨j,hj,zo⟩
theorem PoolS.lowOnes_bd {p:PoolS} {k x:Int} (h:x∈p.lowOnes k): ∃j:Nat,x=j∧j<p.l.length:=by
 obtain ⟨j,hj,hl⟩:=PoolS.low_bd _ _ _ x h;exact ⟨j,hj,zo⟩
theorem PoolS.taken_bd {p:PoolS} {k:Int} {l:List Int} (h:p.taken k=some l) {x:Int} (hx:x∈l): ∃j:Nat,x=j∧j<p.l.length:=by
 unfold taken at h;split at h
 · cases h
 · cases hr:p.run k with
   |none=>rw [hr] at h;injection h with h;subst h;exact lowOnes_bd hx
   |some a=>
    rw [hr] at h;injection h with h;subst h;obtain ⟨-,ha, -⟩:=run_spec hr;obtain ⟨j,hj,rfl⟩:=span_mem (a:=a) (k:=k.toNat) hx;exact ⟨a+j,rfl,zo⟩
theorem PoolS.lowGo_len {l:List Bool}: ∀(f k i:Nat),(PoolS.lowGo l k f i).length≤k∧(PoolS.lowGo l k f i).length≤f
 |0,k,i=>by simp [PoolS.lowGo]
 |f+1,k,i=>by
  unfold PoolS.lowGo;split
  · simp
  · split
    · have:=lowGo_len (l:=l) f (k-1) (i+1);simp only [List.length_cons];omega
    · have:=lowGo_len (l:=l) f k (i+1);omega
theorem PoolS.taken_len {p:PoolS} {k:Int} {l:List Int} (h:p.taken k=some l):l.length≤p.l.length:=by
 unfold taken at h;split at h
 · cases h
 · cases hr:p.run k with
   |none=>rw [hr] at h;injection h with h;subst h;exact (lowGo_len _ _ _).2
   |some a=>
    rw [hr] at h;injection h with h;subst h;obtain ⟨-,ha, -⟩:=run_spec hr;simp;omega
end Go
namespace Go.Proofs.YtdhjjpnajjingaaGreat
open Go Go.RowKit
theorem yen (fr sp:Int) {g:GW} {B b bt bp bk bl cs:Nat} {S:SpaceS} {A:Option Addr} {cm:Cnf} {bs:List Nat} (h:SpaceIn g B b bt S bp bk bl A cs cm bs):
 Calls prog 179 #[shelves cm bp bk bl,zI z6 fr,zI z6 sp] g.w (Gives (zb (S.fits fr sp)) g.w):=by
 have HF:=zH (fun w' (he:Ext g.w w')=>yeR (g.to 9 w') (B+1) bp S.pool (h.pool.keep (Mod.ext (T:=fun _=>False) he 9) id))
 have hfb:fr≤(S.pool.free:Int)→fr≤1099511627776:=fun hle=>by
  have h1:=h.pool.len;have h2:S.pool.free≤S.pool.l.length:=List.countP_le_length;omega
 have HR0:=zH (fun (hle:fr≤(S.pool.free:Int)) w' (he:Ext g.w w')=>yf9 (g.to 9 w') (B+1) bp fr S.pool (h.pool.keep (Mod.ext (T:=fun _=>False) he 9) id) (hfb hle));clear hfb;have HK:=zH (fun w' (he:Ext g.w w')=>yez (g.to 9 w') (B+2) bk S.coil (h.coil.keep (Mod.ext (T:=fun _=>False) he 9) id));have HV:=zH (show S.fits fr sp=(decide (fr≤(S.pool.free:Int))&&(sp==0 || (S.pool.run fr).isSome || decide (sp≤S.coil.room))) from rfl);unfold shelves;generalize S.pool.free=f at *;generalize S.coil.room=rm at *;generalize S.pool.run fr=o at *;clear h;by_cases h0:(f:Int)<fr
 · have HW:=zH (HV.o.trans (show _=false by rw [decide_eq_false zo];rfl));go_enter func179,ntmps179;go_wp2_with fail;refine (HF.o _ zE).mono ?_;rintro e w1 ⟨rfl,rfl⟩;simp only [GW.to];go_wp2_with fail;go_ret;exact Gives.bool (by rw [HW.o];try rfl) zE
 · have hd:decide (fr≤(f:Int))=true:=decide_eq_true zo;rw [hd] at HV;clear hd;have h1:fr≤(f:Int):=zo;have HR:=zH (HR0.o h1);clear HR0;cases o with
   |some a=>
    have HW:=zH (HV.o.trans (show _=true by simp));unfold runVal at HR;cases hz:(sp==0)
    · go_enter func179,ntmps179;go_wp2_with fail;refine (HF.o _ zE).mono ?_;rintro e w1 ⟨rfl,rfl⟩;simp only [GW.to];go_wp2_with fail;refine (HR.o _ zE).mono ?_;rintro e w1 ⟨rfl,rfl⟩;simp only [GW.to];go_wp2_with fail;go_ret;exact Gives.bool (by rw [HW.o];try rfl) zE
    · go_enter func179,ntmps179;go_wp2_with fail;refine (HF.o _ zE).mono ?_;rintro e w1 ⟨rfl,rfl⟩;simp only [GW.to];go_wp2_with fail;refine (HR.o _ zE).mono ?_;rintro e w1 ⟨rfl,rfl⟩;simp only [GW.to];go_wp2_with fail;go_ret;exact Gives.bool (by rw [HW.o];try rfl) zE
   |none=>
    unfold runVal at HR;cases hz:(sp==0)
    · have HW:=zH (HV.o.trans (show _=decide (sp≤rm) by rw [hz];simp));go_enter func179,ntmps179;go_wp2_with fail;refine (HF.o _ zE).mono ?_;rintro e w1 ⟨rfl,rfl⟩;simp only [GW.to];go_wp2_with fail;refine (HR.o _ zE).mono ?_;rintro e w1 ⟨rfl,rfl⟩;simp only [GW.to];go_wp2_with fail;refine (HK.o _ zE).mono ?_;rintro e w2 ⟨rfl,hX⟩;have HE:=zH ((show Ext g.w _ from zE).trans (show Ext _ w2 from hX));clear hX;go_wp2_with fail;go_ret;exact Gives.bool (by rw [HW.o];try rfl) HE.o
    · have HW:=zH (HV.o.trans (show _=true by rw [hz];simp));go_enter func179,ntmps179;go_wp2_with fail;refine (HF.o _ zE).mono ?_;rintro e w1 ⟨rfl,rfl⟩;simp only [GW.to];go_wp2_with fail;refine (HR.o _ zE).mono ?_;rintro e w1 ⟨rfl,rfl⟩;simp only [GW.to];go_wp2_with fail;go_ret;exact Gives.bool (by rw [HW.o];try rfl) zE
def cAtV (c:Cnf) (r:Nat) (k:Int):Int:=if 0≤k∧k<cSize c r then k+cAhead c r else 0
theorem ycW (c:Cnf) (r:Nat) (k:Int): ∃e:Int,cAt c r k=.tuple #[zI z6 (cAtV c r k),zI z6 e]:=by
 unfold cAt cAtV;split
 · exact ⟨_,rfl⟩
 · exact ⟨_,rfl⟩
theorem ycw {c d:Cnf} (h:c.Same d) (r:Nat) (k:Int):cAtV c r k=cAtV d r k:=by
 have hc:=h.check;obtain ⟨h1,h2,h3,h4,h5,h6,h7,h8,_⟩:=h;unfold cAtV cSize cAhead;rw [hc,h1,h2,h3]
theorem ykg (a k:Nat) (h:a+k≤1000000):isSide ((List.range k).map fun j=>((a+j:Nat):Int))=true:=by
 unfold isSide sideTo;rw [List.all_eq_true];intro j hj;have hj:=List.mem_range.1 hj;simp only [List.length_map,List.length_range] at hj
 have g0:(((List.range k).map fun j=>((a+j:Nat):Int)).getD j 0)=((a+j:Nat):Int):=by
  rw [List.getD_eq_getElem?_getD,List.getElem?_map,List.getElem?_range zo];rfl
 have g1:(((List.range k).map fun j=>((a+j:Nat):Int)).getD (j+1) 0)=((a+(j+1):Nat):Int):=by
  rw [List.getD_eq_getElem?_getD,List.getElem?_map,List.getElem?_range zo];rfl
 rw [g0,g1];exact decide_eq_true ⟨zo,zo⟩
theorem ycF {S:SpaceS} {fr sp:Int} {got:List Int} (hfit:S.fits fr sp=true) (hg:S.pool.taken fr=some got) (hl:S.pool.l.length≤1024) (hk:S.coil.Ok):sp≤1099511627776∨isSide got=true:=by
 unfold SpaceS.fits at hfit;simp only [Bool.and_eq_true,Bool.or_eq_true,decide_eq_true_eq,beq_iff_eq] at hfit;rcases hfit.2 with (h|h)|h
 · exact Or.inl zo
 · refine Or.inr ?_;obtain ⟨a,ha⟩:=Option.isSome_iff_exists.1 h;unfold PoolS.taken at hg;split at hg
   · cases hg
   · rw [ha] at hg;injection hg with hg;have:=PoolS.run_spec ha;rw [←hg];exact ykg _ _ zo
 · refine Or.inl ?_
   have h1:0≤S.coil.used S.coil.cur:=by
    unfold CoilS.used;split
    · exact hk.b0.1
    · exact hk.b1.1
   have h2:=hk.s0;have h3:=hk.bk;unfold CoilS.room at h;omega
def takesAt (S:SpaceS) (got:List Int) (sp:Int):Int:=if sp=0∨isSide got=true then-1 else cAtV S.c (S.coil.cur+1) (S.coil.takenAt sp)
def takesS (S:SpaceS) (got:List Int) (sp:Int):SpaceS:={ S with pool:=S.pool.takes got,coil:=if sp=0∨isSide got=true then S.coil else S.coil.take sp }
theorem CoilS.take_cur (c:CoilS) (n:Int):(c.take n).cur=c.cur:=by
 unfold CoilS.take CoilS.lays;split
 · split<;>rfl
 · rfl
theorem ydr (fr sp:Int) (got:List Int) {g:GW} {B b bt bp bk bl cs:Nat} {S:SpaceS} {A:Option Addr} {cm:Cnf} {bs:List Nat} (h:SpaceIn g B b bt S bp bk bl A cs cm bs) (hB:100≤B) (hf:S.pool.taken fr=some got) (hsp:0≤sp∧(sp≤1099511627776∨isSide got=true)):
 Calls prog 180 #[shelves cm bp bk bl,zI z6 fr,zI z6 sp] g.w (Makes g (fun x=>x=B+1∨x=B+2) (fun v g'=> ∃s c,v=.tuple #[.slice s got.length c,zI z6 (takesAt S got sp)]∧Row g' 0 3 1 (.slice s got.length c) got.length (got.map (zI z6))∧SpaceIn g' B b bt (takesS S got sp) bp bk bl A cs cm bs)):=by
 obtain ⟨hs0,hs1⟩:=hsp;have HP:=zH (fun g' (m:Mod (fun _=>False) g g')=>yfh g' (B+1) bp fr got S.pool (h.pool.keep m id) zo hf)
 have HBD:=zH (show∀x∈got, -9223372036854775808≤x∧x≤9223372036854775807 from fun x hx=>by
  obtain ⟨j,rfl,hj⟩:=PoolS.taken_bd hf hx;have:=h.pool.len;omega)
 have HGL:=zH (show got.length≤1024 from Nat.le_trans (PoolS.taken_len hf) h.pool.len);have H:=zH h;clear h hf;have hE0:Ext g.w (g.w.alloc (.cells #[zI z6 cm.frags,zI z6 cm.spine,zI z6 cm.globals,zI z6 cm.threads,zI z6 cm.locals,zI z6 cm.cache,zI z6 cm.stack,zI z6 cm.low,.slice cm.A cm.shapes.length cm.cap,zp (some ⟨bp,0,none⟩),zp (some ⟨bk,0,none⟩),zp (some ⟨bl,0,none⟩)] 65)):=zE;have B0:=zH (Blk.new g 9 65 [zI z6 cm.frags,zI z6 cm.spine,zI z6 cm.globals,zI z6 cm.threads,zI z6 cm.locals,zI z6 cm.cache,zI z6 cm.stack,zI z6 cm.low,.slice cm.A cm.shapes.length cm.cap,zp (some ⟨bp,0,none⟩),zp (some ⟨bk,0,none⟩),zp (some ⟨bl,0,none⟩)]);have M0:=zH (Mod.ext (T:=fun _=>False) hE0 9);clear hE0;unfold shelves;go_enter func180,ntmps180;go_wp2_with fail;refine (HP.o (g.to 9 (g.w.alloc (.cells #[zI z6 cm.frags,zI z6 cm.spine,zI z6 cm.globals,zI z6 cm.threads,zI z6 cm.locals,zI z6 cm.cache,zI z6 cm.stack,zI z6 cm.low,.slice cm.A cm.shapes.length cm.cap,zp (some ⟨bp,0,none⟩),zp (some ⟨bk,0,none⟩),zp (some ⟨bl,0,none⟩)] 65))) M0.o).mono ?_
 rintro e w1 ⟨v,own1,rfl,m1,s,rfl,r1,p1⟩;obtain ⟨sA,sc,rfl⟩:=yak r1.row;have M1:=zH ((M0.o.mono zG).trans m1);have R1:=zH r1;have B1:=zH (B0.o.keep m1 zo);have H1:=zH ((H.o.keep M0.o zG).withPool m1 p1);have HSD:=zH (fun w' (he:Ext w1 w')=>ydt sA sc got w' (r1.cells.ext he) (by have:=HGL.o;omega) HBD.o);clear m1 r1 p1;obtain ⟨d0,d1,d2,d3,d4,d5,d6,d7,d8,d9,d10,d11,dl⟩:=B1.o.k12;by_cases hz:sp=0
 · subst hz;have HT:=zH (show takesAt S got 0= -1 from if_pos (Or.inl rfl));have HS:=zH (show takesS S got 0={ S with pool:=S.pool.takes got } by unfold takesS;rw [if_pos (Or.inl rfl)]);go_wp2_with fail;go_ret2;exact ⟨_,own1,rfl,M1.o.mono (fun x hx=>Or.inl hx),sA,sc,by rw [HT.o];try rfl,R1.o,by rw [HS.o];exact H1.o⟩
 · have hz0:(sp==0)=false:=by simp [hz]
   cases hsd:isSide got
   · have hs1:sp≤1099511627776:=hs1.elim id (fun e=>by rw [hsd] at e;cases e);have HT:=zH (show takesAt S got sp=cAtV S.c (S.coil.cur+1) (S.coil.takenAt sp) from if_neg (by rw [hsd];simp [hz]));have HS:=zH (show takesS S got sp={ S with pool:=S.pool.takes got,coil:=S.coil.take sp } by unfold takesS;rw [if_neg (by rw [hsd];simp [hz])]);rw [hsd] at HSD;clear hsd hz;go_wp2_with fail;refine (HSD.o _ zE).mono ?_;rintro e w2 ⟨rfl,hX⟩;obtain ⟨own2,m2,hw2⟩: ∃own2,Mod (fun _=>False) ⟨own1,w1⟩ ⟨own2,w2⟩∧Ext w1 w2:=⟨_,Mod.ext (g:=⟨own1,w1⟩) (show Ext w1 w2 from hX) 0,hX⟩;have M2:=zH (M1.o.trans (m2.mono zG));have R2:=zH (R1.o.keep m2 id);have B2:=zH (B1.o.keep m2 id);have H2:=zH (H1.o.keep m2 zG);clear m2 hw2 hX d0 d1 d2 d3 d4 d5 d6 d7 d8 d9 d10 d11 dl;obtain ⟨d0,d1,d2,d3,d4,d5,d6,d7,d8,d9,d10,d11,dl⟩:=B2.o.k12;go_wp2_with fail;refine (yi5 ⟨own2,w2⟩ (B+2) bk sp _ H2.o.coil hs1).mono ?_;rintro e w3 ⟨rfl,own3,m3,k3⟩;have M3:=zH ((M2.o.mono (fun x (hx:x=B+1)=>(Or.inl hx:x=B+1∨x=B+2))).trans (m3.mono (fun x hx=>Or.inr hx)));have R3:=zH (R2.o.keep m3 zo);have B3:=zH (B2.o.keep m3 zo);have H3:=zH (H2.o.withCoil m3 k3)
     clear m3 k3 d0 d1 d2 d3 d4 d5 d6 d7 d8 d9 d10 d11 dl;obtain ⟨d0,d1,d2,d3,d4,d5,d6,d7,d8,d9,d10,d11,dl⟩:=B3.o.k12;go_wp2_with fail;have hcur:(S.coil.take sp).cur<2:=H3.o.coil.ok.cur;have HCU:=zH (fun X=>yau (ycA ((⟨own3,w3⟩:GW).pt X) (B+2) bk _ (H3.o.coil.pt X)));simp only at HCU;obtain ⟨ev,hev⟩:=ycW cm ((S.coil.take sp).cur+1) (S.coil.takenAt sp);have HSP:=zH (fun X=>ykl cm (S.coil.take sp).cur (S.coil.takenAt sp) (w3.patch X) (H3.o.cnf.ok.ext ⟨X,rfl⟩) hcur);rw [hev] at HSP;have HEV:=zH (show cAtV cm ((S.coil.take sp).cur+1) (S.coil.takenAt sp)=takesAt S got sp by rw [HT.o,ycw H3.o.same,CoilS.take_cur]);unfold Cnf.val at HSP;rw [HEV.o] at HSP;clear hev;generalize S.coil.takenAt sp=tk at *;generalize (S.coil.take sp).cur=cu at *;refine yab [zT,zT,zT,zT,zT,zT,zT,zT,zT,zT,zT,zT] 0 12 ?_;intro X00;simp only [pickOps];repeat (go_big_quiet_step (first|(go_at_call 100;exact Calls.added (HCU.o _))|(go_at_call 238;exact Calls.added (HSP.o _))))
     refine wpQuiet_nil (fun X0=>?_);clear X00;refine yaa zQ (fun X0'=>?_) _;go_wp2_with fail;go_ret2;exact Makes.ext ⟨own3,w3⟩ zE M3.o (fun g2 m=>⟨sA,sc,rfl,R3.o.keep m id,by rw [HS.o];exact H3.o.keep m zG⟩)
   · have HT:=zH (show takesAt S got sp= -1 from if_pos (Or.inr hsd));have HS:=zH (show takesS S got sp={ S with pool:=S.pool.takes got } by unfold takesS;rw [if_pos (Or.inr hsd)]);rw [hsd] at HSD;clear hsd hz;go_wp2_with fail;refine (HSD.o _ zE).mono ?_;rintro e w2 ⟨rfl,hX⟩;obtain ⟨own2,m2⟩: ∃own2,Mod (fun _=>False) ⟨own1,w1⟩ ⟨own2,w2⟩:=⟨_,Mod.ext (g:=⟨own1,w1⟩) (show Ext w1 w2 from hX) 0⟩;have M2:=zH (M1.o.trans (m2.mono zG));have R2:=zH (R1.o.keep m2 id);have H2:=zH (H1.o.keep m2 zG);clear m2 hX;go_wp2_with fail;go_ret2;exact ⟨_,own2,rfl,M2.o.mono (fun x hx=>Or.inl hx),sA,sc,by rw [HT.o];try rfl,R2.o,by rw [HS.o];exact H2.o⟩
end Go.Proofs.YtdhjjpnajjingaaGreat
