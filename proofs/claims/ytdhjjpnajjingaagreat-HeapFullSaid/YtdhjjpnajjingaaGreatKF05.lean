import Derived.Test.YtdhjjpnajjingaaGreatKF04
import Derived.Deep.RegionLaw
import Derived.Laws.IdiomCopy
import Derived.Deep.MidRow
import Derived.Deep.RegionWith
import Derived.Deep.DeepCutAuto
import Derived.Maps.OwnSet
import Derived.Maps.OwnOps
set_option linter.unusedVariables false
set_option linter.unnecessarySimpa false
set_option linter.unusedSimpArgs false
open Bool renaming true→zT,false→zU
open Go.Value renaming int→zI,complex→zc,pointer→zp,bool→zb
open Go.IntKind renaming i64→z6
open Go.FloatKind renaming f64→z4
set_option maxHeartbeats 8000000
set_option maxRecDepth 100000
open Go.Proofs.Tryz
open Go.Lib renaming hid→zH
open Go.Ext renaming alloc→zA,patch→zP,drew→zD,drewN→zN,more→zM,refl→zR,setCell→zS
open Nat renaming le_refl→zL,le_add_right→zK
namespace Go
theorem ykQ {α:Type} {f:α→List Value} {n:Nat} (hf: ∀a,(f a).length=n) (l:List α) (k j:Nat) (x y:α) (v:Value) (hk:l[k]?=some x) (hj:j<n) (hy:f y=(f x).set j v):(l.set k y).flatMap f=(l.flatMap f).set (k*n+j) v:=by
 induction l generalizing k with
 |nil=>simp at hk
 |cons z l ih=>
  cases k with
  |zero=>
   simp at hk;subst hk;simp only [List.set_cons_zero,List.flatMap_cons,Nat.zero_mul,Nat.zero_add];rw [List.set_append_left _ _ (by rw [hf];exact hj),hy]
  |succ k=>
   simp only [List.set_cons_succ,List.flatMap_cons];rw [List.set_append_right _ _ (by rw [hf,Nat.succ_mul];omega),hf,ih k (by simpa using hk)];congr 2
   rw [Nat.succ_mul];omega
def upto {α:Type} (f:α→α) (l:List α) (k:Nat):List α:=(l.take k).map f++l.drop k
theorem yeX {α:Type} (f:α→α) (l:List α):upto f l 0=l:=by simp [upto]
theorem ygi {α:Type} (f:α→α) (l:List α):upto f l l.length=l.map f:=by simp [upto]
theorem ydv {α:Type} (f:α→α) (l:List α) (k:Nat):(upto f l k).length=l.length:=by simp [upto];omega
theorem yhj {α:Type} (f:α→α) (l:List α) (k:Nat):(upto f l k)[k]?=l[k]?:=by
 unfold upto;by_cases h:k<l.length
 · rw [List.getElem?_append_right (by simp;omega)];simp [List.length_take,Nat.min_eq_left (Nat.le_of_lt h)]
 · rw [List.getElem?_eq_none (by simp;omega),List.getElem?_eq_none zo]
theorem ycT {α:Type} (f:α→α) (l:List α) (k:Nat) (x:α) (h:l[k]?=some x):upto f l (k+1)=(upto f l k).set k (f x):=by
 obtain ⟨hk,hx⟩:=List.getElem?_eq_some_iff.1 h;unfold upto;rw [List.take_add_one,h,List.map_append,List.set_append_right _ _ (by simp;omega)];have e:k-((l.take k).map f).length=0:=by simp;omega
 rw [e, ←List.getElem_cons_drop hk];simp [hx]
end Go
namespace Go.Proofs.YtdhjjpnajjingaaGreat
open Go Go.RowKit
theorem yhM (m:EntM) (w:World):Calls prog 271 #[.agg #[zI z6 m.e.thread,zI z6 m.e.frags,zI z6 m.e.spine,zI z6 m.e.state,zI z6 m.e.cycles,zI z6 m.e.at_,.slice m.A m.e.got.length m.cap,zb m.e.noted]] w (Gives (zb (waitB m.e)) w):=by
 go_enter func271,ntmps271;go_wp2_with fail;go_ret;exact Gives.bool rfl zE
theorem yjy (A:Option Addr) (c:Nat) (ms:List EntM) (w:World) (hc:CellsAt w A (ms.flatMap EntM.cells)) (hl:ms.length≤1000000):
 Calls prog 254 #[.slice A ms.length c,.func (.func 271) #[] #[]] w (IdxGot (waitB) ms w):=by
 have HC:=zH hc;clear hc;go_enter func254,ntmps254;go_wp2_with fail;go_loopw [8] (fun i wr=> ∃k:Nat,k≤ms.length∧i=zI z6 k∧Hid (∀e∈(ms.map EntM.e).take k,waitB e=false)∧Hid (Ext w wr)) (fun i _=>ms.length-(intOf i).toNat)
 case atStart=>exact ⟨0,Nat.zero_le _,rfl,zH (by simp),zH (Ext.refl _)⟩
 case round=>
  obtain ⟨k,hk,rfl,hm,HE⟩:=hrel;by_cases hlt:k<ms.length
  · obtain ⟨b,o,hA,hb,g0,g1,g2,g3,g4,g5,g6,g7⟩:=ybU (HC.o.ext HE.o) hlt;have hx:=List.getElem?_eq_getElem hlt;have HX:=zH (show (ms.map EntM.e)[k]?=some ms[k].e by rw [List.getElem?_map,hx];rfl);generalize ms[k]=m at *;have HF:=zH (yhM m wr);subst hA;clear hx;go_wp2_with fail;refine HF.o.mono ?_;rintro e w1 ⟨rfl,hX⟩;have HE1:=zH (HE.o.trans (show Ext wr w1 from hX));clear hX;cases hv:waitB m.e
    · have HN:=zH (ybS HX.o hm.o hv);clear hv;go_wp2_with fail;go_roundw
      case rel=>exact ⟨k+1,zo,by go_num,HN,HE1⟩
      case measure=>simp [intOf];omega
    · have HN:=zH (ycM HX.o hv hm.o);clear hv;go_wp2_with fail;go_ret;exact Gives.int HN.o.symm HE1.o
  · have HN:=zH (ycL (p:=waitB) (l:=ms.map EntM.e) (fun e he=>hm.o e (by rw [List.take_of_length_le (by simp;omega)];exact he)));go_wp2_with fail;go_ret;exact Gives.int HN.o.symm HE.o
theorem ycc (g:GW) (t b:Nat) (L:List Ent) (h:LineAt g t b L):
 Calls prog 233 #[zp (some ⟨b,0,none⟩)] g.w (Gives (zI z6 (placeOf (waitB) L)) g.w):=by
 obtain ⟨A,c,ms,hb,hr,hm, -⟩:=h.ex;have hml:ms.length=L.length:=by rw [←hm,List.length_map]
 have HI:=zH (fun w' (he:Ext g.w w')=>yjy A c ms w' (hr.cells.ext he) (by have:=h.len;omega));unfold IdxGot at HI;rw [hm,hml] at HI;have c0:=hb.cell (i:=0) rfl;have hbl:=hb.lt;clear hr hm hml hb h;go_enter func233,ntmps233;go_wp2_with fail;refine (HI.o _ zE).mono ?_;rintro e w1 ⟨rfl,hX⟩;have HE:=zH (show Ext g.w w1 from hX);clear hX;go_wp2_with fail;go_ret;exact Gives.int rfl HE.o
theorem yh4 (g:GW) (t b:Nat) (L:List Ent) (h:LineAt g t b L):
 Calls prog 178 #[zp (some ⟨b,0,none⟩)] g.w (Makes g (fun _=>False) (ReqOf L (placeOf (waitB) L))):=by
 have HO:=zH (fun g' (m:Mod (fun _=>False) g g')=>ycc g' t b L (h.keep m id id));have HA:=zH (fun g' (m:Mod (fun _=>False) g g')=>yhe g' t b (placeOf (waitB) L) L (h.keep m id id) (ybd _ _).2);generalize placeOf (waitB) L=i at *;clear h;go_enter func178,ntmps178;go_wp2_with fail;have hE0:Ext g.w (g.w.alloc (.cells #[zI z6 0,zI z6 0,zI z6 0,zI z6 0,zI z6 0,zI z6 0,.slice none 0 0] 199)):=zE;have B0:=zH (Blk.new g 9 199 [zI z6 0,zI z6 0,zI z6 0,zI z6 0,zI z6 0,zI z6 0,.slice none 0 0]);have M0:=zH (Mod.ext (T:=fun _=>False) hE0 9);clear hE0;refine (HO.o (g.to 9 (g.w.alloc (.cells #[zI z6 0,zI z6 0,zI z6 0,zI z6 0,zI z6 0,zI z6 0,.slice none 0 0] 199))) M0.o).mono ?_;rintro e w1 ⟨rfl,hE1⟩;have E1:=zH (show Ext (g.w.alloc (.cells #[zI z6 0,zI z6 0,zI z6 0,zI z6 0,zI z6 0,zI z6 0,.slice none 0 0] 199)) w1 from hE1);have N1:=zH (Mod.ext (T:=fun _=>False) (g:=g.to 9 (g.w.alloc (.cells #[zI z6 0,zI z6 0,zI z6 0,zI z6 0,zI z6 0,zI z6 0,.slice none 0 0] 199))) E1.o 0);have M1:=zH (M0.o.trans N1.o);have B1:=zH (B0.o.keep N1.o id);clear hE1
 go_wp2_with fail;refine (HA.o _ M1.o).mono ?_;rintro e w2 ⟨v,own2,rfl,m2,r,ok,rfl,hn,hp⟩;have M2:=zH (M1.o.trans m2);have B2:=zH (B1.o.keep m2 id);clear m2 E1;obtain ⟨d0,d1,d2,d3,d4,d5,d6,dl⟩:=B2.o.k7;have df0:=B2.o.liv 0;have df1:=B2.o.liv 1;have df2:=B2.o.liv 2;have df3:=B2.o.liv 3;have df4:=B2.o.liv 4;have df5:=B2.o.liv 5;have df6:=B2.o.liv 6;by_cases h0:i<0
 · obtain ⟨rfl,rfl⟩:=hn h0;have HN:=zH hp;have H0:=zH h0;clear hn hp h0;go_wp2_with fail;refine bodyPost_ret (v:=.tuple #[.agg #[zI z6 0,zI z6 0,zI z6 0,zI z6 0,zI z6 0,zI z6 0,.slice none 0 0],zb false]) (by simp [results,Tryz.results178,go_sem,d0,d1,d2,d3,d4,d5,d6]) rfl ?_;have M9:Mod (fun _=>False) g ⟨own2,_⟩:=Mod.stn (Mod.stn (Mod.stn (Mod.stn (Mod.stn (Mod.stn (Mod.stn (b:=g.w.heap.size) (i:=0) (v:=zI z6 0) M2.o (Nat.le_refl _)) (b:=g.w.heap.size) (i:=1) (v:=zI z6 0) (Nat.le_refl _)) (b:=g.w.heap.size) (i:=2) (v:=zI z6 0) (Nat.le_refl _)) (b:=g.w.heap.size) (i:=3) (v:=zI z6 0) (Nat.le_refl _)) (b:=g.w.heap.size) (i:=4) (v:=zI z6 0) (Nat.le_refl _)) (b:=g.w.heap.size) (i:=5) (v:=zI z6 0) (Nat.le_refl _)) (b:=g.w.heap.size) (i:=6) (v:=.slice none 0 0) (Nat.le_refl _);exact ⟨_,_,rfl,M9,[zI z6 0,zI z6 0,zI z6 0,zI z6 0,zI z6 0,zI z6 0,.slice none 0 0],false,rfl,fun _=>⟨rfl,rfl⟩,fun hh=>by have:=H0.o;omega⟩
 · obtain ⟨rfl,e,A',c',hL,rfl,hr⟩:=hp zo;have HL:=zH hL;have HR:=zH hr;have H0:=zH h0;clear hn hL hr h0;go_wp2_with fail;refine bodyPost_ret (v:=.tuple #[.agg #[zI z6 e.thread,zI z6 e.frags,zI z6 e.spine,zI z6 e.state,zI z6 e.cycles,zI z6 e.at_,.slice A' e.got.length c'],zb true]) (by simp [results,Tryz.results178,go_sem,d0,d1,d2,d3,d4,d5,d6]) rfl ?_;have M9:Mod (fun _=>False) g ⟨own2,_⟩:=Mod.stn (Mod.stn (Mod.stn (Mod.stn (Mod.stn (Mod.stn (Mod.stn (b:=g.w.heap.size) (i:=0) (v:=zI z6 e.thread) M2.o (Nat.le_refl _)) (b:=g.w.heap.size) (i:=1) (v:=zI z6 e.frags) (Nat.le_refl _)) (b:=g.w.heap.size) (i:=2) (v:=zI z6 e.spine) (Nat.le_refl _)) (b:=g.w.heap.size) (i:=3) (v:=zI z6 e.state) (Nat.le_refl _)) (b:=g.w.heap.size) (i:=4) (v:=zI z6 e.cycles) (Nat.le_refl _)) (b:=g.w.heap.size) (i:=5) (v:=zI z6 e.at_) (Nat.le_refl _)) (b:=g.w.heap.size) (i:=6) (v:=.slice A' e.got.length c') (Nat.le_refl _)
   have T9:Mod (fun x=>x=9) ⟨own2,w2⟩ ⟨own2,_⟩:=Mod.st (Mod.st (Mod.st (Mod.st (Mod.st (Mod.st (Mod.st (b:=g.w.heap.size) (i:=0) (v:=zI z6 e.thread) (Mod.refl _ _) B2.o.own) (b:=g.w.heap.size) (i:=1) (v:=zI z6 e.frags) B2.o.own) (b:=g.w.heap.size) (i:=2) (v:=zI z6 e.spine) B2.o.own) (b:=g.w.heap.size) (i:=3) (v:=zI z6 e.state) B2.o.own) (b:=g.w.heap.size) (i:=4) (v:=zI z6 e.cycles) B2.o.own) (b:=g.w.heap.size) (i:=5) (v:=zI z6 e.at_) B2.o.own) (b:=g.w.heap.size) (i:=6) (v:=.slice A' e.got.length c') B2.o.own;exact ⟨_,_,rfl,M9,[zI z6 e.thread,zI z6 e.frags,zI z6 e.spine,zI z6 e.state,zI z6 e.cycles,zI z6 e.at_,.slice A' e.got.length c'],true,rfl,fun hh=>by have:=H0.o;omega,fun _=>⟨rfl,e,A',c',HL.o,rfl,HR.o.keep T9 zd⟩⟩
end Go.Proofs.YtdhjjpnajjingaaGreat
namespace Go
def failL (L:List Ent):List Ent:=if placeOf waitB L<0 then L else L.modify (placeOf waitB L).toNat fun e=>{ e with state:=2 }
def grantL (L:List Ent) (got:List Int) (a:Int):List Ent:=if placeOf waitB L<0 then L else L.modify (placeOf waitB L).toNat fun e=>{ e with state:=1,got:=got,at_:=a }
def noteE (e:Ent):Ent:={ e with noted:=waitB e }
def endE (e:Ent):Ent:={ e with cycles:=if e.noted&&waitB e then e.cycles+1 else e.cycles,noted:=false }
def EntM.failed (m:EntM):EntM:=⟨{ m.e with state:=2 },m.A,m.cap⟩
def EntM.gr1 (m:EntM):EntM:=⟨{ m.e with state:=1 },m.A,m.cap⟩
def EntM.gr2 (m:EntM) (got:List Int) (A:Option Addr) (c:Nat):EntM:=⟨{ m.e with state:=1,got:=got },A,c⟩
def EntM.gr3 (m:EntM) (got:List Int) (a:Int) (A:Option Addr) (c:Nat):EntM:=⟨{ m.e with state:=1,got:=got,at_:=a },A,c⟩
def EntM.noted' (m:EntM):EntM:=⟨noteE m.e,m.A,m.cap⟩
def EntM.ended (m:EntM):EntM:=⟨endE m.e,m.A,m.cap⟩
def EntM.cyc (m:EntM) (v:Int):EntM:=⟨{ m.e with cycles:=v },m.A,m.cap⟩
theorem yfT (f:Ent→Ent) (fm:EntM→EntM) (hf: ∀m,(fm m).e=f m.e) (ms:List EntM):(ms.map fm).map EntM.e=(ms.map EntM.e).map f:=by
 simp [List.map_map];intro m _;exact hf m
theorem ydG {α:Type} (l:List α) (k:Nat) (f:α→α) (x:α) (h:l[k]?=some x):l.modify k f=l.set k (f x):=by
 apply List.ext_getElem?;intro i;rw [List.getElem?_modify,List.getElem?_set];by_cases e:k=i
 · subst e;obtain ⟨hl,hx⟩:=List.getElem?_eq_some_iff.1 h;simp [hl,hx]
 · simp [e]
end Go
namespace Go.Proofs.YtdhjjpnajjingaaGreat
open Go Go.RowKit
structure LineIn (g:GW) (t b:Nat) (A:Option Addr) (c:Nat) (ms:List EntM):Prop where
 blk:Blk g t b 222 [.slice A ms.length c]
 row:Row g t 224 8 (.slice A ms.length c) ms.length (ms.flatMap EntM.cells)
 at_: ∀m∈ms,m.At g (t+1)
theorem LineAt.in_ {g:GW} {t b:Nat} {L:List Ent} (h:LineAt g t b L): ∃A c ms,LineIn g t b A c ms∧ms.map EntM.e=L:=by
 obtain ⟨A,c,ms,h1,h2,h3,h4⟩:=h.ex;have e:L.length=ms.length:=by rw [←h3,List.length_map]
 rw [e] at h1 h2;exact ⟨A,c,ms,⟨h1,h2,h4⟩,h3⟩
theorem LineIn.o {g:GW} {t b c:Nat} {A:Option Addr} {ms:List EntM} {L:List Ent} (h:LineIn g t b A c ms) (e:ms.map EntM.e=L) (hl:L.length≤1000000):LineAt g t b L:=by
 have e':L.length=ms.length:=by rw [←e,List.length_map]
 refine ⟨⟨A,c,ms,?_,?_,e,h.at_⟩,hl⟩
 · rw [e'];exact h.blk
 · rw [e'];exact h.row
theorem LineIn.keep {S:Nat→Prop} {g g':GW} {t b c:Nat} {A:Option Addr} {ms:List EntM} (h:LineIn g t b A c ms) (d:Mod S g g') (hs: ¬S t) (hs1: ¬S (t+1)):LineIn g' t b A c ms:=
 ⟨h.blk.keep d hs,h.row.keep d hs,fun m hm=>(h.at_ m hm).keep d hs1⟩
theorem LineIn.elem {g:GW} {t b c:Nat} {A:Option Addr} {ms:List EntM} (h:LineIn g t b A c ms) {k:Nat} {m:EntM} (hk:ms[k]?=some m): ∃r,A=some ⟨r,0,none⟩∧r<g.w.heap.size∧g.own r=t∧b≠r∧(∀j,g.w.frozen? ⟨r,j,none⟩=false)∧ ∀j v,j<8→m.cells[j]?=some v→g.w.cell? ⟨r,k*8+j,none⟩=some v:=by
 obtain ⟨hl, -⟩:=List.getElem?_eq_some_iff.1 hk;obtain ⟨r,rfl,h1,h2,h3,h4⟩:=h.row.block zo;exact ⟨r,rfl,h1,h2,h.row.ne_type h.blk zd rfl,h4,fun j v hj hv=>h3 _ _ (by rw [yaP EntM.cells_len ms k j m hk hj];exact hv)⟩
theorem LineIn.put {g:GW} {t b r c:Nat} {ms:List EntM} (h:LineIn g t b (some ⟨r,0,none⟩) c ms) {k j:Nat} {x y:EntM} {v:Value} (hk:ms[k]?=some x) (hj:j<8) (hy:y.cells=x.cells.set j v) (ho:g.own r=t) (hn:b≠r) (hat:y.At g (t+1)):
 LineIn ⟨g.own,g.w.setCell ⟨r,k*8+j,none⟩ v⟩ t b (some ⟨r,0,none⟩) c (ms.set k y):=by
 have m1:Mod (fun x=>x=t) g ⟨g.own,g.w.setCell ⟨r,k*8+j,none⟩ v⟩:=Mod.set ho;refine ⟨?_,?_,fun m hm=>?_⟩
 · simp only [List.length_set];exact h.blk.setOther _ _ (fun e=>hn e.symm)
 · simp only [List.length_set];rw [ykQ EntM.cells_len ms k j x y v hk hj hy];exact h.row.store _ _
 · rcases List.mem_or_eq_of_mem_set hm with hm|rfl
   · exact (h.at_ m hm).keep m1 zo
   · exact hat.keep m1 zo
theorem yjJ (g:GW) (t b:Nat) (L:List Ent) (h:LineAt g t b L):
 Calls prog 183 #[zp (some ⟨b,0,none⟩)] g.w (Does (zb (decide (0≤placeOf waitB L))) g (fun x=>x=t) (fun g'=>LineAt g' t b (failL L))):=by
 have HI:=zH (ycc g t b L h);have H:=zH h;have HL:=zH h.len;have hbd:=ybd waitB L;clear h;go_enter func183,ntmps183;go_wp2_with fail;refine HI.o.mono ?_;rintro e w1 ⟨rfl,hX⟩;obtain ⟨own1,m1⟩:=Mod.ofExt (show Ext g.w w1 from hX) g.own;have M1:=zH (show Mod (fun _=>False) g ⟨own1,w1⟩ from m1);have H1:=zH (H.o.keep M1.o id id);clear m1 hX;by_cases h0:placeOf waitB L<0
 · have HV:=zH (show failL L=L from if_pos h0);have HD:=zH (show decide (0≤placeOf waitB L)=false from decide_eq_false zo);go_wp2_with fail;go_ret;exact Does.of ⟨own1,w1⟩ rfl (by rw [HD.o];try rfl) (M1.o.mono zG) (by rw [HV.o];exact H1.o)
 · have HV:=zH (show failL L=L.modify (placeOf waitB L).toNat (fun e=>{ e with state:=2 }) from if_neg h0);have HD:=zH (show decide (0≤placeOf waitB L)=true from decide_eq_true zo);obtain ⟨k,hk⟩:=Int.eq_ofNat_of_zero_le (show 0≤placeOf waitB L by omega);rw [hk] at HV hbd ⊢;obtain ⟨A,c,ms,hin,hms⟩:=H1.o.in_;have hml:ms.length=L.length:=by rw [←hms,List.length_map]
   have hkm:k<ms.length:=zo;have hx:=List.getElem?_eq_getElem hkm;obtain ⟨r,rfl,hr1,hr2,hr3,hr4,hc⟩:=hin.elem hx;have hxL:L[k]?=some ms[k].e:=by rw [←hms,List.getElem?_map,hx];rfl
   have HR:=zH (show LineAt ⟨own1,w1.setCell ⟨r,k*8+3,none⟩ (zI z6 2)⟩ t b (failL L) by
    refine (hin.put (y:=ms[k].failed) hx zd rfl hr2 hr3 ?_).o ?_ (by rw [HV.o,Int.toNat_natCast,List.length_modify];exact HL.o)
    · exact ⟨(hin.at_ _ (List.getElem_mem hkm)).seg,(hin.at_ _ (List.getElem_mem hkm)).len⟩
    · rw [HV.o,Int.toNat_natCast,List.map_set,hms,ydG _ _ _ _ hxL];rfl)
   have HM:=zH (show Mod (fun x=>x=t) g ⟨own1,w1.setCell ⟨r,k*8+3,none⟩ (zI z6 2)⟩ from Mod.st (M1.o.mono zG) hr2);have c0:=hin.blk.cell (i:=0) rfl;have g3:=hc 3 _ zd rfl;have f3:=hr4 (k*8+3);have hbl:=hin.blk.lt;simp only at c0 g3 f3 hbl hr1;rw [hml] at c0 hkm;generalize L.length=n at *;clear hc hr4 hx hxL hin hms hml hr2;go_wp2_with fail;go_ret;exact Does.of ⟨own1,_⟩ rfl (by rw [HD.o];try rfl) HM.o HR.o
theorem yh6 (g:GW) (t b:Nat) (A0:Option Addr) (c0 n0:Nat) (got:List Int) (a:Int) (L:List Ent) (h:LineAt g t b L) (hn0:got.length=n0) (hg:CellsAt g.w A0 (got.map (zI z6))) (hgl:n0≤1024):
 Calls prog 182 #[zp (some ⟨b,0,none⟩),.slice A0 n0 c0,zI z6 a] g.w (Does (zb (decide (0≤placeOf waitB L))) g (fun x=>x=t) (fun g'=>LineAt g' t b (grantL L got a))):=by
 have HI:=zH (ycc g t b L h);have H:=zH h;have HL:=zH h.len;have hbd:=ybd waitB L;have HCL:=zH (fun g' (m:Mod (fun _=>False) g g')=>ybp A0 c0 n0 got (t+1) g' hn0 (hg.ext m.toExt) zo);have HN0:=zH hn0;have HGL:=zH hgl;clear h hg hn0;go_enter func182,ntmps182;go_wp2_with fail;refine HI.o.mono ?_;rintro e w1 ⟨rfl,hX⟩;obtain ⟨own1,m1⟩:=Mod.ofExt (show Ext g.w w1 from hX) g.own;have M1:=zH (show Mod (fun _=>False) g ⟨own1,w1⟩ from m1);have H1:=zH (H.o.keep M1.o id id);clear m1 hX;by_cases h0:placeOf waitB L<0
 · have HV:=zH (show grantL L got a=L from if_pos h0);have HD:=zH (show decide (0≤placeOf waitB L)=false from decide_eq_false zo);go_wp2_with fail;go_ret;exact Does.of ⟨own1,w1⟩ rfl (by rw [HD.o];try rfl) (M1.o.mono zG) (by rw [HV.o];exact H1.o)
 · have HV:=zH (show grantL L got a=L.modify (placeOf waitB L).toNat (fun e=>{ e with state:=1,got:=got,at_:=a }) from if_neg h0);have HD:=zH (show decide (0≤placeOf waitB L)=true from decide_eq_true zo);obtain ⟨k,hk⟩:=Int.eq_ofNat_of_zero_le (show 0≤placeOf waitB L by omega);rw [hk] at HV hbd ⊢;obtain ⟨A,c,ms,hin,hms⟩:=H1.o.in_;have hml:ms.length=L.length:=by rw [←hms,List.length_map]
   have hkm:k<ms.length:=zo;have hx:=List.getElem?_eq_getElem hkm;obtain ⟨r,rfl,hr1,hr2,hr3,hr4,hc⟩:=hin.elem hx;have hxL:L[k]?=some ms[k].e:=by rw [←hms,List.getElem?_map,hx];rfl
   have HIN:=zH hin;have c0':=hin.blk.cell (i:=0) rfl;have hbl:=hin.blk.lt;simp only at c0' hbl hr1;rw [hml] at c0';have HX:=zH (And.intro hx (And.intro hxL (And.intro hms hkm)));have HO:=zH (And.intro hr2 hr3);have hkl:k<L.length:=zo;generalize hLn:L.length=n at *;have HLN:=zH hLn;clear hc hr4 hx hxL hin hms hml hr2 hr3 hLn;go_wp2_with fail;refine (HCL.o ⟨own1,w1⟩ M1.o).mono ?_;rintro e w2 ⟨A',c',rfl,m2,r2, -, -⟩;obtain ⟨own2,m2,r2⟩: ∃own2,Mod (fun _=>False) ⟨own1,w1⟩ ⟨own2,w2⟩∧Row ⟨own2,w2⟩ (t+1) 3 1 (.slice A' n0 c') n0 (got.map (zI z6)):=⟨_,m2,r2⟩;have hin2:=HIN.o.keep m2 id id;obtain ⟨hx,hxL,hms,hkm⟩:=HX.o;obtain ⟨r',hre,hr1',hr2,hr3,hr4,hc⟩:=hin2.elem hx;injection hre with hre;injection hre with hre;subst hre;have p1:=hin2.put (y:=ms[k].gr1) hx (j:=3) (v:=zI z6 1) zd rfl hr2 hr3 ⟨(hin2.at_ _ (List.getElem_mem hkm)).seg,(hin2.at_ _ (List.getElem_mem hkm)).len⟩;have q1:Mod (fun x=>x=t) ⟨own2,w2⟩ ⟨own2,w2.setCell ⟨r,k*8+3,none⟩ (zI z6 1)⟩:=Mod.set hr2;have r3:=r2.keep q1 zo
   have p2:=p1.put (y:=ms[k].gr2 got A' c') (x:=ms[k].gr1) (j:=6) (v:=.slice A' n0 c') (List.getElem?_set_self hkm) zd (by rw [←HN0.o];rfl) hr2 hr3 ⟨r3.seg,by rw [show (ms[k].gr2 got A' c').e.got=got from rfl,HN0.o];exact HGL.o⟩;have r4:=r3.keep (Mod.set (T:=fun x=>x=t) (g:=⟨own2,w2.setCell ⟨r,k*8+3,none⟩ (zI z6 1)⟩) (b:=r) (i:=k*8+6) (v:=.slice A' n0 c') hr2) zo;have p3:=p2.put (y:=ms[k].gr3 got a A' c') (x:=ms[k].gr2 got A' c') (j:=5) (v:=zI z6 a) (List.getElem?_set_self (by simpa using hkm)) zd (by simp [EntM.gr2,EntM.gr3,EntM.cells,EntM.req]) hr2 hr3 ⟨r4.seg,by rw [show (ms[k].gr3 got a A' c').e.got=got from rfl,HN0.o];exact HGL.o⟩;have HR:=zH (p3.o (L:=grantL L got a) (by rw [HV.o,Int.toNat_natCast,List.set_set,List.set_set,List.map_set,hms,ydG _ _ _ _ hxL];rfl) (by rw [HV.o,Int.toNat_natCast,List.length_modify,HLN.o];exact HL.o));have HM:=zH (Mod.st (b:=r) (i:=k*8+5) (v:=zI z6 a) (Mod.st (b:=r) (i:=k*8+6) (v:=.slice A' n0 c') (Mod.st (b:=r) (i:=k*8+3) (v:=zI z6 1) ((M1.o.trans m2).mono (S:=fun x=>x=t) zG) hr2) hr2) hr2);have g3:=hc 3 _ zd rfl;have f3:=hr4 (k*8+3);have g6:=hc 6 _ zd rfl;have f6:=hr4 (k*8+6)
   have g5:=hc 5 _ zd rfl;have f5:=hr4 (k*8+5);have hrl2:=Nat.lt_of_lt_of_le hr1 m2.size;simp only at g3 f3 g6 f6 g5 f5 hrl2;clear hc hr4 hx hxL hms m2 r2 r3 r4 p1 p2 p3 q1 hin2 hr1' hr2 hr3;go_wp2_with fail;go_ret;exact Does.of ⟨own2,_⟩ rfl (by rw [HD.o];try rfl) HM.o HR.o
theorem yh5 (g:GW) (t b:Nat) (L:List Ent) (h:LineAt g t b L):
 Calls prog 159 #[zp (some ⟨b,0,none⟩)] g.w (Does (.tuple #[]) g (fun x=>x=t) (fun g'=>LineAt g' t b (L.map noteE))):=by
 obtain ⟨A,c,ms,hin,hms⟩:=h.in_;have hml:ms.length=L.length:=by rw [←hms,List.length_map]
 have hlen:=h.len;rw [←hml] at hlen;have HMS:=zH hms;have HLEN:=zH h.len;have HIN:=zH hin;have c0:=hin.blk.cell (i:=0) rfl;have cl:=hin.blk.lt;clear hin hms hml h;generalize hn:ms.length=n at *;have HN:=zH hn;clear hn;go_enter func159,ntmps159;go_wp2_with fail;go_loopw [8] (fun i wr=> ∃(k:Nat) (own:Nat→Nat),k≤n∧i=zI z6 k∧Hid (Mod (fun x=>x=t) g ⟨own,wr⟩)∧Hid (LineIn ⟨own,wr⟩ t b A c (upto EntM.noted' ms k))) (fun i _=>n-(intOf i).toNat)
 case atStart=>exact ⟨0,g.own,Nat.zero_le _,rfl,zH Mod.self,by rw [yeX];exact HIN⟩
 case round=>
  obtain ⟨k,own,hk,rfl,M,S⟩:=hrel;clear c0 cl;by_cases hlt:k<n
  · have hkm:k<ms.length:=by rw [HN.o];exact hlt
    have hx:=List.getElem?_eq_getElem hkm;have hxu:(upto EntM.noted' ms k)[k]?=some ms[k]:=by rw [yhj];exact hx
    obtain ⟨r,rfl,hr1,hr2,hr3,hr4,hc⟩:=S.o.elem hxu;have hmem:=S.o.at_ _ (List.mem_of_getElem? hxu)
    have HR:=zH (show LineIn ⟨own,wr.setCell ⟨r,k*8+7,none⟩ (zb (waitB ms[k].e))⟩ t b (some ⟨r,0,none⟩) c (upto EntM.noted' ms (k+1)) by
     rw [ycT _ _ _ _ hx];exact S.o.put hxu zd rfl hr2 hr3 ⟨hmem.seg,hmem.len⟩)
    have HM:=zH (Mod.st (b:=r) (i:=k*8+7) (v:=zb (waitB ms[k].e)) M.o hr2);have c0:=S.o.blk.cell (i:=0) rfl;have cl:=S.o.blk.lt;have g3:=hc 3 _ zd rfl;have g7:=hc 7 _ zd rfl;have f7:=hr4 (k*8+7);simp only [ydv] at c0;rw [HN.o] at c0;simp only at cl g3 g7 f7 hr1;have hwb:waitB ms[k].e=(ms[k].e.state==0):=rfl;rw [hwb] at HR HM;generalize ms[k].e.state=st at *;generalize ms[k].e.noted=nt at *;clear hc hr4 hx hxu hmem hr2 hwb;go_wp2_with fail;refine yab [zT,zT,zT,zT,zT,zT,zT,zT,zT,zT,zT,zT,zT,zT,zT,zT,zT,zU] 1 17 ?_;intro X00;simp only [pickOps];repeat (go_big_quiet_step (fail))
    refine wpQuiet_nil (fun X0=>?_);clear X00;refine yaj 17 _ zQ zQ rfl rfl (fun X1 K Q' hK=>?_);go_simp;refine hK _ _ (fun X2=>?_);clear hK K Q';go_wp2_with fail;go_roundw
    case rel=>exact ⟨k+1,_,zo,by go_num,zH (Mod.pt HM.o _),zH (HR.o.keep (Mod.pt (Mod.refl (fun _=>False) _) _) id id)⟩
    case measure=>simp [intOf];omega
  · obtain rfl:k=n:=zo;go_wp2_with fail;refine bodyPost_end (results_none rfl _ _ _) rfl (Does.of ⟨own,wr⟩ rfl rfl M.o ?_);have:=S.o;rw [←HN.o,ygi] at this;refine this.o ?_ (by rw [List.length_map];exact HLEN.o);rw [←HMS.o];exact yfT noteE EntM.noted' (fun m=>rfl) ms
theorem yk2 (g:GW) (t b:Nat) (L:List Ent) (h:LineAt g t b L) (hcy: ∀e∈L,0≤e.cycles∧e.cycles≤1099511627776):
 Calls prog 177 #[zp (some ⟨b,0,none⟩)] g.w (Does (.tuple #[]) g (fun x=>x=t) (fun g'=>LineAt g' t b (L.map endE))):=by
 obtain ⟨A,c,ms,hin,hms⟩:=h.in_;have hml:ms.length=L.length:=by rw [←hms,List.length_map]
 have hlen:=h.len;rw [←hml] at hlen;have HMS:=zH hms;have HLEN:=zH h.len;have HIN:=zH hin;have HCY:=zH (show∀m∈ms,0≤m.e.cycles∧m.e.cycles≤1099511627776 from fun m hm=>hcy _ (by rw [←hms];exact List.mem_map_of_mem hm));have c0:=hin.blk.cell (i:=0) rfl;have cl:=hin.blk.lt;clear hin hms hml h hcy;generalize hn:ms.length=n at *;have HN:=zH hn;clear hn;go_enter func177,ntmps177;go_wp2_with fail;go_loopw [9] (fun i wr=> ∃(k:Nat) (own:Nat→Nat),k≤n∧i=zI z6 k∧Hid (Mod (fun x=>x=t) g ⟨own,wr⟩)∧Hid (LineIn ⟨own,wr⟩ t b A c (upto EntM.ended ms k))) (fun i _=>n-(intOf i).toNat)
 case atStart=>exact ⟨0,g.own,Nat.zero_le _,rfl,zH Mod.self,by rw [yeX];exact HIN⟩
 case round=>
  obtain ⟨k,own,hk,rfl,M,S⟩:=hrel;clear c0 cl;by_cases hlt:k<n
  · have hkm:k<ms.length:=by rw [HN.o];exact hlt
    have hx:=List.getElem?_eq_getElem hkm;have hxu:(upto EntM.ended ms k)[k]?=some ms[k]:=by rw [yhj];exact hx
    obtain ⟨hy0,hy1⟩:=HCY.o _ (List.getElem_mem hkm);obtain ⟨r,rfl,hr1,hr2,hr3,hr4,hc⟩:=S.o.elem hxu;have hmem:=S.o.at_ _ (List.mem_of_getElem? hxu);have c0:=S.o.blk.cell (i:=0) rfl;have cl:=S.o.blk.lt;have g3:=hc 3 _ zd rfl;have g4:=hc 4 _ zd rfl;have g7:=hc 7 _ zd rfl;have f4:=hr4 (k*8+4);have f7:=hr4 (k*8+7);simp only [ydv] at c0;rw [HN.o] at c0;simp only at cl g3 g4 g7 f7 f4 hr1;cases hb:(ms[k].e.noted&&waitB ms[k].e)
    · have HR:=zH (show LineIn ⟨own,wr.setCell ⟨r,k*8+7,none⟩ (zb false)⟩ t b (some ⟨r,0,none⟩) c (upto EntM.ended ms (k+1)) by
       rw [ycT _ _ _ _ hx];exact S.o.put hxu zd (by simp [EntM.ended,endE,EntM.cells,EntM.req,hb]) hr2 hr3 ⟨hmem.seg,hmem.len⟩)
      have HM:=zH (Mod.st (b:=r) (i:=k*8+7) (v:=zb false) M.o hr2);have hwb:waitB ms[k].e=(ms[k].e.state==0):=rfl;rw [hwb] at hb;generalize ms[k].e.state=st at *;generalize ms[k].e.noted=nt at *;generalize ms[k].e.cycles=cy at *;clear hc hr4 hx hxu hmem hr2 hwb;cases nt
      · go_wp2_with fail;go_roundw
        case rel=>exact ⟨k+1,_,zo,by go_num,HM,HR⟩
        case measure=>simp [intOf];omega
      · have hst:(st==0)=false:=by simpa using hb
        clear hb;go_wp2_with fail;go_roundw
        case rel=>exact ⟨k+1,_,zo,by go_num,HM,HR⟩
        case measure=>simp [intOf];omega
    · have HR:=zH (show LineIn ⟨own,(wr.setCell ⟨r,k*8+4,none⟩ (zI z6 (ms[k].e.cycles+1))).setCell ⟨r,k*8+7,none⟩ (zb false)⟩ t b (some ⟨r,0,none⟩) c (upto EntM.ended ms (k+1)) by
       rw [ycT _ _ _ _ hx];have p1:=S.o.put (y:=ms[k].cyc (ms[k].e.cycles+1)) hxu (j:=4) (v:=zI z6 (ms[k].e.cycles+1)) zd rfl hr2 hr3 ⟨hmem.seg,hmem.len⟩;have hku:k<(upto EntM.ended ms k).length:=by rw [ydv];exact hkm
       have p2:=p1.put (y:=ms[k].ended) (x:=ms[k].cyc (ms[k].e.cycles+1)) (j:=7) (v:=zb false) (List.getElem?_set_self hku) zd (by simp [EntM.ended,endE,EntM.cells,EntM.req,hb,EntM.cyc]) hr2 hr3 ⟨(hmem.keep (Mod.set (T:=fun x=>x=t) (g:=⟨own,wr⟩) (b:=r) (i:=k*8+4) (v:=zI z6 (ms[k].e.cycles+1)) hr2) zo).seg,hmem.len⟩;rw [List.set_set] at p2;exact p2)
      have HM:=zH (Mod.st (b:=r) (i:=k*8+7) (v:=zb false) (Mod.st (b:=r) (i:=k*8+4) (v:=zI z6 (ms[k].e.cycles+1)) M.o hr2) hr2);have hwb:waitB ms[k].e=(ms[k].e.state==0):=rfl;rw [hwb,Bool.and_eq_true] at hb;obtain ⟨hn1,hst⟩:=hb;rw [hn1] at g7;generalize ms[k].e.state=st at *;generalize ms[k].e.cycles=cy at *;clear hc hr4 hx hxu hmem hr2 hwb hn1;go_wp2_with fail;go_roundw
      case rel=>exact ⟨k+1,_,zo,by go_num,HM,HR⟩
      case measure=>simp [intOf];omega
  · obtain rfl:k=n:=zo;go_wp2_with fail;refine bodyPost_end (results_none rfl _ _ _) rfl (Does.of ⟨own,wr⟩ rfl rfl M.o ?_);have:=S.o;rw [←HN.o,ygi] at this;refine this.o ?_ (by rw [List.length_map];exact HLEN.o);rw [←HMS.o];exact yfT endE EntM.ended (fun m=>rfl) ms
end Go.Proofs.YtdhjjpnajjingaaGreat
namespace Go
open Go.RowKit
def setL:List Value→Nat→List Value→List Value
 |xs,_,[]=>xs
 |xs,i,v::vs=>setL (xs.set i v) (i+1) vs
theorem yem: ∀(vs xs:List Value) (i:Nat),i+vs.length≤xs.length→setL xs i vs=xs.take i++vs++xs.drop (i+vs.length)
 |[],xs,i,_=>by simp [setL]
 |v::vs,xs,i,h=>by
  simp only [List.length_cons] at h;have ih:=yem vs (xs.set i v) (i+1) (by simp;omega)
  have h1:(xs.set i v).take (i+1)=xs.take i++[v]:=by
   rw [List.take_add_one,List.getElem?_set_self zo,List.take_set,List.set_eq_of_length_le (by simp;omega)];rfl
  have h2:(xs.set i v).drop (i+1+vs.length)=xs.drop (i+(vs.length+1)):=by
   rw [List.drop_set_of_lt zo,show i+1+vs.length=i+(vs.length+1) by omega]
  rw [setL,ih,h1,h2];simp
theorem yge: ∀(vs xs:List Value) (i:Nat),(setL xs i vs).length=xs.length
 |[],xs,i=>rfl
 |v::vs,xs,i=>by rw [setL,yge];simp
theorem ybQ {g:GW} {t:Nat} {E:TypeId} {size n b c:Nat}: ∀(vs xs:List Value) (i:Nat) (w:World),Row ⟨g.own,w⟩ t E size (.slice (some ⟨b,0,none⟩) n c) n xs→Row ⟨g.own,w.setCells b i vs⟩ t E size (.slice (some ⟨b,0,none⟩) n c) n (setL xs i vs)
 |[],xs,i,w,h=>h
 |v::vs,xs,i,w,h=>by
  rw [World.setCells,setL];exact ybQ vs _ _ _ (h.store i v)
theorem Mod.stCells {T:Nat→Prop} {g:GW} {o:Nat→Nat} {b:Nat} (hb:T (o b)): ∀(vs:List Value) (i:Nat) (W:World),Mod T g ⟨o,W⟩→Mod T g ⟨o,W.setCells b i vs⟩
 |[],_,_,h=>h
 |v::vs,i,W,h=>by
  rw [World.setCells];exact Mod.stCells hb vs _ _ (Mod.st h hb)
theorem Blk.setCells {own:Nat→Nat} {t b b':Nat} {T:TypeId} {ws:List Value} (hn:b'≠b): ∀(vs:List Value) (i:Nat) (W:World),Blk ⟨own,W⟩ t b T ws→Blk ⟨own,W.setCells b' i vs⟩ t b T ws
 |[],_,_,h=>h
 |v::vs,i,W,h=>by
  rw [World.setCells];exact Blk.setCells hn vs _ _ (h.setOther i v hn)
variable {P:Program}
theorem yfj (w:World) (t e ty:TypeId) (z:Value) (zs:List Value) (ht:P.underlying t=some (.slice e)) (hv: ∀w,(zeroValue e).run P w=.ok z w) (hz:(Builtin.zeroCells z.cells 1).toList=zs) (h1: ∀v∈zs,v.oneCell'=true) (b o c:Nat)
 (hc: ∀j,j<zs.length→(w.cell? ⟨b,o+j,none⟩).isSome=true) (hf: ∀j,j<zs.length→w.frozen? ⟨b,o+j,none⟩=false):
 (Builtin.clear_ #[t] ty #[.slice (some ⟨b,o,none⟩) 1 c]).run P w=.ok (.tuple #[]) (w.setCells b o zs):=by
 have hst:=run_storeCells_cells (P:=P) b o zs 0 w (by simpa using hc) (by simpa using hf) h1;simp only [Nat.add_zero] at hst;simp [Builtin.clear_,run_underlying ht,hv,hz,hst]
theorem yhR (ms:List EntM) (k:Nat) (hk:k<ms.length) (zs:List Value) (hz:zs.length=8):
 ((setL (setL (ms.flatMap EntM.cells) (k*8) ((ms.drop (k+1)).flatMap EntM.cells)) ((ms.length-1)*8) zs).take ((ms.length-1)*8))=(ms.eraseIdx k).flatMap EntM.cells:=by
 have hl:(ms.flatMap EntM.cells).length=ms.length*8:=yaH ms EntM.cells_len;have hd:((ms.drop (k+1)).flatMap EntM.cells).length=(ms.length-(k+1))*8:=by rw [yaH _ EntM.cells_len,List.length_drop]
 have hsplit:ms.flatMap EntM.cells=(ms.take k).flatMap EntM.cells++(ms.drop k).flatMap EntM.cells:=by rw [←List.flatMap_append,List.take_append_drop]
 have ht:((ms.take k).flatMap EntM.cells).length=k*8:=by rw [yaH _ EntM.cells_len,List.length_take,Nat.min_eq_left zo]
 rw [yem _ _ _ (by rw [yge,hl,hz];omega),yem _ (ms.flatMap EntM.cells) _ (by rw [hl,hd];omega),List.append_assoc,List.take_append_of_le_length (by simp [hl,hd];omega),List.take_take,Nat.min_self,List.take_append_of_le_length (by simp [hl,hd];omega),List.eraseIdx_eq_take_drop_succ,List.flatMap_append,List.take_of_length_le (by simp [hl,hd];omega)];congr 1
 rw [hsplit,List.take_append_of_le_length zo,List.take_of_length_le zo]
end Go
namespace Go.Proofs.YtdhjjpnajjingaaGreat
open Go Go.RowKit
def zeroEnt:Value:=.agg #[zI z6 0,zI z6 0,zI z6 0,zI z6 0,zI z6 0,zI z6 0,.slice none 0 0,zb false]
theorem yha (w:World):(zeroValue 224).run prog w=.ok zeroEnt w:=by
 obtain ⟨i0,hi,hz0,hz1,hz2⟩:=info_parts yec;have hti:(typeInfo 224).run prog w=.ok i0 w:=by simp [typeInfo,hi]
 simp [zeroValue,hti,hz0,zeroEnt]
def zeroCs:List Value:=[zI z6 0,zI z6 0,zI z6 0,zI z6 0,zI z6 0,zI z6 0,.slice none 0 0,zb false]
theorem yfo:(Builtin.zeroCells zeroEnt.cells 1).toList=zeroCs:=zQ
theorem yiM: ∀v∈zeroCs,v.oneCell'=true:=zd
theorem ygJ (g:GW) (t b r c k j n:Nat) (ms:List EntM) (h:LineIn g t b (some ⟨r,0,none⟩) c ms) (hn:ms.length=n) (hk:k<n) (hj:j=k+1) (hl:n≤1000000) (hr:g.own r=t) (hbr:b≠r):
 Calls prog 217 #[.slice (some ⟨r,0,none⟩) n c,zI z6 k,zI z6 j] g.w (fun e w'=>e=.returned (.slice (some ⟨r,0,none⟩) (k+(n-j)) c)∧ ∃own',Mod (fun x=>x=t) g ⟨own',w'⟩∧Blk ⟨own',w'⟩ t b 222 [.slice (some ⟨r,0,none⟩) n c]∧Row ⟨own',w'⟩ t 224 8 (.slice (some ⟨r,0,none⟩) (k+(n-j)) c) (k+(n-j)) ((ms.eraseIdx k).flatMap EntM.cells)):=by
 obtain ⟨i0,hi,hz0,hz1,hz2⟩:=info_parts yec;have hrow:=h.row;rw [hn] at hrow;obtain ⟨A',c',he,hcn,hcm, -⟩:=hrow.form;injection he with e1 e2 e3;subst e3;clear e1 e2 A';obtain ⟨_,e,hrl, -,hcell,hlive⟩:=hrow.block zo;injection e with e;injection e with e;subst e;have hlen:(ms.flatMap EntM.cells).length=n*8:=by rw [yaH ms EntM.cells_len,hn]
 obtain ⟨news,hnews⟩: ∃news,news=(ms.drop (k+1)).flatMap EntM.cells:=⟨_,rfl⟩;have hnl:news.length=(n-j)*8:=by rw [hnews,yaH _ EntM.cells_len,List.length_drop,hn,hj]
 have hget: ∀q u,news[q]?=some u→(ms.flatMap EntM.cells)[j*8+q]?=some u:=by
  intro q u hu;have e:ms.flatMap EntM.cells=(ms.take (k+1)).flatMap EntM.cells++news:=by rw [hnews, ←List.flatMap_append,List.take_append_drop]
  have ht:((ms.take (k+1)).flatMap EntM.cells).length=j*8:=by rw [yaH _ EntM.cells_len,List.length_take,Nat.min_eq_left zo,hj]
  rw [e,List.getElem?_append_right zo,ht,Nat.add_sub_cancel_left];exact hu
 obtain ⟨A,hA,hsrc⟩: ∃A:Addr,(if c=j then some (⟨r,0,none⟩:Addr) else some ⟨r,j*8,none⟩)=some A∧Hid (∀q u,news[q]?=some u→g.w.drew.cell? (A.add q)=some u):=by
  by_cases h:c=j
  · refine ⟨⟨r,0,none⟩,by simp [h],fun q u hu=>?_⟩;have h0:news.length=0:=by rw [hnl];omega
    rw [List.length_eq_zero_iff.1 h0] at hu;simp at hu
  · refine ⟨⟨r,j*8,none⟩,by simp [h],fun q u hu=>?_⟩;have e:(⟨r,j*8,none⟩:Addr).add q=⟨r,j*8+q,none⟩:=by unfold Addr.add;split<;>simp_all
    rw [e];exact hcell _ _ (hget q u hu)
 have s1:Hid (news.length=(n-j)*8):=hnl
 have s2:Hid (∀u∈news,u.oneCell'=true):=by
  intro u hu;rw [hnews] at hu;obtain ⟨m,_,hm⟩:=List.mem_flatMap.1 hu;simp [EntM.cells,EntM.req] at hm;rcases hm with rfl|rfl|rfl|rfl|rfl|rfl|rfl|rfl<;>rfl
 have hsome: ∀q,q<n*8→(g.w.cell? ⟨r,q,none⟩).isSome=true:=fun q hq=>by rw [hcell q _ (List.getElem?_eq_getElem (by rw [hlen];exact hq))];rfl
 have s3:Hid (∀q,q<news.length→(g.w.drew.cell? ⟨r,0+k*8+q,none⟩).isSome=true∧g.w.drew.frozen? ⟨r,0+k*8+q,none⟩=false):=by
  intro q hq;rw [hnl] at hq;exact ⟨hsome _ zo,hlive _⟩
 obtain ⟨W1,hW1⟩: ∃W1,W1=g.w.drew.setCells r (0+k*8) news:=⟨_,rfl⟩
 have hcl: ∀ty,(Builtin.clear_ #[220] ty #[.slice (some ⟨r,(k+(n-j))*8,none⟩) (n-(k+(n-j))) (c-(k+(n-j)))]).run prog W1=.ok (.tuple #[]) (W1.setCells r ((k+(n-j))*8) zeroCs):=fun ty=>by
  rw [show n-(k+(n-j))=1 by omega];exact yfj W1 _ _ ty zeroEnt zeroCs Tryz.underlying220 yha yfo yiM r _ _ (fun q hq=>by rw [hW1];exact World.isSome_setCells _ _ _ _ _ (hsome _ (by simp [zeroCs] at hq;omega))) (fun q hq=>by rw [hW1,World.frozen?_setCells];exact hlive _)
 have hW:Hid (W1=g.w.drew.setCells r (0+k*8) news):=hW1;have HN:=zH hnews;have H:=zH h;have HR:=zH hrow;have HX:=zH (And.intro hr (And.intro hbr (And.intro hn hj)));have hkc:k≤c:=zo;have hcne: ¬(c=k+(n-j)):=zo;have hjc:j≤c:=zo;have hjn:j≤n:=zo;have hkj:k≤j:=zo;have hkjn:((k:Int)==(j:Int))=false:=by rw [ybg];simp;omega
 clear hW1 hcell hlive hsome hget hnews hnl h hrow hr hbr hn hj hlen;go_enter func217,ntmps217;go_wp2_with fail;go_region_law (refine step_append_room rfl (.tmp 22) (.tmp 25) 220 rfl 224 i0 8 Tryz.underlying220 hi hz1 r 0 k c (by simp [Act.eval,Act.put]) A (n-j) (c-j) news (by simp [Act.eval,Act.put]) s1.o hsrc.o s2.o zo s3.o ?_;rw [←hW.o])
 go_wp2_with fail;go_ret;obtain ⟨hr,hbr,hn,hj⟩:=HX.o;have m0:Mod (fun x=>x=t) g (g.to 0 g.w.drew):=Mod.ext zE 0;have m0':Mod (fun _=>False) g (g.to 0 g.w.drew):=Mod.ext zE 0;have hro:(g.to 0 g.w.drew).own r=t:=by rw [GW.to_old hrl];exact hr
 have k1:=HR.o.keep m0' id;have k2:=H.o.blk.keep m0' id;have w1:=ybQ (g:=g.to 0 g.w.drew) news _ (0+k*8) g.w.drew k1;have b1:=Blk.setCells (fun e=>hbr e.symm) news (0+k*8) g.w.drew k2;have m1:=Mod.stCells (T:=fun x=>x=t) hro news (0+k*8) g.w.drew m0;rw [←hW.o] at w1 b1 m1;have w2:=ybQ (g:=⟨(g.to 0 g.w.drew).own,W1⟩) zeroCs _ ((k+(n-j))*8) W1 w1;have b2:=Blk.setCells (fun e=>hbr e.symm) zeroCs ((k+(n-j))*8) W1 b1;have m2:=Mod.stCells (T:=fun x=>x=t) hro zeroCs ((k+(n-j))*8) W1 m1;rw [hn] at b2;refine ⟨rfl,_,m2,b2,?_⟩;have w3:=w2.cut (m:=k+(n-j)) zo;have hf:=yhR ms k zo zeroCs rfl;rw [hn,show n-1=k+(n-j) by omega, ←HN.o] at hf;rw [Nat.zero_add] at w3;rw [hf] at w3;exact w3
def dropL (th:Int) (L:List Ent):List Ent:=if placeOf (ofB th) L<0 then L else L.eraseIdx (placeOf (ofB th) L).toNat
theorem ykB (k:Nat) (h:(k:Int)<1048576):wrap64 ((k:Int)+1)=(k:Int)+1:=by
 simp only [wrap64];omega
theorem yjI (g:GW) (t b:Nat) (th:Int) (L:List Ent) (h:LineAt g t b L):
 Calls prog 156 #[zp (some ⟨b,0,none⟩),zI z6 th] g.w (Does (zb (decide (0≤placeOf (ofB th) L))) g (fun x=>x=t) (fun g'=>LineAt g' t b (dropL th L))):=by
 have HI:=zH (yeg g t b th L h);have H:=zH h;have hlen:=h.len;have HL:=zH h.len;have hbd:=ybd (ofB th) L;clear h;go_enter func156,ntmps156;go_wp2_with fail;refine HI.o.mono ?_;rintro e w1 ⟨rfl,hX⟩;obtain ⟨own1,m1⟩:=Mod.ofExt (show Ext g.w w1 from hX) g.own;have M1:=zH (show Mod (fun _=>False) g ⟨own1,w1⟩ from m1);have H1:=zH (H.o.keep M1.o id id);clear m1 hX;by_cases h0:placeOf (ofB th) L<0
 · have HV:=zH (show dropL th L=L from if_pos h0);have HD:=zH (show decide (0≤placeOf (ofB th) L)=false from decide_eq_false zo);go_wp2_with fail;go_ret;exact Does.of ⟨own1,w1⟩ rfl (by rw [HD.o];try rfl) (M1.o.mono zG) (by rw [HV.o];exact H1.o)
 · have HV:=zH (show dropL th L=L.eraseIdx (placeOf (ofB th) L).toNat from if_neg h0);have HD:=zH (show decide (0≤placeOf (ofB th) L)=true from decide_eq_true zo);obtain ⟨k,hk⟩:=Int.eq_ofNat_of_zero_le (show 0≤placeOf (ofB th) L by omega);rw [hk] at HV hbd ⊢;obtain ⟨A,c,ms,hin,hms⟩:=H1.o.in_;have hml:ms.length=L.length:=by rw [←hms,List.length_map]
   have hkm:k<ms.length:=zo;have hx:=List.getElem?_eq_getElem hkm;obtain ⟨r,rfl,hr1,hr2,hr3,hr4,hc⟩:=hin.elem hx;obtain ⟨n,hn'⟩: ∃n,n=ms.length:=⟨_,rfl⟩;have hn:=hn'.symm;clear hn';have hkn:k<n:=zo;have HDL:=zH (ygJ ⟨own1,w1⟩ t b r c k (k+1) n ms hin hn hkn rfl zo hr2 hr3);rw [show ((k+1:Nat):Int)=(k:Int)+1 from zo] at HDL;have HMS:=zH hms;have HIN:=zH hin;have HKM:=zH (And.intro hn hml);have c0:=hin.blk.cell (i:=0) rfl;have hbl:=hin.blk.lt;simp only [hn] at c0 hbl;have HK1:=zH (show (k:Int)<1048576 by omega);have HH:=zH (And.intro hn (And.intro hkm (And.intro hr2 hr3)));clear hc hr4 hx hin hms hr2 hml hlen hn hkm hbd hr3 hk h0 HI;simp only at hr1;have hk0:decide ((k:Int)<0)=false:=decide_eq_false (Int.not_lt.2 (Int.natCast_nonneg k));clear hkn;go_wp2_with fail;rw [ykB k HK1.o];refine HDL.o.mono ?_;rintro e w2 ⟨rfl,own2,m2,b2,r2⟩;obtain ⟨hn,hkm,hr2,hr3⟩:=HH.o;have c1:=b2.cell (i:=0) rfl;have cf:=b2.live 0;have cl:=b2.lt;simp only at c1 cf cl;have m3:Mod (fun x=>x=t) g ⟨own2,w2.setCell ⟨b,0,none⟩ (.slice (some ⟨r,0,none⟩) (k+(n-(k+1))) c)⟩:=Mod.st ((M1.o.mono zG).trans m2) b2.own
   have hat:=fun m hm=>((HIN.o.at_ m hm).keep m2 zo).keep (Mod.set (T:=fun x=>x=t) (g:=⟨own2,w2⟩) (b:=b) (i:=0) (v:=.slice (some ⟨r,0,none⟩) (k+(n-(k+1))) c) b2.own) zo;have hlE:(ms.eraseIdx k).length=k+(n-(k+1)):=by rw [List.length_eraseIdx_of_lt hkm,hn];omega
   have hin:LineIn ⟨own2,w2.setCell ⟨b,0,none⟩ (.slice (some ⟨r,0,none⟩) (k+(n-(k+1))) c)⟩ t b (some ⟨r,0,none⟩) c (ms.eraseIdx k):=by
    refine ⟨?_,?_,fun m hm=>hat m (List.mem_of_mem_eraseIdx hm)⟩
    · rw [hlE];exact b2.set 0 _
    · rw [hlE];exact r2.setOther 0 _ (fun x hx=>r2.ne_type b2 zd hx)
   have HIN2:=zH (hin.o (L:=dropL th L) (by rw [HV.o,Int.toNat_natCast, ←HMS.o,List.eraseIdx_eq_take_drop_succ,List.eraseIdx_eq_take_drop_succ,List.map_append,List.map_take,List.map_drop]) (by rw [HV.o,Int.toNat_natCast];exact Nat.le_trans (List.length_eraseIdx_le _ _) HL.o));have M3:=zH m3;clear m2 b2 r2 m3 hat hlE hin hn hkm hr2 hr3;go_wp2_with fail;go_ret;exact Does.of ⟨own2,_⟩ rfl (by rw [HD.o];try rfl) M3.o HIN2.o
end Go.Proofs.YtdhjjpnajjingaaGreat
namespace Go
open Go.RowKit
def ent0:Ent:=⟨0,0,0,0,0,0,[],false⟩
end Go
namespace Go.Proofs.YtdhjjpnajjingaaGreat
open Go Go.RowKit
def beginS (S:SpaceS):SpaceS:={ S.tick with forced:=false,line:=S.line.map noteE }
def endS (S:SpaceS):SpaceS:={ S.tick with line:=S.line.map endE }
def look (S:SpaceS) (t:Int):AskR:=
 if placeOf (ofB t) S.line<0 then ((3,[], -1),S.tick)
 else if (S.line.getD (placeOf (ofB t) S.line).toNat ent0).state=0 then ((0,[], -1),S.tick)
 else if (S.line.getD (placeOf (ofB t) S.line).toNat ent0).state=2 then ((2,[], -1),{ S.tick with line:=dropL t S.line })
 else ((1,(S.line.getD (placeOf (ofB t) S.line).toNat ent0).got,(S.line.getD (placeOf (ofB t) S.line).toNat ent0).at_),{ S.tick with line:=dropL t S.line })
theorem SpaceIn.force {g:GW} {B b bt bp bk bl cs:Nat} {S:SpaceS} {A:Option Addr} {cm:Cnf} {bs:List Nat} (h:SpaceIn g B b bt S bp bk bl A cs cm bs) (v:Bool):SpaceIn ⟨g.own,g.w.setCell ⟨b,2,none⟩ (zb v)⟩ B b bt { S with forced:=v } bp bk bl A cs cm bs:=by
 have m:Mod (fun x=>x=B) g ⟨g.own,g.w.setCell ⟨b,2,none⟩ (zb v)⟩:=Mod.set h.blk.own;exact ⟨h.blk.set 2 _,h.row.setOther 2 _ (fun x hx=>h.row.ne_type h.blk zd hx),h.tab.keep m zo,h.pool.keep m zo,h.coil.keep m zo,h.line.keep m zo zo,h.cnf.keep m zo,h.same,h.blen,fun j x s hx hs=>(h.stock j x s hx hs).keep m zo,h.check,h.few⟩
theorem ygU (g:GW) (B b bt:Nat) (S:SpaceS) (h:SpaceAt g B b bt S) (hB:100≤B) (hc:0≤S.count∧S.count≤1099511627776):
 Calls prog 86 #[zp (some ⟨b,0,none⟩)] g.w (Does (.tuple #[]) g (inst B) (fun g'=>SpaceAt g' B b bt (beginS S))):=by
 obtain ⟨bp,bk,bl,A,cs,cm,bs,h⟩:=h;obtain ⟨hc0,hc1⟩:=hc;have H0:=zH (show SpaceIn ⟨g.own,(g.w.setCell ⟨b,3,none⟩ (zI z6 (S.count+1))).setCell ⟨b,2,none⟩ (zb false)⟩ B b bt { S.tick with forced:=false } bp bk bl A cs cm bs from h.tick.force false);have M0:=zH (show Mod (inst B) g ⟨g.own,(g.w.setCell ⟨b,3,none⟩ (zI z6 (S.count+1))).setCell ⟨b,2,none⟩ (zb false)⟩ from Mod.st (Mod.set (by rw [h.blk.own];exact ⟨zo,zo⟩)) (by rw [h.blk.own];exact ⟨zo,zo⟩));obtain ⟨a0,a1,a2,a3,a4,a5,a6,a7,a8,a9,a10,a11,a12,a13,a14,a15,al⟩:=h.blk.k16;have af2:=h.blk.liv 2;have af3:=h.blk.liv 3;clear h;go_enter func86,ntmps86;go_wp2_with fail;refine (yh5 ⟨g.own,_⟩ (B+3) bl S.line H0.o.line).mono ?_;rintro e w1 ⟨rfl,own1,m1,l1⟩;have M1:=zH (M0.o.trans (m1.mono (fun x (hx:x=B+3)=>(⟨zo,zo⟩:inst B x))));have H1:=zH (H0.o.withLine (m1.mono (fun x hx=>Or.inl hx)) l1);clear m1 l1;go_wp2_with fail;exact bodyPost_end (results_none rfl _ _ _) rfl (Does.of ⟨own1,w1⟩ rfl rfl M1.o ⟨_,_,_,_,_,_,_,H1.o⟩)
theorem ykj (g:GW) (B b bt:Nat) (S:SpaceS) (h:SpaceAt g B b bt S) (hB:100≤B) (hc:0≤S.count∧S.count≤1099511627776) (hcy: ∀e∈S.line,0≤e.cycles∧e.cycles≤1099511627776):
 Calls prog 108 #[zp (some ⟨b,0,none⟩)] g.w (Does (.tuple #[]) g (inst B) (fun g'=>SpaceAt g' B b bt (endS S))):=by
 obtain ⟨bp,bk,bl,A,cs,cm,bs,h⟩:=h;obtain ⟨hc0,hc1⟩:=hc;have HCY:=zH hcy;have H0:=zH (show SpaceIn ⟨g.own,g.w.setCell ⟨b,3,none⟩ (zI z6 (S.count+1))⟩ B b bt S.tick bp bk bl A cs cm bs from h.tick);have M0:=zH (show Mod (inst B) g ⟨g.own,g.w.setCell ⟨b,3,none⟩ (zI z6 (S.count+1))⟩ from Mod.set (by rw [h.blk.own];exact ⟨zo,zo⟩));obtain ⟨a0,a1,a2,a3,a4,a5,a6,a7,a8,a9,a10,a11,a12,a13,a14,a15,al⟩:=h.blk.k16;have af3:=h.blk.liv 3;clear h hcy;go_enter func108,ntmps108;go_wp2_with fail;refine (yk2 ⟨g.own,_⟩ (B+3) bl S.line H0.o.line HCY.o).mono ?_;rintro e w1 ⟨rfl,own1,m1,l1⟩;have M1:=zH (M0.o.trans (m1.mono (fun x (hx:x=B+3)=>(⟨zo,zo⟩:inst B x))));have H1:=zH (H0.o.withLine (m1.mono (fun x hx=>Or.inl hx)) l1);clear m1 l1;go_wp2_with fail;exact bodyPost_end (results_none rfl _ _ _) rfl (Does.of ⟨own1,w1⟩ rfl rfl M1.o ⟨_,_,_,_,_,_,_,H1.o⟩)
theorem yiy (t:Int) (g:GW) (B b bt:Nat) (S:SpaceS) (h:SpaceAt g B b bt S) (hB:100≤B) (hc:0≤S.count∧S.count≤1099511627776):
 Calls prog 83 #[zp (some ⟨b,0,none⟩),zI z6 t] g.w (Makes g (inst B) (fun v g'=>GrantIs (look S t).1 v g'∧SpaceAt g' B b bt (look S t).2)):=by
 obtain ⟨bp,bk,bl,A,cs,cm,bs,h⟩:=h;obtain ⟨hc0,hc1⟩:=hc;have H:=zH h;obtain ⟨a0,a1,a2,a3,a4,a5,a6,a7,a8,a9,a10,a11,a12,a13,a14,a15,al⟩:=h.blk.k16;have af3:=h.blk.liv 3;clear h;go_enter func83,ntmps83;go_wp2_with fail
 obtain ⟨own0,m0,b0,h0⟩: ∃own0,Mod (inst B) g ⟨own0,(g.w.setCell ⟨b,3,none⟩ (zI z6 (S.count+1))).alloc (.cells #[zI z6 0,.slice none 0 0,zI z6 0] 143)⟩∧Blk ⟨own0,(g.w.setCell ⟨b,3,none⟩ (zI z6 (S.count+1))).alloc (.cells #[zI z6 0,.slice none 0 0,zI z6 0] 143)⟩ 9 g.w.heap.size 143 [zI z6 0,.slice none 0 0,zI z6 0]∧SpaceIn ⟨own0,(g.w.setCell ⟨b,3,none⟩ (zI z6 (S.count+1))).alloc (.cells #[zI z6 0,.slice none 0 0,zI z6 0] 143)⟩ B b bt S.tick bp bk bl A cs cm bs:=by
  have m1:Mod (inst B) g ⟨g.own,g.w.setCell ⟨b,3,none⟩ (zI z6 (S.count+1))⟩:=Mod.set (by rw [H.o.blk.own];exact ⟨zo,zo⟩);have hE:Ext (g.w.setCell ⟨b,3,none⟩ (zI z6 (S.count+1))) ((g.w.setCell ⟨b,3,none⟩ (zI z6 (S.count+1))).alloc (.cells #[zI z6 0,.slice none 0 0,zI z6 0] 143)):=zE;have b1:=Blk.new (⟨g.own,g.w.setCell ⟨b,3,none⟩ (zI z6 (S.count+1))⟩:GW) 9 143 [zI z6 0,.slice none 0 0,zI z6 0];simp only [World.size_setCell] at b1;exact ⟨_,m1.trans (Mod.ext hE 9),b1,H.o.tick.keep (Mod.ext (T:=fun _=>False) hE 9) zG⟩
 generalize (g.w.setCell ⟨b,3,none⟩ (zI z6 (S.count+1))).alloc (.cells #[zI z6 0,.slice none 0 0,zI z6 0] 143)=W0 at *;have M0:=zH m0;have B0:=zH b0;have H0:=zH h0;have hBX:=zH (Nat.le_refl g.w.heap.size);clear m0 b0 h0 a0 a1 a2 a3 a4 a5 a6 a7 a8 a9 a10 a11 a12 a13 a14 a15 af3 al;refine (yef ⟨own0,W0⟩ (B+3) bl t S.line H0.o.line).mono ?_;rintro e w1 ⟨v,own1,rfl,m1,r,ok,rfl,hn,hp⟩;have M1:=zH (M0.o.trans (m1.mono zG));have B1:=zH (B0.o.keep m1 id);have H1:=zH (H0.o.keep m1 zG);clear m1;by_cases hi:placeOf (ofB t) S.line<0
 · obtain ⟨rfl,rfl⟩:=hn hi;have HK:=zH (show look S t=((3,[], -1),S.tick) from if_pos hi);clear hn hp hi;go_wp2_with fail;refine (yan 3 _).mono ?_;rintro e wz ⟨rfl,hX⟩;obtain ⟨ownz,mz⟩:=Mod.ofExt ((show Ext w1 _ from zE).trans (show Ext _ wz from hX)) own1;have Mz:=zH (M1.o.trans (mz.mono zG));have Bz:=zH (B1.o.keep mz id);have Hz:=zH (H1.o.keep mz zG);clear mz hX;obtain ⟨y0,y1,y2,yl⟩:=Bz.o.k3;have yf0:=Bz.o.liv 0;have yf1:=Bz.o.liv 1;have yf2:=Bz.o.liv 2;go_wp2_with fail;refine bodyPost_ret (v:=.agg #[zI z6 3,.slice none 0 0,zI z6 (-1)]) (by simp [results,Tryz.results83,go_sem,y0,y1,y2]) rfl ?_;obtain ⟨p1,p2⟩:=put3 (v0:=zI z6 3) (v1:=.slice none 0 0) (v2:=zI z6 (-1)) Mz.o (Nat.le_refl _) Bz.o.own;refine ⟨_,ownz,rfl,p1,?_,?_⟩
   · rw [HK.o];exact ⟨none,0,rfl,Row.nil _ _ _ _⟩
   · rw [HK.o];exact ⟨_,_,_,_,_,_,_,Hz.o.keep p2 z9⟩
 · obtain ⟨rfl,ee,A',c',hL',rfl,hr⟩:=hp zo;have he0:S.line.getD (placeOf (ofB t) S.line).toNat ent0=ee:=by rw [List.getD_eq_getElem?_getD,hL'];rfl
   have HR1:=zH hr;have HI:=zH hi;have HE0:=zH he0;clear hn hr hL' hi he0;by_cases h1:ee.state=0
   · have HK:=zH (show look S t=((0,[], -1),S.tick) by unfold look;rw [if_neg (by have:=HI.o;omega),HE0.o,if_pos h1]);have hz1:(ee.state==0)=true:=by simp [h1]
     clear h1;go_wp2_with fail;refine (yan 0 _).mono ?_;rintro e wz ⟨rfl,hX⟩;obtain ⟨ownz,mz⟩:=Mod.ofExt ((show Ext w1 _ from zE).trans (show Ext _ wz from hX)) own1;have Mz:=zH (M1.o.trans (mz.mono zG));have Bz:=zH (B1.o.keep mz id);have Hz:=zH (H1.o.keep mz zG);clear mz hX;obtain ⟨y0,y1,y2,yl⟩:=Bz.o.k3;have yf0:=Bz.o.liv 0;have yf1:=Bz.o.liv 1;have yf2:=Bz.o.liv 2;go_wp2_with fail;refine bodyPost_ret (v:=.agg #[zI z6 0,.slice none 0 0,zI z6 (-1)]) (by simp [results,Tryz.results83,go_sem,y0,y1,y2]) rfl ?_;obtain ⟨p1,p2⟩:=put3 (v0:=zI z6 0) (v1:=.slice none 0 0) (v2:=zI z6 (-1)) Mz.o (Nat.le_refl _) Bz.o.own;refine ⟨_,ownz,rfl,p1,?_,?_⟩
     · rw [HK.o];exact ⟨none,0,rfl,Row.nil _ _ _ _⟩
     · rw [HK.o];exact ⟨_,_,_,_,_,_,_,Hz.o.keep p2 z9⟩
   · have hz1:(ee.state==0)=false:=by simp [h1]
     have HKA:=zH (show ee.state=2→look S t=((2,[], -1),{ S.tick with line:=dropL t S.line }) from fun h2=>by unfold look;rw [if_neg (by have:=HI.o;omega),HE0.o,if_neg h1,if_pos h2]);have HKB:=zH (show¬ee.state=2→look S t=((1,ee.got,ee.at_),{ S.tick with line:=dropL t S.line }) from fun h2=>by unfold look;rw [if_neg (by have:=HI.o;omega),HE0.o,if_neg h1,if_neg h2]);clear h1;obtain ⟨own2,m2,q2⟩: ∃own2,Mod (fun _=>False) ⟨own1,w1⟩ ⟨own2,w1.alloc (.cells #[zI z6 ee.thread,zI z6 ee.frags,zI z6 ee.spine,zI z6 ee.state,zI z6 ee.cycles,zI z6 ee.at_,.slice A' ee.got.length c'] 199)⟩∧Blk ⟨own2,w1.alloc (.cells #[zI z6 ee.thread,zI z6 ee.frags,zI z6 ee.spine,zI z6 ee.state,zI z6 ee.cycles,zI z6 ee.at_,.slice A' ee.got.length c'] 199)⟩ 9 w1.heap.size 199 [zI z6 ee.thread,zI z6 ee.frags,zI z6 ee.spine,zI z6 ee.state,zI z6 ee.cycles,zI z6 ee.at_,.slice A' ee.got.length c']:=⟨_,Mod.ext (g:=⟨own1,w1⟩) zE 9,Blk.new ⟨own1,w1⟩ 9 199 [zI z6 ee.thread,zI z6 ee.frags,zI z6 ee.spine,zI z6 ee.state,zI z6 ee.cycles,zI z6 ee.at_,.slice A' ee.got.length c']⟩
     have M2:=zH (M1.o.trans (m2.mono zG));have B2:=zH (B1.o.keep m2 id);have H2:=zH (H1.o.keep m2 zG);have R2:=zH (HR1.o.keep m2 id);have Q2:=zH q2;clear m2 q2;obtain ⟨a0,a1,a2,a3,a4,a5,a6,a7,a8,a9,a10,a11,a12,a13,a14,a15,al⟩:=H2.o.blk.k16;go_wp2_with fail;refine (yjI ⟨own2,_⟩ (B+3) bl t S.line H2.o.line).mono ?_;rintro e w3 ⟨rfl,own3,m3,l3⟩;have M3:=zH (M2.o.trans (m3.mono (fun x (hx:x=B+3)=>(⟨zo,zo⟩:inst B x))));have B3:=zH (B2.o.keep m3 zo);have H3:=zH (H2.o.withLine (m3.mono (fun x hx=>Or.inl hx)) l3);have R3:=zH (R2.o.keep m3 zo);have Q3:=zH (Q2.o.keep m3 zo);clear m3 l3 a0 a1 a2 a3 a4 a5 a6 a7 a8 a9 a10 a11 a12 a13 a14 a15 al;obtain ⟨q0,q1,q2,q3,q4,q5,q6,ql⟩:=Q3.o.k7;by_cases h2:ee.state=2
     · have HK:=zH (HKA.o h2);have hz2:(ee.state==2)=true:=by simp [h2]
       clear h2;go_wp2_with fail;refine (yan 2 _).mono ?_;rintro e wz ⟨rfl,hX⟩;obtain ⟨ownz,mz⟩:=Mod.ofExt ((show Ext w3 _ from zE).trans (show Ext _ wz from hX)) own3;have Mz:=zH (M3.o.trans (mz.mono zG));have Bz:=zH (B3.o.keep mz id);have Hz:=zH (H3.o.keep mz zG);clear mz hX;obtain ⟨y0,y1,y2,yl⟩:=Bz.o.k3;have yf0:=Bz.o.liv 0;have yf1:=Bz.o.liv 1;have yf2:=Bz.o.liv 2;go_wp2_with fail;refine bodyPost_ret (v:=.agg #[zI z6 2,.slice none 0 0,zI z6 (-1)]) (by simp [results,Tryz.results83,go_sem,y0,y1,y2]) rfl ?_;obtain ⟨p1,p2⟩:=put3 (v0:=zI z6 2) (v1:=.slice none 0 0) (v2:=zI z6 (-1)) Mz.o (Nat.le_refl _) Bz.o.own;refine ⟨_,ownz,rfl,p1,?_,?_⟩
       · rw [HK.o];exact ⟨none,0,rfl,Row.nil _ _ _ _⟩
       · rw [HK.o];exact ⟨_,_,_,_,_,_,_,Hz.o.keep p2 z9⟩
     · have HK:=zH (HKB.o h2);have hz2:(ee.state==2)=false:=by simp [h2]
       clear h2;obtain ⟨y0,y1,y2,yl⟩:=B3.o.k3;have yf0:=B3.o.liv 0;have yf1:=B3.o.liv 1;have yf2:=B3.o.liv 2;go_wp2_with fail;refine bodyPost_ret (v:=.agg #[zI z6 1,.slice A' ee.got.length c',zI z6 ee.at_]) (by simp [results,Tryz.results83,go_sem,y0,y1,y2]) rfl ?_;obtain ⟨p1,p2⟩:=put3 (v0:=zI z6 1) (v1:=.slice A' ee.got.length c') (v2:=zI z6 ee.at_) M3.o (Nat.le_refl _) B3.o.own;refine ⟨_,own3,rfl,p1,?_,?_⟩
       · rw [HK.o];exact ⟨A',c',rfl,R3.o.keep p2 zo⟩
       · rw [HK.o];exact ⟨_,_,_,_,_,_,_,H3.o.keep p2 z9⟩
end Go.Proofs.YtdhjjpnajjingaaGreat
namespace Go
def Ent.fair2 (e:Ent):Prop:=1≤e.frags∧0≤e.spine
def Ent.fair (e:Ent):Prop:=1≤e.frags∧e.frags≤1099511627776∧0≤e.spine∧e.spine≤1099511627776
end Go
namespace Go.Proofs.YtdhjjpnajjingaaGreat
open Go Go.RowKit
def serveE (S:SpaceS):Ent:=S.line.getD (placeOf waitB S.line).toNat ent0
def serveYes (S:SpaceS) (got:List Int) (sp:Int) (sense:Bool):SpaceS:={ takesS S got sp with tab:=S.tab.setAll got 2 sense,line:=grantL S.line got (takesAt S got sp) }
def serve (S:SpaceS) (sense:Bool):Bool × SpaceS:=
 if placeOf waitB S.line<0 then (false,S.tick)
 else if S.fits (serveE S).frags (serveE S).spine then (true,serveYes S.tick (askGot S (serveE S).frags) (serveE S).spine sense)
 else if 2≤(serveE S).cycles then (true,{ S.tick with line:=failL S.line })
 else (false,S.tick)
theorem ydS (sense:Bool) (g:GW) (B b bt:Nat) (S:SpaceS) (h:SpaceAt g B b bt S) (hB:100≤B) (hc:0≤S.count∧S.count≤1099511627776) (hfair: ∀e∈S.line,e.fair2):
 Calls prog 109 #[zp (some ⟨b,0,none⟩),zb sense] g.w (Does (zb (serve S sense).1) g (inst B) (fun g'=>SpaceAt g' B b bt (serve S sense).2)):=by
 obtain ⟨bp,bk,bl,A,cs,cm,bs,h⟩:=h;obtain ⟨hc0,hc1⟩:=hc;have H0:=zH (show SpaceIn ⟨g.own,g.w.setCell ⟨b,3,none⟩ (zI z6 (S.count+1))⟩ B b bt S.tick bp bk bl A cs cm bs from h.tick);have M0:=zH (show Mod (inst B) g ⟨g.own,g.w.setCell ⟨b,3,none⟩ (zI z6 (S.count+1))⟩ from Mod.set (by rw [h.blk.own];exact ⟨zo,zo⟩));have HFA:=zH hfair;obtain ⟨a0,a1,a2,a3,a4,a5,a6,a7,a8,a9,a10,a11,a12,a13,a14,a15,al⟩:=h.blk.k16;have af3:=h.blk.liv 3;clear h hfair;go_enter func109,ntmps109;go_wp2_with fail;refine (yh4 ⟨g.own,_⟩ (B+3) bl S.line H0.o.line).mono ?_;rintro e w1 ⟨v,own1,rfl,m1,r,ok,rfl,hn,hp⟩;have M1:=zH (M0.o.trans (m1.mono zG));have H1:=zH (H0.o.keep m1 zG);clear m1 a0 a1 a2 a3 a4 a5 a6 a7 a8 a9 a10 a11 a12 a13 a14 a15 af3 al;by_cases hi:placeOf waitB S.line<0
 · obtain ⟨rfl,rfl⟩:=hn hi;have HK:=zH (show serve S sense=(false,S.tick) from if_pos hi);clear hn hp hi;go_wp2_with fail;go_ret;rw [HK.o];refine Does.ext ⟨own1,w1⟩ zE rfl M1.o (fun g2 m=>⟨_,_,_,_,_,_,_,H1.o.keep m zG⟩)
 · obtain ⟨rfl,ee,A',c',hL',rfl,hr⟩:=hp zo;have he0:serveE S=ee:=by unfold serveE;rw [List.getD_eq_getElem?_getD,hL'];rfl
   obtain ⟨f1,f3⟩:=HFA.o ee (List.mem_of_getElem? hL');have HKA:=zH (show S.fits ee.frags ee.spine=true→serve S sense=(true,serveYes S.tick (askGot S ee.frags) ee.spine sense) from fun h2=>by unfold serve;rw [if_neg hi,he0,h2];rfl);have HKB:=zH (show S.fits ee.frags ee.spine=false→2≤ee.cycles→serve S sense=(true,{ S.tick with line:=failL S.line }) from fun h2 h3=>by unfold serve;rw [if_neg hi,he0,h2,if_neg (by simp),if_pos h3]);have HKC:=zH (show S.fits ee.frags ee.spine=false→ ¬2≤ee.cycles→serve S sense=(false,S.tick) from fun h2 h3=>by unfold serve;rw [if_neg hi,he0,h2,if_neg (by simp),if_neg h3]);have HIP:=zH (show decide (0≤placeOf waitB S.line)=true from decide_eq_true zo)
   obtain ⟨own2,m2,q2⟩: ∃own2,Mod (fun _=>False) ⟨own1,w1⟩ ⟨own2,w1.alloc (.cells #[zI z6 ee.thread,zI z6 ee.frags,zI z6 ee.spine,zI z6 ee.state,zI z6 ee.cycles,zI z6 ee.at_,.slice A' ee.got.length c'] 199)⟩∧Blk ⟨own2,w1.alloc (.cells #[zI z6 ee.thread,zI z6 ee.frags,zI z6 ee.spine,zI z6 ee.state,zI z6 ee.cycles,zI z6 ee.at_,.slice A' ee.got.length c'] 199)⟩ 9 w1.heap.size 199 [zI z6 ee.thread,zI z6 ee.frags,zI z6 ee.spine,zI z6 ee.state,zI z6 ee.cycles,zI z6 ee.at_,.slice A' ee.got.length c']:=⟨_,Mod.ext (g:=⟨own1,w1⟩) zE 9,Blk.new ⟨own1,w1⟩ 9 199 [zI z6 ee.thread,zI z6 ee.frags,zI z6 ee.spine,zI z6 ee.state,zI z6 ee.cycles,zI z6 ee.at_,.slice A' ee.got.length c']⟩;have M2:=zH (M1.o.trans (m2.mono zG));have H2:=zH (H1.o.keep m2 zG);have Q2:=zH q2;clear m2 q2 hn hr hL' hi he0 H1 M1;go_wp2_with fail;have qx:w1.heap.size<(w1.alloc (.cells #[zI z6 ee.thread,zI z6 ee.frags,zI z6 ee.spine,zI z6 ee.state,zI z6 ee.cycles,zI z6 ee.at_,.slice A' ee.got.length c'] 199)).heap.size:=by rw [World.size_alloc];omega
   generalize w1.heap.size=bq at *;generalize w1.alloc (.cells #[zI z6 ee.thread,zI z6 ee.frags,zI z6 ee.spine,zI z6 ee.state,zI z6 ee.cycles,zI z6 ee.at_,.slice A' ee.got.length c'] 199)=w2 at *;obtain ⟨q0,q1,q2,q3,q4,q5,q6,ql⟩:=Q2.o.k7;have HFT:=zH (fun X=>(show Calls prog 179 #[shelves cm bp bk bl,zI z6 ee.frags,zI z6 ee.spine] ((⟨own2,w2⟩:GW).pt X).w (Gives (zb (S.fits ee.frags ee.spine)) _) from yen (S:=S.tick) ee.frags ee.spine (H2.o.keep (Mod.pt (Mod.refl (fun _=>False) _) X) zG)));unfold shelves at HFT;obtain ⟨a0,a1,a2,a3,a4,a5,a6,a7,a8,a9,a10,a11,a12,a13,a14,a15,al⟩:=H2.o.blk.k16;refine yab [zT,zT,zT,zT,zT,zT,zT,zT,zT,zT] 0 10 ?_;intro X00;simp only [pickOps];repeat (go_big_quiet_step ((go_at_call 179;exact Calls.added (HFT.o _))))
   refine wpQuiet_nil (fun X0=>?_);clear X00;refine yaa zQ (fun X0'=>?_) _;generalize hW:World.patch (World.patch _ _) _=w3;have hX:Ext w2 w3:=by rw [←hW];exact Ext.trans ⟨_,rfl⟩ ⟨_,rfl⟩
   clear hW;obtain ⟨own3,m3⟩:=Mod.ofExt hX own2;have M3:=zH (M2.o.trans (m3.mono zG));have H3:=zH (H2.o.keep m3 zG);have Q3:=zH (Q2.o.keep m3 id);clear m3 hX a0 a1 a2 a3 a4 a5 a6 a7 a8 a9 a10 a11 a12 a13 a14 a15 al q0 q1 q2 q3 q4 q5 q6 ql H2 M2 Q2 HFT;obtain ⟨q0,q1,q2,q3,q4,q5,q6,ql⟩:=Q3.o.k7;cases hft:S.fits ee.frags ee.spine
   · by_cases h2:2≤ee.cycles
     · have HK:=zH (HKB.o hft zo);have hz2:decide ((2:Int)≤ee.cycles)=true:=decide_eq_true h2;clear hft h2;obtain ⟨a0,a1,a2,a3,a4,a5,a6,a7,a8,a9,a10,a11,a12,a13,a14,a15,al⟩:=H3.o.blk.k16;go_wp2_with fail;refine (yjJ ⟨own3,w3⟩ (B+3) bl S.line H3.o.line).mono ?_;rintro e w4 ⟨rfl,own4,m4,l4⟩;have M4:=zH (M3.o.trans (m4.mono (fun x (hx:x=B+3)=>(⟨zo,zo⟩:inst B x))));have H4:=zH (H3.o.withLine (m4.mono (fun x hx=>Or.inl hx)) l4);clear m4 l4;go_wp2_with fail;go_ret;rw [HK.o];exact Does.of ⟨own4,w4⟩ rfl (by rw [HIP.o];try rfl) M4.o ⟨_,_,_,_,_,_,_,H4.o⟩
     · have HK:=zH (HKC.o hft zo);have hz2:decide ((2:Int)≤ee.cycles)=false:=decide_eq_false h2;clear hft h2;go_wp2_with fail;go_ret;rw [HK.o];exact Does.of ⟨own3,w3⟩ rfl rfl M3.o ⟨_,_,_,_,_,_,_,H3.o⟩
   · have HK:=zH (HKA.o hft)
     have hfree:ee.frags≤(S.pool.free:Int):=by
      unfold SpaceS.fits at hft;simp only [Bool.and_eq_true,decide_eq_true_eq] at hft;exact hft.1
     obtain ⟨got,hgot⟩:=PoolS.taken_some (p:=S.pool) (k:=ee.frags) f1 hfree;have HG:=zH (show askGot S ee.frags=got by unfold askGot;rw [hgot];rfl);have HGL:=zH (show got.length≤1024 from Nat.le_trans (PoolS.taken_len hgot) H3.o.pool.len);have HSD:=zH (ycF hft hgot (show S.pool.l.length≤1024 from H3.o.pool.len) H3.o.coil.ok)
     have HT:=zH (fun w' (he:Ext w3 w')=>(show Calls prog 180 #[shelves cm bp bk bl,zI z6 ee.frags,zI z6 ee.spine] w' (fun e w4=> ∃s4 c4,e=.returned (.tuple #[.slice s4 got.length c4,zI z6 (takesAt S.tick got ee.spine)])∧Hid (∃own4,Mod (inst B) g ⟨own4,w4⟩∧Row ⟨own4,w4⟩ 0 3 1 (.slice s4 got.length c4) got.length (got.map (zI z6))∧SpaceIn ⟨own4,w4⟩ B b bt (takesS S.tick got ee.spine) bp bk bl A cs cm bs)) from by
      obtain ⟨ownp,mp⟩:=Mod.ofExt he own3;refine (ydr ee.frags ee.spine got (H3.o.keep mp zG) hB hgot ⟨f3,HSD.o⟩).mono ?_;rintro e w4 ⟨v,own4,rfl,m4,s4,c4,rfl,r4,h4⟩;exact ⟨s4,c4,rfl,zH ⟨own4,(M3.o.trans (mp.mono zG)).trans (m4.mono (fun x (hx:x=B+1∨x=B+2)=>(⟨zo,zo⟩:inst B x))),r4,h4⟩⟩))
     unfold shelves at HT;clear hgot hft hfree;generalize hgn:got.length=ng at *;have HGN:=zH hgn;clear hgn;generalize hat4:takesAt S.tick got ee.spine=at4 at *;have HAT4:=zH hat4;clear hat4;obtain ⟨a0,a1,a2,a3,a4,a5,a6,a7,a8,a9,a10,a11,a12,a13,a14,a15,al⟩:=H3.o.blk.k16;go_wp2_with fail;go_cut [7,8] (fun s7 s8 wx=> ∃s4 c4,s7=.slice s4 ng c4∧s8=zI z6 at4∧Hid (∃own4,Mod (inst B) g ⟨own4,wx⟩∧Row ⟨own4,wx⟩ 0 3 1 (.slice s4 ng c4) ng (got.map (zI z6))∧SpaceIn ⟨own4,wx⟩ B b bt (takesS S.tick got ee.spine) bp bk bl A cs cm bs))
     case first=>
      go_region_with (go_at_call 180;refine (HT.o _ ?he).mono ?_;(case he=>exact zE);rintro e w4 ⟨s4,c4,rfl,HG4⟩)
      all_goals
       go_wp2_with fail;go_meet
       exact ⟨s4,c4,rfl,rfl,HG4⟩
     case rest=>
      obtain ⟨s4,c4,rfl,rfl,HG4⟩:=hcut;obtain ⟨w4,rfl⟩: ∃w4:World,w4=wc:=⟨_,rfl⟩;obtain ⟨own4,m4,r4,h4⟩:=HG4.o;have M4:=zH m4;have R4:=zH r4;have H4:=zH h4;clear m4 r4 h4 HG4 HT H3 M3 Q3 a0 a1 a2 a3 a4 a5 a6 a7 a8 a9 a10 a11 a12 a13 a14 a15 al q0 q1 q2 q3 q4 q5 q6 ql;have HST:=zH (yba 2 sense s4 c4 got H4.o R4.o.seg hB (by rw [HGN.o];have:=HGL.o;omega));rw [HGN.o] at HST;go_wp2_with fail;refine HST.o.mono ?_;rintro e w5 ⟨rfl,own5,m5,h5⟩;have M5:=zH (M4.o.trans (m5.mono (fun x (hx:x=B+50)=>(⟨zo,zo⟩:inst B x))));have R5:=zH (R4.o.keep m5 zo);have H5:=zH h5;clear m5 h5;have HLG:=zH (yh6 ⟨own5,w5⟩ (B+3) bl s4 c4 ng got at4 S.line H5.o.line HGN.o R5.o.cells HGL.o);obtain ⟨a0,a1,a2,a3,a4,a5,a6,a7,a8,a9,a10,a11,a12,a13,a14,a15,al⟩:=H5.o.blk.k16;go_wp2_with fail;refine HLG.o.mono ?_;rintro e w6 ⟨rfl,own6,m6,l6⟩;have M6:=zH (M5.o.trans (m6.mono (fun x (hx:x=B+3)=>(⟨zo,zo⟩:inst B x))));have H6:=zH (H5.o.withLine (m6.mono (fun x hx=>Or.inl hx)) l6);clear m6 l6;go_wp2_with fail;go_ret;rw [HK.o,HG.o];exact Does.of ⟨own6,w6⟩ rfl (by rw [HIP.o];try rfl) M6.o ⟨_,_,_,_,_,_,_,by have:=H6.o;rw [←HAT4.o] at this;exact this⟩
theorem ygX (sense:Bool) (g:GW) (B b bt:Nat) (S:SpaceS) (h:SpaceAt g B b bt S) (hB:100≤B) (hc:0≤S.count∧S.count≤1099511627776) (hfair: ∀e∈S.line,e.fair):
 Calls prog 109 #[zp (some ⟨b,0,none⟩),zb sense] g.w (Does (zb (serve S sense).1) g (inst B) (fun g'=>SpaceAt g' B b bt (serve S sense).2)):=
 ydS sense g B b bt S h hB hc (fun e he=>⟨(hfair e he).1,(hfair e he).2.2.1⟩)
theorem yi3 (g:GW) (t b:Nat) (c:CoilS) (h:CoilAt g t b c) (hk:c.kept≤0):
 Calls prog 175 #[zp (some ⟨b,0,none⟩)] g.w (Does (zb true) g (fun x=>x=t) (fun g'=>CoilAt g' t b c.done)):=by
 have c0:=h.blk.cell (i:=0) rfl;have c1:=h.blk.cell (i:=1) rfl;have c2:=h.blk.cell (i:=2) rfl;have c3:=h.blk.cell (i:=3) rfl;have c4:=h.blk.cell (i:=4) rfl;have f2:=h.blk.live 2;have f3:=h.blk.live 3;have hbl:=h.blk.lt;obtain ⟨o1,⟨_,_⟩,⟨_,_⟩,⟨_,_⟩,⟨_,_⟩,o6⟩:=h.ok;have HO:=zH h.blk.own;have HB:=zH h.blk;have H:=zH h;clear h;obtain ⟨size,cur,u0,u1,kept⟩:=c;simp only at *;have hd:decide (0<kept)=false:=decide_eq_false zo;rcases (show cur=0∨cur=1 by omega) with rfl|rfl
 · replace c1:g.w.cell? ⟨b,1,none⟩=some (zI z6 0):=c1;have HT:=zH (show CoilS.done ⟨size,0,u0,u1,kept⟩=⟨size,0,u0,0,kept⟩ by unfold CoilS.done CoilS.doneable;simp only;rw [if_pos (decide_eq_true hk)];rfl);have HK:=zH (show CoilS.Ok ⟨size,0,u0,0,kept⟩ from ⟨by simp,by simp only;omega,by simp only;omega,by simp only;omega,by simp only;omega,by simp only [CoilS.used,if_true,if_false,Nat.one_ne_zero] at *;omega⟩);clear o6;go_enter func175,ntmps175;go_wp2_with fail;refine yab [zT,zT,zT,zT,zT,zT,zT,zT,zT,zU] 1 9 ?_;intro X00;simp only [pickOps];repeat (go_big_quiet_step (fail))
   refine wpQuiet_nil (fun X0=>?_);clear X00;refine yaj 9 _ zQ zQ rfl rfl (fun X1 K Q' hK=>?_);go_simp;refine hK _ _ (fun X2=>?_);clear hK K Q';go_wp2_with fail;go_ret;(try rw [World.patch_patch]);refine Does.of (GW.pt ⟨g.own,_⟩ _) rfl rfl (Mod.pt (Mod.st Mod.self HO.o) _) ?_;rw [HT.o];exact CoilAt.pt ⟨HB.o.set 3 _,HK.o⟩ _
 · replace c1:g.w.cell? ⟨b,1,none⟩=some (zI z6 1):=c1;have HT:=zH (show CoilS.done ⟨size,1,u0,u1,kept⟩=⟨size,1,0,u1,kept⟩ by unfold CoilS.done CoilS.doneable;simp only;rw [if_pos (decide_eq_true hk)];rfl);have HK:=zH (show CoilS.Ok ⟨size,1,0,u1,kept⟩ from ⟨by simp,by simp only;omega,by simp only;omega,by simp only;omega,by simp only;omega,by simp only [CoilS.used,if_true,if_false,Nat.one_ne_zero] at *;omega⟩);clear o6;go_enter func175,ntmps175;go_wp2_with fail;refine yab [zT,zT,zT,zT,zT,zT,zT,zT,zT,zU] 1 9 ?_;intro X00;simp only [pickOps];repeat (go_big_quiet_step (fail))
   refine wpQuiet_nil (fun X0=>?_);clear X00;refine yaj 9 _ zQ zQ rfl rfl (fun X1 K Q' hK=>?_);go_simp;refine hK _ _ (fun X2=>?_);clear hK K Q';go_wp2_with fail;go_ret;(try rw [World.patch_patch]);refine Does.of (GW.pt ⟨g.own,_⟩ _) rfl rfl (Mod.pt (Mod.st Mod.self HO.o) _) ?_;rw [HT.o];exact CoilAt.pt ⟨HB.o.set 2 _,HK.o⟩ _
def c4 (A:Option Addr):Cnf:=⟨4,0,0,1,1,0,1,0,A,1,[⟨false,none,0,[]⟩]⟩
def s4 (A:Option Addr):SpaceS:=SpaceS.fresh (c4 A) (TabS.fresh 4)
end Go.Proofs.YtdhjjpnajjingaaGreat
namespace Go
end Go
namespace Go.Proofs.YtdhjjpnajjingaaGreat
open Go Go.RowKit
end Go.Proofs.YtdhjjpnajjingaaGreat
namespace Go
theorem Mod.none {T:Nat→Prop} {g g':GW} (h:Mod T g g') (hn: ∀k,k<g.w.heap.size→ ¬T (g.own k)):Mod (fun _=>False) g g':=⟨h.os,h.tape,h.output,h.size,h.own,fun k hk _=>h.block k hk (hn k hk)⟩
end Go
namespace Go.Proofs.YtdhjjpnajjingaaGreat
open Go Go.RowKit
def sweeps (S:SpaceS) (i:Int) (sense:Bool):Bool:=S.tab.state i==2&& !S.tab.black i sense
def sweepS (S:SpaceS) (i:Int) (sense:Bool):SpaceS:=if sweeps S i sense then { S.tick with tab:=S.tab.set i 0 false false,pool:=S.pool.give i } else S.tick
theorem ygY (i:Int) (sense:Bool) (g:GW) (B b bt:Nat) (S:SpaceS) (h:SpaceAt g B b bt S) (hB:100≤B) (hc:0≤S.count∧S.count≤1099511627776):
 Calls prog 107 #[zp (some ⟨b,0,none⟩),zI z6 i,zb sense] g.w (Does (zb (sweeps S i sense)) g (inst B) (fun g'=>SpaceAt g' B b bt (sweepS S i sense))):=by
 obtain ⟨bp,bk,bl,A,cs,cm,bs,h⟩:=h;obtain ⟨hc0,hc1⟩:=hc;have H:=zH h;have M0:=zH (show Mod (inst B) g ⟨g.own,g.w.setCell ⟨b,3,none⟩ (zI z6 (S.count+1))⟩ from Mod.set (by rw [h.blk.own];exact ⟨zo,zo⟩));have H0:=zH h.tick;obtain ⟨a0,a1,a2,a3,a4,a5,a6,a7,a8,a9,a10,a11,a12,a13,a14,a15,al⟩:=h.blk.k16;have af3:=h.blk.liv 3;have k0:=(h.tick.blk.cell (i:=0) rfl);have k13:=(h.tick.blk.cell (i:=13) rfl);simp only at k0 k13;have HST:=zH (ybu ⟨g.own,g.w.setCell ⟨b,3,none⟩ (zI z6 (S.count+1))⟩ (B+50) bt i S.tab h.tick.tab);have HBL:=zH (ycR ⟨g.own,g.w.setCell ⟨b,3,none⟩ (zI z6 (S.count+1))⟩ (B+50) bt i sense S.tab h.tick.tab);have HFR:=zH (yda i h.tick hB);clear h;cases hst:(S.tab.state i==2)
 · have HV:=zH (show sweeps S i sense=false by unfold sweeps;rw [hst];rfl);have HW:=zH (show sweepS S i sense=S.tick by unfold sweepS;rw [HV.o];rfl);have hz:((S.tab.state i:Int) !=2)=true:=by rw [bne,show (2:Int)=((2:Nat):Int) from rfl,ybg];simpa using hst
   generalize S.tab.state i=x at *;clear hst;go_enter func107,ntmps107;go_wp2_with fail;refine HST.o.mono ?_;rintro e w1 ⟨rfl,rfl⟩;go_wp2_with fail;go_ret;exact Does.of ⟨g.own,_⟩ rfl (by rw [HV.o];try rfl) M0.o (by rw [HW.o];exact ⟨_,_,_,_,_,_,_,H0.o⟩)
 · have hz:((S.tab.state i:Int) !=2)=false:=by rw [bne,show (2:Int)=((2:Nat):Int) from rfl,ybg];simpa using hst
   cases hbl:S.tab.black i sense
   · have HV:=zH (show sweeps S i sense=true by unfold sweeps;rw [hst,hbl];rfl);have HW:=zH (show sweepS S i sense={ S.tick with tab:=S.tab.set i 0 false false,pool:=S.pool.give i } by unfold sweepS;rw [HV.o];rfl);rw [hbl] at HBL;generalize S.tab.state i=x at *;clear hst hbl;go_enter func107,ntmps107;go_wp2_with fail;refine HST.o.mono ?_;rintro e w1 ⟨rfl,rfl⟩;go_wp2_with fail;refine HBL.o.mono ?_;rintro e w1 ⟨rfl,rfl⟩;go_wp2_with fail;refine HFR.o.mono ?_;rintro e w1 ⟨rfl,own1,m1,h1⟩;have M1:=zH (M0.o.trans (m1.mono (fun y (hy:y=B+50∨y=B+1)=>(⟨zo,zo⟩:inst B y))));have H1:=zH h1;clear m1 h1;go_wp2_with fail;go_ret;exact Does.of ⟨own1,_⟩ rfl (by rw [HV.o];try rfl) M1.o (by rw [HW.o];exact ⟨_,_,_,_,_,_,_,H1.o⟩)
   · have HV:=zH (show sweeps S i sense=false by unfold sweeps;rw [hst,hbl];rfl);have HW:=zH (show sweepS S i sense=S.tick by unfold sweepS;rw [HV.o];rfl);rw [hbl] at HBL;generalize S.tab.state i=x at *;clear hst hbl;go_enter func107,ntmps107;go_wp2_with fail;refine HST.o.mono ?_;rintro e w1 ⟨rfl,rfl⟩;go_wp2_with fail;refine HBL.o.mono ?_;rintro e w1 ⟨rfl,rfl⟩;go_wp2_with fail;go_ret;exact Does.of ⟨g.own,_⟩ rfl (by rw [HV.o];try rfl) M0.o (by rw [HW.o];exact ⟨_,_,_,_,_,_,_,H0.o⟩)
def forceS (S:SpaceS):SpaceS:={ S.tick with forced:=true }
def turnS (S:SpaceS):SpaceS:={ S.tick with coil:=S.coil.turn }
def doneS (S:SpaceS):SpaceS:={ S.tick with coil:=S.coil.done }
def wantsS (S:SpaceS):Bool:=decide (0<Ent.wait S.line) || (decide ((S.pool.free:Int)<S.c.low) || S.forced)
theorem yiz (g:GW) (B b bt:Nat) (S:SpaceS) (h:SpaceAt g B b bt S) (hB:100≤B) (hc:0≤S.count∧S.count≤1099511627776):
 Calls prog 98 #[zp (some ⟨b,0,none⟩)] g.w (Does (zb S.coil.turnable) g (inst B) (fun g'=>SpaceAt g' B b bt (turnS S))):=by
 obtain ⟨bp,bk,bl,A,cs,cm,bs,h⟩:=h;obtain ⟨hc0,hc1⟩:=hc;have M0:=zH (show Mod (inst B) g ⟨g.own,g.w.setCell ⟨b,3,none⟩ (zI z6 (S.count+1))⟩ from Mod.set (by rw [h.blk.own];exact ⟨zo,zo⟩));have H0:=zH (show SpaceIn ⟨g.own,g.w.setCell ⟨b,3,none⟩ (zI z6 (S.count+1))⟩ B b bt S.tick bp bk bl A cs cm bs from h.tick);obtain ⟨a0,a1,a2,a3,a4,a5,a6,a7,a8,a9,a10,a11,a12,a13,a14,a15,al⟩:=h.blk.k16;have af3:=h.blk.liv 3;clear h;go_enter func98,ntmps98;go_wp2_with fail;refine (yi6 ⟨g.own,_⟩ (B+2) bk S.coil H0.o.coil).mono ?_;rintro e w1 ⟨rfl,own1,m1,l1⟩;have M1:=zH (M0.o.trans (m1.mono (fun x (hx:x=B+2)=>(⟨zo,zo⟩:inst B x))));have H1:=zH (H0.o.withCoil m1 l1);clear m1 l1;go_wp2_with fail;go_ret;exact Does.of ⟨own1,w1⟩ rfl rfl M1.o ⟨_,_,_,_,_,_,_,H1.o⟩
theorem yix (g:GW) (B b bt:Nat) (S:SpaceS) (h:SpaceAt g B b bt S) (hB:100≤B) (hc:0≤S.count∧S.count≤1099511627776) (hk:S.coil.kept≤0):
 Calls prog 106 #[zp (some ⟨b,0,none⟩)] g.w (Does (zb true) g (inst B) (fun g'=>SpaceAt g' B b bt (doneS S))):=by
 obtain ⟨bp,bk,bl,A,cs,cm,bs,h⟩:=h;obtain ⟨hc0,hc1⟩:=hc;have M0:=zH (show Mod (inst B) g ⟨g.own,g.w.setCell ⟨b,3,none⟩ (zI z6 (S.count+1))⟩ from Mod.set (by rw [h.blk.own];exact ⟨zo,zo⟩));have H0:=zH (show SpaceIn ⟨g.own,g.w.setCell ⟨b,3,none⟩ (zI z6 (S.count+1))⟩ B b bt S.tick bp bk bl A cs cm bs from h.tick);have HK:=zH hk;obtain ⟨a0,a1,a2,a3,a4,a5,a6,a7,a8,a9,a10,a11,a12,a13,a14,a15,al⟩:=h.blk.k16;have af3:=h.blk.liv 3;clear h hk;go_enter func106,ntmps106;go_wp2_with fail;refine (yi3 ⟨g.own,_⟩ (B+2) bk S.coil H0.o.coil HK.o).mono ?_;rintro e w1 ⟨rfl,own1,m1,l1⟩;have M1:=zH (M0.o.trans (m1.mono (fun x (hx:x=B+2)=>(⟨zo,zo⟩:inst B x))));have H1:=zH (H0.o.withCoil m1 l1);clear m1 l1;go_wp2_with fail;go_ret;exact Does.of ⟨own1,w1⟩ rfl rfl M1.o ⟨_,_,_,_,_,_,_,H1.o⟩
theorem ydc (g:GW) (B b bt:Nat) (S:SpaceS) (h:SpaceAt g B b bt S) (hB:100≤B) (hc:0≤S.count∧S.count≤1099511627776):
 Calls prog 44 #[zp (some ⟨b,0,none⟩)] g.w (Does (zb (wantsS S)) g (inst B) (fun g'=>SpaceAt g' B b bt S.tick)):=by
 obtain ⟨bp,bk,bl,A,cs,cm,bs,h⟩:=h;obtain ⟨hc0,hc1⟩:=hc;have M0:=zH (show Mod (inst B) g ⟨g.own,g.w.setCell ⟨b,3,none⟩ (zI z6 (S.count+1))⟩ from Mod.set (by rw [h.blk.own];exact ⟨zo,zo⟩));have H0:=zH (show SpaceIn ⟨g.own,g.w.setCell ⟨b,3,none⟩ (zI z6 (S.count+1))⟩ B b bt S.tick bp bk bl A cs cm bs from h.tick);have HV:=zH (show wantsS S=(decide (0<Ent.wait S.line) || (decide ((S.pool.free:Int)<cm.low) || S.forced)) from by unfold wantsS;rw [h.same.low]);have HW:=zH (fun X=>yds ((⟨g.own,g.w.setCell ⟨b,3,none⟩ (zI z6 (S.count+1))⟩:GW).pt X) (B+3) cm bp bk bl _ (H0.o.line.keep (Mod.pt (Mod.refl (fun _=>False) _) X) id id));have HR:=zH (fun X=>ylL ((⟨g.own,g.w.setCell ⟨b,3,none⟩ (zI z6 (S.count+1))⟩:GW).pt X) (B+1) cm bp bk bl S.pool (H0.o.pool.keep (Mod.pt (Mod.refl (fun _=>False) _) X) id));rw [show S.tick.line=S.line from rfl] at HW;have c3:=h.blk.cell (i:=3) rfl;have f3:=h.blk.live 3;have hbl:=h.blk.lt;have HB0:=H0.o.blk;rw [show S.tick.forced=S.forced from rfl] at HB0;obtain ⟨a0,a1,a2,a3,a4,a5,a6,a7,a8,a9,a10,a11,a12,a13,a14,a15,al⟩:=HB0.k16;unfold shelves at HW HR;clear h HB0;generalize S.pool.free=fr at *;generalize Ent.wait S.line=wt at *
 generalize S.forced=fo at *;by_cases hw:0<wt
 · have d1:decide (0<wt)=true:=decide_eq_true hw;have HV2:=zH (show wantsS S=true from by rw [HV.o,decide_eq_true hw,Bool.true_or]);clear hw;go_enter func44,ntmps44;go_wp2_with fail;refine yab [zT,zT,zT,zT,zT,zT,zT,zT,zT,zT,zT,zT,zT,zT,zT,zT,zT,zT,zT,zT,zT,zT,zT,zT,zT,zT,zT] 0 27 ?_;intro X00;simp only [pickOps];repeat (go_big_quiet_step (first|(go_at_call 58;exact Calls.added (HW.o _))|(go_at_call 16;exact Calls.added (HR.o _))))
   refine wpQuiet_nil (fun X0=>?_);clear X00;refine yaa zQ (fun X0'=>?_) _;go_wp2_with fail;go_ret;exact Does.ext ⟨g.own,_⟩ zE (by rw [HV2.o];try rfl) M0.o (fun g2 m=>⟨_,_,_,_,_,_,_,H0.o.keep m zG⟩)
 · have d1:decide (0<wt)=false:=decide_eq_false hw;by_cases hl:(fr:Int)<cm.low
   · have d2:decide ((fr:Int)<cm.low)=true:=decide_eq_true hl;have HV2:=zH (show wantsS S=true from by rw [HV.o,decide_eq_true hl];simp);clear hw hl;go_enter func44,ntmps44;go_wp2_with fail;refine yab [zT,zT,zT,zT,zT,zT,zT,zT,zT,zT,zT,zT,zT,zT,zT,zT,zT,zT,zT,zT,zT,zT,zT,zT,zT,zT,zT] 0 27 ?_;intro X00;simp only [pickOps];repeat (go_big_quiet_step (first|(go_at_call 58;exact Calls.added (HW.o _))|(go_at_call 16;exact Calls.added (HR.o _))))
     refine wpQuiet_nil (fun X0=>?_);clear X00;refine yaa zQ (fun X0'=>?_) _;go_wp2_with fail;go_ret;exact Does.ext ⟨g.own,_⟩ zE (by rw [HV2.o];try rfl) M0.o (fun g2 m=>⟨_,_,_,_,_,_,_,H0.o.keep m zG⟩)
   · have d2:decide ((fr:Int)<cm.low)=false:=decide_eq_false hl;have HV2:=zH (show wantsS S=fo from by rw [HV.o,decide_eq_false hl,decide_eq_false hw];simp);clear hw hl;go_enter func44,ntmps44;go_wp2_with fail;refine yab [zT,zT,zT,zT,zT,zT,zT,zT,zT,zT,zT,zT,zT,zT,zT,zT,zT,zT,zT,zT,zT,zT,zT,zT,zT,zT,zT] 0 27 ?_;intro X00;simp only [pickOps];repeat (go_big_quiet_step (first|(go_at_call 58;exact Calls.added (HW.o _))|(go_at_call 16;exact Calls.added (HR.o _))))
     refine wpQuiet_nil (fun X0=>?_);clear X00;refine yaa zQ (fun X0'=>?_) _;go_wp2_with fail;go_ret;exact Does.ext ⟨g.own,_⟩ zE (by rw [HV2.o];try rfl) M0.o (fun g2 m=>⟨_,_,_,_,_,_,_,H0.o.keep m zG⟩)
end Go.Proofs.YtdhjjpnajjingaaGreat
namespace Go
section
variable {P:Program} {ops:Array Oper} {Q:Exit→Act→World→Prop} {md:Region.Mode} {w0:World}
def moveOf (ops:Array Oper) (i:Nat):Option (Option Tmp × Operand):=match ops[i]? with
 |some o=>match o.op,o.guard with
  |.move x,none=>some (o.dst,x)
  |_,_=>none
 |none=>none
def movesOk (md:Region.Mode) (ops:Array Oper):List Nat→Array Bool→Bool
 |[],_=>true
 |i::E,l=>(moveOf ops i).isSome&&(Region.ready md ops l).contains i&&Region.free md ops l i&&movesOk md ops E (l.setIfInBounds i true)
def movesAct (ops:Array Oper):List Nat→Act→Act
 |[],a=>a
 |i::E,a=>match moveOf ops i with
  |some (d,x)=>movesAct ops E (a.put d (a.eval x))
  |none=>movesAct ops E a
def movesList:List Nat→Array Bool→Array Bool
 |[],l=>l
 |i::E,l=>movesList E (l.setIfInBounds i true)
theorem ygL {i:Nat} {d:Option Tmp} {x:Operand} (h:moveOf ops i=some (d,x)): ∃o,ops[i]?=some o∧o.op=.move x∧o.guard=none∧o.dst=d:=by
 unfold moveOf at h;split at h
 · rename_i o ho
   split at h
   · rename_i y h1 h2
     simp only [Option.some.injEq,Prod.mk.injEq] at h;obtain ⟨rfl,rfl⟩:=h;exact ⟨o,ho,h1,h2,rfl⟩
   · cases h
 · cases h
theorem yg9 {o:Oper} {x:Operand} {a:Act} (h1:o.op=.move x) (h2:o.guard=none):Yields P ops o (a.eval x) a:=by
 unfold Yields;refine Or.inl ⟨by simp [Region.wanted,h2],fun w=>?_⟩;unfold execOp;rw [h1];rfl
theorem yde (hs:Region.noSelect ops=true) (hQ: ∀(c:List PanicEntry) (a:Act) (d:Option Tmp) (v:Value) (w:World),Q (.panic c) (a.put d v) w→Q (.panic c) a w): ∀(E:List Nat) (fuel:Nat) (listed:Array Bool) (a:Act) (w:World),movesOk md ops E listed=true→
 wpAny P md ops Q fuel (movesList E listed) (movesAct ops E a) w→wpAny P md ops Q (fuel+E.length) listed a w
 |[],_,_,_,_,_,h=>h
 |i::E,fuel,listed,a,w,hm,h=>by
  simp only [movesOk,Bool.and_eq_true] at hm;obtain ⟨⟨⟨h1,h2⟩,h3⟩,h4⟩:=hm;obtain ⟨⟨d,x⟩,hx⟩:=Option.isSome_iff_exists.1 h1;obtain ⟨o,ho,hop,hg,rfl⟩:=ygL hx;simp only [movesAct,hx,movesList] at h;exact wpAny_take (v:=a.eval x) ho hs h3 h2 (fun c a w h=>hQ c a _ _ w h) (yg9 hop hg) (yde hs hQ E fuel _ _ w h4 h)
def Region.sinkE (md:Region.Mode) (ops:Array Oper) (E:List Nat) (n:Nat):Bool:=
 (List.range n).all fun i=>E.contains i || (List.range (n+1)).any fun j=>decide (i<j)&&Region.waitsFor md ops j i
def Region.treeB (md:Region.Mode) (ops:Array Oper) (L:Nat):Bool:=(List.range ops.size).all fun t=>decide (t≤L) || (List.range t).any fun s=>decide (L≤s)&&Region.waitsFor md ops t s
def Region.lastE (md:Region.Mode) (ops:Array Oper) (E:List Nat) (L:Nat):Bool:=Region.sinkE md ops E L&&Region.treeB md ops L&&decide (L<ops.size)
theorem ygK {L:Nat} {listed:Array Bool} (hc:Closed md ops listed) (hC:Region.treeB md ops L=true): ∀(d t:Nat),t-L=d→L≤t→listed.getD t false=true→listed.getD L false=true:=by
 intro d;induction d using Nat.strongRecOn with
 |_ d ih=>
  intro t hd hL hl;by_cases htL:t=L
  · rw [←htL];exact hl
  · have htlt:t<ops.size:=by
     rw [←hc.1];rcases Nat.lt_or_ge t listed.size with h|h
     · exact h
     · simp [Array.getElem?_eq_none h] at hl
    have h1:=List.all_eq_true.1 hC t (List.mem_range.2 htlt);simp only [Bool.or_eq_true,decide_eq_true_eq] at h1;rcases h1 with h1|h1
    · omega
    · obtain ⟨s,hs,hs2⟩:=List.any_eq_true.1 h1;simp only [Bool.and_eq_true,decide_eq_true_eq] at hs2;obtain ⟨oj,hoj,e,he,hb,hon⟩:=Region.waitsFor_spec hs2.2;have h2:=hc.2 t oj hoj hl e he hb;rw [hon] at h2;have h3:=List.mem_range.1 hs;exact ih (s-L) zo s rfl hs2.1 h2
theorem yiZ {L:Nat} {E:List Nat} {listed:Array Bool} (hc:Closed md ops listed) (hs:Region.sinkE md ops E L=true) (hE: ∀i,E.contains i=true→listed.getD i false=true) (hL: ∀oj,ops[L]?=some oj→ ∀e∈oj.after,Region.binds md e=true→listed.getD e.on false=true): ∀(d i:Nat),L-i=d→i<L→listed.getD i false=true:=by
 intro d;induction d using Nat.strongRecOn with
 |_ d ih=>
  intro i hd hi;have h1:=List.all_eq_true.1 hs i (List.mem_range.2 hi);rw [Bool.or_eq_true] at h1;rcases h1 with h1|h1
  · exact hE i h1
  · obtain ⟨j,hj,hj2⟩:=List.any_eq_true.1 h1;simp only [Bool.and_eq_true,decide_eq_true_eq] at hj2;obtain ⟨oj,hoj,e,he,hb,hon⟩:=Region.waitsFor_spec hj2.2;have hjle:j≤L:=by have:=List.mem_range.1 hj;omega
    rw [←hon];by_cases hjL:j=L
    · subst hjL;exact hL oj hoj e he hb
    · exact hc.2 j oj hoj (ih (L-j) zo j rfl zo) e he hb
theorem ygH {L:Nat} {E:List Nat} (hL:Region.lastE md ops E L=true) {listed:Array Bool} (hc:Closed md ops listed) (hE: ∀i,E.contains i=true→listed.getD i false=true) {i:Nat} (hi:i∈Region.ready md ops listed) (hne:i<L): ∀j∈Region.ready md ops listed,j<L:=by
 intro j hr;simp only [Region.lastE,Bool.and_eq_true,decide_eq_true_eq] at hL;obtain ⟨⟨hs,hC⟩,hz⟩:=hL;obtain ⟨hun, -⟩:=mem_ready.1 hi;refine Nat.lt_of_not_le fun hLj=>?_;obtain ⟨hjun,oj,hoj,hall⟩:=mem_ready.1 hr
 have hbelow:listed.getD i false=true:=by
  by_cases hjL:j=L
  · subst hjL;exact yiZ hc hs hE (fun o ho e he hb=>by rw [hoj] at ho;injection ho with ho;subst ho;exact hall e he hb) _ i rfl hne
  · have h1:=List.all_eq_true.1 hC j (List.mem_range.2 (Array.getElem?_eq_some_iff.1 hoj).1);simp only [Bool.or_eq_true,decide_eq_true_eq] at h1;rcases h1 with h1|h1
    · omega
    · obtain ⟨s,hs',hs2⟩:=List.any_eq_true.1 h1;simp only [Bool.and_eq_true,decide_eq_true_eq] at hs2;obtain ⟨oj',hoj',e,he,hb,hon⟩:=Region.waitsFor_spec hs2.2;rw [hoj] at hoj';injection hoj' with hoj';subst hoj';have h2:=hall e he hb;rw [hon] at h2;have h3:=ygK hc hC _ s rfl hs2.1 h2;exact yiZ hc hs hE (fun o ho e he hb=>hc.2 L o ho h3 e he hb) _ i rfl hne
 rw [getD_both hun] at hbelow;cases hbelow
theorem yfl {L:Nat} {E:List Nat} {i:Nat} {oi:Oper} {v:Value} (hLast:Region.lastE md ops E L=true) (hiL:i<L) (hi:ops[i]?=some oi) (hsel: ∀(j:Nat) (o:Oper) cs b,ops[j]?=some o→o.op≠.select cs b)
 (hQ: ∀c a w,Q (.panic c) (a.put oi.dst v) w→Q (.panic c) a w):
 ∀(fuel:Nat) (listed:Array Bool) (a:Act) (w:World),Closed md ops listed→(∀i,E.contains i=true→listed.getD i false=true)→
  (∀j oj,ops[j]?=some oj→j≠i→listed.getD j true=false→(∀e∈oj.after,Region.binds md e=true→e.on≠i)→oi.apart ops oj=true)→
  i∈Region.ready md ops listed→YieldsE P ops w0 oi v a→Ext w0 w→
  wpAnyM P md ops Q w0 L fuel (listed.setIfInBounds i true) (a.put oi.dst v) w→wpAnyM P md ops Q w0 L (fuel+1) listed a w:=by
 intro fuel;induction fuel with
 |zero=>
  intro listed a w hcl _ _ hr hy hS H w1 hw1;refine ⟨fun h=>(by rw [h] at hr;cases hr),fun j hj=>?_⟩;by_cases hji:j=i
  · subst hji;exact ⟨fun _=>hy.wpOp hi (hS.trans hw1) (fun w' hw'=>⟨(hS.trans hw1).trans hw',H.ext (hw1.trans hw')⟩),fun h=>by omega⟩
  · have:=ready_mono hj hji;rw [H.1] at this;cases this
 |succ fuel ih=>
  intro listed a w hcl hEl hfree hr hy hS H w1 hw1;refine ⟨fun h=>(by rw [h] at hr;cases hr),fun j hj=>?_⟩;have hjL:j<L:=ygH hLast hcl hEl hr hiL j hj;refine ⟨fun _=>?_,fun h=>by omega⟩;by_cases hji:j=i
  · subst hji;exact hy.wpOp hi (hS.trans hw1) (fun w' hw'=>⟨(hS.trans hw1).trans hw',H.ext (hw1.trans hw')⟩)
  · have h1:=((H w1 hw1).2 j (ready_mono hj hji)).1 hjL;obtain ⟨hjun,oj,hoj,hall⟩:=mem_ready.1 hj
    have hnot: ∀e∈oj.after,Region.binds md e=true→e.on≠i:=fun e he hb heq=>by
     have h1:=hall e he hb;have h0:=(mem_ready.1 hr).1;rw [heq] at h1;rcases Nat.lt_or_ge i listed.size with h'|h'
     · simp [h'] at h0 h1;rw [h0] at h1;cases h1
     · simp [Array.getElem?_eq_none h'] at h1
    have h2:=ycU hoj (hfree j oj hoj hji hjun hnot) (fun cs b=>hsel i oi cs b hi) (fun cs b=>hsel j oj cs b hoj) hQ hy h1
    have hfree': ∀k ok,ops[k]?=some ok→k≠i→(listed.setIfInBounds j true).getD k true=false→
     (∀e∈ok.after,Region.binds md e=true→e.on≠i)→oi.apart ops ok=true:=fun k ok hk hki hun hno=>by
     refine hfree k ok hk hki ?_ hno;by_cases hjk:j=k
     · subst hjk;exact hjun
     · rw [getD_set_ne true hjk] at hun;exact hun
    refine wpOp_mono (fun a' w' h3=>⟨h3.2.1,ih (listed.setIfInBounds j true) a' w' (hcl.set hj) (fun k hk=>getD_set_true (hEl k hk)) hfree' (ready_mono hr (Ne.symm hji)) h3.1 h3.2.1 ?_⟩) h2;rw [Array.setIfInBounds_comm _ _ hji];exact h3.2.2
theorem ybn {L:Nat} {E:List Nat} (hLast:Region.lastE md ops E L=true) (hs:Region.noSelect ops=true) (hQ: ∀(c:List PanicEntry) (a:Act) (d:Option Tmp) (v:Value) (w:World),Q (.panic c) (a.put d v) w→Q (.panic c) a w) (n:Nat): ∀(m:List Bool) (l:List Oper) (k:Nat) (listed:Array Bool) (a:Act),Closed md ops listed→(∀i,E.contains i=true→listed.getD i false=true)→(∀j,l[j]?=ops[k+j]?)→m.length≤l.length→
 lexMask md ops m k listed=true→maskBut L m k=true→wpCalm P ops w0 (fun a'=> ∀X,wpAnyM P md ops Q w0 L n (markOps m k listed) a' (w0.patch X)) (pickOps m l) a→
 ∀X,wpAnyM P md ops Q w0 L (n+countB m) listed a (w0.patch X)
 |[],_,_,_,_,_,_,_,_,_,_,h,X=>by
  simp only [pickOps,wpCalm,markOps] at h;exact h X
 |_::_,[],_,_,_,_,_,_,hlen,_,_,_,_=>by simp at hlen
 |false::m,o::l,k,listed,a,hcl,hEl,hl,hlen,hB,hM,h,X=>
  ybn hLast hs hQ n m l (k+1) listed a hcl hEl (fun j=>by have:=hl (j+1);simpa [Nat.add_assoc,Nat.add_comm 1 j] using this) (by simpa using hlen) (by simpa [lexMask] using hB) (by simpa [maskBut] using hM) (by simpa [pickOps,markOps] using h) X
 |true::m,o::l,k,listed,a,hcl,hEl,hl,hlen,hB,hM,h,X=>by
  have h0:ops[k]?=some o:=by simpa using (hl 0).symm
  simp only [lexMask,Bool.and_eq_true] at hB;obtain ⟨⟨hr,hf⟩,hB'⟩:=hB;simp only [maskBut,Bool.and_eq_true,decide_eq_true_eq] at hM;simp only [pickOps,markOps] at h;obtain ⟨v,hy,hK⟩:=ya2 h;have hr':k∈Region.ready md ops listed:=by simpa using hr
  refine yfl hLast hM.1 h0 (Region.noSelect_spec hs) (fun c a w h=>hQ c a _ _ w h) (n+countB m) listed a _ hcl hEl (Region.free_spec h0 hf) hr' hy ⟨X,rfl⟩ ?_;exact ybn hLast hs hQ n m l (k+1) _ _ (hcl.set hr') (fun k hk=>getD_set_true (hEl k hk)) (fun j=>by have:=hl (j+1);simpa [Nat.add_assoc,Nat.add_comm 1 j] using this) (by simpa using hlen) hB' hM.2 hK X
theorem ycx: ∀(E:List Nat) (listed:Array Bool),Closed md ops listed→movesOk md ops E listed=true→Closed md ops (movesList E listed)∧ ∀i,listed.getD i false=true∨E.contains i=true→(movesList E listed).getD i false=true
 |[],listed,hc,_=>⟨hc,fun i h=>by rcases h with h|h;exact h;simp at h⟩
 |i::E,listed,hc,hm=>by
  simp only [movesOk,Bool.and_eq_true] at hm;obtain ⟨⟨⟨h1,h2⟩,h3⟩,h4⟩:=hm;have hr:i∈Region.ready md ops listed:=by simpa using h2
  obtain ⟨c1,c2⟩:=ycx E _ (hc.set hr) h4;refine ⟨c1,fun k hk=>c2 k ?_⟩;rcases hk with hk|hk
  · exact Or.inl (getD_set_true hk)
  · by_cases hki:k=i
    · subst hki;refine Or.inl ?_;obtain ⟨_,o,ho,_⟩:=mem_ready.1 hr;have hlt:k<listed.size:=by rw [hc.1];exact (Array.getElem?_eq_some_iff.1 ho).1
      simp [hlt]
    · refine Or.inr ?_;simpa [hki] using hk
theorem yb7: ∀(m:List Bool) (k:Nat) (listed:Array Bool),Closed md ops listed→lexMask md ops m k listed=true→Closed md ops (markOps m k listed)
 |[],_,_,hc,_=>hc
 |false::m,k,listed,hc,h=>yb7 m (k+1) listed hc (by simpa [lexMask] using h)
 |true::m,k,listed,hc,h=>by
  simp only [lexMask,Bool.and_eq_true] at h;obtain ⟨⟨hr,hf⟩,hB'⟩:=h;exact yb7 m (k+1) _ (hc.set (by simpa using hr)) hB'
theorem yb3 {L:Nat}: ∀(m:List Bool) (k:Nat),k+m.length≤L→maskBut L m k=true
 |[],_,_=>rfl
 |true::m,k,h=>by
  simp only [List.length_cons] at h;simp only [maskBut,Bool.and_eq_true,decide_eq_true_eq];exact ⟨zo,yb3 m (k+1) zo⟩
 |false::m,k,h=>by
  simp only [List.length_cons] at h;simp only [maskBut];exact yb3 m (k+1) zo
theorem yaS {Q1 Q2:Act→Prop} (h: ∀a,Q1 a→Q2 a): ∀(l:List Oper) (a:Act),wpCalm P ops w0 Q1 l a→wpCalm P ops w0 Q2 l a
 |[],_,hh=>h _ hh
 |o::rest,a,hh=>by
  unfold wpCalm at hh ⊢;split
  · rename_i hw
    rw [if_pos hw] at hh;obtain ⟨v,h1,h2⟩:=hh;exact ⟨v,h1,yaS h rest _ h2⟩
  · rename_i hw
    rw [if_neg hw] at hh;exact yaS h rest _ hh
theorem yiL {n:Nat} {listed:Array Bool} {a:Act} {w:World} {l:List Oper} (hc:Closed md l.toArray listed) (hs:Region.noSelect l.toArray=true) (hQ: ∀(c:List PanicEntry) (a:Act) (d:Option Tmp) (v:Value) (w:World),Q (.panic c) (a.put d v) w→Q (.panic c) a w) (m:List Bool) (hlen:m.length≤l.length) (hn:countB m=n) (hB:lexMask md l.toArray m 0 listed=true) (hr:Region.ready md l.toArray (markOps m 0 listed)=[])
 (h: ∀X00:Extra,wpQuiet P l.toArray (fun w'=> ∃X:Extra,w'=w.patch ⟨X00.blocks++X.blocks,X.drawn⟩) (fun a'=> ∀X,Q .normal a' (w.patch X)) (pickOps m l) a):wpAny P md l.toArray Q n listed a w:=by
 subst hn;refine ya1 (w0:=w) (L:=l.toArray.size) _ _ _ _ ?_;obtain ⟨X,hX⟩:=Ext.refl w
 have h2:wpCalm P l.toArray w (fun a'=> ∀X,wpAnyM P md l.toArray Q w l.toArray.size 0 (markOps m 0 listed) a' (w.patch X)) (pickOps m l) a:=
  yaS (fun a' h3 X=>yaa hr (fun Y=>by
   obtain ⟨Z,hZ⟩:=(show Ext w ((w.patch X).patch Y) from Ext.trans ⟨X,rfl⟩ ⟨Y,rfl⟩);rw [hZ];exact h3 Z) 0) _ _ (yav _ _ h)
 have h4:=ybA (md:=md) (w0:=w) (L:=l.toArray.size) (by simp [Region.lastB]) hs hQ 0 m l 0 listed a hc (by simp) hlen hB (yb3 m 0 (by simpa using hlen)) h2 X;rw [←hX] at h4;simpa using h4
theorem yd1 {id:Nat} {a:Act} {w:World} {l:List Oper} (m:List Bool) (L:Nat) (o:Oper) (m2:List Bool) (hm:P.follows .mixedOrders=true) (hs:Region.noSelect l.toArray=true) (hLast:Region.lastE .any l.toArray [] L=true) (hQ: ∀(c:List PanicEntry) (a:Act) (d:Option Tmp) (v:Value) (w:World),Q (.panic c) (a.put d v) w→Q (.panic c) a w)
 (hlen:m.length≤l.length) (hlen2:m2.length≤l.length) (hn:countB m2+1+countB m=l.length) (hM:maskBut L m 0=true) (hB:lexMask .any l.toArray m 0 (Array.replicate l.length false)=true)
 (hr:Region.ready .any l.toArray (markOps m 0 (Array.replicate l.length false))=[L]) (ho:l[L]?=some o) (hg:o.guard=none)
 (hB2:lexMask .any l.toArray m2 0 ((markOps m 0 (Array.replicate l.length false)).setIfInBounds L true)=true) (hr2:Region.ready .any l.toArray (markOps m2 0 ((markOps m 0 (Array.replicate l.length false)).setIfInBounds L true))=[])
 (h: ∀X00:Extra,wpQuiet P l.toArray (fun w'=> ∃X:Extra,w'=w.patch ⟨X00.blocks++X.blocks,X.drawn⟩) (fun a'=> ∀X, ∀K:Act→World→Prop, ∀Q':Exit→Act→World→Prop,
  (∀a2 w2,(∀X02:Extra,wpQuiet P l.toArray (fun w'=> ∃X:Extra,w'=w2.patch ⟨X02.blocks++X.blocks,X.drawn⟩) (fun a3=> ∀Y,Q .normal a3 (w2.patch Y)) (pickOps m2 l) a2)→K a2 w2)→o.wp P a' (w.patch X) K Q') (pickOps m l) a):(Code.region id l.toArray true).wp P Q a w:=by
 have hcl:=yb7 (md:=.any) (ops:=l.toArray) m 0 _ (Closed.start l.length (by simp)) hB;have hcl2:=hcl.set (i:=L) (by rw [hr];exact List.mem_singleton.2 rfl);obtain ⟨X,hX⟩:=Ext.drew (Ext.refl w)
 have h2:wpCalm P l.toArray w (fun a'=> ∀X,wpAnyM P .any l.toArray Q w L (countB m2+1) (markOps m 0 (Array.replicate l.length false)) a' (w.patch X)) (pickOps m l) a:=by
  refine yaS (fun a' h3 X=>?_) _ _ (yav _ _ h);rintro w1 ⟨Y,rfl⟩;refine ⟨fun h0=>(by rw [hr] at h0;cases h0),fun j hj=>?_⟩;rw [hr] at hj;simp only [List.mem_singleton] at hj;subst hj;refine ⟨fun h0=>by omega,fun _=>?_⟩;obtain ⟨Z,hZ⟩:=(show Ext w ((w.patch X).patch Y) from Ext.trans ⟨X,rfl⟩ ⟨Y,rfl⟩);rw [hZ];have ho':l.toArray[j]?=some o:=by simpa using ho
  unfold wpOp;simp only [ho',Region.wanted,hg,if_true];exact .inl (h3 Z _ Q fun a2 w2 h4=>yiL hcl2 hs hQ m2 hlen2 rfl hB2 hr2 h4)
 have h5:=ybn (md:=.any) hLast hs hQ (countB m2+1) m l 0 (Array.replicate l.length false) a (Closed.start _ (by simp)) (fun i hi=>by simp at hi) (by simp) hlen hB hM h2 X;rw [←hX] at h5;refine wp_region_any hm ?_;have h6:=ya1 (w0:=w) (L:=L) _ _ _ _ h5;simpa [hn] using h6
theorem ybv {id:Nat} {a:Act} {w:World} {l:List Oper} (m:List Bool) (L:Nat) (m2:List Bool) {o:Oper}
 (h: ∀X00:Extra,wpQuiet P l.toArray (fun w'=> ∃X:Extra,w'=w.patch ⟨X00.blocks++X.blocks,X.drawn⟩) (fun a'=> ∀X, ∀K:Act→World→Prop, ∀Q':Exit→Act→World→Prop,
  (∀a2 w2,(∀X02:Extra,wpQuiet P l.toArray (fun w'=> ∃X:Extra,w'=w2.patch ⟨X02.blocks++X.blocks,X.drawn⟩) (fun a3=> ∀Y,Q .normal a3 (w2.patch Y)) (pickOps m2 l) a2)→K a2 w2)→o.wp P a' (w.patch X) K Q') (pickOps m l) a)
 (ho:l[L]?=some o:=by exact rfl) (hg:o.guard=none:=by exact rfl) (hm:P.follows .mixedOrders=true:=by kernel_rfl) (hs:Region.noSelect l.toArray=true:=by kernel_rfl) (hLast:Region.lastE .any l.toArray [] L=true:=by kernel_rfl)
 (hQ: ∀(c:List PanicEntry) (a:Act) (d:Option Tmp) (v:Value) (w:World),Q (.panic c) (a.put d v) w→Q (.panic c) a w:=by (intro c a d v w h;cases d<;>exact h))
 (hlen:m.length≤l.length:=by decide) (hlen2:m2.length≤l.length:=by decide) (hn:countB m2+1+countB m=l.length:=by decide) (hM:maskBut L m 0=true:=by decide) (hB:lexMask .any l.toArray m 0 (Array.replicate l.length false)=true:=by kernel_rfl)
 (hr:Region.ready .any l.toArray (markOps m 0 (Array.replicate l.length false))=[L]:=by kernel_rfl)
 (hB2:lexMask .any l.toArray m2 0 ((markOps m 0 (Array.replicate l.length false)).setIfInBounds L true)=true:=by kernel_rfl) (hr2:Region.ready .any l.toArray (markOps m2 0 ((markOps m 0 (Array.replicate l.length false)).setIfInBounds L true))=[]:=by kernel_rfl):(Code.region id l.toArray true).wp P Q a w:=
 yd1 m L o m2 hm hs hLast hQ hlen hlen2 hn hM hB hr ho hg hB2 hr2 h
end
end Go
namespace Go.Proofs.YtdhjjpnajjingaaGreat
open Go Go.RowKit
structure HaulS where
 c:Cnf
 frm:Int
 fin:Int
 sense:Bool
 pc:Int
 k:Int
 dst:Int
 head:Int
 d:Int
 j:Int
 wp:Nat
 wq:Nat
 e:Int
 moved:Int
 steps:Int
namespace HaulS
def cells (S:HaulS):List Value:=[zI z6 S.c.frags,zI z6 S.c.spine,zI z6 S.c.globals,zI z6 S.c.threads,zI z6 S.c.locals,zI z6 S.c.cache,zI z6 S.c.stack,zI z6 S.c.low,.slice S.c.A S.c.shapes.length S.c.cap,
 zI z6 S.frm,zI z6 S.fin,zb S.sense,zI z6 S.pc,zI z6 S.k,zI z6 S.dst,zI z6 S.head,zI z6 S.d,zI z6 S.j,zc z4 S.wp S.wq,zI z6 S.e,zI z6 S.moved,zI z6 S.steps]
def fresh (c:Cnf) (frm fin:Int) (sense:Bool):HaulS:=⟨c,frm,fin,sense,0,0,0,0,0,0,0,0,0,0,0⟩
def next (S:HaulS):HaulS:={ S with k:=S.k+(S.d+2),pc:=if S.fin≤S.k+(S.d+2) then 11 else 0 }
end HaulS
structure HaulAt (g:GW) (t b:Nat) (S:HaulS):Prop where
 blk:Blk g t b 214 S.cells
 cnf:CnfAt g (t+1) S.c
theorem HaulAt.keep {T:Nat→Prop} {g g':GW} {t b:Nat} {S:HaulS} (h:HaulAt g t b S) (m:Mod T g g') (h1: ¬T t) (h2: ¬T (t+1)):HaulAt g' t b S:=⟨h.blk.keep m h1,h.cnf.keep m h2⟩
theorem HaulAt.st {g:GW} {t b:Nat} {S:HaulS} (h:HaulAt g t b S) (i:Nat) (v:Value) (S':HaulS) (hc:S'.cells=S.cells.set i v) (hcc:S'.c=S.c):HaulAt ⟨g.own,g.w.setCell ⟨b,i,none⟩ v⟩ t b S':=by
 refine ⟨by rw [hc];exact h.blk.set i v,?_⟩;rw [hcc];exact h.cnf.keep (Mod.set (T:=fun x=>x=t) h.blk.own) zo
theorem yhX (g:GW) (t b:Nat) (S:HaulS) (h:HaulAt g t b S):Calls prog 104 #[zp (some ⟨b,0,none⟩)] g.w (fun e w'=>e=.returned (zI z6 S.e)∧g.w=w'):=by
 have c0:=h.blk.cell (i:=19) rfl;have hl:=h.blk.lt;clear h;go_enter func104,ntmps104;go_wp2_with fail;go_ret;exact ⟨rfl,rfl⟩
theorem yhY (g:GW) (t b:Nat) (S:HaulS) (h:HaulAt g t b S):Calls prog 105 #[zp (some ⟨b,0,none⟩)] g.w (fun e w'=>e=.returned (zI z6 S.moved)∧g.w=w'):=by
 have c0:=h.blk.cell (i:=20) rfl;have hl:=h.blk.lt;clear h;go_enter func105,ntmps105;go_wp2_with fail;go_ret;exact ⟨rfl,rfl⟩
def HaulMade (c:Cnf) (frm fin:Int) (sense:Bool) (t:Nat) (g:GW) (e:Ending) (w':World):Prop:= ∃own' b cm,e=.returned (zp (some ⟨b,0,none⟩))∧Mod (fun _=>False) g ⟨own',w'⟩∧HaulAt ⟨own',w'⟩ t b (HaulS.fresh cm frm fin sense)∧cm.Same c
theorem ykV (c:Cnf) (frm fin:Int) (sense:Bool) (t:Nat) (g:GW) (hc:c.Ok g.w) (hmax:c.shapes.length≤1000000):Calls prog 101 #[c.val,zI z6 frm,zI z6 fin,zb sense] g.w (HaulMade c frm fin sense t g):=by
 have HC:=zH (ybG c (t+1) (g.to 9 (g.w.alloc (.cells #[zI z6 c.frags,zI z6 c.spine,zI z6 c.globals,zI z6 c.threads,zI z6 c.locals,zI z6 c.cache,zI z6 c.stack,zI z6 c.low,.slice c.A c.shapes.length c.cap] 34))) (hc.ext zE) hmax);have HE0:=zH (Mod.ext (T:=fun _=>False) (g:=g) (show Ext g.w (g.w.alloc (.cells #[zI z6 c.frags,zI z6 c.spine,zI z6 c.globals,zI z6 c.threads,zI z6 c.locals,zI z6 c.cache,zI z6 c.stack,zI z6 c.low,.slice c.A c.shapes.length c.cap] 34)) from zE) 9);unfold Cnf.val at HC ⊢;clear hc;go_enter func101,ntmps101;go_wp2_with fail;refine HC.o.mono ?_;rintro e w1 ⟨cm,rfl,hs,hm,hE⟩;have HS:=zH hs;have HM:=zH hm;have HE1:=zH (Mod.ext (T:=fun _=>False) (g:=g.to 9 (g.w.alloc (.cells #[zI z6 c.frags,zI z6 c.spine,zI z6 c.globals,zI z6 c.threads,zI z6 c.locals,zI z6 c.cache,zI z6 c.stack,zI z6 c.low,.slice c.A c.shapes.length c.cap] 34))) hE (t+1));clear hs hm hE;unfold Cnf.val;go_wp2_with fail;go_ret
 have m2:Mod (fun _=>False) ((g.to 9 (g.w.alloc (.cells #[zI z6 c.frags,zI z6 c.spine,zI z6 c.globals,zI z6 c.threads,zI z6 c.locals,zI z6 c.cache,zI z6 c.stack,zI z6 c.low,.slice c.A c.shapes.length c.cap] 34))).to (t+1) w1) _:=Mod.ext (T:=fun _=>False) (show Ext w1 (w1.alloc (.cells (HaulS.fresh cm frm fin sense).cells.toArray 214)) from zE) t;exact ⟨_,w1.heap.size,cm,rfl,(HE0.o.trans HE1.o).trans m2,⟨Blk.new ((g.to 9 (g.w.alloc (.cells #[zI z6 c.frags,zI z6 c.spine,zI z6 c.globals,zI z6 c.threads,zI z6 c.locals,zI z6 c.cache,zI z6 c.stack,zI z6 c.low,.slice c.A c.shapes.length c.cap] 34))).to (t+1) w1) t 214 (HaulS.fresh cm frm fin sense).cells,HM.o.keep m2 id⟩,HS.o⟩
end Go.Proofs.YtdhjjpnajjingaaGreat
namespace Go
theorem yfn {P:Program} {a:Act} {w:World} {Q:Exit→Act→World→Prop} {c R:Code} (l:Nat) (J:Act→World→Prop) (μ:Act→World→Nat) (hf:findLabel c l=some (Code.skip.seq R))
 (pass: ∀a w,J a w→R.wp P (Exit.jump l (fun a' w'=>J a' w'∧μ a' w'<μ a w) Q) a w)
 (first:(∀a w,J a w→R.wp P (Exit.jump l J Q) a w)→c.wp P (Exit.jump l J Q) a w):(Code.scope c).wp P Q a w:=by
 refine wp_scope_jumps l J μ hf (first fun a w h=>wp_mono (pass a w h) fun e _ _ hq=>?_) fun a w h=>?_
 · cases e<;>first|exact hq|exact ⟨hq.1,hq.2.1⟩
 · exact wp_seq (wp_skip (pass a w h))
def Exit.jump2 (l0:Nat) (J0:Act→World→Prop) (l1:Nat) (J1:Act→World→Prop) (Q:Exit→Act→World→Prop):Exit→Act→World→Prop
 |.goto l,a,w=>(l=l0∧J0 a w)∨(l=l1∧J1 a w)
 |e,a,w=>Q e a w
theorem Exit.jump2_ret {l0 l1:Nat} {J0 J1:Act→World→Prop} {Q:Exit→Act→World→Prop} {a:Act} {w:World}:Exit.jump2 l0 J0 l1 J1 Q .ret a w=Q .ret a w:=rfl
section
variable {P:Program} {a:Act} {w:World} {Q:Exit→Act→World→Prop}
theorem ygn {c rest0 R:Code} (l0 l1:Nat) (J:Act→World→Prop) (μ:Act→World→Nat) (hf0:findLabel c l0=some rest0) (hf1:findLabel c l1=some (Code.skip.seq R))
 (pass: ∀a w,J a w→R.wp P (Exit.jump2 l0 (fun a w=>rest0.wp P (Exit.noGoto Q) a w) l1 (fun a' w'=>J a' w'∧μ a' w'<μ a w) Q) a w)
 (first:(∀a w,J a w→R.wp P (Exit.jump2 l0 (fun a w=>rest0.wp P (Exit.noGoto Q) a w) l1 J Q) a w)→c.wp P (Exit.jump2 l0 (fun a w=>rest0.wp P (Exit.noGoto Q) a w) l1 J Q) a w):(Code.scope c).wp P Q a w:=by
 have first':=first fun a w h=>wp_mono (pass a w h) fun e _ _ hq=>by
  cases e<;>first|exact hq|exact hq.imp id fun h=>⟨h.1,h.2.1⟩
 intro b k cs;have hg0:gotoIn l0 (.inScope c::k)=some (.code rest0::.inScope c::k):=by simp [gotoIn,hf0]
 have hg1:gotoIn l1 (.inScope c::k)=some (.code (Code.skip.seq R)::.inScope c::k):=by simp [gotoIn,hf1]
 have key0: ∀a w,rest0.wp P (Exit.noGoto Q) a w→ ∃e a' w',Q e a' w'∧Arrives P (lone (b.at a (.code rest0::.inScope c::k)) cs w) b k cs e a' w':=by
  intro a w h;obtain ⟨e,a₁,w₁,hq,harr⟩:=h b (.inScope c::k) cs;cases e with
  |normal=>exact ⟨.normal,a₁,w₁,hq,Steps.trans harr (.one step_inScope)⟩
  |exit id=>exact ⟨.exit id,a₁,w₁,hq,fun k' hk=>harr k' (by simp [exitTo,hk])⟩
  |goto l'=>exact hq.elim
  |ret=>exact ⟨_,a₁,w₁,hq,harr⟩
  |panic ch=>exact ⟨_,a₁,w₁,hq,harr⟩
  |outgrown=>exact ⟨_,a₁,w₁,hq,harr⟩
 have key: ∀n a w,μ a w=n→J a w→ ∃e a' w',Q e a' w'∧Arrives P (lone (b.at a (.code (Code.skip.seq R)::.inScope c::k)) cs w) b k cs e a' w':=by
  intro n;induction n using Nat.strongRecOn with
  |_ n ih=>
   intro a w hn hJ;obtain ⟨e,a₁,w₁,hq,harr⟩:=wp_seq (wp_skip (pass a w hJ)) b (.inScope c::k) cs;cases e with
   |normal=>exact ⟨.normal,a₁,w₁,hq,Steps.trans harr (.one step_inScope)⟩
   |exit id=>exact ⟨.exit id,a₁,w₁,hq,fun k' hk=>harr k' (by simp [exitTo,hk])⟩
   |goto l'=>
    rcases hq with ⟨rfl,hJ'⟩|⟨rfl,hJ',hlt⟩
    · obtain ⟨e₂,a₂,w₂,hq₂,harr₂⟩:=key0 a₁ w₁ hJ';exact ⟨e₂,a₂,w₂,hq₂,.of_steps (harr _ hg0) harr₂⟩
    · obtain ⟨e₂,a₂,w₂,hq₂,harr₂⟩:=ih _ zo a₁ w₁ rfl hJ';exact ⟨e₂,a₂,w₂,hq₂,.of_steps (harr _ hg1) harr₂⟩
   |ret=>exact ⟨_,a₁,w₁,hq,harr⟩
   |panic ch=>exact ⟨_,a₁,w₁,hq,harr⟩
   |outgrown=>exact ⟨_,a₁,w₁,hq,harr⟩
 obtain ⟨e,a₁,w₁,hq,harr⟩:=first' b (.inScope c::k) cs;cases e with
 |normal=>exact ⟨.normal,a₁,w₁,hq,.head step_scope (Steps.trans harr (.one step_inScope))⟩
 |exit id=>exact ⟨.exit id,a₁,w₁,hq,fun k' hk=>.head step_scope (harr k' (by simp [exitTo,hk]))⟩
 |goto l'=>
  rcases hq with ⟨rfl,hJ'⟩|⟨rfl,hJ'⟩
  · obtain ⟨e₂,a₂,w₂,hq₂,harr₂⟩:=key0 a₁ w₁ hJ';exact ⟨e₂,a₂,w₂,hq₂,.of_steps (.head step_scope (harr _ hg0)) harr₂⟩
  · obtain ⟨e₂,a₂,w₂,hq₂,harr₂⟩:=key _ a₁ w₁ rfl hJ';exact ⟨e₂,a₂,w₂,hq₂,.of_steps (.head step_scope (harr _ hg1)) harr₂⟩
 |ret=>exact ⟨_,a₁,w₁,hq,.of_steps (.one step_scope) harr⟩
 |panic ch=>exact ⟨_,a₁,w₁,hq,.of_steps (.one step_scope) harr⟩
 |outgrown=>exact ⟨_,a₁,w₁,hq,.of_steps (.one step_scope) harr⟩
end
end Go
namespace Go
def Exit.via (P:Program) (Q:Exit→Act→World→Prop):List (Nat × Code)→Exit→Act→World→Prop
 |[],.goto _,_,_=>False
 |(l',r)::L,.goto l,a,w=>(l=l'∧r.wp P (Exit.via P Q L) a w)∨Exit.via P Q L (.goto l) a w
 |_,e,a,w=>Q e a w
section
variable {P:Program} {a:Act} {w:World} {Q:Exit→Act→World→Prop}
theorem Exit.via_ret {L:List (Nat × Code)}:Exit.via P Q L .ret a w=Q .ret a w:=by cases L<;>rfl
theorem Exit.via_normal {L:List (Nat × Code)}:Exit.via P Q L .normal a w=Q .normal a w:=by cases L<;>rfl
theorem yaX {l:Nat} {r:Code} {L:List (Nat × Code)} (h:r.wp P (Exit.via P Q L) a w):Exit.via P Q ((l,r)::L) (.goto l) a w:=Or.inl ⟨rfl,h⟩
theorem ydw {l l':Nat} {r:Code} {L:List (Nat × Code)} (h:Exit.via P Q L (.goto l) a w):Exit.via P Q ((l',r)::L) (.goto l) a w:=Or.inr h
theorem ygj {l:Nat}: ∀{L:List (Nat × Code)},Exit.via P Q L (.goto l) a w→ ∃r L',(l,r)∈L∧L'.length<L.length∧(∀x∈L',x∈L)∧r.wp P (Exit.via P Q L') a w
 |[],h=>h.elim
 |(l',r)::L,h=>by
  rcases h with ⟨rfl,h⟩|h
  · exact ⟨r,L,List.mem_cons_self,Nat.lt_succ_self _,fun x hx=>List.mem_cons_of_mem _ hx,h⟩
  · obtain ⟨r2,L2,h1,h2,h3,h4⟩:=ygj h;exact ⟨r2,L2,List.mem_cons_of_mem _ h1,Nat.lt_succ_of_lt h2,fun x hx=>List.mem_cons_of_mem _ (h3 x hx),h4⟩
theorem ybf {c:Code} (L:List (Nat × Code)) (hL: ∀p∈L,findLabel c p.1=some p.2) (first:c.wp P (Exit.via P Q L) a w):(Code.scope c).wp P Q a w:=by
 intro b k cs
 have key: ∀(n:Nat) (L:List (Nat × Code)),L.length=n→(∀p∈L,findLabel c p.1=some p.2)→ ∀(r:Code) (a:Act) (w:World),r.wp P (Exit.via P Q L) a w→ ∃e a' w',Q e a' w'∧Arrives P (lone (b.at a (.code r::.inScope c::k)) cs w) b k cs e a' w':=by
  intro n;induction n using Nat.strongRecOn with
  |_ n ih=>
   intro L hn hL r a w h;obtain ⟨e,a₁,w₁,hq,harr⟩:=h b (.inScope c::k) cs;cases e with
   |normal=>exact ⟨.normal,a₁,w₁,by cases L<;>exact hq,Steps.trans harr (.one step_inScope)⟩
   |exit id=>exact ⟨.exit id,a₁,w₁,by cases L<;>exact hq,fun k' hk=>harr k' (by simp [exitTo,hk])⟩
   |goto l'=>
    obtain ⟨r2,L2,h1,h2,h3,h4⟩:=ygj hq;have hg:gotoIn l' (.inScope c::k)=some (.code r2::.inScope c::k):=by simp [gotoIn,hL _ h1]
    obtain ⟨e₂,a₂,w₂,hq₂,harr₂⟩:=ih L2.length zo L2 rfl (fun p hp=>hL p (h3 p hp)) r2 a₁ w₁ h4;exact ⟨e₂,a₂,w₂,hq₂,.of_steps (harr _ hg) harr₂⟩
   |ret=>exact ⟨.ret,a₁,w₁,by cases L<;>exact hq,harr⟩
   |panic ch=>exact ⟨.panic ch,a₁,w₁,by cases L<;>exact hq,harr⟩
   |outgrown=>exact ⟨.outgrown,a₁,w₁,by cases L<;>exact hq,harr⟩
 exact let ⟨e,a',w',hq,harr⟩:=key L.length L rfl hL c a w first;⟨e,a',w',hq,.of_steps (.one step_scope) harr⟩
end
end Go
namespace Go
open Go.RowKit Go.Maps
theorem yfK {l:List Int} {k:Nat} (h:k<l.length):l.getD k 0∈l:=by
 rw [List.getD_eq_getElem?_getD,List.getElem?_eq_getElem h];exact List.getElem_mem h
theorem yjl {l:List Int} {k:Nat} (h:k<l.length):l.take (k+1)=l.take k++[l.getD k 0]:=by
 rw [List.take_add_one,List.getElem?_eq_getElem h,List.getD_eq_getElem?_getD,List.getElem?_eq_getElem h];rfl
def keyI (x:Int):Lit:=.int .i64 x
theorem yk1 (l:List Int): ∀x∈l.map keyI,WideAt.IsKeyLit x:=by
 intro x hx;obtain ⟨y,_,rfl⟩:=List.mem_map.1 hx;trivial
theorem yjG (x y:Int):(keyI x).sameKey (keyI y)=decide (x=y):=by
 simp [keyI,Lit.sameKey]
def addI (acc:List Int) (x:Int):List Int:=if x∈acc then acc else acc++[x]
theorem yc4: ∀(l acc:List Int),(l.map keyI).foldl addKey (acc.map keyI)=(l.foldl addI acc).map keyI
 |[],_=>rfl
 |x::l,acc=>by
  simp only [List.map_cons,List.foldl_cons]
  have h:addKey (acc.map keyI) (keyI x)=(addI acc x).map keyI:=by
   unfold addKey addI
   have e:((acc.map keyI).any fun y=>y.sameKey (keyI x))=decide (x∈acc):=by
    rw [Bool.eq_iff_iff];simp only [List.any_map,List.any_eq_true,Function.comp,yjG,decide_eq_true_eq];exact ⟨fun ⟨y,hy,e⟩=>e▸hy,fun hx=>⟨x,hx,rfl⟩⟩
   rw [e];by_cases hx:x∈acc<;>simp [hx]
  rw [h,yc4 l]
theorem ybK: ∀(l acc:List Int),(l.foldl addI acc).length≤acc.length+l.length
 |[],_=>by simp
 |x::l,acc=>by
  have:=ybK l (addI acc x);have h2:(addI acc x).length≤acc.length+1:=by unfold addI;split<;>simp
  simp only [List.foldl_cons,List.length_cons];omega
theorem ycH: ∀(l acc:List Int),acc.Nodup→((l.foldl addI acc).length=acc.length+l.length↔(acc++l).Nodup)
 |[],acc,h=>by simp [h]
 |x::l,acc,h=>by
  simp only [List.foldl_cons,List.length_cons];by_cases hx:x∈acc
  · have:=ybK l acc;have e:addI acc x=acc:=by simp [addI,hx]
    rw [e];constructor
    · intro h';omega
    · intro h';rw [List.nodup_append] at h';exact absurd rfl (h'.2.2 x hx x (by simp))
  · have e:addI acc x=acc++[x]:=by simp [addI,hx]
    rw [e]
    have hn:(acc++[x]).Nodup:=by
     rw [List.nodup_append];refine ⟨h,by simp,fun a ha b hb=>?_⟩;simp at hb;subst hb;rintro rfl;exact hx ha
    have:=ycH l (acc++[x]) hn;simp only [List.length_append,List.length_cons,List.length_nil] at this;rw [show acc.length+(l.length+1)=acc.length+(0+1)+l.length by omega,this,List.append_assoc];rfl
def twiceIn (l:List Int):Bool:=decide (¬l.Nodup)
theorem ykh (u:DataW Unit) (l:List Int):decide (Maps.size (setOf u (l.map keyI))<l.length)=twiceIn l:=by
 rw [size_setOf u _ (yk1 l)];have h:=yc4 l [];simp only [List.map_nil] at h;rw [h,List.length_map,twiceIn];have h1:=ybK l [];have h2:=ycH l [] List.nodup_nil;simp only [List.length_nil,Nat.zero_add,List.nil_append] at h1 h2;rw [decide_eq_decide, ←h2];omega
theorem yly {H:Type} {w w':World} {P:Program} {k:TypeId} {R:Value→Option (DataW H × List MemPlace)} {b n:Nat} {D:DataW H} (h:w.ownsMap P k R b n D) (he:Ext w w'):w'.ownsMap P k R b n D:=by
 obtain ⟨es,clock,hb,rest⟩:=h;exact ⟨es,clock,(he.heap b (Array.getElem?_eq_some_iff.1 hb).1).trans hb,rest⟩
end Go
namespace Go.Proofs.YtdhjjpnajjingaaGreat
open Go Go.RowKit Go.Maps
def fewTo (l:List Shp) (k:Nat):Bool:=(l.take k).all fun s=>decide (s.refs.length≤1000)
def Few (c:Cnf):Bool:=fewTo c.shapes 100&&decide (c.shapes.length≤100)
def fragOk (c:Cnf) (i:Int):Bool:=decide (c.check=0∧0≤i∧i<c.frags)
def wFrags (c:Cnf) (got:List Int):Value:=if got.all (fragOk c) then .tuple #[zb false,zb (twiceIn got)] else .tuple #[zb true,zb false]
theorem ymb:Keyed prog 3:=int_keyed Tryz.underlying3
theorem yji (c:Cnf) (A:Option Addr) (cap:Nat) (got:List Int) (w:World) (hc:c.Ok w) (hg:CellsAt w A (got.map (zI z6))) (hl:got.length≤140737488355328) (hw: ∀x∈got, -9223372036854775808≤x∧x≤9223372036854775807):
 Calls prog 256 #[c.val,.slice A got.length cap] w (Gives (wFrags c got) w):=by
 have hmm:= @run_makeMap prog;have HC:=zH (fun i w' (he:Ext w w')=>ybL c i 0 w' (hc.ext he));unfold Cnf.val at HC ⊢;go_enter func256,ntmps256;go_wp2_with fail;go_loopw [14] (fun i wr=> ∃k:Nat,k≤got.length∧i=.int .i64 k∧(got.take k).all (fragOk c)=true∧wr.ownsMap prog 3 (plainElem (H:=Unit) prog 4) (w.heap.size+1) k (setOf (.lit (.bool true)) ((got.take k).map keyI))∧Ext (w.alloc (.cells #[.int .i64 c.frags,.int .i64 c.spine,.int .i64 c.globals,.int .i64 c.threads,.int .i64 c.locals,.int .i64 c.cache,.int .i64 c.stack,.int .i64 c.low,.slice c.A c.shapes.length c.cap] 34)) wr) (fun i _=>got.length-(intOf i).toNat)
 case atStart=>exact ⟨0,Nat.zero_le _,rfl,rfl,by have:=World.ownsMap_made (H:=Unit) (w.alloc (.cells #[zI z6 c.frags,zI z6 c.spine,zI z6 c.globals,zI z6 c.threads,zI z6 c.locals,zI z6 c.cache,zI z6 c.stack,zI z6 c.low,.slice c.A c.shapes.length c.cap] 34)) prog 3 (plainElem (H:=Unit) prog 4);simpa [setOf] using this,zE⟩
 case round=>
  obtain ⟨k,hk,rfl,hs,hown,X,rfl⟩:=hrel;have HS:=zH hs;have HO:=zH hown;clear hs hown hmm;by_cases hlt:k<got.length
  · obtain ⟨b,o,hA,hb,hcell⟩:=yaD hg hlt;rw [hA];have g0:=hcell k hlt;have hwx:=hw _ (yfK hlt);have HT:=zH (yjl hlt);have HN:=zH (show fragOk c (got.getD k 0)=false→got.all (fragOk c)=false from fun h=>List.all_eq_false.2 ⟨got.getD k 0,yfK hlt,by rw [h];decide⟩);generalize got.getD k 0=x at *;clear hA hg hcell hw;cases hx:fragOk c x
    · have HX:=zH (show cFrag c x 0=.tuple #[zI z6 0,zI z6 1] from if_neg (fun h=>of_decide_eq_false hx ⟨h.1,h.2.1,h.2.2.1⟩));have HF:=zH (HN.o hx);clear hx;go_wp2_with (go_at_call 214;refine (HC.o _ _ zE).mono ?_;rw [HX.o];rintro e w1 ⟨rfl,X1,rfl⟩);go_ret2;unfold wFrags;rw [HF.o];exact Gives.mk rfl zE
    · have hx':c.check=0∧0≤x∧x<c.frags:=by simpa [fragOk] using hx
      have HX:=zH (show cFrag c x 0=.tuple #[zI z6 (x*8+0),zI z6 0] by unfold cFrag;rw [if_pos ⟨hx'.1,hx'.2.1,hx'.2.2,zo,zo⟩]);have HY:=zH (show (got.take (k+1)).all (fragOk c)=true by rw [HT.o,List.all_append,HS.o];simp [hx]);clear hx hx';obtain ⟨hw1,hw2⟩:=hwx
      go_wp2_with (first
       |(go_at_call 214;refine (HC.o _ _ zE).mono ?_;rw [HX.o];rintro e w1 ⟨rfl,X1,rfl⟩)
       |(at_mapUpdate;refine wpList_mapUpdate_own _ rfl _ _ _ 298 rfl 3 4 ymb Tryz.underlying298 _ (w.heap.size+1) k _ rfl (yly HO.o zE) (by unfold maxLen;omega) _ _ (keyI x) rfl rfl (keyOf_int_mk Tryz.underlying3 (WalkArith.wf_i64 zo)) _ [] (plainElem_bool Tryz.underlying4 true) ?_;intro w1 hown1 hgrow1))
      have HR:=zH (yaC (w:=w.alloc (.cells #[zI z6 c.frags,zI z6 c.spine,zI z6 c.globals,zI z6 c.threads,zI z6 c.locals,zI z6 c.cache,zI z6 c.stack,zI z6 c.low,.slice c.A c.shapes.length c.cap] 34)) zE hgrow1 (fun j hj=>by cases hj;simp));go_roundw
      case rel=>exact ⟨k+1,zo,by go_num,HY.o,by rw [HT.o,List.map_append,List.map_cons,List.map_nil,setOf_snoc];exact hown1,HR.o⟩
      case measure=>simp [intOf];omega
  · obtain rfl:k=got.length:=zo;rw [List.take_of_length_le (Nat.le_refl _)] at HS HO;go_wp2_with (at_len;refine wpList_len_own _ rfl _ 298 rfl 3 4 Tryz.underlying298 _ (w.heap.size+1) got.length _ rfl HO.o ?_);go_ret2;unfold wFrags;rw [HS.o];exact Gives.bb rfl (by rw [←ykh (.lit (.bool true))]) zE
open Go Go.RowKit
theorem yeH:(prog.info? 194).map (fun i=>(i.zero,i.size,i.bytes))=some (some (.agg #[zI z6 0,zc z4 0 0]),2,24):=zQ
theorem yh2 (x0 x1 x2 x3 x4 x5 x6 x7:Value) (w:World):
 (Instr.index 254 (.agg #[x0,x1,x2,x3,x4,x5,x6,x7]) (zI z6 ((0:Nat):Int))).run prog w=.ok x0 w∧
 (Instr.index 254 (.agg #[x0,x1,x2,x3,x4,x5,x6,x7]) (zI z6 ((1:Nat):Int))).run prog w=.ok x1 w∧
 (Instr.index 254 (.agg #[x0,x1,x2,x3,x4,x5,x6,x7]) (zI z6 ((2:Nat):Int))).run prog w=.ok x2 w∧
 (Instr.index 254 (.agg #[x0,x1,x2,x3,x4,x5,x6,x7]) (zI z6 ((3:Nat):Int))).run prog w=.ok x3 w∧
 (Instr.index 254 (.agg #[x0,x1,x2,x3,x4,x5,x6,x7]) (zI z6 ((4:Nat):Int))).run prog w=.ok x4 w∧
 (Instr.index 254 (.agg #[x0,x1,x2,x3,x4,x5,x6,x7]) (zI z6 ((5:Nat):Int))).run prog w=.ok x5 w∧
 (Instr.index 254 (.agg #[x0,x1,x2,x3,x4,x5,x6,x7]) (zI z6 ((6:Nat):Int))).run prog w=.ok x6 w∧
 (Instr.index 254 (.agg #[x0,x1,x2,x3,x4,x5,x6,x7]) (zI z6 ((7:Nat):Int))).run prog w=.ok x7 w:=
 ⟨zQ,zQ,zQ,zQ,zQ,zQ,zQ,zQ⟩
theorem yl9 (f:Nat→Nat × Nat) (k:Nat) (hk:k<8) (w:World):(Instr.index 254 (.agg #[cx (f 0),cx (f 1),cx (f 2),cx (f 3),cx (f 4),cx (f 5),cx (f 6),cx (f 7)]) (zI z6 k)).run prog w=.ok (cx (f k)) w:=by
 obtain ⟨h0,h1,h2,h3,h4,h5,h6,h7⟩:=yh2 (cx (f 0)) (cx (f 1)) (cx (f 2)) (cx (f 3)) (cx (f 4)) (cx (f 5)) (cx (f 6)) (cx (f 7)) w;rcases (show k=0∨k=1∨k=2∨k=3∨k=4∨k=5∨k=6∨k=7 by omega) with rfl|rfl|rfl|rfl|rfl|rfl|rfl|rfl
 · exact h0
 · exact h1
 · exact h2
 · exact h3
 · exact h4
 · exact h5
 · exact h6
 · exact h7
theorem ykb {w0 wr w1 w3:World} {l v':Value} {base m bb:Nat} {T:TypeId} {size:Nat} {xs:List Value} {o:Obj} (HR:wr.ownsRow base T size l m xs) (HX:Ext w0 wr) (HB:wr.heap[bb]?=some o) (HD:l.ownBlock≠some bb) (hg:w1.grownBy w3 l.ownBlock) (he:Ext wr w1) (hb0:w0.heap.size≤base) (hblk:v'.ownBlock=l.ownBlock∨v'.ownBlock=some w1.heap.size):
 Ext w0 w3∧w3.heap[bb]?=some o∧v'.ownBlock≠some bb∧wr.heap.size≤w3.heap.size:=by
 have h1:=he.size;have hb:bb<wr.heap.size:=(Array.getElem?_eq_some_iff.1 HB).1;refine ⟨yaC (HX.trans he) hg (fun k hk=>Nat.le_trans hb0 (HR.lt k hk).1),?_,?_,Nat.le_trans h1 hg.size⟩
 · rw [hg.block bb zo (fun e=>HD e.symm),he.heap bb hb,HB]
 · rcases hblk with h|h
   · rw [h];exact HD
   · rw [h];intro e;injection e with e;omega
def WholeGot (w0:World) (base:Nat) (n:Nat) (xs:List Value) (i:Int) (f:Nat→Nat × Nat) (w:World) (e:Ending) (w':World):Prop:=
 ∃v',e=.returned v'∧w'.ownsRow base 194 2 v' (n+8) (xs++writes i f 8)∧Ext w0 w'∧w.heap.size≤w'.heap.size
theorem yee (c:Cnf) (v:Value) (n:Nat) (xs:List Value) (i:Int) (f:Nat→Nat × Nat) (w w0:World) (base:Nat) (hc:c.Ok w0) (hi:fragOk c i=true) (he:Ext w0 w) (hb0:w0.heap.size≤base) (hbase:base≤w.heap.size) (hown:w.ownsRow base 194 2 v n xs) (hn:n≤1000000) (hf:c.frags≤1099511627776):
 Calls prog 222 #[c.val,v,zI z6 i,.agg (cxs f).toArray] w (WholeGot w0 base n xs i f w):=by
 obtain ⟨i0,hi0,hz0,hz1,hz2⟩:=info_parts yeH;have hi':c.check=0∧0≤i∧i<c.frags:=by simpa [fragOk] using hi
 have HF:=zH (fun (k:Nat) (hk:k<8) w' (he':Ext w0 w')=>show Calls prog 214 #[c.val,zI z6 i,zI z6 k] w' (Gives (.tuple #[zI z6 (i*8+k),zI z6 0]) w') from (show cFrag c i k=Value.tuple #[zI z6 (i*8+k),zI z6 0] by unfold cFrag;rw [if_pos ⟨hi'.1,hi'.2.1,hi'.2.2,zo,zo⟩])▸ybL c i k w' (hc.ext he'));have HE:=zH he;have HO:=zH hown;have hi1:=hi'.2.1;have hi2:i≤1099511627776:=zo;clear hi hi' hown he hc hf;unfold Cnf.val at HF ⊢;rw [show (cxs f).toArray=#[cx (f 0),cx (f 1),cx (f 2),cx (f 3),cx (f 4),cx (f 5),cx (f 6),cx (f 7)] from rfl];unfold cx;go_enter func222,ntmps222;go_wp2_with fail;go_loopw [1,14] (fun l j wr=> ∃k:Nat,k≤8∧j=zI z6 k∧wr.ownsRow base 194 2 l (n+k) (xs++writes i f k)∧Ext w0 wr∧wr.heap[w.heap.size]?=some (.cells #[zI z6 c.frags,zI z6 c.spine,zI z6 c.globals,zI z6 c.threads,zI z6 c.locals,zI z6 c.cache,zI z6 c.stack,zI z6 c.low,.slice c.A c.shapes.length c.cap] 34)∧l.ownBlock≠some w.heap.size∧w.heap.size≤wr.heap.size) (fun _ i _=>8-(intOf i).toNat)
 case atStart=>exact ⟨0,Nat.zero_le _,rfl,by simpa [writes] using yaQ HO.o (show Ext w _ from zE),HE.o.trans zE,by rw [World.row_alloc_past _ (by rw [World.size_alloc];omega)];exact World.row_alloc_new _,fun h=>by have:=(HO.o.lt _ h).2;omega,Ext.size zE⟩
 case round=>
  obtain ⟨k,hk,rfl,hrow,hext,hbox,hdis,hsz⟩:=hrel;have HR:=zH hrow;have HX:=zH hext;have HB:=zH hbox;have HD:=zH hdis;by_cases hlt:k<8
  · have hbb:w.heap.size<wr.heap.size:=(Array.getElem?_eq_some_iff.1 hbox).1;have g0:wr.cell? ⟨w.heap.size,0,none⟩=some (zI z6 c.frags):=by simp only [World.cell?,hbox];rfl
    have g1:wr.cell? ⟨w.heap.size,1,none⟩=some (zI z6 c.spine):=by simp only [World.cell?,hbox];rfl
    have g2:wr.cell? ⟨w.heap.size,2,none⟩=some (zI z6 c.globals):=by simp only [World.cell?,hbox];rfl
    have g3:wr.cell? ⟨w.heap.size,3,none⟩=some (zI z6 c.threads):=by simp only [World.cell?,hbox];rfl
    have g4:wr.cell? ⟨w.heap.size,4,none⟩=some (zI z6 c.locals):=by simp only [World.cell?,hbox];rfl
    have g5:wr.cell? ⟨w.heap.size,5,none⟩=some (zI z6 c.cache):=by simp only [World.cell?,hbox];rfl
    have g6:wr.cell? ⟨w.heap.size,6,none⟩=some (zI z6 c.stack):=by simp only [World.cell?,hbox];rfl
    have g7:wr.cell? ⟨w.heap.size,7,none⟩=some (zI z6 c.low):=by simp only [World.cell?,hbox];rfl
    have g8:wr.cell? ⟨w.heap.size,8,none⟩=some (.slice c.A c.shapes.length c.cap):=by simp only [World.cell?,hbox];rfl
    have HS:=zH hsz;have HBA:=zH (Nat.le_trans hbase hsz);clear hbase;clear hrow hext hbox hdis hsz;generalize w.heap.size=bb at *;have hx:=fun w=>yl9 f k hlt w;unfold cx at hx;generalize hfk:f k=fk at hx;have HK:=zH hfk;clear hfk;go_wp2_with fail;refine (HF.o k hlt _ HX.o).mono ?_;rintro e w1 ⟨rfl,X1,rfl⟩;go_wp2_with (at_builtin;refine wpList_append_own_at _ rfl (.tmp 25) (.tmp 29) 99 rfl base 194 i0 (.agg #[zI z6 0,zc z4 0 0]) 2 24 Tryz.underlying99 hi0 hz0 hz1 hz2 rfl zd _ (n+k) _ rfl (yaQ HR.o (show Ext wr _ from zE)) _ 1 1 [zI z6 (i*8+k),zc z4 fk.1 fk.2] rfl rfl (ybk _ _ _) (by intro u hu;simp at hu;rcases hu with rfl|rfl<;>rfl) (by unfold maxLen;omega) zo (Nat.le_trans (HBA.o) (Ext.size (show Ext wr _ from zE))) ?_;intro v' w3 hown3 hgrow3 _ hblk3);obtain ⟨r1,r2,r3,r4⟩:=ykb HR.o HX.o HB.o HD.o hgrow3 (show Ext wr _ from zE) hb0 hblk3;refine ⟨⟨k+1,zo,by go_num,?_,r1,r2,r3,Nat.le_trans HS.o r4⟩,by simp [intOf];omega⟩;rw [writes,HK.o, ←List.append_assoc];exact hown3
  · obtain rfl:k=8:=zo;go_wp2_with fail;go_ret;exact ⟨_,rfl,HR.o,HX.o,hsz⟩
structure ShAt (g:GW) (t b bt tt bp:Nat) (T:TabS) (n:Int):Prop where
 blk:Blk g t b 57 [zp (some ⟨bt,0,none⟩),zp (some ⟨bp,0,none⟩),zI z6 n]
 tab:TabAt g tt bt T
theorem ShAt.keep {S:Nat→Prop} {g g':GW} {t b bt tt bp:Nat} {T:TabS} {n:Int} (h:ShAt g t b bt tt bp T n) (m:Mod S g g') (h1: ¬S t) (h2: ¬S tt):ShAt g' t b bt tt bp T n:=⟨h.blk.keep m h1,h.tab.keep m h2⟩
theorem yh8 (g:GW) (t b bm bs:Nat) (S:HaulS) (h:HaulAt g t b S) (hpc:S.pc=0) (hfin:S.fin=0):
 Calls prog 231 #[zp (some ⟨b,0,none⟩),zp (some ⟨bm,0,none⟩),zp (some ⟨bs,0,none⟩)] g.w (Does (zb true) g (fun x=>x=t) (fun g'=>HaulAt g' t b { S with pc:=11 })):=by
 have c0:=h.blk.cell (i:=12) rfl;have c1:=h.blk.cell (i:=10) rfl;have f12:=h.blk.live 12;have hl:=h.blk.lt;rw [hpc] at c0;rw [hfin] at c1;have HO:=zH h.blk.own;have H:=zH (h.st 12 (zI z6 11) { S with pc:=11 } rfl rfl);clear h hpc hfin;go_enter func231,ntmps231;go_wp2_with fail;go_step3
 go_wp2_with fail;(try rw [Exit.noGoto_ret]);go_ret;exact ⟨rfl,g.own,Mod.st Mod.self HO.o,H.o⟩
structure CyS where
 stage:Int
 at_:Int
 i:Int
 head:Int
 rescan:Bool
 sense:Bool
 started:Int
 finished:Int
 freed:Int
 moved:Int
 steps:Int
 e:Int
namespace CyS
def cells (Y:CyS) (tp hp:Option Addr):List Value:=[zI z6 Y.stage,zI z6 Y.at_,zI z6 Y.i,zI z6 Y.head,zb Y.rescan,.pointer tp,.pointer hp,zb Y.sense,zI z6 Y.started,zI z6 Y.finished,zI z6 Y.freed,zI z6 Y.moved,zI z6 Y.steps,zI z6 Y.e]
def fresh:CyS:=⟨0,0,0,0,false,false,0,0,0,0,0,0⟩
def enters (Y:CyS) (s:Int):CyS:={ Y with stage:=s,at_:=0,i:=0 }
end CyS
structure CyW where
 y:CyS
 tr:Option TraceS
 h:Option HaulS
 K:CoreS
namespace CyW
def polled (W:CyW):Bool:=W.K.hand.polled W.y.i
def nextI (W:CyW):Int:=if W.polled then W.y.i+1 else W.y.i
def pollsB (W:CyW):Bool:=W.nextI==W.K.c.threads
def polls (W:CyW):CyW:={ W with y:={ W.y with i:=W.nextI },K:={ W.K with hand:=W.K.hand.tick } }
def posts (W:CyW) (s:Int) (flip:Bool):CyW:={ W with K:={ W.K with hand:=W.K.hand.post s flip } }
def atY (W:CyW) (a:Int):CyW:={ W with y:={ W.y with at_:=a } }
def ent (W:CyW) (s:Int):CyW:={ W with y:=W.y.enters s }
def hands (W:CyW) (status stage:Int):CyW:=if W.y.at_=0 then (if W.pollsB then W.polls.atY 2 else W.polls) else (W.posts status false).ent stage
def spc (W:CyW) (S:SpaceS):CyW:={ W with K:={ W.K with sp:=S } }
def starts (W:CyW):CyW:=if W.y.at_=0 then (W.spc (beginS W.K.sp)).atY 2 else
 let V:=W.posts 1 true
 CyW.ent { V with y:={ V.y with started:=V.y.started+1,sense:= !V.y.sense,steps:=0 } } 2
def turns (W:CyW):CyW:=if W.y.at_=0 then (W.spc (turnS W.K.sp)).atY 2 else if W.y.at_=2 then (W.posts 4 false).atY 1 else if W.pollsB then { W.polls.ent 7 with h:=none } else W.polls
def settles (W:CyW):CyW:=if W.y.at_=0 then (if W.pollsB then W.polls.atY 7 else W.polls) else (W.spc (doneS W.K.sp)).ent 9
def swept (W:CyW):Bool:=sweeps W.K.sp W.y.i W.y.sense
def sweep1 (W:CyW):CyW:={ W.spc (sweepS W.K.sp W.y.i W.y.sense) with y:={ W.y with freed:=if W.swept then W.y.freed+1 else W.y.freed,i:=W.y.i+1 } }
def sweepsY (W:CyW):CyW:=if W.y.i+1=W.K.c.frags then W.sweep1.ent 10 else W.sweep1
def serves (W:CyW):CyW:=if W.y.at_=0 then (W.spc (endS W.K.sp)).atY 7 else
 let V:=W.spc (serve W.K.sp W.y.sense).2
 if (serve W.K.sp W.y.sense).1 then V else CyW.ent { V with y:={ V.y with finished:=V.y.finished+1 } } 0
end CyW
end Go.Proofs.YtdhjjpnajjingaaGreat
