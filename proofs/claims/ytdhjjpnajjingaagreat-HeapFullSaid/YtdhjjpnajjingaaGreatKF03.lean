import Derived.Test.YtdhjjpnajjingaaGreatKF02
import Derived.Test.YtdhjjpnajjingaaGreatChecked
import Derived.Deep.DeepCutAuto
import Derived.Laws.FloatArith
import Derived.Laws.Externs
set_option linter.unusedVariables false
set_option linter.unnecessarySimpa false
set_option linter.unusedSimpArgs false
open Bool renaming true→zT,false→zU
open Go.Value renaming int→zI,complex→zc,pointer→zp,bool→zb
open Go.IntKind renaming i64→z6
open Go.FloatKind renaming f64→z4
set_option maxHeartbeats 8000000
set_option maxRecDepth 100000
open Go.Proofs.Tryz
open Go.Lib renaming hid→zH
open Go.Ext renaming alloc→zA,patch→zP,drew→zD,drewN→zN,more→zM,refl→zR,setCell→zS
open Nat renaming le_refl→zL,le_add_right→zK
namespace Go
open Go.RowKit
theorem PoolS.taken_some {p:PoolS} {k:Int} (h1:1≤k) (h2:k≤(p.free:Int)): ∃l,p.taken k=some l:=by
 unfold taken;rw [if_neg zo];cases p.run k with
 |none=>exact ⟨_,rfl⟩
 |some a=>exact ⟨_,rfl⟩
def SpaceS.tick (S:SpaceS):SpaceS:={ S with count:=S.count+1 }
theorem Mod.ofExt {w w':World} (h:Ext w w') (own:Nat→Nat): ∃own',Mod (fun _=>False) ⟨own,w⟩ ⟨own',w'⟩:=⟨_,Mod.ext (g:=⟨own,w⟩) h 0⟩
theorem put3 {T:Nat→Prop} {g:GW} {o:Nat→Nat} {w:World} {X:Nat} {v0 v1 v2:Value} (M:Mod T g ⟨o,w⟩) (hX:g.w.heap.size≤X) (h9:o X=9):
 Mod T g ⟨o,((w.setCell ⟨X,0,none⟩ v0).setCell ⟨X,1,none⟩ v1).setCell ⟨X,2,none⟩ v2⟩∧Mod (fun x=>x=9) ⟨o,w⟩ ⟨o,((w.setCell ⟨X,0,none⟩ v0).setCell ⟨X,1,none⟩ v1).setCell ⟨X,2,none⟩ v2⟩:=
 ⟨Mod.stn (Mod.stn (Mod.stn M hX) hX) hX,Mod.st (Mod.st (Mod.st (Mod.refl _ _) h9) h9) h9⟩
theorem Row.none {g:GW} {t:Nat} {E:TypeId} {size n c:Nat} {xs:List Value} (h:Row g t E size (.slice none n c) n xs):n=0∧c=0:=by
 rcases h.row.2 with ⟨hv,hn⟩|⟨b,cap,cur,hv,_⟩
 · injection hv with _ h1 h2;exact ⟨h1,h2⟩
 · injection hv with h1;cases h1
end Go
namespace Go.Proofs.YtdhjjpnajjingaaGreat
open Go Go.RowKit
abbrev AskR:=(Int × List Int × Int) × SpaceS
def noStock:StockS:=⟨[],0⟩
def stockOf (S:SpaceS) (t:Int):StockS:=S.stocks.getD t.toNat noStock
def askOwn (S:SpaceS) (t fr:Int) (sense:Bool):SpaceS:=
 { S with stocks:=S.stocks.set t.toNat ⟨(stockOf S t).l.drop fr.toNat,(stockOf S t).most⟩,tab:=S.tab.setAll ((stockOf S t).l.take fr.toNat) 2 sense }
def askGot (S:SpaceS) (fr:Int):List Int:=(S.pool.taken fr).getD []
def askMore (S:SpaceS) (t fr sp:Int):List Int:=(takesS S (askGot S fr) sp).pool.lowOnes ((stockOf S t).most-(stockOf S t).l.length)
def askAll (S:SpaceS) (t fr sp:Int) (sense:Bool):SpaceS:=
 { takesS S (askGot S fr) sp with
   pool:=(takesS S (askGot S fr) sp).pool.takes (askMore S t fr sp)
   tab:=((takesS S (askGot S fr) sp).tab.setAll (askGot S fr) 2 sense).setAll (askMore S t fr sp) 1 sense
   stocks:=S.stocks.set t.toNat ⟨(stockOf S t).l++askMore S t fr sp,(stockOf S t).most⟩ }
def askNo (S:SpaceS) (t fr sp:Int):Bool:= !inB t S.stocks.length || decide (fr<1) || decide (sp<0) || decide (0≤placeOf (ofB t) S.line)
def ask (S:SpaceS) (t fr sp:Int) (sense:Bool):AskR:=
 if askNo S t fr sp then ((3,[], -1),S.tick)
 else if sp=0∧fr≤(stockOf S t).l.length then ((1,(stockOf S t).l.take fr.toNat, -1),askOwn S.tick t fr sense)
 else if 0<Ent.wait S.line∨S.fits fr sp=false then ((0,[], -1),{ S.tick with line:=S.line++[Ent.asked t fr sp] })
 else ((1,askGot S fr,takesAt S (askGot S fr) sp),askAll S.tick t fr sp sense)
def GrantIs (r:Int × List Int × Int) (v:Value) (g':GW):Prop:= ∃A c,v=.agg #[zI z6 r.1,.slice A r.2.1.length c,zI z6 r.2.2]∧Row g' 0 3 1 (.slice A r.2.1.length c) r.2.1.length (r.2.1.map (zI z6))
theorem ycs (t fr sp:Int) (sense:Bool) (g:GW) (B b bt:Nat) (S:SpaceS) (h:SpaceAt g B b bt S) (hB:100≤B) (hc:0≤S.count∧S.count≤1099511627776) (hL:S.line.length<1000000):
 Calls prog 205 #[zp (some ⟨b,0,none⟩),zI z6 t,zI z6 fr,zI z6 sp,zb sense] g.w (Makes g (inst B) (fun v g'=>GrantIs (ask S t fr sp sense).1 v g'∧SpaceAt g' B b bt (ask S t fr sp sense).2)):=by
 obtain ⟨bp,bk,bl,A,cs,cm,bs,h⟩:=h;obtain ⟨hc0,hc1⟩:=hc;have H:=zH h;obtain ⟨a0,a1,a2,a3,a4,a5,a6,a7,a8,a9,a10,a11,a12,a13,a14,a15,al⟩:=h.blk.k16;have af3:=h.blk.liv 3;clear h;go_enter func205,ntmps205;go_wp2_with fail
 obtain ⟨own0,m0,b0,h0⟩: ∃own0,Mod (inst B) g ⟨own0,(g.w.setCell ⟨b,3,none⟩ (zI z6 (S.count+1))).alloc (.cells #[zI z6 0,.slice none 0 0,zI z6 0] 143)⟩∧Blk ⟨own0,(g.w.setCell ⟨b,3,none⟩ (zI z6 (S.count+1))).alloc (.cells #[zI z6 0,.slice none 0 0,zI z6 0] 143)⟩ 9 g.w.heap.size 143 [zI z6 0,.slice none 0 0,zI z6 0]∧SpaceIn ⟨own0,(g.w.setCell ⟨b,3,none⟩ (zI z6 (S.count+1))).alloc (.cells #[zI z6 0,.slice none 0 0,zI z6 0] 143)⟩ B b bt S.tick bp bk bl A cs cm bs:=by
  have m1:Mod (inst B) g ⟨g.own,g.w.setCell ⟨b,3,none⟩ (zI z6 (S.count+1))⟩:=Mod.set (by rw [H.o.blk.own];exact ⟨zo,zo⟩);have hE:Ext (g.w.setCell ⟨b,3,none⟩ (zI z6 (S.count+1))) ((g.w.setCell ⟨b,3,none⟩ (zI z6 (S.count+1))).alloc (.cells #[zI z6 0,.slice none 0 0,zI z6 0] 143)):=zE;have b1:=Blk.new (⟨g.own,g.w.setCell ⟨b,3,none⟩ (zI z6 (S.count+1))⟩:GW) 9 143 [zI z6 0,.slice none 0 0,zI z6 0];simp only [World.size_setCell] at b1;exact ⟨_,m1.trans (Mod.ext hE 9),b1,H.o.tick.keep (Mod.ext (T:=fun _=>False) hE 9) zG⟩
 generalize (g.w.setCell ⟨b,3,none⟩ (zI z6 (S.count+1))).alloc (.cells #[zI z6 0,.slice none 0 0,zI z6 0] 143)=W0 at *;have M0:=zH m0;have B0:=zH b0;have H0:=zH h0;have hBX:=zH (Nat.le_refl g.w.heap.size);have HI:=zH (show inB t S.tick.stocks.length=inB t S.stocks.length from rfl);have hAsk:=zH (show ask S t fr sp sense=ask S t fr sp sense from rfl);clear m0 b0 h0 a0 a1 a2 a3 a4 a5 a6 a7 a8 a9 a10 a11 a12 a13 a14 a15 af3 al;have HST:=zH (ydb t H0.o);rw [HI.o] at HST;cases hin:inB t S.stocks.length
 · have hno:askNo S t fr sp=true:=by unfold askNo;rw [hin];rfl
   have HK:=zH (show ask S t fr sp sense=((3,[], -1),S.tick) by unfold ask;rw [hno];rfl);rw [hin] at HST;clear hin hno;refine HST.o.mono ?_;rintro e w' ⟨rfl,rfl⟩;obtain ⟨a0,a1,a2,a3,a4,a5,a6,a7,a8,a9,a10,a11,a12,a13,a14,a15,al⟩:=H0.o.blk.k16;go_wp2_with fail;refine (yef ⟨own0,W0⟩ (B+3) bl _ S.line H0.o.line).mono ?_;rintro e w1 ⟨v,own1,rfl,m1,r,ok,rfl,hn,hp⟩;have M1:=zH (M0.o.trans (m1.mono zG));have B1:=zH (B0.o.keep m1 id);have H1:=zH (H0.o.keep m1 zG);clear m1 a0 a1 a2 a3 a4 a5 a6 a7 a8 a9 a10 a11 a12 a13 a14 a15 al;by_cases hi:placeOf (ofB t) S.line<0
   · obtain ⟨rfl,rfl⟩:=hn hi;clear hn hp hi;go_wp2_with fail;refine (yan 3 _).mono ?_;rintro e wz ⟨rfl,hX⟩;obtain ⟨ownz,mz⟩:=Mod.ofExt ((show Ext w1 _ from zE).trans (show Ext _ wz from hX)) own1;have Mz:=zH (M1.o.trans (mz.mono zG));have Bz:=zH (B1.o.keep mz id);have Hz:=zH (H1.o.keep mz zG);clear mz hX;obtain ⟨y0,y1,y2,yl⟩:=Bz.o.k3;have yf0:=Bz.o.liv 0;have yf1:=Bz.o.liv 1;have yf2:=Bz.o.liv 2;go_wp2_with fail;refine bodyPost_ret (v:=.agg #[zI z6 3,.slice none 0 0,zI z6 (-1)]) (by simp [results,Tryz.results205,go_sem,y0,y1,y2]) rfl ?_;obtain ⟨p1,p2⟩:=put3 (v0:=zI z6 3) (v1:=.slice none 0 0) (v2:=zI z6 (-1)) Mz.o (Nat.le_refl _) Bz.o.own;refine ⟨_,ownz,rfl,p1,?_,?_⟩
     · rw [HK.o];exact ⟨none,0,rfl,Row.nil _ _ _ _⟩
     · rw [HK.o];exact ⟨_,_,_,_,_,_,_,Hz.o.keep p2 z9⟩
   · obtain ⟨rfl,ee,A',c',hL',rfl,hr⟩:=hp (by show 0≤placeOf (ofB t) S.line;omega);clear hn hi hL' hr;go_wp2_with fail;refine (yan 3 _).mono ?_;rintro e wz ⟨rfl,hX⟩;obtain ⟨ownz,mz⟩:=Mod.ofExt ((show Ext w1 _ from zE).trans (show Ext _ wz from hX)) own1;have Mz:=zH (M1.o.trans (mz.mono zG));have Bz:=zH (B1.o.keep mz id);have Hz:=zH (H1.o.keep mz zG);clear mz hX;obtain ⟨y0,y1,y2,yl⟩:=Bz.o.k3;have yf0:=Bz.o.liv 0;have yf1:=Bz.o.liv 1;have yf2:=Bz.o.liv 2;go_wp2_with fail;refine bodyPost_ret (v:=.agg #[zI z6 3,.slice none 0 0,zI z6 (-1)]) (by simp [results,Tryz.results205,go_sem,y0,y1,y2]) rfl ?_;obtain ⟨p1,p2⟩:=put3 (v0:=zI z6 3) (v1:=.slice none 0 0) (v2:=zI z6 (-1)) Mz.o (Nat.le_refl _) Bz.o.own;refine ⟨_,ownz,rfl,p1,?_,?_⟩
     · rw [HK.o];exact ⟨none,0,rfl,Row.nil _ _ _ _⟩
     · rw [HK.o];exact ⟨_,_,_,_,_,_,_,Hz.o.keep p2 z9⟩
 · obtain ⟨kt,rfl,hkt⟩:=yap hin;obtain ⟨x,hbx⟩: ∃x,bs[kt]?=some x:=⟨_,List.getElem?_eq_getElem (by rw [H0.o.blen];exact hkt)⟩;rw [hin,Int.toNat_natCast,if_pos rfl,show bs.getD kt 0=x by rw [List.getD_eq_getElem?_getD,hbx];rfl] at HST;have hk16:kt<16:=by have:=H0.o.few;have h2:S.tick.stocks.length=S.stocks.length:=rfl;omega
   refine HST.o.mono ?_;rintro e w' ⟨rfl,rfl⟩;obtain ⟨a0,a1,a2,a3,a4,a5,a6,a7,a8,a9,a10,a11,a12,a13,a14,a15,al⟩:=H0.o.blk.k16;go_wp2_with fail;refine (yef ⟨own0,W0⟩ (B+3) bl _ S.line H0.o.line).mono ?_;rintro e w1 ⟨v,own1,rfl,m1,r,ok,rfl,hn,hp⟩;have M1:=zH (M0.o.trans (m1.mono zG));have B1:=zH (B0.o.keep m1 id);have H1:=zH (H0.o.keep m1 zG);clear m1 a0 a1 a2 a3 a4 a5 a6 a7 a8 a9 a10 a11 a12 a13 a14 a15 al;by_cases hi:placeOf (ofB kt) S.line<0
   case neg=>
    obtain ⟨rfl,ee,A',c',hL',rfl,hr⟩:=hp (by show 0≤placeOf (ofB kt) S.line;omega);have hno:askNo S kt fr sp=true:=by unfold askNo;rw [decide_eq_true (show 0≤placeOf (ofB kt) S.line by omega)];simp
    have HK:=zH (show ask S kt fr sp sense=((3,[], -1),S.tick) by unfold ask;rw [hno];rfl);clear hn hi hL' hr hno hin;by_cases h1:fr<1
    · go_wp2_with fail;refine (yan 3 _).mono ?_;rintro e wz ⟨rfl,hX⟩;obtain ⟨ownz,mz⟩:=Mod.ofExt ((show Ext w1 _ from zE).trans (show Ext _ wz from hX)) own1;have Mz:=zH (M1.o.trans (mz.mono zG));have Bz:=zH (B1.o.keep mz id);have Hz:=zH (H1.o.keep mz zG);clear mz hX;obtain ⟨y0,y1,y2,yl⟩:=Bz.o.k3;have yf0:=Bz.o.liv 0;have yf1:=Bz.o.liv 1;have yf2:=Bz.o.liv 2;go_wp2_with fail;refine bodyPost_ret (v:=.agg #[zI z6 3,.slice none 0 0,zI z6 (-1)]) (by simp [results,Tryz.results205,go_sem,y0,y1,y2]) rfl ?_;obtain ⟨p1,p2⟩:=put3 (v0:=zI z6 3) (v1:=.slice none 0 0) (v2:=zI z6 (-1)) Mz.o (Nat.le_refl _) Bz.o.own;refine ⟨_,ownz,rfl,p1,?_,?_⟩
      · rw [HK.o];exact ⟨none,0,rfl,Row.nil _ _ _ _⟩
      · rw [HK.o];exact ⟨_,_,_,_,_,_,_,Hz.o.keep p2 z9⟩
    · by_cases h2:sp<0
      · go_wp2_with fail;refine (yan 3 _).mono ?_;rintro e wz ⟨rfl,hX⟩;obtain ⟨ownz,mz⟩:=Mod.ofExt ((show Ext w1 _ from zE).trans (show Ext _ wz from hX)) own1;have Mz:=zH (M1.o.trans (mz.mono zG));have Bz:=zH (B1.o.keep mz id);have Hz:=zH (H1.o.keep mz zG);clear mz hX;obtain ⟨y0,y1,y2,yl⟩:=Bz.o.k3;have yf0:=Bz.o.liv 0;have yf1:=Bz.o.liv 1;have yf2:=Bz.o.liv 2;go_wp2_with fail;refine bodyPost_ret (v:=.agg #[zI z6 3,.slice none 0 0,zI z6 (-1)]) (by simp [results,Tryz.results205,go_sem,y0,y1,y2]) rfl ?_;obtain ⟨p1,p2⟩:=put3 (v0:=zI z6 3) (v1:=.slice none 0 0) (v2:=zI z6 (-1)) Mz.o (Nat.le_refl _) Bz.o.own;refine ⟨_,ownz,rfl,p1,?_,?_⟩
        · rw [HK.o];exact ⟨none,0,rfl,Row.nil _ _ _ _⟩
        · rw [HK.o];exact ⟨_,_,_,_,_,_,_,Hz.o.keep p2 z9⟩
      · go_wp2_with fail;refine (yan 3 _).mono ?_;rintro e wz ⟨rfl,hX⟩;obtain ⟨ownz,mz⟩:=Mod.ofExt ((show Ext w1 _ from zE).trans (show Ext _ wz from hX)) own1;have Mz:=zH (M1.o.trans (mz.mono zG));have Bz:=zH (B1.o.keep mz id);have Hz:=zH (H1.o.keep mz zG);clear mz hX;obtain ⟨y0,y1,y2,yl⟩:=Bz.o.k3;have yf0:=Bz.o.liv 0;have yf1:=Bz.o.liv 1;have yf2:=Bz.o.liv 2;go_wp2_with fail;refine bodyPost_ret (v:=.agg #[zI z6 3,.slice none 0 0,zI z6 (-1)]) (by simp [results,Tryz.results205,go_sem,y0,y1,y2]) rfl ?_;obtain ⟨p1,p2⟩:=put3 (v0:=zI z6 3) (v1:=.slice none 0 0) (v2:=zI z6 (-1)) Mz.o (Nat.le_refl _) Bz.o.own;refine ⟨_,ownz,rfl,p1,?_,?_⟩
        · rw [HK.o];exact ⟨none,0,rfl,Row.nil _ _ _ _⟩
        · rw [HK.o];exact ⟨_,_,_,_,_,_,_,Hz.o.keep p2 z9⟩
   case pos=>
    obtain ⟨rfl,rfl⟩:=hn hi;clear hn hp;by_cases h1:fr<1
    · have hno:askNo S kt fr sp=true:=by unfold askNo;rw [decide_eq_true h1];simp
      have HK:=zH (show ask S kt fr sp sense=((3,[], -1),S.tick) by unfold ask;rw [hno];rfl);clear hno hin hi;go_wp2_with fail;refine (yan 3 _).mono ?_;rintro e wz ⟨rfl,hX⟩;obtain ⟨ownz,mz⟩:=Mod.ofExt ((show Ext w1 _ from zE).trans (show Ext _ wz from hX)) own1;have Mz:=zH (M1.o.trans (mz.mono zG));have Bz:=zH (B1.o.keep mz id);have Hz:=zH (H1.o.keep mz zG);clear mz hX;obtain ⟨y0,y1,y2,yl⟩:=Bz.o.k3;have yf0:=Bz.o.liv 0;have yf1:=Bz.o.liv 1;have yf2:=Bz.o.liv 2;go_wp2_with fail;refine bodyPost_ret (v:=.agg #[zI z6 3,.slice none 0 0,zI z6 (-1)]) (by simp [results,Tryz.results205,go_sem,y0,y1,y2]) rfl ?_;obtain ⟨p1,p2⟩:=put3 (v0:=zI z6 3) (v1:=.slice none 0 0) (v2:=zI z6 (-1)) Mz.o (Nat.le_refl _) Bz.o.own;refine ⟨_,ownz,rfl,p1,?_,?_⟩
      · rw [HK.o];exact ⟨none,0,rfl,Row.nil _ _ _ _⟩
      · rw [HK.o];exact ⟨_,_,_,_,_,_,_,Hz.o.keep p2 z9⟩
    · by_cases h2:sp<0
      · have hno:askNo S kt fr sp=true:=by unfold askNo;rw [decide_eq_true h2];simp
        have HK:=zH (show ask S kt fr sp sense=((3,[], -1),S.tick) by unfold ask;rw [hno];rfl);clear hno hin hi;go_wp2_with fail;refine (yan 3 _).mono ?_;rintro e wz ⟨rfl,hX⟩;obtain ⟨ownz,mz⟩:=Mod.ofExt ((show Ext w1 _ from zE).trans (show Ext _ wz from hX)) own1;have Mz:=zH (M1.o.trans (mz.mono zG));have Bz:=zH (B1.o.keep mz id);have Hz:=zH (H1.o.keep mz zG);clear mz hX;obtain ⟨y0,y1,y2,yl⟩:=Bz.o.k3;have yf0:=Bz.o.liv 0;have yf1:=Bz.o.liv 1;have yf2:=Bz.o.liv 2;go_wp2_with fail;refine bodyPost_ret (v:=.agg #[zI z6 3,.slice none 0 0,zI z6 (-1)]) (by simp [results,Tryz.results205,go_sem,y0,y1,y2]) rfl ?_;obtain ⟨p1,p2⟩:=put3 (v0:=zI z6 3) (v1:=.slice none 0 0) (v2:=zI z6 (-1)) Mz.o (Nat.le_refl _) Bz.o.own;refine ⟨_,ownz,rfl,p1,?_,?_⟩
        · rw [HK.o];exact ⟨none,0,rfl,Row.nil _ _ _ _⟩
        · rw [HK.o];exact ⟨_,_,_,_,_,_,_,Hz.o.keep p2 z9⟩
      · have hno:askNo S kt fr sp=false:=by unfold askNo;rw [hin,decide_eq_false h1,decide_eq_false h2,decide_eq_false zo];rfl
        obtain ⟨s,hsk⟩: ∃s,S.stocks[kt]?=some s:=⟨_,List.getElem?_eq_getElem hkt⟩;have HSO:=zH (show stockOf S kt=s by unfold stockOf;rw [Int.toNat_natCast,List.getD_eq_getElem?_getD,hsk];rfl);obtain ⟨own2,m2⟩:=Mod.ofExt (show Ext w1 (w1.alloc (.cells #[zI z6 0,zI z6 0,zI z6 0,zI z6 0,zI z6 0,zI z6 0,.slice none 0 0] 199)) from zE) own1;have M2:=zH (M1.o.trans (m2.mono zG));have B2:=zH (B1.o.keep m2 id);have H2:=zH (H1.o.keep m2 zG);clear m2 hin;obtain ⟨a0,a1,a2,a3,a4,a5,a6,a7,a8,a9,a10,a11,a12,a13,a14,a15,al⟩:=H2.o.blk.k16;by_cases hz:sp=0
        · have hz0:(sp==0)=true:=by simp [hz]
          by_cases hle:fr≤(s.l.length:Int)
          · obtain ⟨k,rfl⟩:=Int.eq_ofNat_of_zero_le (show 0≤fr by omega);have HK:=zH (show ask S kt k sp sense=((1,s.l.take k, -1),askOwn S.tick kt k sense) by unfold ask;rw [hno,if_neg (by simp),if_pos ⟨hz,by rw [HSO.o];exact hle⟩,HSO.o,Int.toNat_natCast])
            have HKS:=zH (show askOwn S.tick kt k sense={ S.tick with stocks:=S.stocks.set kt ⟨s.l.drop k,s.most⟩,tab:=S.tab.setAll (s.l.take k) 2 sense } by
             unfold askOwn;rw [show stockOf S.tick kt=s from HSO.o,Int.toNat_natCast,Int.toNat_natCast];rfl)
            have HTY:=zH (fun g' (hh:StockAt g' (B+10+kt) x s)=>yep g' (B+10+kt) x k s hh zo zo zo);have hkl:k≤s.l.length:=zo;clear hno hz hle;go_wp2_with fail;generalize w1.alloc (.cells #[zI z6 0,zI z6 0,zI z6 0,zI z6 0,zI z6 0,zI z6 0,.slice none 0 0] 199)=w2 at *;refine (HTY.o ⟨own2,w2⟩ (H2.o.stock kt x s hbx hsk)).mono ?_;rintro e w5 ⟨v,own5,rfl,m5,s5,rfl,k5,r5⟩;obtain ⟨s5A,c5,rfl⟩:=yak r5.row;have M5:=zH (M2.o.trans (m5.mono (fun y (hy:y=B+10+kt)=>(⟨zo,zo⟩:inst B y))));have B5:=zH (B2.o.keep m5 zo);have R5:=zH r5;have H5:=zH (H2.o.withStock hkt hbx m5 k5);have HLk:=zH (show (s.l.take k).length=k by simp;omega);have hk8:=H2.o.stock kt x s hbx hsk;have hk9:=hk8.most;have hk10:=hk8.len;clear m5 r5 k5 hk8 a0 a1 a2 a3 a4 a5 a6 a7 a8 a9 a10 a11 a12 a13 a14 a15 al;go_wp2_with fail;have HSET:=zH (yba 2 sense s5A c5 (s.l.take k) H5.o R5.o.seg hB (by rw [HLk.o];omega));rw [HLk.o] at HSET;refine HSET.o.mono ?_;rintro e w6 ⟨rfl,own6,m6,h6⟩;have M6:=zH (M5.o.trans (m6.mono (fun y (hy:y=B+50)=>(⟨zo,zo⟩:inst B y))));have B6:=zH (B5.o.keep m6 zo);have R6:=zH (R5.o.keep m6 zo);have H6:=zH h6;clear m6 h6
            obtain ⟨y0,y1,y2,yl⟩:=B6.o.k3;have yf0:=B6.o.liv 0;have yf1:=B6.o.liv 1;have yf2:=B6.o.liv 2;go_wp2_with fail;refine bodyPost_ret (v:=.agg #[zI z6 1,.slice s5A k c5,zI z6 (-1)]) (by simp [results,Tryz.results205,go_sem,y0,y1,y2]) rfl ?_;obtain ⟨p1,p2⟩:=put3 (v0:=zI z6 1) (v1:=.slice s5A k c5) (v2:=zI z6 (-1)) M6.o (Nat.le_refl _) B6.o.own;refine ⟨_,own6,rfl,p1,?_,?_⟩
            · rw [HK.o];exact ⟨s5A,c5,by simp only [HLk.o],by simp only [HLk.o];exact R6.o.keep p2 zo⟩
            · rw [HK.o,HKS.o];exact ⟨_,_,_,_,_,_,_,H6.o.keep p2 z9⟩
          · have hown: ¬(sp=0∧fr≤((stockOf S kt).l.length:Int)):=by rw [HSO.o];omega
            have HTN:=zH (fun g' (hh:StockAt g' (B+10+kt) x s)=>yfk g' (B+10+kt) x fr s hh zo);clear hz hle;go_wp2_with fail;generalize w1.alloc (.cells #[zI z6 0,zI z6 0,zI z6 0,zI z6 0,zI z6 0,zI z6 0,.slice none 0 0] 199)=w2 at *;refine (HTN.o ⟨own2,w2⟩ (H2.o.stock kt x s hbx hsk)).mono ?_;rintro e w' ⟨rfl,rfl⟩;go_wp2_with fail;refine (yds ⟨own2,w2⟩ (B+3) cm bp bk bl S.line H2.o.line).mono ?_;rintro e w3 ⟨rfl,hX⟩;obtain ⟨own3,m3⟩:=Mod.ofExt (show Ext w2 w3 from hX) own2;have M3:=zH (M2.o.trans (m3.mono zG));have B3:=zH (B2.o.keep m3 id);have H3:=zH (H2.o.keep m3 zG);clear m3 hX a0 a1 a2 a3 a4 a5 a6 a7 a8 a9 a10 a11 a12 a13 a14 a15 al;by_cases hw:0<Ent.wait S.line
            · have hwd:decide ((0:Int)<(Ent.wait S.line:Nat))=true:=decide_eq_true zo;have HK:=zH (show ask S kt fr sp sense=((0,[], -1),{ S.tick with line:=S.line++[Ent.asked kt fr sp] }) by unfold ask;rw [hno,if_neg (by simp),if_neg hown,if_pos (Or.inl hw)]);have hwd2:decide (0<Ent.wait S.line)=true:=decide_eq_true hw;clear hno hown;obtain ⟨a0,a1,a2,a3,a4,a5,a6,a7,a8,a9,a10,a11,a12,a13,a14,a15,al⟩:=H3.o.blk.k16;go_wp2_with fail;refine (ycb ⟨own3,w3⟩ (B+3) bl kt fr sp S.line H3.o.line hi hL zo).mono ?_;rintro e w7 ⟨rfl,own7,m7,l7⟩;have M7:=zH (M3.o.trans (m7.mono (fun x (hx:x=B+3)=>(⟨zo,zo⟩:inst B x))));have B7:=zH (B3.o.keep m7 zo);have H7:=zH (H3.o.withLine (m7.mono (fun x hx=>Or.inl hx)) l7);clear m7 l7 a0 a1 a2 a3 a4 a5 a6 a7 a8 a9 a10 a11 a12 a13 a14 a15 al;go_wp2_with fail;refine (yan 0 _).mono ?_;rintro e wz ⟨rfl,hX⟩;obtain ⟨ownz,mz⟩:=Mod.ofExt ((show Ext w7 _ from zE).trans (show Ext _ wz from hX)) own7;have Mz:=zH (M7.o.trans (mz.mono zG));have Bz:=zH (B7.o.keep mz id);have Hz:=zH (H7.o.keep mz zG);clear mz hX;obtain ⟨y0,y1,y2,yl⟩:=Bz.o.k3;have yf0:=Bz.o.liv 0;have yf1:=Bz.o.liv 1;have yf2:=Bz.o.liv 2
              go_wp2_with fail;refine bodyPost_ret (v:=.agg #[zI z6 0,.slice none 0 0,zI z6 (-1)]) (by simp [results,Tryz.results205,go_sem,y0,y1,y2]) rfl ?_;obtain ⟨p1,p2⟩:=put3 (v0:=zI z6 0) (v1:=.slice none 0 0) (v2:=zI z6 (-1)) Mz.o (Nat.le_refl _) Bz.o.own;refine ⟨_,ownz,rfl,p1,?_,?_⟩
              · rw [HK.o];exact ⟨none,0,rfl,Row.nil _ _ _ _⟩
              · rw [HK.o];exact ⟨_,_,_,_,_,_,_,Hz.o.keep p2 z9⟩
            · have hwd:decide ((0:Int)<(Ent.wait S.line:Nat))=false:=decide_eq_false zo;obtain ⟨a0,a1,a2,a3,a4,a5,a6,a7,a8,a9,a10,a11,a12,a13,a14,a15,al⟩:=H3.o.blk.k16;go_wp2_with fail;refine (yen fr sp H3.o).mono ?_;rw [show S.tick.fits fr sp=S.fits fr sp from rfl];rintro e w4 ⟨rfl,hX⟩;obtain ⟨own4,m4⟩:=Mod.ofExt (show Ext w3 w4 from hX) own3;have M4:=zH (M3.o.trans (m4.mono zG));have B4:=zH (B3.o.keep m4 id);have H4:=zH (H3.o.keep m4 zG);clear m4 hX a0 a1 a2 a3 a4 a5 a6 a7 a8 a9 a10 a11 a12 a13 a14 a15 al;cases hft:S.fits fr sp
              · have HK:=zH (show ask S kt fr sp sense=((0,[], -1),{ S.tick with line:=S.line++[Ent.asked kt fr sp] }) by unfold ask;rw [hno,if_neg (by simp),if_neg hown,if_pos (Or.inr hft)]);clear hw hno hown hft;obtain ⟨a0,a1,a2,a3,a4,a5,a6,a7,a8,a9,a10,a11,a12,a13,a14,a15,al⟩:=H4.o.blk.k16;go_wp2_with fail;refine (ycb ⟨own4,w4⟩ (B+3) bl kt fr sp S.line H4.o.line hi hL zo).mono ?_;rintro e w7 ⟨rfl,own7,m7,l7⟩;have M7:=zH (M4.o.trans (m7.mono (fun x (hx:x=B+3)=>(⟨zo,zo⟩:inst B x))));have B7:=zH (B4.o.keep m7 zo);have H7:=zH (H4.o.withLine (m7.mono (fun x hx=>Or.inl hx)) l7);clear m7 l7 a0 a1 a2 a3 a4 a5 a6 a7 a8 a9 a10 a11 a12 a13 a14 a15 al;go_wp2_with fail;refine (yan 0 _).mono ?_;rintro e wz ⟨rfl,hX⟩;obtain ⟨ownz,mz⟩:=Mod.ofExt ((show Ext w7 _ from zE).trans (show Ext _ wz from hX)) own7;have Mz:=zH (M7.o.trans (mz.mono zG));have Bz:=zH (B7.o.keep mz id);have Hz:=zH (H7.o.keep mz zG);clear mz hX;obtain ⟨y0,y1,y2,yl⟩:=Bz.o.k3;have yf0:=Bz.o.liv 0;have yf1:=Bz.o.liv 1;have yf2:=Bz.o.liv 2;go_wp2_with fail
                refine bodyPost_ret (v:=.agg #[zI z6 0,.slice none 0 0,zI z6 (-1)]) (by simp [results,Tryz.results205,go_sem,y0,y1,y2]) rfl ?_;obtain ⟨p1,p2⟩:=put3 (v0:=zI z6 0) (v1:=.slice none 0 0) (v2:=zI z6 (-1)) Mz.o (Nat.le_refl _) Bz.o.own;refine ⟨_,ownz,rfl,p1,?_,?_⟩
                · rw [HK.o];exact ⟨none,0,rfl,Row.nil _ _ _ _⟩
                · rw [HK.o];exact ⟨_,_,_,_,_,_,_,Hz.o.keep p2 z9⟩
              · have HFT:=zH hft
                have hfree:fr≤(S.pool.free:Int):=by
                 unfold SpaceS.fits at hft;simp only [Bool.and_eq_true,decide_eq_true_eq] at hft;exact hft.1
                have hnw: ¬(0<Ent.wait S.line∨S.fits fr sp=false):=by rw [hft];simp [hw]
                clear hw hft;obtain ⟨got,hgot⟩:=PoolS.taken_some (p:=S.pool) (k:=fr) zo hfree;have HG1:=zH (show askGot S.tick fr=got by unfold askGot;show ((S.pool.taken fr).getD [])=got;rw [hgot];rfl);have HG2:=zH (show askGot S fr=got by unfold askGot;rw [hgot];rfl);have HGL:=zH (show got.length≤1024 from Nat.le_trans (PoolS.taken_len hgot) H4.o.pool.len);have HK:=zH (show ask S kt fr sp sense=((1,got,takesAt S got sp),askAll S.tick kt fr sp sense) by unfold ask;rw [hno,if_neg (by simp),if_neg hown,if_neg hnw,HG2.o])
                have HKS:=zH (show askAll S.tick kt fr sp sense={ takesS S.tick got sp with pool:=(takesS S.tick got sp).pool.takes ((takesS S.tick got sp).pool.lowOnes (s.most-s.l.length)),tab:=((takesS S.tick got sp).tab.setAll got 2 sense).setAll ((takesS S.tick got sp).pool.lowOnes (s.most-s.l.length)) 1 sense,stocks:=S.stocks.set kt ⟨s.l++(takesS S.tick got sp).pool.lowOnes (s.most-s.l.length),s.most⟩ } by
                 unfold askAll askMore;rw [HG1.o,show stockOf S.tick kt=s from HSO.o];rfl)
                have HSD:=zH (ycF HFT.o hgot H4.o.pool.len H4.o.coil.ok);have HTK:=zH (fun (hh:SpaceIn ⟨own4,w4⟩ B b bt S.tick bp bk bl A cs cm bs)=>ydr fr sp got hh hB hgot ⟨zo,HSD.o⟩);clear hgot hno hown hnw hfree HSD;obtain ⟨a0,a1,a2,a3,a4,a5,a6,a7,a8,a9,a10,a11,a12,a13,a14,a15,al⟩:=H4.o.blk.k16;go_wp2_with fail;refine (HTK.o H4.o).mono ?_;rintro e w5 ⟨v,own5,rfl,m5,s5,c5,rfl,r5,h5⟩;have M5:=zH (M4.o.trans (m5.mono (fun x (hx:x=B+1∨x=B+2)=>(⟨zo,zo⟩:inst B x))));have B5:=zH (B4.o.keep m5 zo);have R5:=zH r5;have H5:=zH h5;clear m5 r5 h5 a0 a1 a2 a3 a4 a5 a6 a7 a8 a9 a10 a11 a12 a13 a14 a15 al;go_wp2_with fail;refine (yba 2 sense s5 c5 got H5.o R5.o.seg hB (by have:=HGL.o;omega)).mono ?_;rintro e w6 ⟨rfl,own6,m6,h6⟩;have M6:=zH (M5.o.trans (m6.mono (fun x (hx:x=B+50)=>(⟨zo,zo⟩:inst B x))));have B6:=zH (B5.o.keep m6 zo);have R6:=zH (R5.o.keep m6 zo);have H6:=zH h6;clear m6 h6;obtain ⟨a0,a1,a2,a3,a4,a5,a6,a7,a8,a9,a10,a11,a12,a13,a14,a15,al⟩:=H6.o.blk.k16;have HS6:=zH (show StockAt ⟨own6,w6⟩ (B+10+kt) x s from H6.o.stock kt x s hbx hsk);have hmo:=HS6.o.most;have hml:=HS6.o.len
                have HRM:=zH (fun X=>ycl ((⟨own6,w6⟩:GW).pt X) (B+10+kt) x s (HS6.o.pt X));go_wp2_with fail;refine yab [zT,zT,zT,zT,zT,zT,zT,zU,zU] 2 7 ?_;intro X00;simp only [pickOps];repeat (go_big_quiet_step ((go_at_call 246;exact Calls.added (HRM.o _))))
                refine wpQuiet_nil (fun X0=>?_);clear X00;refine yaf rfl zQ (fun X2=>?_);simp only [List.drop_succ_cons,List.drop_zero];go_wp2_with fail;refine (ydn ((⟨own6,w6⟩:GW).pt _) (B+1) bp (s.most-s.l.length) _ (H6.o.pool.pt _) zo zo).mono ?_;rintro e w7 ⟨v7,own7,rfl,m7,p7,r7⟩;obtain ⟨A7,c7,rfl⟩:=yak r7.row;have hlm:((takesS S.tick got sp).pool.lowOnes (s.most-s.l.length)).length≤(s.most-s.l.length).toNat:=(PoolS.lowGo_len _ _ _).1;have M7:=zH ((Mod.pt M6.o _).trans (m7.mono (fun x (hx:x=B+1)=>(⟨zo,zo⟩:inst B x))));have B7:=zH ((B6.o.pt _).keep m7 zo);have R7:=zH ((R6.o.ptx _).keep m7 zo);have H7:=zH ((H6.o.keep (Mod.pt (Mod.refl (fun _=>False) _) _) zG).withPool m7 p7);have Q7:=zH r7;clear m7 p7 r7 a0 a1 a2 a3 a4 a5 a6 a7 a8 a9 a10 a11 a12 a13 a14 a15 al;simp only at H7 Q7;generalize (takesS S.tick got sp).pool.lowOnes (s.most-s.l.length)=more at *;generalize hmn:more.length=nm at *;have HNM:=zH hmn;clear hmn;go_wp2_with fail;have HSET:=zH (yba 1 sense A7 c7 more H7.o Q7.o.seg hB (by rw [HNM.o];omega));rw [HNM.o] at HSET;refine HSET.o.mono ?_;rintro e w8 ⟨rfl,own8,m8,h8⟩
                have M8:=zH (M7.o.trans (m8.mono (fun x (hx:x=B+50)=>(⟨zo,zo⟩:inst B x))));have B8:=zH (B7.o.keep m8 zo);have R8:=zH (R7.o.keep m8 zo);have Q8:=zH (Q7.o.keep m8 zo);have H8:=zH h8;have HS8:=zH (show StockAt ⟨own8,w8⟩ (B+10+kt) x s from H8.o.stock kt x s hbx hsk);clear m8 h8;go_wp2_with fail;have HPUT:=zH (yeV ⟨own8,w8⟩ (B+10+kt) x A7 c7 more s HS8.o Q8.o.cells (fun e=>by subst e;have:=Q8.o.none;exact ⟨List.length_eq_zero_iff.1 (by rw [HNM.o];exact this.1),this.2⟩) (by rw [HNM.o];omega));rw [HNM.o] at HPUT;refine HPUT.o.mono ?_;rintro e w9 ⟨rfl,own9,m9,s9⟩;have M9:=zH (M8.o.trans (m9.mono (fun y (hy:y=B+10+kt)=>(⟨zo,zo⟩:inst B y))));have B9:=zH (B8.o.keep m9 zo);have R9:=zH (R8.o.keep m9 zo);have H9:=zH (H8.o.withStock hkt hbx m9 s9);clear m9 s9;obtain ⟨y0,y1,y2,yl⟩:=B9.o.k3;have yf0:=B9.o.liv 0;have yf1:=B9.o.liv 1;have yf2:=B9.o.liv 2;go_wp2_with fail;refine bodyPost_ret (v:=.agg #[zI z6 1,.slice s5 got.length c5,zI z6 (takesAt S.tick got sp)]) (by simp [results,Tryz.results205,go_sem,y0,y1,y2]) rfl ?_
                obtain ⟨p1,p2⟩:=put3 (v0:=zI z6 1) (v1:=.slice s5 got.length c5) (v2:=zI z6 (takesAt S.tick got sp)) M9.o (Nat.le_refl _) B9.o.own;refine ⟨_,own9,rfl,p1,?_,?_⟩
                · rw [HK.o];exact ⟨s5,c5,rfl,R9.o.keep p2 zo⟩
                · rw [HK.o,HKS.o];exact ⟨_,_,_,_,_,_,_,H9.o.keep p2 z9⟩
        · have hz0:(sp==0)=false:=by simp [hz]
          have hown: ¬(sp=0∧fr≤((stockOf S kt).l.length:Int)):=zo;clear hz;go_wp2_with fail;generalize w1.alloc (.cells #[zI z6 0,zI z6 0,zI z6 0,zI z6 0,zI z6 0,zI z6 0,.slice none 0 0] 199)=w2 at *;refine (yds ⟨own2,w2⟩ (B+3) cm bp bk bl S.line H2.o.line).mono ?_;rintro e w3 ⟨rfl,hX⟩;obtain ⟨own3,m3⟩:=Mod.ofExt (show Ext w2 w3 from hX) own2;have M3:=zH (M2.o.trans (m3.mono zG));have B3:=zH (B2.o.keep m3 id);have H3:=zH (H2.o.keep m3 zG);clear m3 hX a0 a1 a2 a3 a4 a5 a6 a7 a8 a9 a10 a11 a12 a13 a14 a15 al;by_cases hw:0<Ent.wait S.line
          · have hwd:decide ((0:Int)<(Ent.wait S.line:Nat))=true:=decide_eq_true zo;have HK:=zH (show ask S kt fr sp sense=((0,[], -1),{ S.tick with line:=S.line++[Ent.asked kt fr sp] }) by unfold ask;rw [hno,if_neg (by simp),if_neg hown,if_pos (Or.inl hw)]);have hwd2:decide (0<Ent.wait S.line)=true:=decide_eq_true hw;clear hno hown;obtain ⟨a0,a1,a2,a3,a4,a5,a6,a7,a8,a9,a10,a11,a12,a13,a14,a15,al⟩:=H3.o.blk.k16;go_wp2_with fail;refine (ycb ⟨own3,w3⟩ (B+3) bl kt fr sp S.line H3.o.line hi hL zo).mono ?_;rintro e w7 ⟨rfl,own7,m7,l7⟩;have M7:=zH (M3.o.trans (m7.mono (fun x (hx:x=B+3)=>(⟨zo,zo⟩:inst B x))));have B7:=zH (B3.o.keep m7 zo);have H7:=zH (H3.o.withLine (m7.mono (fun x hx=>Or.inl hx)) l7);clear m7 l7 a0 a1 a2 a3 a4 a5 a6 a7 a8 a9 a10 a11 a12 a13 a14 a15 al;go_wp2_with fail;refine (yan 0 _).mono ?_;rintro e wz ⟨rfl,hX⟩;obtain ⟨ownz,mz⟩:=Mod.ofExt ((show Ext w7 _ from zE).trans (show Ext _ wz from hX)) own7;have Mz:=zH (M7.o.trans (mz.mono zG));have Bz:=zH (B7.o.keep mz id);have Hz:=zH (H7.o.keep mz zG);clear mz hX;obtain ⟨y0,y1,y2,yl⟩:=Bz.o.k3;have yf0:=Bz.o.liv 0;have yf1:=Bz.o.liv 1;have yf2:=Bz.o.liv 2
            go_wp2_with fail;refine bodyPost_ret (v:=.agg #[zI z6 0,.slice none 0 0,zI z6 (-1)]) (by simp [results,Tryz.results205,go_sem,y0,y1,y2]) rfl ?_;obtain ⟨p1,p2⟩:=put3 (v0:=zI z6 0) (v1:=.slice none 0 0) (v2:=zI z6 (-1)) Mz.o (Nat.le_refl _) Bz.o.own;refine ⟨_,ownz,rfl,p1,?_,?_⟩
            · rw [HK.o];exact ⟨none,0,rfl,Row.nil _ _ _ _⟩
            · rw [HK.o];exact ⟨_,_,_,_,_,_,_,Hz.o.keep p2 z9⟩
          · have hwd:decide ((0:Int)<(Ent.wait S.line:Nat))=false:=decide_eq_false zo;obtain ⟨a0,a1,a2,a3,a4,a5,a6,a7,a8,a9,a10,a11,a12,a13,a14,a15,al⟩:=H3.o.blk.k16;go_wp2_with fail;refine (yen fr sp H3.o).mono ?_;rw [show S.tick.fits fr sp=S.fits fr sp from rfl];rintro e w4 ⟨rfl,hX⟩;obtain ⟨own4,m4⟩:=Mod.ofExt (show Ext w3 w4 from hX) own3;have M4:=zH (M3.o.trans (m4.mono zG));have B4:=zH (B3.o.keep m4 id);have H4:=zH (H3.o.keep m4 zG);clear m4 hX a0 a1 a2 a3 a4 a5 a6 a7 a8 a9 a10 a11 a12 a13 a14 a15 al;cases hft:S.fits fr sp
            · have HK:=zH (show ask S kt fr sp sense=((0,[], -1),{ S.tick with line:=S.line++[Ent.asked kt fr sp] }) by unfold ask;rw [hno,if_neg (by simp),if_neg hown,if_pos (Or.inr hft)]);clear hw hno hown hft;obtain ⟨a0,a1,a2,a3,a4,a5,a6,a7,a8,a9,a10,a11,a12,a13,a14,a15,al⟩:=H4.o.blk.k16;go_wp2_with fail;refine (ycb ⟨own4,w4⟩ (B+3) bl kt fr sp S.line H4.o.line hi hL zo).mono ?_;rintro e w7 ⟨rfl,own7,m7,l7⟩;have M7:=zH (M4.o.trans (m7.mono (fun x (hx:x=B+3)=>(⟨zo,zo⟩:inst B x))));have B7:=zH (B4.o.keep m7 zo);have H7:=zH (H4.o.withLine (m7.mono (fun x hx=>Or.inl hx)) l7);clear m7 l7 a0 a1 a2 a3 a4 a5 a6 a7 a8 a9 a10 a11 a12 a13 a14 a15 al;go_wp2_with fail;refine (yan 0 _).mono ?_;rintro e wz ⟨rfl,hX⟩;obtain ⟨ownz,mz⟩:=Mod.ofExt ((show Ext w7 _ from zE).trans (show Ext _ wz from hX)) own7;have Mz:=zH (M7.o.trans (mz.mono zG));have Bz:=zH (B7.o.keep mz id);have Hz:=zH (H7.o.keep mz zG);clear mz hX;obtain ⟨y0,y1,y2,yl⟩:=Bz.o.k3;have yf0:=Bz.o.liv 0;have yf1:=Bz.o.liv 1;have yf2:=Bz.o.liv 2;go_wp2_with fail
              refine bodyPost_ret (v:=.agg #[zI z6 0,.slice none 0 0,zI z6 (-1)]) (by simp [results,Tryz.results205,go_sem,y0,y1,y2]) rfl ?_;obtain ⟨p1,p2⟩:=put3 (v0:=zI z6 0) (v1:=.slice none 0 0) (v2:=zI z6 (-1)) Mz.o (Nat.le_refl _) Bz.o.own;refine ⟨_,ownz,rfl,p1,?_,?_⟩
              · rw [HK.o];exact ⟨none,0,rfl,Row.nil _ _ _ _⟩
              · rw [HK.o];exact ⟨_,_,_,_,_,_,_,Hz.o.keep p2 z9⟩
            · have HFT:=zH hft
              have hfree:fr≤(S.pool.free:Int):=by
               unfold SpaceS.fits at hft;simp only [Bool.and_eq_true,decide_eq_true_eq] at hft;exact hft.1
              have hnw: ¬(0<Ent.wait S.line∨S.fits fr sp=false):=by rw [hft];simp [hw]
              clear hw hft;obtain ⟨got,hgot⟩:=PoolS.taken_some (p:=S.pool) (k:=fr) zo hfree;have HG1:=zH (show askGot S.tick fr=got by unfold askGot;show ((S.pool.taken fr).getD [])=got;rw [hgot];rfl);have HG2:=zH (show askGot S fr=got by unfold askGot;rw [hgot];rfl);have HGL:=zH (show got.length≤1024 from Nat.le_trans (PoolS.taken_len hgot) H4.o.pool.len);have HK:=zH (show ask S kt fr sp sense=((1,got,takesAt S got sp),askAll S.tick kt fr sp sense) by unfold ask;rw [hno,if_neg (by simp),if_neg hown,if_neg hnw,HG2.o])
              have HKS:=zH (show askAll S.tick kt fr sp sense={ takesS S.tick got sp with pool:=(takesS S.tick got sp).pool.takes ((takesS S.tick got sp).pool.lowOnes (s.most-s.l.length)),tab:=((takesS S.tick got sp).tab.setAll got 2 sense).setAll ((takesS S.tick got sp).pool.lowOnes (s.most-s.l.length)) 1 sense,stocks:=S.stocks.set kt ⟨s.l++(takesS S.tick got sp).pool.lowOnes (s.most-s.l.length),s.most⟩ } by
               unfold askAll askMore;rw [HG1.o,show stockOf S.tick kt=s from HSO.o];rfl)
              have HSD:=zH (ycF HFT.o hgot H4.o.pool.len H4.o.coil.ok);have HTK:=zH (fun (hh:SpaceIn ⟨own4,w4⟩ B b bt S.tick bp bk bl A cs cm bs)=>ydr fr sp got hh hB hgot ⟨zo,HSD.o⟩);clear hgot hno hown hnw hfree HSD;obtain ⟨a0,a1,a2,a3,a4,a5,a6,a7,a8,a9,a10,a11,a12,a13,a14,a15,al⟩:=H4.o.blk.k16;go_wp2_with fail;refine (HTK.o H4.o).mono ?_;rintro e w5 ⟨v,own5,rfl,m5,s5,c5,rfl,r5,h5⟩;have M5:=zH (M4.o.trans (m5.mono (fun x (hx:x=B+1∨x=B+2)=>(⟨zo,zo⟩:inst B x))));have B5:=zH (B4.o.keep m5 zo);have R5:=zH r5;have H5:=zH h5;clear m5 r5 h5 a0 a1 a2 a3 a4 a5 a6 a7 a8 a9 a10 a11 a12 a13 a14 a15 al;go_wp2_with fail;refine (yba 2 sense s5 c5 got H5.o R5.o.seg hB (by have:=HGL.o;omega)).mono ?_;rintro e w6 ⟨rfl,own6,m6,h6⟩;have M6:=zH (M5.o.trans (m6.mono (fun x (hx:x=B+50)=>(⟨zo,zo⟩:inst B x))));have B6:=zH (B5.o.keep m6 zo);have R6:=zH (R5.o.keep m6 zo);have H6:=zH h6;clear m6 h6;obtain ⟨a0,a1,a2,a3,a4,a5,a6,a7,a8,a9,a10,a11,a12,a13,a14,a15,al⟩:=H6.o.blk.k16;have HS6:=zH (show StockAt ⟨own6,w6⟩ (B+10+kt) x s from H6.o.stock kt x s hbx hsk);have hmo:=HS6.o.most;have hml:=HS6.o.len
              have HRM:=zH (fun X=>ycl ((⟨own6,w6⟩:GW).pt X) (B+10+kt) x s (HS6.o.pt X));go_wp2_with fail;refine yab [zT,zT,zT,zT,zT,zT,zT,zU,zU] 2 7 ?_;intro X00;simp only [pickOps];repeat (go_big_quiet_step ((go_at_call 246;exact Calls.added (HRM.o _))))
              refine wpQuiet_nil (fun X0=>?_);clear X00;refine yaf rfl zQ (fun X2=>?_);simp only [List.drop_succ_cons,List.drop_zero];go_wp2_with fail;refine (ydn ((⟨own6,w6⟩:GW).pt _) (B+1) bp (s.most-s.l.length) _ (H6.o.pool.pt _) zo zo).mono ?_;rintro e w7 ⟨v7,own7,rfl,m7,p7,r7⟩;obtain ⟨A7,c7,rfl⟩:=yak r7.row;have hlm:((takesS S.tick got sp).pool.lowOnes (s.most-s.l.length)).length≤(s.most-s.l.length).toNat:=(PoolS.lowGo_len _ _ _).1;have M7:=zH ((Mod.pt M6.o _).trans (m7.mono (fun x (hx:x=B+1)=>(⟨zo,zo⟩:inst B x))));have B7:=zH ((B6.o.pt _).keep m7 zo);have R7:=zH ((R6.o.ptx _).keep m7 zo);have H7:=zH ((H6.o.keep (Mod.pt (Mod.refl (fun _=>False) _) _) zG).withPool m7 p7);have Q7:=zH r7;clear m7 p7 r7 a0 a1 a2 a3 a4 a5 a6 a7 a8 a9 a10 a11 a12 a13 a14 a15 al;simp only at H7 Q7;generalize (takesS S.tick got sp).pool.lowOnes (s.most-s.l.length)=more at *;generalize hmn:more.length=nm at *;have HNM:=zH hmn;clear hmn;go_wp2_with fail;have HSET:=zH (yba 1 sense A7 c7 more H7.o Q7.o.seg hB (by rw [HNM.o];omega));rw [HNM.o] at HSET;refine HSET.o.mono ?_;rintro e w8 ⟨rfl,own8,m8,h8⟩
              have M8:=zH (M7.o.trans (m8.mono (fun x (hx:x=B+50)=>(⟨zo,zo⟩:inst B x))));have B8:=zH (B7.o.keep m8 zo);have R8:=zH (R7.o.keep m8 zo);have Q8:=zH (Q7.o.keep m8 zo);have H8:=zH h8;have HS8:=zH (show StockAt ⟨own8,w8⟩ (B+10+kt) x s from H8.o.stock kt x s hbx hsk);clear m8 h8;go_wp2_with fail;have HPUT:=zH (yeV ⟨own8,w8⟩ (B+10+kt) x A7 c7 more s HS8.o Q8.o.cells (fun e=>by subst e;have:=Q8.o.none;exact ⟨List.length_eq_zero_iff.1 (by rw [HNM.o];exact this.1),this.2⟩) (by rw [HNM.o];omega));rw [HNM.o] at HPUT;refine HPUT.o.mono ?_;rintro e w9 ⟨rfl,own9,m9,s9⟩;have M9:=zH (M8.o.trans (m9.mono (fun y (hy:y=B+10+kt)=>(⟨zo,zo⟩:inst B y))));have B9:=zH (B8.o.keep m9 zo);have R9:=zH (R8.o.keep m9 zo);have H9:=zH (H8.o.withStock hkt hbx m9 s9);clear m9 s9;obtain ⟨y0,y1,y2,yl⟩:=B9.o.k3;have yf0:=B9.o.liv 0;have yf1:=B9.o.liv 1;have yf2:=B9.o.liv 2;go_wp2_with fail;refine bodyPost_ret (v:=.agg #[zI z6 1,.slice s5 got.length c5,zI z6 (takesAt S.tick got sp)]) (by simp [results,Tryz.results205,go_sem,y0,y1,y2]) rfl ?_
              obtain ⟨p1,p2⟩:=put3 (v0:=zI z6 1) (v1:=.slice s5 got.length c5) (v2:=zI z6 (takesAt S.tick got sp)) M9.o (Nat.le_refl _) B9.o.own;refine ⟨_,own9,rfl,p1,?_,?_⟩
              · rw [HK.o];exact ⟨s5,c5,rfl,R9.o.keep p2 zo⟩
              · rw [HK.o,HKS.o];exact ⟨_,_,_,_,_,_,_,H9.o.keep p2 z9⟩
end Go.Proofs.YtdhjjpnajjingaaGreat
namespace Go
open Go.RowKit
theorem Mod.grownNew {T:Nat→Prop} {g:GW} {o:Nat→Nat} {w W w2:World} {row:Option Nat} {t1 t2:Nat} (M:Mod T g ⟨o,w⟩) (he:Ext w W) (hg:W.grownBy w2 row) (hr: ∀k,row=some k→g.w.heap.size≤k):Mod T g (((⟨o,w⟩:GW).to t1 W).to t2 w2):=by
 obtain ⟨h1,h2,h3,h4,h5⟩:=he.below;have s1:g.w.heap.size≤w.heap.size:=M.size;refine ⟨hg.os.trans (h1.trans M.os),hg.tape.trans (h2.trans M.tape),hg.output.trans (h3.trans M.output),Nat.le_trans s1 (Nat.le_trans h4 hg.size),fun k hk=>?_,fun k hk ht=>?_⟩
 · rw [GW.to_old (Nat.lt_of_lt_of_le hk (Nat.le_trans s1 h4)),GW.to_old (Nat.lt_of_lt_of_le hk s1)];exact M.own k hk
 · exact (hg.block k (Nat.lt_of_lt_of_le hk (Nat.le_trans s1 h4)) (fun e=>by have:=hr k e.symm;omega)).trans ((h5 k (Nat.lt_of_lt_of_le hk s1)).trans (M.block k hk ht))
end Go
namespace Go.Proofs.YtdhjjpnajjingaaGreat
open Go Go.RowKit
theorem ylx:(prog.info? 176).map (fun i=>(i.zero,i.size,i.bytes))=some (some (zp none),1,8):=zQ
theorem SpaceIn.addStock {g g':GW} {B b bt bp bk bl cs cs':Nat} {S:SpaceS} {A A':Option Addr} {cm:Cnf} {bs:List Nat} (h:SpaceIn g B b bt S bp bk bl A cs cm bs) (m:Mod (fun x=>x=B) g g') {x:Nat} {s:StockS}
 (hb:Blk g' B b 67 [zp (some ⟨bt,0,none⟩),.slice A' (S.stocks.length+1) cs',zb S.forced,zI z6 S.count,zI z6 cm.frags,zI z6 cm.spine,zI z6 cm.globals,zI z6 cm.threads,zI z6 cm.locals,zI z6 cm.cache,zI z6 cm.stack,zI z6 cm.low,.slice cm.A cm.shapes.length cm.cap,zp (some ⟨bp,0,none⟩),zp (some ⟨bk,0,none⟩),zp (some ⟨bl,0,none⟩)])
 (hr:Row g' B 176 1 (.slice A' (S.stocks.length+1) cs') (S.stocks.length+1) ((bs++[x]).map fun x=>zp (some ⟨x,0,none⟩))) (hs:StockAt g' (B+10+S.stocks.length) x s) (hn:S.stocks.length<16):
 SpaceIn g' B b bt { S with stocks:=S.stocks++[s] } bp bk bl A' cs' cm (bs++[x]):=by
 refine ⟨?_,?_,h.tab.keep m zo,h.pool.keep m zo,h.coil.keep m zo,h.line.keep m zo zo,h.cnf.keep m zo,h.same,by simp [h.blen],fun j y u hy hu=>?_,h.check,by simp;omega⟩
 · simp only [List.length_append,List.length_singleton];exact hb
 · simp only [List.length_append,List.length_singleton];exact hr
 · have hbl:=h.blen;by_cases hj:j<S.stocks.length
   · rw [List.getElem?_append_left zo] at hy;simp only at hu;rw [List.getElem?_append_left hj] at hu;exact (h.stock j y u hy hu).keep m zo
   · have hj2:j=S.stocks.length:=by
      have:=(List.getElem?_eq_some_iff.1 hu).1;simp at this;omega
     subst hj2;simp only at hu;rw [List.getElem?_append_right zo,hbl,Nat.sub_self] at hy;rw [List.getElem?_append_right zo,Nat.sub_self] at hu;simp at hy hu;subst hy hu;exact hs
def SpaceS.fresh (c:Cnf) (T:TabS):SpaceS:=⟨T,List.replicate c.threads.toNat ⟨[],c.cache⟩,false,0,c,⟨List.replicate c.frags.toNat true⟩,⟨c.spine,0,0,0,0⟩,[]⟩
def SpaceMade (c:Cnf) (T:TabS) (B bt:Nat) (g:GW) (e:Ending) (w':World):Prop:=
 if c.check=0∧(T.l.length:Int)=c.frags then∃own' b,e=.returned (.tuple #[zp (some ⟨b,0,none⟩),zI z6 0])∧Mod (fun _=>False) g ⟨own',w'⟩∧SpaceAt ⟨own',w'⟩ B b bt (SpaceS.fresh c T)
 else e=.returned (.tuple #[zp none,zI z6 (if c.check=0 then 1 else c.check)])∧Ext g.w w'
theorem ykk (c:Cnf) (T:TabS) (B bt:Nat) (g:GW) (hc:c.Ok g.w) (ht:TabAt g (B+50) bt T) (hB:100≤B):Calls prog 64 #[c.val,zp (some ⟨bt,0,none⟩)] g.w (SpaceMade c T B bt g):=by
 have HCK:=zH (fun w' (he:Ext g.w w')=>yaw c w' (hc.ext he));have HTL:=zH (fun g' (m:Mod (fun _=>False) g g')=>ylP g' (B+50) bt T (ht.keep m id));obtain ⟨i0,hi,hz0,hz1,hz2⟩:=info_parts ylx;have HC:=zH hc;have HT:=zH ht;unfold Cnf.val at HCK ⊢;obtain ⟨own0,m0,b0⟩: ∃own0,Mod (fun _=>False) g ⟨own0,g.w.alloc (.cells #[zI z6 c.frags,zI z6 c.spine,zI z6 c.globals,zI z6 c.threads,zI z6 c.locals,zI z6 c.cache,zI z6 c.stack,zI z6 c.low,.slice c.A c.shapes.length c.cap] 34)⟩∧Blk ⟨own0,g.w.alloc (.cells #[zI z6 c.frags,zI z6 c.spine,zI z6 c.globals,zI z6 c.threads,zI z6 c.locals,zI z6 c.cache,zI z6 c.stack,zI z6 c.low,.slice c.A c.shapes.length c.cap] 34)⟩ 9 g.w.heap.size 34 [zI z6 c.frags,zI z6 c.spine,zI z6 c.globals,zI z6 c.threads,zI z6 c.locals,zI z6 c.cache,zI z6 c.stack,zI z6 c.low,.slice c.A c.shapes.length c.cap]:=⟨_,Mod.ext zE 9,Blk.new g 9 34 [zI z6 c.frags,zI z6 c.spine,zI z6 c.globals,zI z6 c.threads,zI z6 c.locals,zI z6 c.cache,zI z6 c.stack,zI z6 c.low,.slice c.A c.shapes.length c.cap]⟩;have M0:=zH m0;have B0:=zH b0;clear hc ht m0 b0
 go_enter func64,ntmps64;go_wp2_with fail;refine (HCK.o _ zE).mono ?_;rintro e w1 ⟨rfl,hX⟩;obtain ⟨own1,m1⟩:=Mod.ofExt (show Ext _ w1 from hX) own0;have M1:=zH (M0.o.trans m1);have B1:=zH (B0.o.keep m1 id);clear m1 hX;obtain ⟨a0,a1,a2,a3,a4,a5,a6,a7,a8,al⟩:=B1.o.k9;by_cases hck:c.check=0
 case neg=>
  have hk1:(c.check !=0)=true:=by simp [hck]
  have HV:=zH (show¬(c.check=0∧(T.l.length:Int)=c.frags) from fun e=>hck e.1);have HW:=zH (show (if c.check=0 then 1 else c.check)=c.check from if_neg hck);clear hck;go_wp2_with fail;go_ret2;unfold SpaceMade;rw [if_neg HV.o];exact ⟨by rw [HW.o];rfl,M1.o.toExt⟩
 case pos=>
  have hk1:(c.check !=0)=false:=by simp [hck]
  have hrg:=Cnf.ranged (Cnf.check_zero hck).1;obtain ⟨⟨r0,r1⟩,⟨r2,r3⟩,⟨r4,r5⟩,⟨r6,r7⟩, -,⟨r8,r9⟩, -, -⟩:=hrg
  have hshp:c.shapes.length≤8:=by
   have:=(Cnf.check_zero hck).2.2.1;simp [within] at this;omega
  have HCKZ:=zH hck;have HTX:=zH (fun X=>yau (HTL.o ((⟨own1,w1⟩:GW).pt X) (Mod.pt M1.o X)));have hT1024:=HT.o.len;by_cases hfr:(T.l.length:Int)=c.frags
  case neg=>
   have HV:=zH (show¬(c.check=0∧(T.l.length:Int)=c.frags) from fun e=>hfr e.2);have HW:=zH (show (if c.check=0 then (1:Int) else c.check)=1 from if_pos hck);have hk2:((T.l.length:Int) !=c.frags)=true:=by simp [hfr]
   clear hck hfr;go_wp2_with fail;refine yab [zT,zT,zT,zT,zT] 0 5 ?_;intro X00;simp only [pickOps];repeat (go_big_quiet_step ((go_at_call 120;exact Calls.added (HTX.o _))))
   refine wpQuiet_nil (fun X0=>?_);clear X00;refine yaa zQ (fun X0'=>?_) _;go_wp2_with fail;go_ret2;unfold SpaceMade;rw [if_neg HV.o];exact ⟨by rw [HW.o];rfl,M1.o.toExt.trans zE⟩
  case pos=>
   have HV:=zH (show c.check=0∧(T.l.length:Int)=c.frags from ⟨hck,hfr⟩);have hk2:((T.l.length:Int) !=c.frags)=false:=by simp [hfr]
   have HPN:=zH (fun g'=>(show Calls prog 121 #[zI z6 c.frags] g'.w (fun e w'=> ∃own' b,e=.returned (.tuple #[zp (some ⟨b,0,none⟩),zI z6 0])∧Mod (fun _=>False) g' ⟨own',w'⟩∧PoolAt ⟨own',w'⟩ (B+1) b ⟨List.replicate c.frags.toNat true⟩) from (yld c.frags (B+1) g').mono fun e w' hh=>by
    unfold PoolMade at hh;rw [if_pos ⟨zo,zo⟩] at hh;exact hh))
   have HKN:=zH (fun g'=>(show Calls prog 122 #[zI z6 c.spine] g'.w (fun e w'=> ∃own' b,e=.returned (.tuple #[zp (some ⟨b,0,none⟩),zI z6 0])∧Mod (fun _=>False) g' ⟨own',w'⟩∧CoilAt ⟨own',w'⟩ (B+2) b ⟨c.spine,0,0,0,0⟩) from (ykJ c.spine (B+2) g').mono fun e w' hh=>by
    unfold CoilMade at hh;rw [if_pos ⟨zo,zo⟩] at hh;exact hh))
   have HCP:=zH (fun g' (m:Mod (fun _=>False) g g')=>ybG c (B+5) g' (HC.o.ext m.toExt) zo);unfold Cnf.val at HCP;clear hck hfr;go_wp2_with fail;refine yab [zT,zT,zT,zT,zT] 0 5 ?_;intro X00;simp only [pickOps];repeat (go_big_quiet_step ((go_at_call 120;exact Calls.added (HTX.o _))))
   refine wpQuiet_nil (fun X0=>?_);clear X00;refine yaa zQ (fun X0'=>?_) _;go_wp2_with fail;refine (HPN.o ((⟨own1,w1⟩:GW).pt _)).mono ?_;rintro e w2 ⟨own2,bp,rfl,m2,p2⟩;have M2:=zH ((Mod.pt M1.o _).trans m2);have B2:=zH ((B1.o.pt _).keep m2 id);have P2:=zH p2;clear m2 p2 a0 a1 a2 a3 a4 a5 a6 a7 a8 al;obtain ⟨a0,a1,a2,a3,a4,a5,a6,a7,a8,al⟩:=B2.o.k9;go_wp2_with fail;refine (HKN.o ⟨own2,w2⟩).mono ?_;rintro e w3 ⟨own3,bk,rfl,m3,k3⟩;have M3:=zH (M2.o.trans m3);have B3:=zH (B2.o.keep m3 id);have P3:=zH (P2.o.keep m3 id);have K3:=zH k3;clear m3 k3 a0 a1 a2 a3 a4 a5 a6 a7 a8 al;obtain ⟨a0,a1,a2,a3,a4,a5,a6,a7,a8,al⟩:=B3.o.k9;go_wp2_with fail;refine (HCP.o ⟨own3,w3⟩ M3.o).mono ?_;rintro e w4 ⟨c',rfl,hsm,hca,hX⟩;unfold Cnf.val;obtain ⟨own4,m4,hca⟩: ∃own4,Mod (fun _=>False) ⟨own3,w3⟩ ⟨own4,w4⟩∧CnfAt ⟨own4,w4⟩ (B+5) c':=⟨_,Mod.ext (g:=⟨own3,w3⟩) hX (B+5),hca⟩;have M4:=zH (M3.o.trans m4);have B4:=zH (B3.o.keep m4 id);have P4:=zH (P3.o.keep m4 id);have K4:=zH (K3.o.keep m4 id);have C4:=zH hca;have HSM:=zH hsm;clear m4 hca hX hsm a0 a1 a2 a3 a4 a5 a6 a7 a8 al;go_wp2_with fail;refine (yk3 (B+3) ⟨own4,w4⟩).mono ?_;rintro e w5 ⟨bl,rfl,hX,hl5⟩
   obtain ⟨own5,m5,hl5⟩: ∃own5,Mod (fun _=>False) ⟨own4,w4⟩ ⟨own5,w5⟩∧LineAt ⟨own5,w5⟩ (B+3) bl []:=⟨_,Mod.ext (g:=⟨own4,w4⟩) hX (B+3),hl5⟩;have M5:=zH (M4.o.trans m5);have B5:=zH (B4.o.keep m5 id);have P5:=zH (P4.o.keep m5 id);have K5:=zH (K4.o.keep m5 id);have C5:=zH (C4.o.keep m5 id);have L5:=zH hl5;clear m5 hl5 hX;obtain ⟨a0,a1,a2,a3,a4,a5,a6,a7,a8,al⟩:=B5.o.k9;go_wp2_with fail
   obtain ⟨own6,m6,hsp,hb6⟩: ∃own6,Mod (fun _=>False) g ⟨own6,w5.alloc (.cells #[zp (some ⟨bt,0,none⟩),.slice none 0 0,zb false,zI z6 0,zI z6 c'.frags,zI z6 c'.spine,zI z6 c'.globals,zI z6 c'.threads,zI z6 c'.locals,zI z6 c'.cache,zI z6 c'.stack,zI z6 c'.low,.slice c'.A c'.shapes.length c'.cap,zp (some ⟨bp,0,none⟩),zp (some ⟨bk,0,none⟩),zp (some ⟨bl,0,none⟩)] 67)⟩∧SpaceIn ⟨own6,w5.alloc (.cells #[zp (some ⟨bt,0,none⟩),.slice none 0 0,zb false,zI z6 0,zI z6 c'.frags,zI z6 c'.spine,zI z6 c'.globals,zI z6 c'.threads,zI z6 c'.locals,zI z6 c'.cache,zI z6 c'.stack,zI z6 c'.low,.slice c'.A c'.shapes.length c'.cap,zp (some ⟨bp,0,none⟩),zp (some ⟨bk,0,none⟩),zp (some ⟨bl,0,none⟩)] 67)⟩ B w5.heap.size bt { SpaceS.fresh c T with stocks:=[] } bp bk bl none 0 c' []∧Blk ⟨own6,w5.alloc (.cells #[zp (some ⟨bt,0,none⟩),.slice none 0 0,zb false,zI z6 0,zI z6 c'.frags,zI z6 c'.spine,zI z6 c'.globals,zI z6 c'.threads,zI z6 c'.locals,zI z6 c'.cache,zI z6 c'.stack,zI z6 c'.low,.slice c'.A c'.shapes.length c'.cap,zp (some ⟨bp,0,none⟩),zp (some ⟨bk,0,none⟩),zp (some ⟨bl,0,none⟩)] 67)⟩ 9 g.w.heap.size 34 [zI z6 c.frags,zI z6 c.spine,zI z6 c.globals,zI z6 c.threads,zI z6 c.locals,zI z6 c.cache,zI z6 c.stack,zI z6 c.low,.slice c.A c.shapes.length c.cap]:=by
    have m:=Mod.ext (T:=fun _=>False) (g:=⟨own5,w5⟩) (show Ext w5 (w5.alloc (.cells #[zp (some ⟨bt,0,none⟩),.slice none 0 0,zb false,zI z6 0,zI z6 c'.frags,zI z6 c'.spine,zI z6 c'.globals,zI z6 c'.threads,zI z6 c'.locals,zI z6 c'.cache,zI z6 c'.stack,zI z6 c'.low,.slice c'.A c'.shapes.length c'.cap,zp (some ⟨bp,0,none⟩),zp (some ⟨bk,0,none⟩),zp (some ⟨bl,0,none⟩)] 67)) from zE) B;exact ⟨_,M5.o.trans m,⟨Blk.new (⟨own5,w5⟩:GW) B 67 [zp (some ⟨bt,0,none⟩),.slice none 0 0,zb false,zI z6 0,zI z6 c'.frags,zI z6 c'.spine,zI z6 c'.globals,zI z6 c'.threads,zI z6 c'.locals,zI z6 c'.cache,zI z6 c'.stack,zI z6 c'.low,.slice c'.A c'.shapes.length c'.cap,zp (some ⟨bp,0,none⟩),zp (some ⟨bk,0,none⟩),zp (some ⟨bl,0,none⟩)],Row.nil _ _ _ _,HT.o.keep (M5.o.trans m) id,P5.o.keep m id,K5.o.keep m id,L5.o.keep m id id,C5.o.keep m id,HSM.o,rfl,fun j x s hx=>by simp at hx,HCKZ.o,by simp⟩,B5.o.keep m id⟩
   have hbg:g.w.heap.size≤w5.heap.size:=M5.o.size;generalize w5.heap.size=b at *;have HBG:=zH hbg;clear hbg;generalize w5.alloc (.cells #[zp (some ⟨bt,0,none⟩),.slice none 0 0,zb false,zI z6 0,zI z6 c'.frags,zI z6 c'.spine,zI z6 c'.globals,zI z6 c'.threads,zI z6 c'.locals,zI z6 c'.cache,zI z6 c'.stack,zI z6 c'.low,.slice c'.A c'.shapes.length c'.cap,zp (some ⟨bp,0,none⟩),zp (some ⟨bk,0,none⟩),zp (some ⟨bl,0,none⟩)] 67)=W6 at *;have M6:=zH m6;have S6:=zH hsp;have B6:=zH hb6;clear m6 hsp hb6 a0 a1 a2 a3 a4 a5 a6 a7 a8 al M0 B0 M1 B1 M2 B2 P2 M3 B3 P3 K3 M4 B4 P4 K4 C4 M5 B5 P5 K5 C5 L5;obtain ⟨tn,htn⟩:=Int.eq_ofNat_of_zero_le (show 0≤c.threads by omega);have HTN:=zH htn;rw [htn] at r6 r7 ⊢;clear htn
   go_loopw [52] (fun i wr=> ∃(k:Nat) (own:Nat→Nat) (A:Option Addr) (cs:Nat) (bs:List Nat),k≤tn∧i=zI z6 k∧Hid (Mod (fun _=>False) g ⟨own,wr⟩)∧Hid (SpaceIn ⟨own,wr⟩ B b bt { SpaceS.fresh c T with stocks:=List.replicate k ⟨[],c.cache⟩ } bp bk bl A cs c' bs)∧Hid (Blk ⟨own,wr⟩ 9 g.w.heap.size 34 [zI z6 c.frags,zI z6 c.spine,zI z6 c.globals,zI z6 c.threads,zI z6 c.locals,zI z6 c.cache,zI z6 c.stack,zI z6 c.low,.slice c.A c.shapes.length c.cap])∧Hid (∀y,(Value.slice A k cs).ownBlock=some y→g.w.heap.size≤y)) (fun i _=>tn-(intOf i).toNat)
   case atStart=>exact ⟨0,own6,none,0,[],Nat.zero_le _,rfl,M6,S6,B6,zH (fun y hy=>by cases hy)⟩
   case round=>
    obtain ⟨k,own,A,cs,bs,hk,rfl,M,S,Bx,HNEW⟩:=hrel;clear M6 S6 B6;by_cases hlt:k<tn
    · skip
      obtain ⟨a0,a1,a2,a3,a4,a5,a6,a7,a8,al⟩:=Bx.o.k9;go_wp2_with fail;refine (ykp c.cache (B+10+k) ⟨own,wr⟩ ⟨r8,r9⟩).mono ?_;rintro e w1 ⟨x,rfl,m1,s1,hX,hx1,hx2⟩;obtain ⟨own1,m1,s1⟩: ∃own1,Mod (fun _=>False) ⟨own,wr⟩ ⟨own1,w1⟩∧StockAt ⟨own1,w1⟩ (B+10+k) x ⟨[],c.cache⟩:=⟨_,m1,s1⟩;have M1:=zH (M.o.trans m1);have S1:=zH (S.o.keep m1 zG);have X1:=zH (Bx.o.keep m1 id);have T1:=zH s1;have R1:=zH (show Row ⟨own1,w1⟩ B 176 1 (.slice A k cs) k (bs.map fun x=>zp (some ⟨x,0,none⟩)) by have:=S1.o.row;simpa using this);have K1:=zH (show Blk ⟨own1,w1⟩ B b 67 [zp (some ⟨bt,0,none⟩),.slice A k cs,zb false,zI z6 0,zI z6 c'.frags,zI z6 c'.spine,zI z6 c'.globals,zI z6 c'.threads,zI z6 c'.locals,zI z6 c'.cache,zI z6 c'.stack,zI z6 c'.low,.slice c'.A c'.shapes.length c'.cap,zp (some ⟨bp,0,none⟩),zp (some ⟨bk,0,none⟩),zp (some ⟨bl,0,none⟩)] by have:=S1.o.blk;simpa [SpaceS.fresh] using this);clear m1 s1 hX hx1 hx2 a0 a1 a2 a3 a4 a5 a6 a7 a8 al;obtain ⟨a0,a1,a2,a3,a4,a5,a6,a7,a8,a9,a10,a11,a12,a13,a14,a15,al⟩:=K1.o.k16;have af1:=K1.o.liv 1
      have hE1:=zH (show Ext w1 (w1.alloc (.cells #[zp (some ⟨x,0,none⟩)] 176)) from zE)
      go_wp2_with (at_builtin;refine wpList_append_own_at _ rfl (.tmp 67) (.tmp 69) 60 rfl 0 176 i0 (zp none) 1 8 Tryz.underlying60 hi hz0 hz1 hz2 rfl zd (.slice A k cs) k (bs.map fun x=>zp (some ⟨x,0,none⟩)) rfl (R1.o.row.alloc _) ⟨w1.heap.size,0,none⟩ 1 1 [zp (some ⟨x,0,none⟩)] rfl rfl (cell_one_new _ _ _) (by intro u hu;simp at hu;subst hu;rfl) (by unfold maxLen;omega) zo (Nat.zero_le _) ?_;intro v2 w2 hown hgrow hnil hat;obtain ⟨A2,c2,rfl⟩:=yak hown;obtain ⟨own2,n2,m2,k2,r2,hnew2⟩: ∃own2,Mod (fun _=>False) g ⟨own2,w2⟩∧Mod (fun y=>y=B) ⟨own1,w1⟩ ⟨own2,w2⟩∧Blk ⟨own2,w2⟩ B b 67 [zp (some ⟨bt,0,none⟩),.slice A k cs,zb false,zI z6 0,zI z6 c'.frags,zI z6 c'.spine,zI z6 c'.globals,zI z6 c'.threads,zI z6 c'.locals,zI z6 c'.cache,zI z6 c'.stack,zI z6 c'.low,.slice c'.A c'.shapes.length c'.cap,zp (some ⟨bp,0,none⟩),zp (some ⟨bk,0,none⟩),zp (some ⟨bl,0,none⟩)]∧Row ⟨own2,w2⟩ B 176 1 (.slice A2 (k+1) c2) (k+1) ((bs++[x]).map fun x=>zp (some ⟨x,0,none⟩))∧(∀y,(Value.slice A2 (k+1) c2).ownBlock=some y→g.w.heap.size≤y):=⟨_,M1.o.grownNew (t1:=9) (t2:=B) hE1.o hgrow HNEW.o,(Mod.ext (T:=fun y=>y=B) (g:=⟨own1,w1⟩) hE1.o 9).trans (Mod.grown hgrow B (fun y hy hl=>(R1.o.ext hE1.o 9).own y hy)),(K1.o.ext hE1.o 9).grown (t':=B) hgrow (fun y hy=>R1.o.ne_type K1.o zd hy),((R1.o.ext hE1.o 9).grown hown hat).weak rfl (by simp),fun y hy=>by rcases hat with e|e;exact HNEW.o y (by rw [←e];exact hy);(rw [e] at hy;injection hy with hy;rw [←hy];exact Nat.le_trans M1.o.size hE1.o.size)⟩;have N2:=zH n2;have M2:=zH m2;have K2:=zH k2;have R2:=zH r2;have HN2:=zH hnew2;have d1:=K2.o.cell (i:=1) rfl;have df1:=K2.o.live 1;have dl:=K2.o.lt;simp only [GW.to] at d1 df1 dl;clear hown hgrow hnil hat n2 m2 k2 r2 hnew2 a0 a1 a2 a3 a4 a5 a6 a7 a8 a9 a10 a11 a12 a13 a14 a15 af1 al)
      go_roundw
      case rel=>
       have q1:Mod (fun y=>y=B) ⟨own1,w1⟩ ⟨own2,_⟩:=Mod.st M2.o (b:=b) (i:=1) (v:=.slice A2 (k+1) c2) K2.o.own;refine ⟨k+1,own2,A2,c2,bs++[x],zo,by go_num,zH (Mod.stn N2.o HBG.o),zH ?_,zH (X1.o.keep q1 zo),HN2⟩
       · have:=SpaceIn.addStock S1.o q1 (x:=x) (s:=⟨[],c.cache⟩) (A':=A2) (cs':=c2) (by simp only [List.length_replicate,SpaceS.fresh];exact K2.o.set 1 (.slice A2 (k+1) c2)) (by simp only [List.length_replicate];exact R2.o.setOther 1 (.slice A2 (k+1) c2) (fun y hy=>R2.o.ne_type K2.o zd hy)) (by simp only [List.length_replicate];exact T1.o.keep q1 zo) (by simp;omega);rw [List.replicate_succ'];exact this
      case measure=>simp [intOf];omega
    · obtain rfl:k=tn:=zo;go_wp2_with fail;go_ret2;unfold SpaceMade;rw [if_pos HV.o]
      have HF:SpaceIn ⟨own,wr⟩ B b bt (SpaceS.fresh c T) bp bk bl A cs c' bs:=by
       have:=S.o;unfold SpaceS.fresh at this ⊢;rw [HTN.o,Int.toNat_natCast];exact this
      exact ⟨own,b,rfl,M.o,_,_,_,_,_,_,_,HF⟩
structure MemAt (g:GW) (t b:Nat) (m:MemS):Prop where
 ex: ∃A c,Blk g t b 164 [.slice A m.l.length c,zI z6 m.count]∧Row g t 24 1 (.slice A m.l.length c) m.l.length (m.l.map cx)
 len:m.l.length≤1048576
theorem MemAt.keep {S:Nat→Prop} {g g':GW} {t b:Nat} {m:MemS} (h:MemAt g t b m) (d:Mod S g g') (hs: ¬S t):MemAt g' t b m:=by
 obtain ⟨A,c,h1,h2⟩:=h.ex;exact ⟨⟨A,c,h1.keep d hs,h2.keep d hs⟩,h.len⟩
theorem MemAt.pt {g:GW} {t b:Nat} {m:MemS} (h:MemAt g t b m) (X:Extra):MemAt (g.pt X) t b m:=h.keep (S:=fun _=>False) (Mod.pt (Mod.refl _ _) X) id
theorem ybB (b:Nat) (i:Int) (A:Option Addr) (n c:Nat) (w:World) (h0:w.cell? ⟨b,0,none⟩=some (.slice A n c)):
 Calls prog 126 #[zp (some ⟨b,0,none⟩),zI z6 i] w (fun e w'=>e=.returned (zb (inB i n))∧w=w'):=by
 by_cases hi:0≤i
 · by_cases hl:i<n
   · have HV:=zH (show inB i n=true by unfold inB;simp;omega);go_enter func126,ntmps126;go_wp2_with fail;go_ret;exact ⟨by rw [HV.o];try rfl,rfl⟩
   · have HV:=zH (show inB i n=false from yhc zo);go_enter func126,ntmps126;go_wp2_with fail;go_ret;exact ⟨by rw [HV.o];try rfl,rfl⟩
 · have HV:=zH (show inB i n=false from yhd zo);go_enter func126,ntmps126;go_wp2_with fail;go_ret;exact ⟨by rw [HV.o];try rfl,rfl⟩
theorem MemAt.word {g:GW} {t b:Nat} {m:MemS} (h:MemAt g t b m) {k:Nat} (hk:k<m.l.length): ∃r c x,m.l[k]?=some x∧Blk g t b 164 [.slice (some ⟨r,0,none⟩) m.l.length c,zI z6 m.count]∧
 Row g t 24 1 (.slice (some ⟨r,0,none⟩) m.l.length c) m.l.length (m.l.map cx)∧r<g.w.heap.size∧g.w.cell? ⟨r,k,none⟩=some (zc z4 x.1 x.2)∧g.w.frozen? ⟨r,k,none⟩=false∧b≠r:=by
 obtain ⟨A,c,hb,hr⟩:=h.ex;obtain ⟨r,rfl,hl,ho,hc,hf⟩:=hr.block zo;have hx:=List.getElem?_eq_getElem hk;refine ⟨r,c,_,hx,hb,hr,hl,hc _ _ (by rw [List.getElem?_map,hx];rfl),hf _,hr.ne_type hb zd rfl⟩
theorem MemS.peek_in {m:MemS} {k:Nat} {x:Nat × Nat} (h:m.l[k]?=some x):m.peek k=x:=by
 unfold MemS.peek;rw [if_pos (yb9 (List.getElem?_eq_some_iff.1 h).1),Int.toNat_natCast,List.getD_eq_getElem?_getD,h];rfl
theorem MemS.peek_out {m:MemS} {a:Int} (h:inB a m.l.length=false):m.peek a=(0,0):=by unfold MemS.peek;rw [h];rfl
theorem yjO (g:GW) (t b:Nat) (m:MemS) (h:MemAt g t b m):
 Calls prog 184 #[zp (some ⟨b,0,none⟩)] g.w (fun e w'=>e=.returned (zI z6 m.count)∧g.w=w'):=by
 obtain ⟨A,c,hb,hr⟩:=h.ex;have c1:=hb.cell (i:=1) rfl;clear hb hr h;go_enter func184,ntmps184;go_wp2_with fail;go_ret;exact ⟨rfl,rfl⟩
theorem MemAt.ticked {g:GW} {t b:Nat} {m:MemS} (h:MemAt g t b m):MemAt ⟨g.own,g.w.setCell ⟨b,1,none⟩ (zI z6 (m.count+1))⟩ t b m.tick:=by
 obtain ⟨A,c,hb,hr⟩:=h.ex;exact ⟨⟨A,c,hb.set 1 _,hr.setOther _ _ (fun k hk=>hr.ne_type hb zd hk)⟩,h.len⟩
theorem MemAt.laid {g:GW} {t b r c k p q:Nat} {m:MemS} (h:MemAt g t b m) (hk:k<m.l.length) (hb:Blk g t b 164 [.slice (some ⟨r,0,none⟩) m.l.length c,zI z6 m.count]):MemAt ⟨g.own,g.w.setCell ⟨r,k,none⟩ (zc z4 p q)⟩ t b (m.lay k (p,q)):=by
 obtain ⟨A',c',hb',hr⟩:=h.ex;have e:=hb'.same hb;injection e with e _;injection e with e1 _ e2;subst e1 e2;have e2:m.lay k (p,q)={ m with l:=m.l.set k (p,q) }:=by unfold MemS.lay;rw [if_pos (yb9 hk),Int.toNat_natCast]
 rw [e2];refine ⟨⟨some ⟨r,0,none⟩,c',?_,?_⟩,by simpa using h.len⟩
 · simp only [List.length_set];exact hb'.setOther _ _ (fun e=>hr.ne_type hb' zd rfl e.symm)
 · simp only [List.length_set];have:=hr.store k (zc z4 p q);rw [List.map_set];exact this
theorem MemS.lay_out {m:MemS} {a:Int} {x:Nat × Nat} (h:inB a m.l.length=false):m.lay a x=m:=by unfold MemS.lay;rw [h];rfl
theorem ybP (g:GW) (t b:Nat) (a:Int) (m:MemS) (h:MemAt g t b m) (hc:0≤m.count∧m.count≤1099511627776):
 Calls prog 90 #[zp (some ⟨b,0,none⟩),zI z6 a] g.w (Does (.tuple #[zc z4 (m.peek a).1 (m.peek a).2,zI z6 (if inB a m.l.length then 0 else 1)]) g (fun x=>x=t) (fun g'=>MemAt g' t b m.tick)):=by
 obtain ⟨hc0,hc1⟩:=hc;cases hin:inB a m.l.length
 · have HV:=zH (MemS.peek_out hin);obtain ⟨A,c,hb,hr⟩:=h.ex;have HO:=zH hb.own;have H:=zH h.ticked;have c0:=hb.cell (i:=0) rfl;have c1:=hb.cell (i:=1) rfl;have f1:=hb.live 1;have hbl:=hb.lt;clear hb hr h;go_enter func90,ntmps90;go_wp2_with fail;refine (ybB b a A m.l.length c _ (by go_simp)).mono ?_;rw [hin];rintro e w1 ⟨rfl,rfl⟩;go_wp2_with fail;go_ret2;exact Does.of ⟨g.own,_⟩ rfl (by rw [HV.o];try rfl) (Mod.st Mod.self HO.o) H.o
 · obtain ⟨k,rfl,hk⟩:=yap hin;obtain ⟨r,c,⟨p,q⟩,hx,hb, -,hrl,k0, -,hne⟩:=h.word hk;have HV:=zH (MemS.peek_in hx);have HO:=zH hb.own;have H:=zH h.ticked;have c0:=hb.cell (i:=0) rfl;have c1:=hb.cell (i:=1) rfl;have f1:=hb.live 1;have hbl:=hb.lt;have hlen:=h.len;simp only at k0;clear hb h hx;go_enter func90,ntmps90;go_wp2_with fail;refine (ybB b k (some ⟨r,0,none⟩) m.l.length c _ (by go_simp)).mono ?_;rw [hin];rintro e w1 ⟨rfl,rfl⟩;go_wp2_with fail;go_ret2;exact Does.of ⟨g.own,_⟩ rfl (by rw [HV.o];try rfl) (Mod.st Mod.self HO.o) H.o
theorem yeN (g:GW) (t b:Nat) (a:Int) (p q:Nat) (m:MemS) (h:MemAt g t b m) (hc:0≤m.count∧m.count≤1099511627776):
 Calls prog 147 #[zp (some ⟨b,0,none⟩),zI z6 a,zc z4 p q] g.w (Does (zI z6 (if inB a m.l.length then 0 else 1)) g (fun x=>x=t) (fun g'=>MemAt g' t b (m.tick.lay a (p,q)))):=by
 obtain ⟨hc0,hc1⟩:=hc;cases hin:inB a m.l.length
 · have HV:=zH (MemS.lay_out (m:=m.tick) (x:=(p,q)) hin);obtain ⟨A,c,hb,hr⟩:=h.ex;have HO:=zH hb.own;have H:=zH h.ticked;have c0:=hb.cell (i:=0) rfl;have c1:=hb.cell (i:=1) rfl;have f1:=hb.live 1;have hbl:=hb.lt;clear hb hr h;go_enter func147,ntmps147;go_wp2_with fail;refine (ybB b a A m.l.length c _ (by go_simp)).mono ?_;rw [hin];rintro e w1 ⟨rfl,rfl⟩;go_wp2_with fail;go_ret;exact Does.of ⟨g.own,_⟩ rfl rfl (Mod.st Mod.self HO.o) (by rw [HV.o];exact H.o)
 · obtain ⟨k,rfl,hk⟩:=yap hin;obtain ⟨r,c,⟨p',q'⟩,hx,hb,hr,hrl,k0,kf,hne⟩:=h.word hk;have HO:=zH hb.own;have HR:=zH (hr.own r rfl);have H:=zH (MemAt.laid (p:=p) (q:=q) h.ticked hk (hb.set 1 _));have hne':r≠b:=fun e=>hne e.symm;have c0:=hb.cell (i:=0) rfl;have c1:=hb.cell (i:=1) rfl;have f1:=hb.live 1;have hbl:=hb.lt;have hlen:=h.len;simp only at k0;clear hb h hx hr;go_enter func147,ntmps147;go_wp2_with fail;refine (ybB b k (some ⟨r,0,none⟩) m.l.length c _ (by go_simp)).mono ?_;rw [hin];rintro e w1 ⟨rfl,rfl⟩;go_wp2_with fail;go_ret;exact Does.of ⟨g.own,_⟩ rfl rfl (Mod.st (Mod.st Mod.self HO.o) HR.o) H.o
theorem ylz (g:GW) (t b:Nat) (a:Int) (p q:Nat) (m:MemS) (h:MemAt g t b m):
 Calls prog 67 #[zp (some ⟨b,0,none⟩),zI z6 a,zc z4 p q] g.w (Does (.tuple #[]) g (fun x=>x=t) (fun g'=>MemAt g' t b (m.lay a (p,q)))):=by
 cases hin:inB a m.l.length
 · have HV:=zH (MemS.lay_out (x:=(p,q)) hin);obtain ⟨A,c,hb,hr⟩:=h.ex;have H:=zH h;have c0:=hb.cell (i:=0) rfl;clear hb hr h;go_enter func67,ntmps67;go_wp2_with fail;refine (ybB _ _ _ _ _ _ c0).mono ?_;rintro e w1 ⟨rfl,rfl⟩;go_wp2_with fail;refine bodyPost_end (results_none rfl _ _ _) rfl (Does.of g rfl rfl (Mod.refl _ _) (by rw [HV.o];exact H.o))
 · obtain ⟨k,rfl,hk⟩:=yap hin;obtain ⟨r,c,⟨p',q'⟩,hx,hb,hr,hrl,k0,kf,hne⟩:=h.word hk;have HR:=zH (hr.own r rfl);have H:=zH (MemAt.laid (p:=p) (q:=q) h hk hb);have c0:=hb.cell (i:=0) rfl;have hlen:=h.len;simp only at k0;clear hb h hx hr;go_enter func67,ntmps67;go_wp2_with fail;refine (ybB _ _ _ _ _ _ c0).mono ?_;rintro e w1 ⟨rfl,rfl⟩;go_wp2_with fail;refine bodyPost_end (results_none rfl _ _ _) rfl (Does.of ⟨g.own,_⟩ rfl rfl (Mod.st Mod.self HR.o) H.o)
theorem yma:(prog.info? 24).map (fun i=>(i.zero,i.size,i.bytes))=some (some (zc z4 0 0),1,16):=zQ
def MemMade (n:Int) (t:Nat) (g:GW) (e:Ending) (w':World):Prop:=
 if 0≤n∧n≤1048576 then∃own' b,e=.returned (.tuple #[zp (some ⟨b,0,none⟩),zI z6 0])∧Mod (fun _=>False) g ⟨own',w'⟩∧MemAt ⟨own',w'⟩ t b ⟨List.replicate n.toNat (0,0),0⟩
 else e=.returned (.tuple #[zp none,zI z6 1])∧Ext g.w w'
theorem ylA (n:Int) (t:Nat) (g:GW):Calls prog 61 #[zI z6 n] g.w (MemMade n t g):=by
 obtain ⟨i0,hi,hz0,hz1,hz2⟩:=info_parts yma;by_cases h0:n<0
 · have HV:=zH (show¬(0≤n∧n≤1048576) by omega);go_enter func61,ntmps61;go_wp2_with fail;go_ret2;unfold MemMade;rw [if_neg HV.o];exact ⟨rfl,Ext.refl _⟩
 by_cases h1:1048576<n
 · have HV:=zH (show¬(0≤n∧n≤1048576) by omega);go_enter func61,ntmps61;go_wp2_with fail;go_ret2;unfold MemMade;rw [if_neg HV.o];exact ⟨rfl,Ext.refl _⟩
 obtain ⟨k,rfl⟩:=Int.eq_ofNat_of_zero_le (show 0≤n by omega);have HV:=zH (show (0:Int)≤k∧(k:Int)≤1048576 by omega);have hmk:=ybR (P:=prog) 162 24 i0 _ 1 16 Tryz.underlying162 hi hz0 hz1 hz2 k zo zo;simp only [Value.cells,ydi] at hmk;have HK:=zH (show k≤1048576 by omega);go_enter func61,ntmps61;go_wp2_with fail;go_ret2;unfold MemMade;rw [if_pos HV.o];obtain ⟨q1,q2⟩:=yaI g.w (.cells (List.replicate k (zc z4 0 0)).toArray 24) (.cells #[.slice (some ⟨g.w.heap.size,0,none⟩) k k,zI z6 0] 164);refine ⟨_,_,rfl,Mod.ext (show Ext g.w _ from zE) t,⟨⟨some ⟨g.w.heap.size,0,none⟩,k,?_,?_⟩,by simpa using HK.o⟩⟩
 · simp only [Int.toNat_natCast,List.length_replicate];exact Blk.made q2 zo
 · simp only [Int.toNat_natCast,List.length_replicate,List.map_replicate];exact Row.made q1 (Nat.le_refl _) (by simp) (by have:=HK.o;omega)
end Go.Proofs.YtdhjjpnajjingaaGreat
namespace Go
open Go.RowKit
theorem Mod.nothing {T:Nat→Prop} {g g':GW} (h:Mod T g g') (hn: ∀k,k<g.w.heap.size→ ¬T (g.own k)):Mod (fun _=>False) g g':=⟨h.os,h.tape,h.output,h.size,h.own,fun k hk _=>h.block k hk (hn k hk)⟩
structure CoreS where
 c:Cnf
 mem:MemS
 sp:SpaceS
 hand:HandS
 pile:PileS
 n:Int
end Go
namespace Go.Proofs.YtdhjjpnajjingaaGreat
open Go Go.RowKit
theorem SpaceAt.keep {g g':GW} {B b bt:Nat} {S:SpaceS} {T:Nat→Prop} (h:SpaceAt g B b bt S) (m:Mod T g g') (hT: ∀x,T x→x<B∨B+60≤x):SpaceAt g' B b bt S:=by
 obtain ⟨bp,bk,bl,A,cs,cm,bs,h⟩:=h;exact ⟨bp,bk,bl,A,cs,cm,bs,h.keep m hT⟩
structure CoreIn (g:GW) (B b:Nat) (K:CoreS) (bm bs bt bp bsp bh:Nat) (cm:Cnf):Prop where
 blk:Blk g (B+64) b 51 [zI z6 cm.frags,zI z6 cm.spine,zI z6 cm.globals,zI z6 cm.threads,zI z6 cm.locals,zI z6 cm.cache,zI z6 cm.stack,zI z6 cm.low,.slice cm.A cm.shapes.length cm.cap,zp (some ⟨bm,0,none⟩),zp (some ⟨bs,0,none⟩),zp (some ⟨bsp,0,none⟩),zp (some ⟨bh,0,none⟩)]
 mem:MemAt g (B+62) bm K.mem
 sh:Blk g (B+60) bs 57 [zp (some ⟨bt,0,none⟩),zp (some ⟨bp,0,none⟩),zI z6 K.n]
 pile:PileAt g (B+61) bp K.pile
 sp:SpaceAt g B bsp bt K.sp
 hand:HandAt g (B+63) bh K.hand
 cnf:CnfAt g (B+65) cm
 same:cm.Same K.c
def CoreAt (g:GW) (B b:Nat) (K:CoreS):Prop:= ∃bm bs bt bp bsp bh cm,CoreIn g B b K bm bs bt bp bsp bh cm
theorem CoreIn.keep {g g':GW} {B b bm bs bt bp bsp bh:Nat} {K:CoreS} {cm:Cnf} {T:Nat→Prop} (h:CoreIn g B b K bm bs bt bp bsp bh cm) (m:Mod T g g') (hT: ∀x,T x→x<B∨B+70≤x):CoreIn g' B b K bm bs bt bp bsp bh cm:=by
 have q: ∀k,k<70→ ¬T (B+k):=fun k hk ht=>by have:=hT _ ht;omega
 exact ⟨h.blk.keep m (q 64 zo),h.mem.keep m (q 62 zo),h.sh.keep m (q 60 zo),h.pile.keep m (q 61 zo),h.sp.keep m (fun x hx=>by have:=hT x hx;omega),h.hand.keep m (q 63 zo),h.cnf.keep m (q 65 zo),h.same⟩
def memLaid (c:Cnf) (k:Nat):MemS:=(List.range k).foldl (fun m j=>m.lay (cAtV c 3 (j:Nat)) (0,4607182418800017408)) ⟨List.replicate (cWords c).toNat (0,0),0⟩
theorem yfU (c:Cnf) (k:Nat):memLaid c (k+1)=(memLaid c k).lay (cAtV c 3 (k:Nat)) (0,4607182418800017408):=by
 unfold memLaid;rw [List.range_succ,List.foldl_append];rfl
def CoreS.fresh (c:Cnf):CoreS:=⟨c,memLaid c c.globals.toNat,SpaceS.fresh c (TabS.fresh c.frags.toNat),⟨0,false,List.replicate c.threads.toNat (-1),0⟩,⟨[],c.stack,false⟩,0⟩
def CoreMade (c:Cnf) (B:Nat) (g:GW) (e:Ending) (w':World):Prop:=
 if c.check=0 then∃own' b,e=.returned (.tuple #[zp (some ⟨b,0,none⟩),zI z6 0])∧Mod (fun _=>False) g ⟨own',w'⟩∧CoreAt ⟨own',w'⟩ B b (CoreS.fresh c)
 else e=.returned (.tuple #[zp none,zI z6 c.check])∧Ext g.w w'
theorem yfD (c:Cnf) (B:Nat) (g:GW) (hc:c.Ok g.w) (hB:100≤B) (hF: ∀k,k<g.w.heap.size→g.own k<B∨B+70≤g.own k):Calls prog 33 #[c.val] g.w (CoreMade c B g):=by
 have HCK:=zH (fun w' (he:Ext g.w w')=>yaw c w' (hc.ext he));have HWD:=zH (fun g' (m:Mod (fun _=>False) g g')=>ykA c g'.w (hc.ext m.toExt));have HGL:=zH (fun k g' (m:Mod (fun _=>False) g g')=>ybc c k g'.w (hc.ext m.toExt));have HF:=zH hF;have HC:=zH hc;unfold Cnf.val at HCK HWD HGL ⊢;obtain ⟨own0,m0,b0⟩: ∃own0,Mod (fun _=>False) g ⟨own0,g.w.alloc (.cells #[zI z6 c.frags,zI z6 c.spine,zI z6 c.globals,zI z6 c.threads,zI z6 c.locals,zI z6 c.cache,zI z6 c.stack,zI z6 c.low,.slice c.A c.shapes.length c.cap] 34)⟩∧Blk ⟨own0,g.w.alloc (.cells #[zI z6 c.frags,zI z6 c.spine,zI z6 c.globals,zI z6 c.threads,zI z6 c.locals,zI z6 c.cache,zI z6 c.stack,zI z6 c.low,.slice c.A c.shapes.length c.cap] 34)⟩ 9 g.w.heap.size 34 [zI z6 c.frags,zI z6 c.spine,zI z6 c.globals,zI z6 c.threads,zI z6 c.locals,zI z6 c.cache,zI z6 c.stack,zI z6 c.low,.slice c.A c.shapes.length c.cap]:=⟨_,Mod.ext zE 9,Blk.new g 9 34 [zI z6 c.frags,zI z6 c.spine,zI z6 c.globals,zI z6 c.threads,zI z6 c.locals,zI z6 c.cache,zI z6 c.stack,zI z6 c.low,.slice c.A c.shapes.length c.cap]⟩
 have M0:=zH m0;have B0:=zH b0;clear hc m0 b0 hF;go_enter func33,ntmps33;go_wp2_with fail;refine (HCK.o _ zE).mono ?_;rintro e w1 ⟨rfl,hX⟩;obtain ⟨own1,m1⟩:=Mod.ofExt (show Ext _ w1 from hX) own0;have M1:=zH (M0.o.trans (m1.mono zG));have B1:=zH (B0.o.keep m1 id);clear m1 hX;obtain ⟨a0,a1,a2,a3,a4,a5,a6,a7,a8,al⟩:=B1.o.k9;by_cases hck:c.check=0
 case neg=>
  have hk1:(c.check !=0)=true:=by simp [hck]
  have HW:=zH hck;clear hck;go_wp2_with fail;go_ret2;unfold CoreMade;rw [if_neg HW.o];exact ⟨rfl,M1.o.toExt⟩
 case pos=>
  have hk1:(c.check !=0)=false:=by simp [hck]
  obtain ⟨⟨r0,r1⟩,⟨r2,r3⟩,⟨r4,r5⟩,⟨r6,r7⟩, -,⟨r8,r9⟩,⟨r10,r11⟩, -⟩:=Cnf.ranged (Cnf.check_zero hck).1
  have hshp:c.shapes.length≤8:=by
   have:=(Cnf.check_zero hck).2.2.1;simp [within] at this;omega
  have HCKZ:=zH hck;have hwd:cWords c=c.frags*8+c.spine+c.spine+c.globals:=by unfold cWords;rw [if_pos hck]
  have HMN:=zH (fun g'=>(show Calls prog 61 #[zI z6 (cWords c)] g'.w (fun e w'=> ∃own' b,e=.returned (.tuple #[zp (some ⟨b,0,none⟩),zI z6 0])∧Mod (fun _=>False) g' ⟨own',w'⟩∧MemAt ⟨own',w'⟩ (B+62) b (memLaid c 0)) from (ylA (cWords c) (B+62) g').mono fun e w' hh=>by
   unfold MemMade at hh;rw [if_pos ⟨zo,zo⟩] at hh;exact hh))
  have HHN:=zH (fun g'=>(show Calls prog 65 #[zI z6 c.threads] g'.w (fun e w'=> ∃own' b,e=.returned (.tuple #[zp (some ⟨b,0,none⟩),zI z6 0])∧Mod (fun _=>False) g' ⟨own',w'⟩∧HandAt ⟨own',w'⟩ (B+63) b ⟨0,false,List.replicate c.threads.toNat (-1),0⟩) from (ykU c.threads (B+63) g').mono fun e w' hh=>by
   unfold HandMade at hh;rw [if_pos ⟨zo,zo⟩] at hh;exact hh))
  have HSN:=zH (fun g'=>(show Calls prog 63 #[zI z6 c.frags,zI z6 c.stack] g'.w (fun e w'=> ∃own' b bt bp,e=.returned (.tuple #[zp (some ⟨b,0,none⟩),zI z6 0])∧Mod (fun _=>False) g' ⟨own',w'⟩∧Blk ⟨own',w'⟩ (B+60) b 57 [zp (some ⟨bt,0,none⟩),zp (some ⟨bp,0,none⟩),zI z6 0]∧TabAt ⟨own',w'⟩ (B+50) bt (TabS.fresh c.frags.toNat)∧PileAt ⟨own',w'⟩ (B+61) bp ⟨[],c.stack,false⟩) from by
   have:=ykf c.frags.toNat c.stack (B+60) (B+50) (B+61) g' zo ⟨zo,zo⟩;rw [show ((c.frags.toNat:Nat):Int)=c.frags by omega] at this;exact this))
  have HPN:=zH (fun g' bt (m:Mod (fun _=>False) g g') (ht:TabAt g' (B+50) bt (TabS.fresh c.frags.toNat))=>(show Calls prog 64 #[c.val,zp (some ⟨bt,0,none⟩)] g'.w (fun e w'=> ∃own' b,e=.returned (.tuple #[zp (some ⟨b,0,none⟩),zI z6 0])∧Mod (fun _=>False) g' ⟨own',w'⟩∧SpaceAt ⟨own',w'⟩ B b bt (SpaceS.fresh c (TabS.fresh c.frags.toNat))) from (ykk c (TabS.fresh c.frags.toNat) B bt g' (HC.o.ext m.toExt) ht hB).mono fun e w' hh=>by
   unfold SpaceMade at hh;rw [if_pos ⟨HCKZ.o,by simp [TabS.fresh];omega⟩] at hh;exact hh))
  have HCP:=zH (fun g' (m:Mod (fun _=>False) g g')=>ybG c (B+65) g' (HC.o.ext m.toExt) zo);unfold Cnf.val at HPN HCP;clear hck hwd;go_wp2_with fail;refine (HWD.o ⟨own1,w1⟩ M1.o).mono ?_;rintro e w2 ⟨rfl,hX⟩;obtain ⟨own2,m2⟩:=Mod.ofExt (show Ext w1 w2 from hX) own1;have M2:=zH (M1.o.trans (m2.mono zG));have B2:=zH (B1.o.keep m2 id);clear m2 hX;clear a0 a1 a2 a3 a4 a5 a6 a7 a8 al;obtain ⟨a0,a1,a2,a3,a4,a5,a6,a7,a8,al⟩:=B2.o.k9;go_wp2_with fail;refine (HMN.o ⟨own2,w2⟩).mono ?_;rintro e w3 ⟨own3,bm,rfl,m3,x3⟩;have M3:=zH (M2.o.trans (m3.mono zG));have B3:=zH (B2.o.keep m3 id);have X3:=zH x3;clear m3 x3 HMN HWD HCK;clear a0 a1 a2 a3 a4 a5 a6 a7 a8 al;obtain ⟨a0,a1,a2,a3,a4,a5,a6,a7,a8,al⟩:=B3.o.k9;go_wp2_with fail;refine (HSN.o ⟨own3,w3⟩).mono ?_;rintro e w4 ⟨own4,bs,bt,bp,rfl,m4,s4,t4,p4⟩;have M4:=zH (M3.o.trans (m4.mono zG));have B4:=zH (B3.o.keep m4 id);have X4:=zH (X3.o.keep m4 id);have S4:=zH s4;have T4:=zH t4;have P4:=zH p4;clear m4 s4 t4 p4 HSN X3;clear a0 a1 a2 a3 a4 a5 a6 a7 a8 al;obtain ⟨a0,a1,a2,a3,a4,a5,a6,a7,a8,al⟩:=B4.o.k9;obtain ⟨s0,s1,s2,sl⟩:=S4.o.k3
  have HTB:=zH (fun w=>yc9 bt w);go_wp2_with fail;go_cut [8,6] (fun s8 s6 wx=> ∃own5 bsp,s8=zp (some ⟨bsp,0,none⟩)∧s6=zI z6 0∧Mod (fun _=>False) ⟨own4,w4⟩ ⟨own5,wx⟩∧SpaceAt ⟨own5,wx⟩ B bsp bt (SpaceS.fresh c (TabS.fresh c.frags.toNat)))
  case first=>
   refine yab [zT,zT,zT,zT,zT,zT,zU,zU,zU,zU,zU,zU] 6 12 ?_;intro X00;simp only [pickOps];repeat (go_big_quiet_step ((go_at_call 12;exact Calls.added (HTB.o _))))
   refine wpQuiet_nil (fun X0=>?_);clear X00;refine yah 6 _ zQ rfl rfl zd (fun X1 K Q' hK=>?_);go_simp;refine (HPN.o ((⟨own4,w4⟩:GW).pt _) bt (Mod.pt M4.o _) (T4.o.pt _)).mono ?_;rintro e w5 ⟨own5,bsp,rfl,m5,y5⟩;have M5:=zH ((Mod.pt (Mod.refl (fun _=>False) (⟨own4,w4⟩:GW)) _).trans m5);have Y5:=zH y5;have hE5:Ext w4 w5:=M5.o.toExt;have HKK:=zH (show∀X, ∃o,Mod (fun _=>False) ⟨own4,w4⟩ ⟨o,w5.patch X⟩∧SpaceAt ⟨o,w5.patch X⟩ B bsp bt (SpaceS.fresh c (TabS.fresh c.frags.toNat)) from fun X=>⟨_,M5.o.trans (Mod.ext (T:=fun _=>False) (g:=⟨own5,w5⟩) ⟨X,rfl⟩ 0),Y5.o.keep (Mod.ext (T:=fun _=>False) (g:=⟨own5,w5⟩) ⟨X,rfl⟩ 0) zG⟩);clear m5 y5;refine hK _ _ hE5 ?_;clear hK K Q';refine yah 7 _ zQ rfl rfl zd (fun X1 K Q' hK=>?_);go_simp;refine hK _ _ ?_ ?_
   · exact zF
   clear hK K Q';refine yco 8 9 _ _ zQ rfl rfl rfl rfl zd zd (fun X1 K Q' hK=>?ordA) (fun X1 K Q' hK=>?ordB)
   case' ordA=>
    go_simp;refine hK _ _ ?_ ?_
    · exact zF
    clear hK K Q';refine yco 9 10 _ _ zQ rfl rfl rfl rfl zd zd (fun X1 K Q' hK=>?ordA1) (fun X1 K Q' hK=>?ordA2)
    case' ordA1=>
     go_simp;refine hK _ _ ?_ ?_
     · exact zF
     clear hK K Q';refine yah 10 _ zQ rfl rfl zd (fun X1 K Q' hK=>?_);go_simp;refine hK _ _ ?_ ?_
     · exact zF
     clear hK K Q'
    case' ordA2=>
     go_simp;refine hK _ _ ?_ ?_
     · exact zF
     clear hK K Q';refine yah 9 _ zQ rfl rfl zd (fun X1 K Q' hK=>?_);go_simp;refine hK _ _ ?_ ?_
     · exact zF
     clear hK K Q'
   case' ordB=>
    go_simp;refine hK _ _ ?_ ?_
    · exact zF
    clear hK K Q';refine yah 8 _ zQ rfl rfl zd (fun X1 K Q' hK=>?_);go_simp;refine hK _ _ ?_ ?_
    · exact zF
    clear hK K Q';refine yah 10 _ zQ rfl rfl zd (fun X1 K Q' hK=>?_);go_simp;refine hK _ _ ?_ ?_
    · exact zF
    clear hK K Q'
   all_goals
    refine yah 11 _ zQ rfl rfl zd (fun X1 K Q' hK=>?_);go_simp;refine hK _ _ ?_ ?_
    · exact zF
    clear hK K Q';refine yaa zQ (fun X2=>?_) _;go_wp2_with fail;go_meet
    (try rw [World.patch_patch]);exact (HKK.o _).elim fun o h=>⟨o,bsp,rfl,rfl,h.1,h.2⟩
  case rest=>
   obtain ⟨own5,bsp,rfl,rfl,m5,y5⟩:=hcut;obtain ⟨w5,rfl⟩: ∃w5:World,w5=wc:=⟨_,rfl⟩;have M5:=zH (M4.o.trans (m5.mono zG));have B5:=zH (B4.o.keep m5 id);have X5:=zH (X4.o.keep m5 id);have S5:=zH (S4.o.keep m5 id);have P5:=zH (P4.o.keep m5 id);have Y5:=zH y5;clear m5 y5 HPN HTB X4 S4 P4 T4 s0 s1 s2 sl;clear a0 a1 a2 a3 a4 a5 a6 a7 a8 al;obtain ⟨a0,a1,a2,a3,a4,a5,a6,a7,a8,al⟩:=B5.o.k9;go_wp2_with fail;refine (HHN.o ⟨own5,w5⟩).mono ?_;rintro e w6 ⟨own6,bh,rfl,m6,h6⟩;have M6:=zH (M5.o.trans (m6.mono zG));have B6:=zH (B5.o.keep m6 id);have X6:=zH (X5.o.keep m6 id);have S6:=zH (S5.o.keep m6 id);have P6:=zH (P5.o.keep m6 id);have Y6:=zH (Y5.o.keep m6 zG);have H6:=zH h6;clear m6 h6 HHN X5 S5 P5 Y5;clear a0 a1 a2 a3 a4 a5 a6 a7 a8 al;obtain ⟨a0,a1,a2,a3,a4,a5,a6,a7,a8,al⟩:=B6.o.k9;go_wp2_with fail;have HGN:=zH (Int.eq_ofNat_of_zero_le r4);go_loopw [62] (fun i wr=> ∃(k:Nat) (own:Nat→Nat),(k:Int)≤c.globals∧i=zI z6 k∧Hid (Mod (fun x=>x=B+62) ⟨own6,w6⟩ ⟨own,wr⟩)∧Hid (MemAt ⟨own,wr⟩ (B+62) bm (memLaid c k))) (fun i _=>c.globals.toNat-(intOf i).toNat)
   case atStart=>exact ⟨0,own6,r4,rfl,zH (Mod.refl _ _),X6⟩
   case round=>
    obtain ⟨k,own7,hk,rfl,N7,X7⟩:=hrel;obtain ⟨w7,rfl⟩: ∃w7:World,w7=wr:=⟨_,rfl⟩;have M7:=zH (show Mod (fun _=>False) g ⟨own7,w7⟩ from ((M6.o.mono (S:=fun x=>x=B+62) zG).trans N7.o).nothing (fun j hj e=>by have:=HF.o j hj;omega));have B7:=zH (B6.o.keep N7.o zo);clear a0 a1 a2 a3 a4 a5 a6 a7 a8 al;obtain ⟨a0,a1,a2,a3,a4,a5,a6,a7,a8,al⟩:=B7.o.k9;obtain ⟨gc,hgc⟩:=ycW c 3 (k:Nat);have HG7:=zH (HGL.o k ⟨own7,w7⟩ M7.o);rw [hgc] at HG7;have HSC:=zH (yfU c k);clear hgc;generalize cAtV c 3 (k:Nat)=at_ at *;by_cases hlt:(k:Int)<c.globals
    · go_wp2_with fail;refine HG7.o.mono ?_;rintro e w8 ⟨rfl,hX⟩;obtain ⟨own8,m8⟩:=Mod.ofExt (show Ext w7 w8 from hX) own7;have N8:=zH (N7.o.trans (m8.mono zG));have X8:=zH (X7.o.keep m8 id);clear hX m8 HG7;go_wp2_with fail;refine (yas _).mono ?_;rintro e w9 ⟨rfl,hX⟩;unfold wNone;obtain ⟨own9,m9⟩:=Mod.ofExt (show Ext w8 w9 from hX) own8;have N9:=zH (N8.o.trans (m9.mono zG));have X9:=zH (X8.o.keep m9 id);clear hX m9;go_wp2_with fail;refine (ylz ⟨own9,w9⟩ (B+62) bm at_ 0 4607182418800017408 _ X9.o).mono ?_;rintro e w10 ⟨rfl,own10,m10,x10⟩;have N10:=zH (N9.o.trans m10);have X10:=zH x10;clear m10 x10;go_wp2_with fail;go_roundw
      case rel=>exact ⟨k+1,own10,zo,by go_num,N10,by rw [HSC.o];exact X10⟩
      case measure=>simp [intOf];omega
    · have hkk:(k:Int)=c.globals:=zo;have HKK:=zH (show k=c.globals.toNat by omega);clear hkk HG7;go_wp2_with fail;refine (HCP.o ⟨own7,w7⟩ M7.o).mono ?_;rintro e w8 ⟨c',rfl,hsm,hca,hX⟩;unfold Cnf.val;obtain ⟨own8,m8,hca⟩: ∃own8,Mod (fun _=>False) ⟨own7,w7⟩ ⟨own8,w8⟩∧CnfAt ⟨own8,w8⟩ (B+65) c':=⟨_,Mod.ext (g:=⟨own7,w7⟩) hX (B+65),hca⟩;have HSM:=zH hsm;have HCA:=zH hca;have M8:=zH m8;clear hsm hca m8 hX;go_wp2_with fail;go_ret2;unfold CoreMade;rw [if_pos HCKZ.o];have m9:=Mod.ext (T:=fun _=>False) (g:=⟨own8,w8⟩) (show Ext w8 (w8.alloc (.cells #[zI z6 c'.frags,zI z6 c'.spine,zI z6 c'.globals,zI z6 c'.threads,zI z6 c'.locals,zI z6 c'.cache,zI z6 c'.stack,zI z6 c'.low,.slice c'.A c'.shapes.length c'.cap,zp (some ⟨bm,0,none⟩),zp (some ⟨bs,0,none⟩),zp (some ⟨bsp,0,none⟩),zp (some ⟨bh,0,none⟩)] 51)) from zE) (B+64);have mm:=(N7.o.trans (M8.o.mono (S:=fun x=>x=B+62) zG)).trans (m9.mono (S:=fun x=>x=B+62) zG);have m0:=M8.o.trans m9;rw [HKK.o] at X7
      exact ⟨_,_,rfl,(M7.o.trans M8.o).trans m9,bm,bs,bt,bp,bsp,bh,c',⟨Blk.made (World.row_alloc_new _) (Nat.le_refl _),X7.o.keep m0 id,S6.o.keep mm zo,P6.o.keep mm zo,Y6.o.keep mm (fun x hx=>by omega),H6.o.keep mm zo,HCA.o.keep m9 id,HSM.o⟩⟩
def cyZero:List Value:=[zI z6 0,zI z6 0,zI z6 0,zI z6 0,zb false,zp none,zp none,zb false,zI z6 0,zI z6 0,zI z6 0,zI z6 0,zI z6 0,zI z6 0]
structure Hp0 (g:GW) (h k y bm bs bt bp bsp bh:Nat) (c cm:Cnf):Prop where
 blk:Blk g 90 h 86 [zp (some ⟨k,0,none⟩),zp (some ⟨y,0,none⟩),.slice none 0 0,zI z6 0]
 core:CoreIn g 100 k (CoreS.fresh c) bm bs bt bp bsp bh cm
 cyc:Blk g 91 y 113 cyZero
theorem Hp0.keep {g g':GW} {h k y bm bs bt bp bsp bh:Nat} {c cm:Cnf} (H:Hp0 g h k y bm bs bt bp bsp bh c cm) (m:Mod (fun _=>False) g g'):Hp0 g' h k y bm bs bt bp bsp bh c cm:=
 ⟨H.blk.keep m id,H.core.keep m zG,H.cyc.keep m id⟩
def HpAt (w:World) (h:Nat) (c:Cnf):Prop:= ∃own k y bm bs bt bp bsp bh cm,Hp0 ⟨own,w⟩ h k y bm bs bt bp bsp bh c cm
theorem HpAt.ext {w w':World} {h:Nat} {c:Cnf} (H:HpAt w h c) (e:Ext w w'):HpAt w' h c:=by
 obtain ⟨own,k,y,bm,bs,bt,bp,bsp,bh,cm,H⟩:=H;obtain ⟨own',m⟩:=Mod.ofExt e own;exact ⟨own',k,y,bm,bs,bt,bp,bsp,bh,cm,H.keep m⟩
end Go.Proofs.YtdhjjpnajjingaaGreat
namespace Go
open Ieee
theorem yjL {m:Nat} (h:0<m):2 ^ m.log2≤m∧m<2 ^ (m.log2+1):=⟨Nat.log2_self_le zo,Nat.lt_log2_self⟩
theorem yio (neg:Bool) {m:Nat} (h0:0<m) (h1:m<9007199254740992):
 double.read (double.write (.number neg m 0))=.number neg (m*2 ^ (52-m.log2)) (m.log2-52:Int)∧m.log2≤52:=by
 obtain ⟨hl,hu⟩:=yjL h0
 have hL:m.log2≤52:=by
  refine Nat.le_of_not_lt fun h=>?_;have:2 ^ 53≤2 ^ m.log2:=Nat.pow_le_pow_right zd h;have e:(2:Nat) ^ 53=9007199254740992:=zd;omega
 refine ⟨?_,hL⟩;generalize hg:m.log2=L at *
 have hk1:2 ^ 52≤m*2 ^ (52-L):=by
  have:2 ^ L*2 ^ (52-L)≤m*2 ^ (52-L):=Nat.mul_le_mul_right _ hl;rw [←Nat.pow_add,show L+(52-L)=52 by omega] at this;exact this
 have hk2:m*2 ^ (52-L)<2 ^ 53:=by
  have:m*2 ^ (52-L)<2 ^ (L+1)*2 ^ (52-L):=Nat.mul_lt_mul_of_pos_right hu (Nat.pow_pos zd);rw [←Nat.pow_add,show L+1+(52-L)=53 by omega] at this;exact this
 have hlast:max ((0:Int)+(L:Int)-(52:Nat)) double.leastPlace=(L:Int)-52:=by
  have:double.leastPlace= -1074:=zd;rw [this];omega
 have hw:double.write (.number neg m 0)=double.word neg ((L+1022)*2 ^ 52+m*2 ^ (52-L)):=by
  show double.nearest neg m 0=_;unfold Format.nearest;rw [if_neg zo];simp only [show double.fractionBits=52 from rfl,hg,hlast]
  have e1:((L:Int)-52-double.leastPlace).toNat=L+1022:=by
   have:double.leastPlace= -1074:=zd;rw [this];omega
  have e2:((0:Int)-((L:Int)-52)).toNat=52-L:=zo;have e3:((L:Int)-52-0).toNat=0:=zo;rw [e1,e2,e3]
  have e4:Toward.even.cut neg (m<<<(52-L)) 0=m*2 ^ (52-L):=by
   unfold Toward.cut;simp [Nat.shiftLeft_eq,Nat.mod_one]
  rw [e4];have e5:double.binade=2 ^ 52:=zd;have e6:double.infRung=2047*2 ^ 52:=zd;rw [e5,e6,Nat.min_eq_left];omega
 rw [hw];generalize hK:m*2 ^ (52-L)=K at *;have e5:double.binade=4503599627370496:=zd;have e6:double.infRung=9218868437227405312:=zd;have e7:double.signWeight=9223372036854775808:=zd;have e8:double.leastPlace= -1074:=zd;have p52:(2:Nat) ^ 52=4503599627370496:=zd;have p53:(2:Nat) ^ 53=9007199254740992:=zd;rw [p52] at *;rw [p53] at hk2;have hr1:(L+1022)*4503599627370496+K<9218868437227405312:=zo
 have hmod:double.word neg ((L+1022)*4503599627370496+K)%double.signWeight=(L+1022)*4503599627370496+K:=by
  unfold Format.word;rw [e7];split<;>omega
 have hneg:(double.word neg ((L+1022)*4503599627370496+K)/double.signWeight%2==1)=neg:=by
  unfold Format.word;rw [e7];cases neg
  · rw [if_neg (by simp),show ((L+1022)*4503599627370496+K)/9223372036854775808=0 by omega];rfl
  · rw [if_pos rfl,show (9223372036854775808+((L+1022)*4503599627370496+K))/9223372036854775808=1 by omega];rfl
 unfold Format.read;simp only;rw [hmod,hneg,e5,e6,e8,if_neg zo,if_pos hr1];congr 1
 · omega
 · omega
theorem yj7:double.read (double.write (.number false 0 0))=.number false 0 (-1074):=by decide+kernel
theorem yle (neg:Bool):double.read (double.write (.number neg 9007199254740992 0))=.number neg 4503599627370496 1:=by cases neg<;>decide+kernel
structure Fits (n:Int):Prop where
 lo: -9007199254740992≤n
 hi:n≤9007199254740992
theorem yaF (neg:Bool) (m a:Nat):signed neg m a=(if neg then-1 else 1)*((m*2 ^ a:Nat):Int):=by
 unfold signed;rw [Nat.shiftLeft_eq];cases neg<;>simp
theorem ylr (a:Nat):0=(0:Int).natAbs*a:=by rw [Int.natAbs_zero,Nat.zero_mul]
theorem ycO {n:Int} (h:Fits n): ∃(k:Nat) (j:Int),double.read (floatOfInt .f64 n)=.number (decide (n<0)) k j∧ -1074≤j∧j≤1∧k<2 ^ 53∧((j≤0∧k=n.natAbs*2 ^ (-j).toNat)∨(j=1∧k=4503599627370496∧n.natAbs=9007199254740992)):=by
 obtain ⟨h1,h2⟩:=h;show∃k j,double.read (double.write (.number (decide (n<0)) n.natAbs 0))=_∧_;by_cases h0:n=0
 · subst h0;exact ⟨0, -1074,yj7,zo,zo,zd,Or.inl ⟨zd,ylr _⟩⟩
 · by_cases ht:n.natAbs=9007199254740992
   · rw [ht];exact ⟨_,_,yle _,zo,zo,zd,Or.inr ⟨rfl,rfl,rfl⟩⟩
   · obtain ⟨r1,r2⟩:=yio (decide (n<0)) (m:=n.natAbs) zo zo;have hu:=(yjL (m:=n.natAbs) zo).2;refine ⟨_,_,r1,zo,zo,?_,Or.inl ⟨zo,?_⟩⟩
     · have:n.natAbs*2 ^ (52-n.natAbs.log2)<2 ^ (n.natAbs.log2+1)*2 ^ (52-n.natAbs.log2):=Nat.mul_lt_mul_of_pos_right hu (Nat.pow_pos zd);rw [←Nat.pow_add,show n.natAbs.log2+1+(52-n.natAbs.log2)=53 by omega] at this;exact this
     · rw [show (-((n.natAbs.log2:Int)-52)).toNat=52-n.natAbs.log2 by omega]
theorem yiE {n:Int} (h:Fits n):(double.read (floatOfInt .f64 n)).toInt .zero=some n:=by
 obtain ⟨k,j,hr,hj0,hj1,hk,hc⟩:=ycO h;rw [hr];unfold Datum.toInt Datum.integral;simp only;rw [yaF];rcases hc with ⟨hj,rfl⟩|⟨rfl,rfl,hn⟩
 · have e1:j.toNat=0:=zo;rw [e1,Nat.shiftLeft_zero]
   have e2:Toward.zero.cut (decide (n<0)) (n.natAbs*2 ^ (-j).toNat) (-j).toNat=n.natAbs:=by
    unfold Toward.cut;simp only [Bool.toNat_false,Nat.add_zero,Nat.shiftLeft_eq,Nat.one_mul];by_cases h0:n.natAbs=0
    · rw [h0];simp
    · have hlog:(-j).toNat≤(n.natAbs*2 ^ (-j).toNat).log2:=by
       refine (Nat.le_log2 (by have:=Nat.pow_pos (n:=(-j).toNat) (show 0<2 by decide);exact Nat.ne_of_gt (Nat.mul_pos zo this))).2 ?_;exact Nat.le_mul_of_pos_left _ zo
      rw [Nat.min_eq_left zo];exact Nat.mul_div_cancel _ (Nat.pow_pos zd)
   rw [e2];by_cases hs:n<0
   · rw [decide_eq_true hs];simp;omega
   · rw [decide_eq_false hs];simp;omega
 · have e2:Toward.zero.cut (decide (n<0)) (4503599627370496<<<(1:Int).toNat) (-(1:Int)).toNat=9007199254740992:=by
    cases (decide (n<0))<;>decide+kernel
   rw [e2];by_cases hs:n<0
   · rw [decide_eq_true hs];simp;omega
   · rw [decide_eq_false hs];simp;omega
theorem ybV {n:Int} (h:Fits n):floatToIntVal .f64 (floatOfInt .f64 n) .i64=some n:=by
 unfold floatToIntVal;rw [show (FloatKind.decode .f64 (floatOfInt .f64 n)).toInt .zero=some n from yiE h];simp only;rw [if_pos];have e1:IntKind.min .i64= -9223372036854775808:=zd;have e2:IntKind.max .i64=9223372036854775807:=zd;have:=h.lo;have:=h.hi;rw [e1,e2];omega
theorem ykc {n:Int} {k:Nat} {j base:Int} (hb:base≤j) (hb0:base≤0) (hc:(j≤0∧k=n.natAbs*2 ^ (-j).toNat)∨(j=1∧k=4503599627370496∧n.natAbs=9007199254740992)):
 signed (decide (n<0)) k (j-base).toNat=n*((2 ^ (-base).toNat:Nat):Int):=by
 have hk:k*2 ^ (j-base).toNat=n.natAbs*2 ^ (-base).toNat:=by
  rcases hc with ⟨hj,rfl⟩|⟨rfl,rfl,hn⟩
  · rw [Nat.mul_assoc, ←Nat.pow_add,show (-j).toNat+(j-base).toNat=(-base).toNat by omega]
  · rw [hn,show (1-base).toNat=(-base).toNat+1 by omega,Nat.pow_succ];omega
 rw [yaF,hk,Int.natCast_mul, ←Int.mul_assoc];congr 1
 by_cases hs:n<0
 · rw [decide_eq_true hs,if_pos rfl];omega
 · rw [decide_eq_false hs,if_neg (by simp)];omega
theorem ycz {a b:Int} (h:a<b):compare a b=.lt:=by
 show compareOfLessAndEq a b=_;unfold compareOfLessAndEq;rw [if_pos h]
theorem ybb {a b:Int} (h:a=b):compare a b=.eq:=by
 show compareOfLessAndEq a b=_;unfold compareOfLessAndEq;rw [if_neg zo,if_pos h]
theorem ycy {a b:Int} (h:b<a):compare a b=.gt:=by
 show compareOfLessAndEq a b=_;unfold compareOfLessAndEq;rw [if_neg zo,if_neg zo]
theorem ye3 (a b:Int) {c:Nat} (hc:0<c):compare (a*(c:Int)) (b*(c:Int))=compare a b:=by
 have hc':(0:Int)<c:=zo;rcases Int.lt_trichotomy a b with h|h|h
 · rw [ycz h,ycz (Int.mul_lt_mul_of_pos_right h hc')]
 · subst h;rw [ybb rfl,ybb rfl]
 · rw [ycy h,ycy (Int.mul_lt_mul_of_pos_right h hc')]
theorem ycd {a b:Int} (ha:Fits a) (hb:Fits b):double.order (floatOfInt .f64 a) (floatOfInt .f64 b)=some (compare a b):=by
 obtain ⟨k1,j1,hr1,l1,u1, -,c1⟩:=ycO ha;obtain ⟨k2,j2,hr2,l2,u2, -,c2⟩:=ycO hb;unfold Format.order;rw [hr1,hr2];show some (compare (signed (decide (a<0)) k1 (j1-min j1 j2).toNat) (signed (decide (b<0)) k2 (j2-min j1 j2).toNat))=_;by_cases ht:j1=1∧j2=1
 · obtain ⟨rfl,rfl⟩:=ht;rcases c1 with ⟨h, -⟩|⟨-,rfl,h1⟩
   · omega
   rcases c2 with ⟨h, -⟩|⟨-,rfl,h2⟩
   · omega
   rw [yaF,yaF];have e:((1:Int)-min 1 1).toNat=0:=zd;rw [e];by_cases s1:a<0<;>by_cases s2:b<0
   · rw [decide_eq_true s1,decide_eq_true s2,show a=b by omega];rw [ybb rfl,ybb rfl]
   · rw [decide_eq_true s1,decide_eq_false s2,ycz (show a<b by omega)];decide
   · rw [decide_eq_false s1,decide_eq_true s2,ycy (show b<a by omega)];decide
   · rw [decide_eq_false s1,decide_eq_false s2,show a=b by omega];rw [ybb rfl,ybb rfl]
 · rw [ykc (Int.min_le_left _ _) zo c1,ykc (Int.min_le_right _ _) zo c2,ye3 _ _ (Nat.pow_pos zd)]
theorem yce {a:Int} (ha:Fits a):(FloatKind.format .f64).order (floatOfInt .f64 a) (floatOfInt .f64 a)=some .eq:=(ycd ha ha).trans (by rw [ybb rfl])
theorem yjZ {a:Int} (ha:Fits a):((FloatKind.format .f64).order (floatOfInt .f64 a) 14069245235905429504==some .gt || (FloatKind.format .f64).order (floatOfInt .f64 a) 14069245235905429504==some .eq)=true:=by
 have e:(14069245235905429504:Nat)=floatOfInt .f64 (-9007199254740992):=by decide+kernel
 have h:=ycd ha (b:= -9007199254740992) ⟨zo,zo⟩;rw [e,show (FloatKind.format .f64)=double from rfl,h];have:=ha.lo;rcases Int.lt_or_eq_of_le this with hl|hl
 · rw [ycy hl];rfl
 · rw [ybb hl.symm];rfl
theorem yil {a:Int} (ha:Fits a):((FloatKind.format .f64).order (floatOfInt .f64 a) 4845873199050653696==some .lt || (FloatKind.format .f64).order (floatOfInt .f64 a) 4845873199050653696==some .eq)=true:=by
 have e:(4845873199050653696:Nat)=floatOfInt .f64 9007199254740992:=by decide+kernel
 have h:=ycd ha (b:=9007199254740992) ⟨zo,zo⟩;rw [e,show (FloatKind.format .f64)=double from rfl,h];have:=ha.hi;rcases Int.lt_or_eq_of_le this with hl|hl
 · rw [ycz hl];rfl
 · rw [ybb hl];rfl
end Go
namespace Go.Proofs.YtdhjjpnajjingaaGreat
open Go Go.RowKit
theorem ykN (b:Nat) (w:World):(callFunc 274 #[.float .f64 b]).run prog w=.ok (.value (.int .u64 b)) w:=
 run_callFunc_extern (e:=Extern.MathFloatBits.float64bits) func274 zQ zQ zQ zQ _ _
def partF (b:Nat):Int:=if (FloatKind.format .f64).order b b=some .eq then b else 9221120237041090560
theorem yjS (b:Nat) (w:World):Calls prog 260 #[.float .f64 b] w fun e w'=>e=.returned (.int .u64 (partF b))∧w=w':=by
 have hf:=ykN;by_cases h:(FloatKind.format .f64).order b b=some .eq
 · have HV:=zH (show partF b=b from if_pos h);have hb:((FloatKind.format .f64).order b b !=some .eq)=false:=by simp [h]
   clear h;go_enter func260,ntmps260;go_wp2
   go_ret;exact ⟨by rw [HV.o];rfl,rfl⟩
 · have HV:=zH (show partF b=9221120237041090560 from if_neg h);have hb:((FloatKind.format .f64).order b b !=some .eq)=true:=by simp [h]
   clear h;go_enter func260,ntmps260;go_wp2
   go_ret;exact ⟨by rw [HV.o];rfl,rfl⟩
theorem yjQ (x y:Nat) (w:World):Calls prog 228 #[zc z4 x y] w fun e w'=>e=.returned (.tuple #[.int .u64 (partF x),.int .u64 (partF y)])∧w=w':=by
 have H:=zH (fun b w=>yjS b w);go_enter func228,ntmps228;go_wp2_with fail;refine (H.o _ _).mono ?_;rintro e w1 ⟨rfl,rfl⟩;go_wp2_with fail;refine (H.o _ _).mono ?_;rintro e w1 ⟨rfl,rfl⟩;go_wp2_with fail;go_ret2;exact ⟨rfl,rfl⟩
def sameF (p q:Nat × Nat):Bool:=partF p.1==partF q.1&&partF p.2==partF q.2
theorem yis (p:Nat × Nat):sameF p p=true:=by simp [sameF]
theorem ybr (p q:Nat × Nat) (w:World):Calls prog 165 #[zc z4 p.1 p.2,zc z4 q.1 q.2] w fun e w'=>e=.returned (zb (sameF p q))∧w=w':=by
 have H:=zH (fun x y w=>yjQ x y w);have HV:=zH (show sameF p q=(partF p.1==partF q.1&&partF p.2==partF q.2) from rfl);obtain ⟨p1,p2⟩:=p;obtain ⟨q1,q2⟩:=q;simp only at HV ⊢;have H1:=zH (H.o p1 p2);have H2:=zH (H.o q1 q2);clear H;generalize partF p1=x1 at *;generalize partF p2=x2 at *;generalize partF q1=y1 at *;generalize partF q2=y2 at *;cases hb:(x1==y1)
 · have HV2:=zH (show sameF (p1,p2) (q1,q2)=false by rw [HV.o,hb];rfl);go_enter func165,ntmps165;go_wp2_with fail;refine (H1.o _).mono ?_;rintro e w1 ⟨rfl,rfl⟩;go_wp2_with fail;refine (H2.o _).mono ?_;rintro e w1 ⟨rfl,rfl⟩;go_wp2_with fail;go_ret;exact ⟨by rw [HV2.o];rfl,rfl⟩
 · have HV2:=zH (show sameF (p1,p2) (q1,q2)=(x2==y2) by rw [HV.o,hb];rfl);go_enter func165,ntmps165;go_wp2_with fail;refine (H1.o _).mono ?_;rintro e w1 ⟨rfl,rfl⟩;go_wp2_with fail;refine (H2.o _).mono ?_;rintro e w1 ⟨rfl,rfl⟩;go_wp2_with fail;go_ret;exact ⟨by rw [HV2.o];rfl,rfl⟩
theorem yib (a b:Nat) (w:World):Calls prog 165 #[zc z4 a b,zc z4 a b] w (Gives (zb true) w):=
 (ybr (a,b) (a,b) w).mono fun e w' ⟨h1,h2⟩=>⟨by rw [h1,yis],by rw [←h2];exact Ext.refl _⟩
theorem ydd {n:Int} (hn:Fits n):wWhole n=zc z4 (floatOfInt .f64 n) 0:=by
 have:=hn.lo;have:=hn.hi;unfold wWhole;rw [if_neg zo]
theorem yjR (n:Int) (hn:Fits n) (w:World):Calls prog 151 #[zc z4 (floatOfInt .f64 n) 0] w (Gives (.tuple #[zI z6 n,zb true]) w):=by
 have hcv: ∀w,(convert 205 3 (.float .f64 (floatOfInt .f64 n))).run prog w=.ok (zI z6 n) w:=fun w=>run_convert_float_int w _ _ _ _ _ n zQ zQ (ybV hn);have hlo:=yjZ hn;have hhi:=yil hn;have HWH:=zH (fun w=>ydd hn▸yaB n w);generalize floatOfInt .f64 n=b at *;have HSM:=zH (fun w=>yib b 0 w);generalize hq:(FloatKind.format .f64).order b 14069245235905429504=q1 at hlo;generalize hr:(FloatKind.format .f64).order b 4845873199050653696=q2 at hhi;have hlo':(q1==some .gt)=true∨(q1==some .eq)=true:=by simpa using hlo
 have hhi':(q2==some .lt)=true∨(q2==some .eq)=true:=by simpa using hhi
 obtain ⟨o1,rfl⟩: ∃o:Ordering,q1=some o:=by
  cases q1 with
  |none=>exact absurd hlo zd
  |some o=>exact ⟨o,rfl⟩
 obtain ⟨o2,rfl⟩: ∃o:Ordering,q2=some o:=by
  cases q2 with
  |none=>exact absurd hhi zd
  |some o=>exact ⟨o,rfl⟩
 clear hlo' hhi';cases o1<;>first|exact absurd hlo zd|skip
 all_goals
  cases o2<;>first|exact absurd hhi zd|skip
  all_goals
   clear hlo hhi;go_enter func151,ntmps151;go_wp2_with fail;refine (HWH.o _).mono ?_;rintro e w1 ⟨rfl,X1,rfl⟩;go_wp2_with fail;refine (HSM.o _).mono ?_;rintro e w1 ⟨rfl,X2,rfl⟩;go_wp2_with fail;go_ret2;exact Gives.mk rfl zE
end Go.Proofs.YtdhjjpnajjingaaGreat
namespace Go
open Ieee
theorem ykK (neg:Bool) (n d:Nat):Toward.zero.cut neg n d=n/2 ^ d:=by
 unfold Toward.cut;simp only [Bool.toNat_false,Nat.add_zero,Nat.shiftLeft_eq,Nat.one_mul];by_cases h:d≤n.log2+2
 · rw [Nat.min_eq_left h]
 · have h2:n<2 ^ (n.log2+1):=Nat.lt_log2_self;rw [Nat.min_eq_right zo,Nat.div_eq_of_lt,Nat.div_eq_of_lt]
   · exact Nat.lt_of_lt_of_le h2 (Nat.pow_le_pow_right zd zo)
   · exact Nat.lt_of_lt_of_le h2 (Nat.pow_le_pow_right zd zo)
theorem ygT {s:Bool} {N:Nat} (h:N≤9007199254740992):Fits (signed s N 0):=by
 rw [yaF];rw [Nat.pow_zero,Nat.mul_one];cases s
 · exact ⟨by rw [if_neg zd];omega,by rw [if_neg zd];omega⟩
 · exact ⟨by rw [if_pos rfl];omega,by rw [if_pos rfl];omega⟩
theorem yj6 {x:Nat} (h1:((FloatKind.format .f64).order x 14069245235905429504==some .gt || (FloatKind.format .f64).order x 14069245235905429504==some .eq)=true) (h2:((FloatKind.format .f64).order x 4845873199050653696==some .lt || (FloatKind.format .f64).order x 4845873199050653696==some .eq)=true): ∃n,Fits n∧floatToIntVal .f64 x .i64=some n:=by
 have e1:double.read 14069245235905429504=.number true 4503599627370496 1:=by decide+kernel
 have e2:double.read 4845873199050653696=.number false 4503599627370496 1:=by decide+kernel
 rw [show (FloatKind.format .f64)=double from rfl] at h1 h2;unfold Format.order at h1 h2;rw [e1] at h1;rw [e2] at h2
 have key: ∃n,Fits n∧(double.read x).toInt .zero=some n:=by
  generalize double.read x=d at *;cases d with
  |nan s t=>simp [Datum.order] at h1
  |infinity s=>cases s<;>simp [Datum.order] at h1 h2
  |number s m i=>
   have q1:signed true 4503599627370496 (1-min i 1).toNat≤signed s m (i-min i 1).toNat:=by
    refine Int.not_lt.1 fun hlt=>?_;have h3:=ycz hlt;simp only [Datum.order] at h1;rw [h3] at h1;exact absurd h1 zd
   have q2:signed s m (i-min i 1).toNat≤signed false 4503599627370496 (1-min i 1).toNat:=by
    refine Int.not_lt.1 fun hlt=>?_;have h3:=ycy hlt;simp only [Datum.order] at h2;rw [h3] at h2;exact absurd h2 zd
   rw [yaF,yaF] at q1 q2
   have hA:m*2 ^ (i-min i 1).toNat≤4503599627370496*2 ^ (1-min i 1).toNat:=by
    generalize m*2 ^ (i-min i 1).toNat=A at *;generalize 4503599627370496*2 ^ (1-min i 1).toNat=B at *;cases s
    · simp at q2;omega
    · simp at q1;omega
   clear q1 q2 h1 h2 e1 e2;refine ⟨signed s ((m<<<i.toNat)/2 ^ (-i).toNat) 0,ygT ?_,by unfold Datum.toInt Datum.integral;simp only;rw [ykK]⟩;rw [Nat.shiftLeft_eq];by_cases hi:i≤0
   · rw [Int.min_eq_left zo,show (i-i).toNat=0 by omega,show (1-i).toNat=(-i).toNat+1 by omega,Nat.pow_zero,Nat.mul_one,Nat.pow_succ] at hA;rw [show i.toNat=0 by omega,Nat.pow_zero,Nat.mul_one];refine Nat.div_le_of_le_mul ?_;rw [Nat.mul_comm];omega
   · rw [Int.min_eq_right zo,show ((1:Int)-1).toNat=0 by decide,Nat.pow_zero,Nat.mul_one] at hA;rw [show (-i).toNat=0 by omega,Nat.pow_zero,Nat.div_one,show i.toNat=(i-1).toNat+1 by omega,Nat.pow_succ, ←Nat.mul_assoc];omega
 obtain ⟨n,hn,hk⟩:=key;refine ⟨n,hn,?_⟩;unfold floatToIntVal;rw [show (FloatKind.decode .f64 x).toInt .zero=some n from hk];simp only;rw [if_pos];have e1:IntKind.min .i64= -9223372036854775808:=zd;have e2:IntKind.max .i64=9223372036854775807:=zd;have:=hn.lo;have:=hn.hi;rw [e1,e2];omega
def wInt (p:Nat × Nat):Option Int:=match floatToIntVal .f64 p.1 .i64 with
 |some n=>if-9007199254740992≤n∧n≤9007199254740992∧p.1=floatOfInt .f64 n∧p.2=0 then some n else none
 |none=>none
theorem ykw {n:Int} (hn:Fits n):wInt (floatOfInt .f64 n,0)=some n:=by
 unfold wInt;rw [ybV hn];simp only;rw [if_pos ⟨hn.lo,hn.hi,trivial,trivial⟩]
theorem yb0 {p:Nat × Nat} {n:Int} (h:wInt p=some n):Fits n∧p=(floatOfInt .f64 n,0):=by
 unfold wInt at h;split at h
 · split at h
   · rename_i hc
     injection h with h;subst h;exact ⟨⟨hc.1,hc.2.1⟩,Prod.ext hc.2.2.1 hc.2.2.2⟩
   · cases h
 · cases h
theorem ykx {p:Nat × Nat} (h:wInt p=none) {n:Int} (hn:Fits n):p≠(floatOfInt .f64 n,0):=fun e=>by
 rw [e,ykw hn] at h;cases h
def wIndex (p:Nat × Nat):Option Int:=match wInt (p.1,0) with
 |some n=>if 1≤n∧n≤1099511627777∧p.2=4607182418800017408 then some (n-1) else none
 |none=>none
theorem yg4 {p:Nat × Nat} {i:Int} (h:wIndex p=some i):(0≤i∧i≤1099511627776)∧p=(floatOfInt .f64 (i+1),4607182418800017408):=by
 unfold wIndex at h;split at h
 · rename_i n hn
   split at h
   · rename_i hc
     injection h with h;subst h;have h2:=congrArg Prod.fst (yb0 hn).2;exact ⟨zo,Prod.ext (by rw [Int.sub_add_cancel];exact h2) hc.2.2⟩
   · cases h
 · cases h
def wIs (p:Nat × Nat):Bool:=(wIndex p).isSome || decide (p=(0,4607182418800017408))
def wTell (p:Nat × Nat):Option (Int × Int):=match wInt (p.1,0),wInt (p.2,0) with
 |some k,some m=>if 0≤k∧k≤1099511627776∧0≤m∧m≤1099511627776 then some (k,m) else none
 |_,_=>none
def optV (o:Option Int):Value:=.tuple #[zI z6 (o.getD 0),zb o.isSome]
def tellV (o:Option (Int × Int)):Value:=.tuple #[zI z6 ((o.map Prod.fst).getD 0),zI z6 ((o.map Prod.snd).getD 0),zb o.isSome]
end Go
namespace Go.Proofs.YtdhjjpnajjingaaGreat
open Go Go.RowKit
theorem yim {n:Int} (h:Fits n):partF (floatOfInt .f64 n)=floatOfInt .f64 n:=if_pos (yce h)
theorem yf8 {n:Int} (h:Fits n):floatOfInt .f64 n≠9221120237041090560:=fun e=>by
 have h1:=yce h;rw [e] at h1;exact absurd h1 (by decide+kernel)
theorem yf3 {x:Nat} {n:Int} (h:Fits n):(partF x==partF (floatOfInt .f64 n))=decide (x=floatOfInt .f64 n):=by
 rw [yim h,Bool.eq_iff_iff,beq_iff_eq,decide_eq_true_iff];unfold partF;split
 · omega
 · rename_i hx
   constructor
   · intro e;exact absurd (show floatOfInt .f64 n=9221120237041090560 by omega) (yf8 h)
   · intro e;exact absurd (by rw [e];exact yce h) hx
theorem yci {p:Nat × Nat} {a b:Int} (ha:Fits a) (hb:Fits b):sameF p (floatOfInt .f64 a,floatOfInt .f64 b)=decide (p=(floatOfInt .f64 a,floatOfInt .f64 b)):=by
 unfold sameF;rw [yf3 ha,yf3 hb,Bool.eq_iff_iff,Bool.and_eq_true,decide_eq_true_iff,decide_eq_true_iff,decide_eq_true_iff];exact ⟨fun h=>Prod.ext h.1 h.2,fun h=>⟨congrArg Prod.fst h,congrArg Prod.snd h⟩⟩
theorem ydj (p:Nat × Nat) (w:World):Calls prog 151 #[zc z4 p.1 p.2] w (Gives (optV (wInt p)) w):=by
 cases h:wInt p with
 |some n=>
  obtain ⟨hn,rfl⟩:=yb0 h;exact yjR n hn w
 |none=>
  have HV:=zH (show optV none=.tuple #[zI z6 0,zb false] from rfl)
  have hcv:((FloatKind.format .f64).order p.1 14069245235905429504==some .gt || (FloatKind.format .f64).order p.1 14069245235905429504==some .eq)=true→((FloatKind.format .f64).order p.1 4845873199050653696==some .lt || (FloatKind.format .f64).order p.1 4845873199050653696==some .eq)=true→
   ∃n,(∀w,(convert 205 3 (.float .f64 p.1)).run prog w=.ok (zI z6 n) w)∧(∀w,Calls prog 152 #[zI z6 n] w (Gives (zc z4 (floatOfInt .f64 n) 0) w))∧ ∀w,Calls prog 165 #[zc z4 p.1 p.2,zc z4 (floatOfInt .f64 n) 0] w (fun e w'=>e=.returned (zb false)∧w=w'):=fun h1 h2=>by
   obtain ⟨n,hn,hk⟩:=yj6 h1 h2;refine ⟨n,fun w=>run_convert_float_int w _ _ _ _ _ n zQ zQ hk,fun w=>ydd hn▸yaB n w,fun w=>?_⟩;have h3:=ybr p (floatOfInt .f64 n,0) w
   have h4:sameF p (floatOfInt .f64 n,0)=false:=by
    have h5:=yci (p:=p) hn (b:=0) ⟨zo,zo⟩;rw [ybJ] at h5;rw [h5];exact decide_eq_false (ykx h hn)
   rw [h4] at h3;exact h3
  have HCV:=zH hcv;obtain ⟨x,y⟩:=p;simp only at HCV ⊢;clear hcv h;generalize hq:(FloatKind.format .f64).order x 14069245235905429504=q1 at HCV;generalize hr:(FloatKind.format .f64).order x 4845873199050653696=q2 at HCV;rcases q1 with _|(_|_|_)
  all_goals
   rcases q2 with _|(_|_|_)
   all_goals
    first
     |(obtain ⟨n,h1,h2,h3⟩:=HCV.o zd zd
       have H2:=zH h2;have H3:=zH h3;clear h2 h3 HCV;go_enter func151,ntmps151;go_wp2_with fail;refine (H2.o _).mono ?_;rintro e w1 ⟨rfl,X1,rfl⟩;go_wp2_with fail;refine (H3.o _).mono ?_;rintro e w1 ⟨rfl,rfl⟩;go_wp2_with fail;go_ret2;exact Gives.mk rfl zE)
     |(clear HCV
       go_enter func151,ntmps151;go_wp2_with fail;go_ret2;exact Gives.mk rfl zE)
theorem yaJ (p:Nat × Nat) (w:World):Calls prog 91 #[zc z4 p.1 p.2] w (Gives (optV (wIndex p)) w):=by
 have HI:=zH (fun w=>ydj (p.1,0) w);cases h:wInt (p.1,0) with
 |none=>
  have HV:=zH (show wIndex p=none by unfold wIndex;rw [h]);rw [h] at HI;rw [HV.o];unfold optV at HI ⊢;obtain ⟨x,y⟩:=p;clear h HV;go_enter func91,ntmps91;go_wp2_with fail;refine (HI.o _).mono ?_;rintro e w1 ⟨rfl,X1,rfl⟩;go_wp2_with fail;go_ret2;exact Gives.mk rfl zE
 |some n=>
  rw [h] at HI;unfold optV at HI;by_cases h1:1≤n
  · by_cases h2:n≤1099511627777
    · have hp:p.1=floatOfInt .f64 n:=congrArg Prod.fst (yb0 h).2;have HR:=zH (fun w=>(show Calls prog 149 #[zI z6 (n-1)] w (Gives (zc z4 p.1 4607182418800017408) w) from (show wRef (n-1)=zc z4 p.1 4607182418800017408 by unfold wRef;rw [if_neg zo,Int.sub_add_cancel,hp])▸yaR (n-1) w));have HS:=zH (fun w=>ybr p (p.1,4607182418800017408) w)
      have hsf:sameF p (p.1,4607182418800017408)=decide (p.2=4607182418800017408):=by
       have h5:=yci (p:=p) (yb0 h).1 (b:=1) ⟨zo,zo⟩;rw [yc3, ←hp] at h5;rw [h5,Bool.eq_iff_iff,decide_eq_true_iff,decide_eq_true_iff];exact ⟨fun e=>congrArg Prod.snd e,fun e=>Prod.ext rfl e⟩
      rw [hsf] at HS;by_cases h3:p.2=4607182418800017408
      · have HV:=zH (show optV (wIndex p)=.tuple #[zI z6 (n-1),zb true] by unfold wIndex;rw [h];simp only;rw [if_pos ⟨h1,h2,h3⟩];rfl);rw [decide_eq_true h3] at HS;rw [HV.o];obtain ⟨x,y⟩:=p;have e1:=IntWalk.i64_in (n-1) zo;simp only at HR HS HI ⊢;clear h h3 hp hsf HV;go_enter func91,ntmps91;go_wp2_with fail;refine (HI.o _).mono ?_;rintro e w1 ⟨rfl,X1,rfl⟩;go_wp2_with fail;refine (HR.o _).mono ?_;rintro e w1 ⟨rfl,X2,rfl⟩;go_wp2_with fail;refine (HS.o _).mono ?_;rintro e w1 ⟨rfl,rfl⟩;go_wp2_with fail;go_ret2;exact Gives.mk rfl zE
      · have HV:=zH (show optV (wIndex p)=.tuple #[zI z6 0,zb false] by unfold wIndex;rw [h];simp only;rw [if_neg (fun hc=>h3 hc.2.2)];rfl);rw [decide_eq_false h3] at HS;rw [HV.o];obtain ⟨x,y⟩:=p;have e1:=IntWalk.i64_in (n-1) zo;simp only at HR HS HI ⊢;clear h h3 hp hsf HV;go_enter func91,ntmps91;go_wp2_with fail;refine (HI.o _).mono ?_;rintro e w1 ⟨rfl,X1,rfl⟩;go_wp2_with fail;refine (HR.o _).mono ?_;rintro e w1 ⟨rfl,X2,rfl⟩;go_wp2_with fail;refine (HS.o _).mono ?_;rintro e w1 ⟨rfl,rfl⟩;go_wp2_with fail;go_ret2;exact Gives.mk rfl zE
    · have HV:=zH (show optV (wIndex p)=.tuple #[zI z6 0,zb false] by unfold wIndex;rw [h];simp only;rw [if_neg (fun hc=>h2 hc.2.1)];rfl);rw [HV.o];obtain ⟨x,y⟩:=p;have h4:1099511627777<n:=zo;clear h HV h2;go_enter func91,ntmps91;go_wp2_with fail;refine (HI.o _).mono ?_;rintro e w1 ⟨rfl,X1,rfl⟩;go_wp2_with fail;go_ret2;exact Gives.mk rfl zE
  · have HV:=zH (show optV (wIndex p)=.tuple #[zI z6 0,zb false] by unfold wIndex;rw [h];simp only;rw [if_neg (fun hc=>h1 hc.1)];rfl);rw [HV.o];obtain ⟨x,y⟩:=p;have h4:n<1:=zo;clear h HV h1;go_enter func91,ntmps91;go_wp2_with fail;refine (HI.o _).mono ?_;rintro e w1 ⟨rfl,X1,rfl⟩;go_wp2_with fail;go_ret2;exact Gives.mk rfl zE
theorem yjF (p:Nat × Nat) (w:World):Calls prog 146 #[zc z4 p.1 p.2] w (Gives (zb (wIs p)) w):=by
 have HI:=zH (fun w=>yaJ p w);have HN:=zH (fun w=>yas w);have HS:=zH (fun w=>ybr p (0,4607182418800017408) w)
 have hsf:sameF p (0,4607182418800017408)=decide (p=(0,4607182418800017408)):=by
  have h5:=yci (p:=p) (a:=0) (b:=1) ⟨zo,zo⟩ ⟨zo,zo⟩;rw [ybJ,yc3] at h5;exact h5
 rw [hsf] at HS;have HV:=zH (show wIs p=((wIndex p).isSome || decide (p=(0,4607182418800017408))) from rfl);rw [HV.o];unfold optV at HI;unfold wNone at HN;simp only at HS;generalize decide (p=(0,4607182418800017408))=z at *;generalize (wIndex p).getD 0=i at *;generalize (wIndex p).isSome=s at *;obtain ⟨x,y⟩:=p;simp only at HI HS ⊢;clear HV hsf;cases s
 · go_enter func146,ntmps146;go_wp2_with fail;refine (HI.o _).mono ?_;rintro e w1 ⟨rfl,X1,rfl⟩;go_wp2_with fail;refine (HN.o _).mono ?_;rintro e w1 ⟨rfl,X2,rfl⟩;go_wp2_with fail;refine (HS.o _).mono ?_;rintro e w1 ⟨rfl,rfl⟩;go_wp2_with fail;go_ret;exact Gives.mk (by simp) zE
 · go_enter func146,ntmps146;go_wp2_with fail;refine (HI.o _).mono ?_;rintro e w1 ⟨rfl,X1,rfl⟩;go_wp2_with fail;go_ret;exact Gives.mk (by simp) zE
theorem ya0 (p:Nat × Nat) (w:World):Calls prog 248 #[zc z4 p.1 p.2] w (Gives (tellV (wTell p)) w):=by
 have HK:=zH (fun w=>ydj (p.1,0) w);have HM:=zH (fun w=>ydj (p.2,0) w);have hd:wTell p=(match wInt (p.1,0),wInt (p.2,0) with|some k,some m=>if 0≤k∧k≤1099511627776∧0≤m∧m≤1099511627776 then some (k,m) else none|_,_=>none):=rfl;unfold optV at HK HM;generalize wInt (p.1,0)=a at *;generalize wInt (p.2,0)=b at *;obtain ⟨x,y⟩:=p;simp only at HK HM;have fin: ∀{v:Value},tellV (wTell (x,y))=v→Calls prog 248 #[zc z4 x y] w (Gives v w)→Calls prog 248 #[zc z4 x y] w (Gives (tellV (wTell (x,y))) w):=fun e h=>e▸h;rcases a with _|k
 · refine fin (v:=.tuple #[zI z6 0,zI z6 0,zb false]) (by rw [hd];rfl) ?_;clear hd fin;go_enter func248,ntmps248;go_wp2_with fail;refine (HK.o _).mono ?_;rintro e w1 ⟨rfl,X1,rfl⟩;go_wp2_with fail;refine (HM.o _).mono ?_;rintro e w1 ⟨rfl,X2,rfl⟩;go_wp2_with fail;go_ret3
   exact Gives.mk rfl zE
 · rcases b with _|m
   · refine fin (v:=.tuple #[zI z6 0,zI z6 0,zb false]) (by rw [hd];rfl) ?_;clear hd fin;go_enter func248,ntmps248;go_wp2_with fail;refine (HK.o _).mono ?_;rintro e w1 ⟨rfl,X1,rfl⟩;go_wp2_with fail;refine (HM.o _).mono ?_;rintro e w1 ⟨rfl,X2,rfl⟩;go_wp2_with fail;go_ret3
     exact Gives.mk rfl zE
   · simp only [Option.getD_some,Option.isSome_some] at HK HM;by_cases h1:k<0
     · refine fin (v:=.tuple #[zI z6 0,zI z6 0,zb false]) (by rw [hd];simp only;rw [if_neg zo];rfl) ?_;clear hd fin;go_enter func248,ntmps248;go_wp2_with fail;refine (HK.o _).mono ?_;rintro e w1 ⟨rfl,X1,rfl⟩;go_wp2_with fail;refine (HM.o _).mono ?_;rintro e w1 ⟨rfl,X2,rfl⟩;go_wp2_with fail;go_ret3
       exact Gives.mk rfl zE
     by_cases h2:1099511627776<k
     · refine fin (v:=.tuple #[zI z6 0,zI z6 0,zb false]) (by rw [hd];simp only;rw [if_neg zo];rfl) ?_;clear hd fin;go_enter func248,ntmps248;go_wp2_with fail;refine (HK.o _).mono ?_;rintro e w1 ⟨rfl,X1,rfl⟩;go_wp2_with fail;refine (HM.o _).mono ?_;rintro e w1 ⟨rfl,X2,rfl⟩;go_wp2_with fail;go_ret3
       exact Gives.mk rfl zE
     by_cases h3:m<0
     · refine fin (v:=.tuple #[zI z6 0,zI z6 0,zb false]) (by rw [hd];simp only;rw [if_neg zo];rfl) ?_;clear hd fin;go_enter func248,ntmps248;go_wp2_with fail;refine (HK.o _).mono ?_;rintro e w1 ⟨rfl,X1,rfl⟩;go_wp2_with fail;refine (HM.o _).mono ?_;rintro e w1 ⟨rfl,X2,rfl⟩;go_wp2_with fail;go_ret3
       exact Gives.mk rfl zE
     by_cases h4:1099511627776<m
     · refine fin (v:=.tuple #[zI z6 0,zI z6 0,zb false]) (by rw [hd];simp only;rw [if_neg zo];rfl) ?_;clear hd fin;go_enter func248,ntmps248;go_wp2_with fail;refine (HK.o _).mono ?_;rintro e w1 ⟨rfl,X1,rfl⟩;go_wp2_with fail;refine (HM.o _).mono ?_;rintro e w1 ⟨rfl,X2,rfl⟩;go_wp2_with fail;go_ret3
       exact Gives.mk rfl zE
     · refine fin (v:=.tuple #[zI z6 k,zI z6 m,zb true]) (by rw [hd];simp only;rw [if_pos zo];rfl) ?_;have h5:0≤k:=zo;have h6:k≤1099511627776:=zo;have h7:0≤m:=zo;have h8:m≤1099511627776:=zo;clear hd fin h1 h2 h3 h4;go_enter func248,ntmps248;go_wp2_with fail;refine (HK.o _).mono ?_;rintro e w1 ⟨rfl,X1,rfl⟩;go_wp2_with fail;refine (HM.o _).mono ?_;rintro e w1 ⟨rfl,X2,rfl⟩;go_wp2_with fail;go_ret3
       exact Gives.mk rfl zE
end Go.Proofs.YtdhjjpnajjingaaGreat
