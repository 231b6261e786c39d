import Derived.Test.YtdhjjpnajjingaaGreatKL08
import Derived.Deep.DeepCutAuto
import Derived.Deep.RegionLaw
import Derived.Laws.IdiomCopy
import Derived.Deep.MidRow
import Derived.Deep.RegionWith
set_option linter.unusedVariables false
set_option linter.unnecessarySimpa false
set_option linter.unusedSimpArgs false
open Bool renaming true→zT,false→zU
open Go.Value renaming int→zI
open Go.IntKind renaming i64→z6
set_option maxHeartbeats 8000000
set_option maxRecDepth 100000
open Go.Proofs.Tryz
open Go.Lib renaming hid→zH
open Go.Ext renaming alloc→zA,patch→zP,drew→zD,drewN→zN,more→zM,refl→zR,setCell→zS
open Nat renaming le_refl→zL,le_add_right→zK
namespace Go
open Go.RowKit
namespace HandS
def polled (h:HandS) (i:Int):Bool:=h.own i== -1 || h.own i==h.status
def knownB (s:Int):Bool:=decide (0≤s)&&decide (s≤4)
def post (h:HandS) (s:Int) (flip:Bool):HandS:=if knownB s then { h.tick with status:=s,sense:=h.sense !=flip } else h.tick
def mayAnswer (h:HandS) (i s:Int):Bool:= !(h.own i== -1)&&knownB s
def answer (h:HandS) (i s:Int):HandS:=if h.mayAnswer i s then { h.tick with l:=h.l.set i.toNat s } else h.tick
def mayJoin (h:HandS) (i:Int):Bool:=inB i h.l.length&&(h.l.getD i.toNat 0== -1)
def join (h:HandS) (i:Int):HandS:=if h.mayJoin i then { h.tick with l:=h.l.set i.toNat h.status } else h.tick
def joined (h:HandS) (i:Int):Value:=if h.mayJoin i then .tuple #[.int .i64 h.status,.bool h.sense,.bool true] else .tuple #[.int .i64 0,.bool false,.bool false]
def mayLeave (h:HandS) (i:Int):Bool:= !(h.own i== -1)
def leave (h:HandS) (i:Int):HandS:=if h.mayLeave i then { h.tick with l:=h.l.set i.toNat (-1) } else h.tick
theorem own_in {h:HandS} {i:Int} (hi:(h.own i== -1)=false): ∃k:Nat,i=k∧k<h.l.length:=by
 unfold own at hi;cases hb:inB i h.l.length
 · rw [hb] at hi;simp at hi
 · exact yam hb
end HandS
end Go
namespace Go.Proofs.YtdhjjpnajjingaaGreat
open Go Go.RowKit
theorem yen (s:Int) (w:World):Calls prog 160 #[.int .i64 s] w (Gives (.bool (HandS.knownB s)) w):=by
 by_cases h0:0≤s
 · have d0:decide (0≤s)=true:=decide_eq_true h0;have HV:=zH (show HandS.knownB s=decide (s≤4) by unfold HandS.knownB;rw [d0,Bool.true_and]);go_enter func160,ntmps160;go_wp2_with fail;go_ret;exact Gives.bool (by rw [HV.out]) zE
 · have d0:decide (0≤s)=false:=decide_eq_false h0;have HV:=zH (show HandS.knownB s=false by unfold HandS.knownB;rw [d0,Bool.false_and]);go_enter func160,ntmps160;go_wp2_with fail;go_ret;exact Gives.bool (by rw [HV.out]) zE
theorem HandAt.tick {g:GW} {t b:Nat} {h:HandS} (H:HandAt g t b h):HandAt ⟨g.own,g.w.setCell ⟨b,3,none⟩ (zI z6 (h.count+1))⟩ t b h.tick:=by
 obtain ⟨A,c,hb,hr⟩:=H.ex;exact ⟨⟨A,c,hb.set 3 _,hr.setOther 3 _ (fun x hx=>hr.ne_type hb zd hx)⟩,H.len⟩
theorem HandAt.put {g:GW} {t b r c k:Nat} {h:HandS} (s:Int) (H:HandAt g t b h) (hk:k<h.l.length) (hb:Blk g t b 137 [.int .i64 h.status,.bool h.sense,.slice (some ⟨r,0,none⟩) h.l.length c,.int .i64 h.count]):
 HandAt ⟨g.own,g.w.setCell ⟨r,k,none⟩ (zI z6 s)⟩ t b { h with l:=h.l.set k s }∧g.own r=t:=by
 obtain ⟨A,c',hb',hr⟩:=H.ex;have he:=hb.same hb';simp only [List.cons.injEq,Value.slice.injEq,and_true,true_and] at he;obtain ⟨rfl,rfl⟩:=he;obtain ⟨r',hA,hrl,ho,hcell,hfr⟩:=hr.block zo;injection hA with hA;injection hA with hA;subst hA;refine ⟨⟨⟨some ⟨r,0,none⟩,c,?_,?_⟩,by show (h.l.set k s).length≤16;rw [List.length_set];exact H.len⟩,ho⟩
 · have hne:r≠b:=fun e=>(hr.ne_type hb zd (x:=r) rfl) e.symm;show Blk _ t b _ [.int .i64 h.status,.bool h.sense,.slice (some ⟨r,0,none⟩) (h.l.set k s).length c,.int .i64 h.count];rw [List.length_set];exact hb.setOther k _ hne
 · show Row _ t 3 1 (.slice (some ⟨r,0,none⟩) (h.l.set k s).length c) (h.l.set k s).length ((h.l.set k s).map (Value.int .i64));rw [List.length_set,List.map_set];exact hr.store k (zI z6 s)
theorem yiO (g:GW) (t b:Nat) (i:Int) (h:HandS) (H:HandAt g t b h) (hc:0≤h.count∧h.count≤1099511627776):
 Calls prog 161 #[.pointer (some ⟨b,0,none⟩),.int .i64 i] g.w (Does (.bool (h.polled i)) g (fun x=>x=t) (fun g'=>HandAt g' t b h.tick)):=by
 have HST:=zH (ybW _ t b i h.tick H.tick);have HT:=zH H.tick;obtain ⟨A,c,hb,hr⟩:=H.ex;obtain ⟨hc0,hc1⟩:=hc;have M0:=zH (show Mod (fun x=>x=t) g ⟨g.own,g.w.setCell ⟨b,3,none⟩ (zI z6 (h.count+1))⟩ from Mod.set hb.own);have HV:=zH (show h.polled i=(h.own i== -1 || h.own i==h.status) from rfl);rw [show h.tick.own i=h.own i from rfl] at HST;obtain ⟨a0,a1,a2,a3,al⟩:=hb.k4;have af3:=hb.liv 3;clear hb hr H;generalize h.own i=x at *;cases hx:(x== -1)
 · go_enter func161,ntmps161;go_wp2_with fail;refine HST.out.mono ?_;rintro e w1 ⟨rfl,rfl⟩;go_wp2_with fail;go_ret;exact Does.of ⟨g.own,_⟩ rfl (by rw [HV.out,hx];simp) M0.out HT.out
 · go_enter func161,ntmps161;go_wp2_with fail;refine HST.out.mono ?_;rintro e w1 ⟨rfl,rfl⟩;go_wp2_with fail;go_ret;exact Does.of ⟨g.own,_⟩ rfl (by rw [HV.out,hx];simp) M0.out HT.out
theorem ybR (g:GW) (t b:Nat) (s:Int) (flip:Bool) (h:HandS) (H:HandAt g t b h) (hc:0≤h.count∧h.count≤1099511627776):
 Calls prog 87 #[.pointer (some ⟨b,0,none⟩),.int .i64 s,.bool flip] g.w (Does (.bool (HandS.knownB s)) g (fun x=>x=t) (fun g'=>HandAt g' t b (h.post s flip))):=by
 have HT:=zH H.tick;obtain ⟨A,c,hb,hr⟩:=H.ex;obtain ⟨hc0,hc1⟩:=hc;have HK:=zH (fun w'=>yen s w');have M0:=zH (show Mod (fun x=>x=t) g ⟨g.own,g.w.setCell ⟨b,3,none⟩ (zI z6 (h.count+1))⟩ from Mod.set hb.own);obtain ⟨a0,a1,a2,a3,al⟩:=hb.k4;have af0:=hb.liv 0;have af1:=hb.liv 1;have af3:=hb.liv 3;have HB:=zH hb;have HR:=zH hr;have HL:=zH H.len;clear hb hr H;cases hk:HandS.knownB s
 · rw [hk] at HK;have HV:=zH (show h.post s flip=h.tick by unfold HandS.post;rw [hk];rfl);clear hk;go_enter func87,ntmps87;go_wp2_with fail;refine (HK.out _).mono ?_;rintro e w1 ⟨rfl,hE⟩;obtain ⟨own1,m1⟩: ∃own1,Mod (fun _=>False) ⟨g.own,g.w.setCell ⟨b,3,none⟩ (zI z6 (h.count+1))⟩ ⟨own1,w1⟩:=⟨_,Mod.ext (g:=⟨g.own,g.w.setCell ⟨b,3,none⟩ (zI z6 (h.count+1))⟩) (show Ext _ w1 from hE) 0⟩;have M1:=zH (M0.out.trans (m1.mono (S:=fun x=>x=t) (fun _=>False.elim)));have H1:=zH (HT.out.keep m1 id);clear m1 hE;go_wp2_with fail;go_ret;exact Does.of ⟨own1,w1⟩ rfl rfl M1.out (by rw [HV.out];exact H1.out)
 · rw [hk] at HK;have HV:=zH (show h.post s flip={ h.tick with status:=s,sense:=h.sense !=flip } by unfold HandS.post;rw [hk];rfl);clear hk;go_enter func87,ntmps87;go_wp2_with fail;refine (HK.out _).mono ?_;rintro e w1 ⟨rfl,hE⟩;obtain ⟨own1,m1⟩: ∃own1,Mod (fun _=>False) ⟨g.own,g.w.setCell ⟨b,3,none⟩ (zI z6 (h.count+1))⟩ ⟨own1,w1⟩:=⟨_,Mod.ext (g:=⟨g.own,g.w.setCell ⟨b,3,none⟩ (zI z6 (h.count+1))⟩) (show Ext _ w1 from hE) 0⟩;have M1:=zH (M0.out.trans (m1.mono (S:=fun x=>x=t) (fun _=>False.elim)));have B1:=zH ((HB.out.set 3 (zI z6 (h.count+1))).keep m1 id);have R1:=zH ((HR.out.setOther 3 (zI z6 (h.count+1)) (fun x hx=>HR.out.ne_type HB.out zd hx)).keep m1 id);clear m1 hE a0 a1 a2 a3 af0 af1 af3 al;obtain ⟨a0,a1,a2,a3,al⟩:=B1.out.k4;have af0:=B1.out.liv 0;have af1:=B1.out.liv 1;go_wp2_with fail;go_ret;refine Does.of ⟨own1,(w1.setCell ⟨b,0,none⟩ (zI z6 s)).setCell ⟨b,1,none⟩ (.bool (h.sense !=flip))⟩ rfl rfl (Mod.st (Mod.st M1.out B1.out.own) B1.out.own) ?_;rw [HV.out];exact ⟨⟨A,c,(B1.out.set 0 (zI z6 s)).set 1 (.bool (h.sense !=flip)),(R1.out.setOther 0 _ (fun x hx=>HR.out.ne_type HB.out zd hx)).setOther 1 _ (fun x hx=>HR.out.ne_type HB.out zd hx)⟩,HL.out⟩
theorem yf6 (g:GW) (t b:Nat) (i s:Int) (h:HandS) (H:HandAt g t b h) (hc:0≤h.count∧h.count≤1099511627776):
 Calls prog 128 #[.pointer (some ⟨b,0,none⟩),.int .i64 i,.int .i64 s] g.w (Does (.bool (h.mayAnswer i s)) g (fun x=>x=t) (fun g'=>HandAt g' t b (h.answer i s))):=by
 have HST:=zH (ybW _ t b i h.tick H.tick);have HT:=zH H.tick;obtain ⟨A,c,hb,hr⟩:=H.ex;obtain ⟨hc0,hc1⟩:=hc;have HK:=zH (fun w'=>yen s w');have M0:=zH (show Mod (fun x=>x=t) g ⟨g.own,g.w.setCell ⟨b,3,none⟩ (zI z6 (h.count+1))⟩ from Mod.set hb.own);rw [show h.tick.own i=h.own i from rfl] at HST;obtain ⟨a0,a1,a2,a3,al⟩:=hb.k4;have af3:=hb.liv 3;have HB:=zH hb;have HR:=zH hr;clear hb hr;cases hx:(h.own i== -1)
 case true=>
  have HV:=zH (show h.mayAnswer i s=false by unfold HandS.mayAnswer;rw [hx];rfl);have HW:=zH (show h.answer i s=h.tick by unfold HandS.answer;rw [HV.out];rfl);go_enter func128,ntmps128;go_wp2_with fail;refine HST.out.mono ?_;rintro e w1 ⟨rfl,rfl⟩;go_wp2_with fail;go_ret;exact Does.of ⟨g.own,_⟩ rfl (by rw [HV.out];try rfl) M0.out (by rw [HW.out];exact HT.out)
 obtain ⟨k,rfl,hk⟩:=HandS.own_in hx;cases hkn:HandS.knownB s
 · rw [hkn] at HK;have HV:=zH (show h.mayAnswer k s=false by unfold HandS.mayAnswer;rw [hx,hkn];rfl);have HW:=zH (show h.answer k s=h.tick by unfold HandS.answer;rw [HV.out];rfl);clear hkn;go_enter func128,ntmps128;go_wp2_with fail;refine HST.out.mono ?_;rintro e w1 ⟨rfl,rfl⟩;go_wp2_with fail;refine (HK.out _).mono ?_;rintro e w1 ⟨rfl,hE⟩;obtain ⟨own1,m1⟩: ∃own1,Mod (fun _=>False) ⟨g.own,g.w.setCell ⟨b,3,none⟩ (zI z6 (h.count+1))⟩ ⟨own1,w1⟩:=⟨_,Mod.ext (g:=⟨g.own,g.w.setCell ⟨b,3,none⟩ (zI z6 (h.count+1))⟩) (show Ext _ w1 from hE) 0⟩;have M1:=zH (M0.out.trans (m1.mono (S:=fun x=>x=t) (fun _=>False.elim)));have H1:=zH (HT.out.keep m1 id);clear m1 hE;go_wp2_with fail;go_ret;exact Does.of ⟨own1,w1⟩ rfl (by rw [HV.out];try rfl) M1.out (by rw [HW.out];exact H1.out)
 · rw [hkn] at HK;have HV:=zH (show h.mayAnswer k s=true by unfold HandS.mayAnswer;rw [hx,hkn];rfl);have HW:=zH (show h.answer k s={ h.tick with l:=h.tick.l.set k s } by unfold HandS.answer;rw [HV.out,if_pos rfl,Int.toNat_natCast];rfl);clear hkn;go_enter func128,ntmps128;go_wp2_with fail;refine HST.out.mono ?_;rintro e w1 ⟨rfl,rfl⟩;go_wp2_with fail;refine (HK.out _).mono ?_;rintro e w1 ⟨rfl,hE⟩;obtain ⟨own1,m1⟩: ∃own1,Mod (fun _=>False) ⟨g.own,g.w.setCell ⟨b,3,none⟩ (zI z6 (h.count+1))⟩ ⟨own1,w1⟩:=⟨_,Mod.ext (g:=⟨g.own,g.w.setCell ⟨b,3,none⟩ (zI z6 (h.count+1))⟩) (show Ext _ w1 from hE) 0⟩;have M1:=zH (M0.out.trans (m1.mono (S:=fun x=>x=t) (fun _=>False.elim)));have H1:=zH (HT.out.keep m1 id);have B1:=zH ((HB.out.set 3 (zI z6 (h.count+1))).keep m1 id);have R1:=zH ((HR.out.setOther 3 (zI z6 (h.count+1)) (fun x hx=>HR.out.ne_type HB.out zd hx)).keep m1 id);have hlen:=H.len;clear m1 hE a0 a1 a2 a3 af3 al;obtain ⟨a0,a1,a2,a3,al⟩:=B1.out.k4;obtain ⟨r,rfl,hrl,ho,hcell,hfr⟩:=R1.out.block zo;have k0:=hcell k (zI z6 (h.l.getD k 0)) (by simp [List.getD_eq_getElem?_getD,hk]);have kf:=hfr k;have HP:=zH (HandAt.put s H1.out (show k<h.tick.l.length from hk) B1.out);(try simp only at k0 kf hrl)
   clear hcell hfr H;generalize h.l.getD k 0=x at *;go_wp2_with fail;go_ret;exact Does.of ⟨own1,w1.setCell ⟨r,k,none⟩ (zI z6 s)⟩ rfl (by rw [HV.out];try rfl) (Mod.st M1.out HP.out.2) (by rw [HW.out];exact HP.out.1)
theorem yho (g:GW) (t b:Nat) (i:Int) (h:HandS) (H:HandAt g t b h) (hc:0≤h.count∧h.count≤1099511627776):
 Calls prog 132 #[.pointer (some ⟨b,0,none⟩),.int .i64 i] g.w (Does (.bool (h.mayLeave i)) g (fun x=>x=t) (fun g'=>HandAt g' t b (h.leave i))):=by
 have HST:=zH (ybW _ t b i h.tick H.tick);have HT:=zH H.tick;obtain ⟨A,c,hb,hr⟩:=H.ex;obtain ⟨hc0,hc1⟩:=hc;have M0:=zH (show Mod (fun x=>x=t) g ⟨g.own,g.w.setCell ⟨b,3,none⟩ (zI z6 (h.count+1))⟩ from Mod.set hb.own);rw [show h.tick.own i=h.own i from rfl] at HST;obtain ⟨a0,a1,a2,a3,al⟩:=hb.k4;have af3:=hb.liv 3;have HB:=zH hb;have HR:=zH hr;clear hb hr;cases hx:(h.own i== -1)
 case true=>
  have HV:=zH (show h.mayLeave i=false by unfold HandS.mayLeave;rw [hx];rfl);have HW:=zH (show h.leave i=h.tick by unfold HandS.leave;rw [HV.out];rfl);go_enter func132,ntmps132;go_wp2_with fail;refine HST.out.mono ?_;rintro e w1 ⟨rfl,rfl⟩;go_wp2_with fail;go_ret;exact Does.of ⟨g.own,_⟩ rfl (by rw [HV.out];try rfl) M0.out (by rw [HW.out];exact HT.out)
 obtain ⟨k,rfl,hk⟩:=HandS.own_in hx;have HV:=zH (show h.mayLeave k=true by unfold HandS.mayLeave;rw [hx];rfl);have HW:=zH (show h.leave k={ h.tick with l:=h.tick.l.set k (-1) } by unfold HandS.leave;rw [HV.out,if_pos rfl,Int.toNat_natCast];rfl);have B1:=zH (HB.out.set 3 (zI z6 (h.count+1)));have R1:=zH (HR.out.setOther 3 (zI z6 (h.count+1)) (fun x hx=>HR.out.ne_type HB.out zd hx));have hlen:=H.len;obtain ⟨r,rfl,hrl,ho,hcell,hfr⟩:=HR.out.block zo;have hrb:b≠r:=HR.out.ne_type HB.out zd rfl;have hrb2:r≠b:=fun e=>hrb e.symm;have k0:=hcell k (zI z6 (h.l.getD k 0)) (by simp [List.getD_eq_getElem?_getD,hk]);have kf:=hfr k;have HP:=zH (HandAt.put (-1) HT.out (show k<h.tick.l.length from hk) B1.out);(try simp only at k0 kf hrl);clear hcell hfr H;generalize h.l.getD k 0=x at *;go_enter func132,ntmps132;go_wp2_with fail;refine HST.out.mono ?_;rintro e w1 ⟨rfl,rfl⟩;go_wp2_with fail;go_ret;exact Does.of ⟨g.own,(g.w.setCell ⟨b,3,none⟩ (zI z6 (h.count+1))).setCell ⟨r,k,none⟩ (zI z6 (-1))⟩ rfl (by rw [HV.out];try rfl) (Mod.st M0.out HP.out.2) (by rw [HW.out];exact HP.out.1)
theorem yiN (g:GW) (t b:Nat) (i:Int) (h:HandS) (H:HandAt g t b h) (hc:0≤h.count∧h.count≤1099511627776):
 Calls prog 39 #[.pointer (some ⟨b,0,none⟩),.int .i64 i] g.w (Does (h.joined i) g (fun x=>x=t) (fun g'=>HandAt g' t b (h.join i))):=by
 have HT:=zH H.tick;obtain ⟨A,c,hb,hr⟩:=H.ex;obtain ⟨hc0,hc1⟩:=hc;have M0:=zH (show Mod (fun x=>x=t) g ⟨g.own,g.w.setCell ⟨b,3,none⟩ (zI z6 (h.count+1))⟩ from Mod.set hb.own);have HB:=zH hb;have HR:=zH hr;have hlen:=H.len;obtain ⟨a0,a1,a2,a3,al⟩:=hb.k4;have af3:=hb.liv 3;clear hb hr;cases hin:inB i h.l.length
 · have hm:h.mayJoin i=false:=by unfold HandS.mayJoin;rw [hin];rfl
   have HV:=zH (show h.joined i=.tuple #[.int .i64 0,.bool false,.bool false] by unfold HandS.joined;rw [hm];rfl);have HW:=zH (show h.join i=h.tick by unfold HandS.join;rw [hm];rfl);have hq:=ybS hin;clear hm hin H;by_cases h0:i<0
   · have d0:decide (i<0)=true:=decide_eq_true h0;clear hq;go_enter func39,ntmps39;go_wp2_with fail;go_ret3
     exact Does.of ⟨g.own,_⟩ rfl (by rw [HV.out];try rfl) M0.out (by rw [HW.out];exact HT.out)
   · have d0:decide (i<0)=false:=decide_eq_false h0;have d1:decide ((h.l.length:Int)≤i)=true:=decide_eq_true zo;clear hq;go_enter func39,ntmps39;go_wp2_with fail;go_ret3
     exact Does.of ⟨g.own,_⟩ rfl (by rw [HV.out];try rfl) M0.out (by rw [HW.out];exact HT.out)
 obtain ⟨k,rfl,hk⟩:=yam hin;have d0:decide ((k:Int)<0)=false:=decide_eq_false zo;have d1:decide ((h.l.length:Int)≤k)=false:=decide_eq_false zo;obtain ⟨r,rfl,hrl,ho,hcell,hfr⟩:=HR.out.block zo;have hrb:b≠r:=HR.out.ne_type HB.out zd rfl;have hrb2:r≠b:=fun e=>hrb e.symm;have k0:=hcell k (zI z6 (h.l.getD k 0)) (by simp [List.getD_eq_getElem?_getD,hk]);have kf:=hfr k;have B1:=zH (HB.out.set 3 (zI z6 (h.count+1)));have HP:=zH (HandAt.put h.status HT.out (show k<h.tick.l.length from hk) B1.out);have HJ:=zH (show h.mayJoin k=(h.l.getD k 0== -1) by unfold HandS.mayJoin;rw [hin,Int.toNat_natCast];rfl);(try simp only at k0 kf hrl);clear hcell hfr H hin;generalize h.l.getD k 0=x at *;cases hx:(x== -1)
 · have hxx:(x != -1)=true:=by unfold bne;rw [hx];rfl
   have HV:=zH (show h.joined k=.tuple #[.int .i64 0,.bool false,.bool false] by unfold HandS.joined;rw [HJ.out,hx];rfl);have HW:=zH (show h.join k=h.tick by unfold HandS.join;rw [HJ.out,hx];rfl);clear hx;go_enter func39,ntmps39;go_wp2_with fail;go_ret3
   exact Does.of ⟨g.own,_⟩ rfl (by rw [HV.out];try rfl) M0.out (by rw [HW.out];exact HT.out)
 · have hxx:(x != -1)=false:=by unfold bne;rw [hx];rfl
   have HV:=zH (show h.joined k=.tuple #[.int .i64 h.status,.bool h.sense,.bool true] by unfold HandS.joined;rw [HJ.out,hx];rfl);have HW:=zH (show h.join k={ h.tick with l:=h.tick.l.set k h.status } by unfold HandS.join;rw [HJ.out,hx,if_pos rfl,Int.toNat_natCast];rfl);clear hx;have R1:=zH (HR.out.setOther 3 (zI z6 (h.count+1)) (fun x hx=>HR.out.ne_type HB.out zd hx));go_enter func39,ntmps39;go_upto_region 4 with fail
   generalize g.w.setCell ⟨b,3,none⟩ (zI z6 (h.count+1))=w0 at *;clear a0 a1 a2 a3 af3 al k0 kf;obtain ⟨a0,a1,a2,a3,al⟩:=B1.out.k4;obtain ⟨r',hA,hrl',ho',hcell,hfr⟩:=R1.out.block zo;injection hA with hA;injection hA with hA;subst hA;obtain ⟨vk,hvk⟩: ∃v,(h.l.map (Value.int .i64))[k]?=some v:=⟨_,List.getElem?_eq_getElem (by simp;omega)⟩;have k0:=hcell k vk hvk;have kf:=hfr k;simp only at k0 kf hrl';clear hcell hfr hvk;refine yab [zT,zT,zT,zT,zT,zT,zT,zT,zT,zT,zU] 1 10 ?_;intro X00;simp only [pickOps];repeat (go_big_quiet_step (fail))
   refine wpQuiet_nil (fun X0=>?_);clear X00;refine yai 10 _ zQ zQ rfl rfl (fun X1 K Q' hK=>?_);go_simp;refine hK _ _ (fun X2=>?_);clear hK K Q';(try go_simp);obtain ⟨own2,m2⟩: ∃own2,Mod (fun _=>False) ⟨g.own,w0.setCell ⟨r,k,none⟩ (zI z6 h.status)⟩ ⟨own2,(w0.setCell ⟨r,k,none⟩ (zI z6 h.status)).patch ⟨X0.blocks++(X1.blocks++X2.blocks),X2.drawn⟩⟩:=⟨_,Mod.pt (Mod.refl _ _) _⟩;generalize (w0.setCell ⟨r,k,none⟩ (zI z6 h.status)).patch ⟨X0.blocks++(X1.blocks++X2.blocks),X2.drawn⟩=w2 at *;have H2:=zH (HP.out.1.keep m2 id);have M2:=zH ((Mod.st (i:=k) (v:=.int .i64 h.status) M0.out HP.out.2).trans (m2.mono (S:=fun x=>x=t) (fun _=>False.elim)));clear a0 a1 a2 a3 al k0 kf m2;obtain ⟨A2,c2,hb2,hr2⟩:=H2.out.ex;obtain ⟨a0,a1,a2,a3,al⟩:=hb2.k4;clear hb2 hr2;(try simp only at a0 a1 a2 a3);go_wp2_with fail;refine yab [zT,zT,zT,zT,zT,zT,zT,zT,zT,zT,zT] 0 11 ?_;intro X00;simp only [pickOps];repeat (go_big_quiet_step (fail))
   refine wpQuiet_nil (fun X0=>?_);clear X00;refine yaa zQ (fun X0'=>?_) _;(try go_simp);go_wp2_with fail;go_ret3
   exact Does.ext ⟨own2,w2⟩ zE (by rw [HV.out];try rfl) M2.out (fun g2 m=>by rw [HW.out];exact H2.out.keep m id)
end Go.Proofs.YtdhjjpnajjingaaGreat
namespace Go
open Go.RowKit
namespace PileS
def pop (p:PileS):PileS:={ p with l:=p.l.take (p.l.length-1) }
def top (p:PileS):Int:=p.l.getD (p.l.length-1) 0
def some_ (p:PileS):Bool:=decide (0<p.l.length)
def found (p:PileS):PileS:={ p with lost:=false }
end PileS
end Go
namespace Go.Proofs.YtdhjjpnajjingaaGreat
open Go Go.RowKit
theorem ykM (g:GW) (t b:Nat) (p:PileS) (h:PileAt g t b p):
 Calls prog 166 #[.pointer (some ⟨b,0,none⟩)] g.w (Does (.tuple #[.int .i64 p.top,.bool p.some_]) g (fun x=>x=t) (fun g'=>PileAt g' t b p.pop)):=by
 obtain ⟨A,c,hb,hr⟩:=h.ex;have hlen:p.l.length≤256:=by have:=h.len;have:=h.most;omega
 have HM:=zH h.most;have HL:=zH h.len;have HB:=zH hb;have HR:=zH hr;obtain ⟨a0,a1,a2,al⟩:=hb.k3;have af0:=hb.liv 0;rcases Nat.eq_zero_or_pos p.l.length with h0|h0
 · have HV:=zH (And.intro (show p.top=0 by unfold PileS.top;rw [h0];cases hl:p.l with|nil=>rfl|cons x l=>rw [hl] at h0;simp at h0) (And.intro (show p.some_=false by unfold PileS.some_;rw [h0];rfl) (show p.pop=p by unfold PileS.pop;rw [List.take_of_length_le zo])));have HH:=zH h;clear hb hr h;rw [h0] at a0;go_enter func166,ntmps166;go_wp2_with fail;go_ret2;exact Does.of g rfl (by rw [HV.out.1,HV.out.2.1];try rfl) (Mod.refl _ _) (by rw [HV.out.2.2];exact HH.out)
 · obtain ⟨k,hk⟩: ∃k,p.l.length=k+1:=⟨p.l.length-1,zo⟩;obtain ⟨r,rfl,hrl,ho,hcell,hfr⟩:=hr.block h0;have k0:=hcell k (zI z6 (p.l.getD k 0)) (by simp [List.getD_eq_getElem?_getD,hk]);have HV:=zH (And.intro (show p.top=p.l.getD k 0 by unfold PileS.top;rw [hk];rfl) (And.intro (show p.some_=true by unfold PileS.some_;rw [hk];exact decide_eq_true zo) (show p.pop={ p with l:=p.l.take k } by unfold PileS.pop;rw [hk];rfl)))
   have hcap:k+1≤c:=by
    obtain ⟨A2,c2,he,h1,h2,h3⟩:=hr.form;injection he with e1 e2 e3;omega
   have HC:=zH (show Row g t 3 1 (.slice (some ⟨r,0,none⟩) k c) k ((p.l.take k).map (Value.int .i64)) from by
    have h9:=hr.cut (m:=k) zo;rw [Nat.mul_one, ←List.map_take] at h9;exact h9)
   have HKL:=zH (show (p.l.take k).length=k by simp;omega)
   have hcm:c≤9223372036854775807:=by
    obtain ⟨A2,c2,he,h1,h2,h3⟩:=hr.form;injection he with e1 e2 e3;omega
   clear hcell hfr hb hr h h0;rw [hk] at a0;generalize p.l.getD k 0=x at *;go_enter func166,ntmps166;go_wp2_with fail;go_ret2;refine Does.of ⟨g.own,g.w.setCell ⟨b,0,none⟩ (.slice (some ⟨r,0,none⟩) k c)⟩ rfl (by rw [HV.out.1,HV.out.2.1];try rfl) (Mod.st Mod.self HB.out.own) ?_;rw [HV.out.2.2];refine ⟨⟨some ⟨r,0,none⟩,c,?_,?_⟩,HM.out,by show ((p.l.take k).length:Int)≤p.most;have:=HKL.out;have:=HL.out;omega⟩
   · show Blk _ t b _ [.slice (some ⟨r,0,none⟩) (p.l.take k).length c,.int .i64 p.most,.bool p.lost];rw [HKL.out];exact HB.out.set 0 _
   · show Row _ t 3 1 (.slice (some ⟨r,0,none⟩) (p.l.take k).length c) (p.l.take k).length ((p.l.take k).map (Value.int .i64));rw [HKL.out];exact HC.out.setOther 0 _ (fun x hx=>HC.out.ne_type HB.out zd hx)
theorem yjt (g:GW) (t b:Nat) (p:PileS) (h:PileAt g t b p):Calls prog 169 #[.pointer (some ⟨b,0,none⟩)] g.w (fun e w'=>e=.returned (.bool p.lost)∧g.w=w'):=by
 obtain ⟨A,c,hb,hr⟩:=h.ex;obtain ⟨a0,a1,a2,al⟩:=hb.k3;clear hb hr h;go_enter func169,ntmps169;go_wp2_with fail;go_ret;exact ⟨rfl,rfl⟩
theorem yhQ (g:GW) (t b:Nat) (p:PileS) (h:PileAt g t b p):Calls prog 170 #[.pointer (some ⟨b,0,none⟩)] g.w (Does (.tuple #[]) g (fun x=>x=t) (fun g'=>PileAt g' t b p.found)):=by
 obtain ⟨A,c,hb,hr⟩:=h.ex;have HM:=zH h.most;have HL:=zH h.len;have HB:=zH hb;have HR:=zH hr;obtain ⟨a0,a1,a2,al⟩:=hb.k3;have af2:=hb.liv 2;clear hb hr h;go_enter func170,ntmps170;go_wp2_with fail;exact bodyPost_end (results_none rfl _ _ _) rfl (Does.of ⟨g.own,g.w.setCell ⟨b,2,none⟩ (.bool false)⟩ rfl rfl (Mod.st Mod.self HB.out.own) ⟨⟨A,c,HB.out.set 2 _,HR.out.setOther 2 _ (fun x hx=>HR.out.ne_type HB.out zd hx)⟩,HM.out,HL.out⟩)
theorem ydE (g:GW) (t b bt tt bp tp:Nat) (T:TabS) (p:PileS) (n:Int) (h:ShdAt g t b bt tt bp tp T p n) (hn:0≤n∧n≤1099511627776) (h1:t≠tt) (h2:t≠tp) (h3:tt≠tp):
 Calls prog 92 #[.pointer (some ⟨b,0,none⟩)] g.w (Does (.tuple #[.int .i64 p.top,.bool p.some_]) g (fun x=>x=t∨x=tp) (fun g'=>ShdAt g' t b bt tt bp tp T p.pop (n+1))):=by
 have H1:=zH (h.tick h1 h2);have M1:=zH (show Mod (fun x=>x=t) g ⟨g.own,g.w.setCell ⟨b,2,none⟩ (zI z6 (n+1))⟩ from Mod.st Mod.self h.blk.own);have HN:=zH (And.intro h1 (And.intro h2 h3));obtain ⟨a0,a1,a2,al⟩:=h.blk.k3;have af2:=h.blk.liv 2;obtain ⟨hn0,hn1⟩:=hn;clear h h1 h2 h3;go_enter func92,ntmps92;go_wp2_with fail;refine (ykM ⟨g.own,g.w.setCell ⟨b,2,none⟩ (zI z6 (n+1))⟩ tp bp p H1.out.pile).mono ?_;rintro e w2 ⟨rfl,own2,m2,r2⟩;have M2:=zH m2;have R2:=zH (show ShdAt ⟨own2,w2⟩ t b bt tt bp tp T p.pop (n+1) from ⟨H1.out.blk.keep m2 (fun e=>HN.out.2.1 e),H1.out.tab.keep m2 (fun e=>HN.out.2.2 e),r2⟩);clear m2 r2;go_wp2_with fail;go_ret2;exact ⟨rfl,own2,(M1.out.mono (fun x hx=>Or.inl hx)).trans (M2.out.mono (fun x hx=>Or.inr hx)),R2.out⟩
theorem ydD (g:GW) (t b bt tt bp tp:Nat) (T:TabS) (p:PileS) (n:Int) (h:ShdAt g t b bt tt bp tp T p n) (hn:0≤n∧n≤1099511627776) (h1:t≠tt) (h2:t≠tp) (h3:tt≠tp):
 Calls prog 96 #[.pointer (some ⟨b,0,none⟩)] g.w (Does (.bool p.lost) g (fun x=>x=t∨x=tp) (fun g'=>ShdAt g' t b bt tt bp tp T p.found (n+1))):=by
 have H1:=zH (h.tick h1 h2);have M1:=zH (show Mod (fun x=>x=t) g ⟨g.own,g.w.setCell ⟨b,2,none⟩ (zI z6 (n+1))⟩ from Mod.st Mod.self h.blk.own);have HN:=zH (And.intro h1 (And.intro h2 h3));obtain ⟨a0,a1,a2,al⟩:=h.blk.k3;have af2:=h.blk.liv 2;obtain ⟨hn0,hn1⟩:=hn;clear h h1 h2 h3;go_enter func96,ntmps96;go_wp2_with fail;refine (yjt ⟨g.own,g.w.setCell ⟨b,2,none⟩ (zI z6 (n+1))⟩ tp bp p H1.out.pile).mono ?_;rintro e w2 ⟨rfl,rfl⟩;go_wp2_with fail;refine (yhQ ⟨g.own,g.w.setCell ⟨b,2,none⟩ (zI z6 (n+1))⟩ tp bp p H1.out.pile).mono ?_;rintro e w2 ⟨rfl,own2,m2,r2⟩;have M2:=zH m2;have R2:=zH (show ShdAt ⟨own2,w2⟩ t b bt tt bp tp T p.found (n+1) from ⟨H1.out.blk.keep m2 (fun e=>HN.out.2.1 e),H1.out.tab.keep m2 (fun e=>HN.out.2.2 e),r2⟩);clear m2 r2;go_wp2_with fail;go_ret;exact ⟨rfl,own2,(M1.out.mono (fun x hx=>Or.inl hx)).trans (M2.out.mono (fun x hx=>Or.inr hx)),R2.out⟩
end Go.Proofs.YtdhjjpnajjingaaGreat
namespace Go
theorem ykm {α:Type} {f:α→List Value} {n:Nat} (hf: ∀a,(f a).length=n) (l:List α) (k j:Nat) (x y:α) (v:Value) (hk:l[k]?=some x) (hj:j<n) (hy:f y=(f x).set j v):(l.set k y).flatMap f=(l.flatMap f).set (k*n+j) v:=by
 induction l generalizing k with
 |nil=>simp at hk
 |cons z l ih=>
  cases k with
  |zero=>
   simp at hk;subst hk;simp only [List.set_cons_zero,List.flatMap_cons,Nat.zero_mul,Nat.zero_add];rw [List.set_append_left _ _ (by rw [hf];exact hj),hy]
  |succ k=>
   simp only [List.set_cons_succ,List.flatMap_cons];rw [List.set_append_right _ _ (by rw [hf,Nat.succ_mul];omega),hf,ih k (by simpa using hk)];congr 2
   rw [Nat.succ_mul];omega
def upto {α:Type} (f:α→α) (l:List α) (k:Nat):List α:=(l.take k).map f++l.drop k
theorem yeC {α:Type} (f:α→α) (l:List α):upto f l 0=l:=by simp [upto]
theorem yfJ {α:Type} (f:α→α) (l:List α):upto f l l.length=l.map f:=by simp [upto]
theorem ydn {α:Type} (f:α→α) (l:List α) (k:Nat):(upto f l k).length=l.length:=by simp [upto];omega
theorem ygL {α:Type} (f:α→α) (l:List α) (k:Nat):(upto f l k)[k]?=l[k]?:=by
 unfold upto;by_cases h:k<l.length
 · rw [List.getElem?_append_right (by simp;omega)];simp [List.length_take,Nat.min_eq_left (Nat.le_of_lt h)]
 · rw [List.getElem?_eq_none (by simp;omega),List.getElem?_eq_none zo]
theorem ycP {α:Type} (f:α→α) (l:List α) (k:Nat) (x:α) (h:l[k]?=some x):upto f l (k+1)=(upto f l k).set k (f x):=by
 obtain ⟨hk,hx⟩:=List.getElem?_eq_some_iff.1 h;unfold upto;rw [List.take_add_one,h,List.map_append,List.set_append_right _ _ (by simp;omega)];have e:k-((l.take k).map f).length=0:=by simp;omega
 rw [e, ←List.getElem_cons_drop hk];simp [hx]
end Go
namespace Go.Proofs.YtdhjjpnajjingaaGreat
open Go Go.RowKit
theorem yhh (m:EntM) (w:World):Calls prog 271 #[.agg #[.int .i64 m.e.thread,.int .i64 m.e.frags,.int .i64 m.e.spine,.int .i64 m.e.state,.int .i64 m.e.cycles,.int .i64 m.e.at_,.slice m.A m.e.got.length m.cap,.bool m.e.noted]] w (Gives (.bool (waitB m.e)) w):=by
 go_enter func271,ntmps271;go_wp2_with fail;go_ret;exact Gives.bool rfl zE
theorem yiT (A:Option Addr) (c:Nat) (ms:List EntM) (w:World) (hc:CellsAt w A (ms.flatMap EntM.cells)) (hl:ms.length≤1000000):
 Calls prog 254 #[.slice A ms.length c,.func (.func 271) #[] #[]] w (IdxGot (waitB) ms w):=by
 have HC:=zH hc;clear hc;go_enter func254,ntmps254;go_wp2_with fail;go_loopw [8] (fun i wr=> ∃k:Nat,k≤ms.length∧i=.int .i64 k∧Hid (∀e∈(ms.map EntM.e).take k,waitB e=false)∧Hid (Ext w wr)) (fun i _=>ms.length-(intOf i).toNat)
 case atStart=>exact ⟨0,Nat.zero_le _,rfl,zH (by simp),zH (Ext.refl _)⟩
 case round=>
  obtain ⟨k,hk,rfl,hm,HE⟩:=hrel;by_cases hlt:k<ms.length
  · obtain ⟨b,o,hA,hb,g0,g1,g2,g3,g4,g5,g6,g7⟩:=ybP (HC.out.ext HE.out) hlt;have hx:=List.getElem?_eq_getElem hlt;have HX:=zH (show (ms.map EntM.e)[k]?=some ms[k].e by rw [List.getElem?_map,hx];rfl);generalize ms[k]=m at *;have HF:=zH (yhh m wr);subst hA;clear hx;go_wp2_with fail;refine HF.out.mono ?_;rintro e w1 ⟨rfl,hX⟩;have HE1:=zH (HE.out.trans (show Ext wr w1 from hX));clear hX;cases hv:waitB m.e
    · have HN:=zH (ybK HX.out hm.out hv);clear hv;go_wp2_with fail;go_roundw
      case rel=>exact ⟨k+1,zo,by go_num,HN,HE1⟩
      case measure=>simp [intOf];omega
    · have HN:=zH (ycK HX.out hv hm.out);clear hv;go_wp2_with fail;go_ret;exact Gives.int HN.out.symm HE1.out
  · have HN:=zH (ycJ (p:=waitB) (l:=ms.map EntM.e) (fun e he=>hm.out e (by rw [List.take_of_length_le (by simp;omega)];exact he)));go_wp2_with fail;go_ret;exact Gives.int HN.out.symm HE.out
theorem yb7 (g:GW) (t b:Nat) (L:List Ent) (h:LineAt g t b L):
 Calls prog 233 #[.pointer (some ⟨b,0,none⟩)] g.w (Gives (zI z6 (placeOf (waitB) L)) g.w):=by
 obtain ⟨A,c,ms,hb,hr,hm, -⟩:=h.ex;have hml:ms.length=L.length:=by rw [←hm,List.length_map]
 have HI:=zH (fun w' (he:Ext g.w w')=>yiT A c ms w' (hr.cells.ext he) (by have:=h.len;omega));unfold IdxGot at HI;rw [hm,hml] at HI;have c0:=hb.cell (i:=0) rfl;have hbl:=hb.lt;clear hr hm hml hb h;go_enter func233,ntmps233;go_wp2_with fail;refine (HI.out _ zE).mono ?_;rintro e w1 ⟨rfl,hX⟩;have HE:=zH (show Ext g.w w1 from hX);clear hX;go_wp2_with fail;go_ret;exact Gives.int rfl HE.out
theorem yhw (g:GW) (t b:Nat) (L:List Ent) (h:LineAt g t b L):
 Calls prog 178 #[.pointer (some ⟨b,0,none⟩)] g.w (Makes g (fun _=>False) (ReqOf L (placeOf (waitB) L))):=by
 have HO:=zH (fun g' (m:Mod (fun _=>False) g g')=>yb7 g' t b L (h.keep m id id));have HA:=zH (fun g' (m:Mod (fun _=>False) g g')=>ygE g' t b (placeOf (waitB) L) L (h.keep m id id) (ybt _ _).2);generalize placeOf (waitB) L=i at *;clear h;go_enter func178,ntmps178;go_wp2_with fail;have hE0:Ext g.w (g.w.alloc (.cells #[.int .i64 0,.int .i64 0,.int .i64 0,.int .i64 0,.int .i64 0,.int .i64 0,.slice none 0 0] 199)):=zE;have B0:=zH (Blk.new g 9 199 [.int .i64 0,.int .i64 0,.int .i64 0,.int .i64 0,.int .i64 0,.int .i64 0,.slice none 0 0]);have M0:=zH (Mod.ext (T:=fun _=>False) hE0 9);clear hE0;refine (HO.out (g.to 9 (g.w.alloc (.cells #[.int .i64 0,.int .i64 0,.int .i64 0,.int .i64 0,.int .i64 0,.int .i64 0,.slice none 0 0] 199))) M0.out).mono ?_;rintro e w1 ⟨rfl,hE1⟩;have E1:=zH (show Ext (g.w.alloc (.cells #[.int .i64 0,.int .i64 0,.int .i64 0,.int .i64 0,.int .i64 0,.int .i64 0,.slice none 0 0] 199)) w1 from hE1);have N1:=zH (Mod.ext (T:=fun _=>False) (g:=g.to 9 (g.w.alloc (.cells #[.int .i64 0,.int .i64 0,.int .i64 0,.int .i64 0,.int .i64 0,.int .i64 0,.slice none 0 0] 199))) E1.out 0);have M1:=zH (M0.out.trans N1.out);have B1:=zH (B0.out.keep N1.out id);clear hE1
 go_wp2_with fail;refine (HA.out _ M1.out).mono ?_;rintro e w2 ⟨v,own2,rfl,m2,r,ok,rfl,hn,hp⟩;have M2:=zH (M1.out.trans m2);have B2:=zH (B1.out.keep m2 id);clear m2 E1;obtain ⟨d0,d1,d2,d3,d4,d5,d6,dl⟩:=B2.out.k7;have df0:=B2.out.liv 0;have df1:=B2.out.liv 1;have df2:=B2.out.liv 2;have df3:=B2.out.liv 3;have df4:=B2.out.liv 4;have df5:=B2.out.liv 5;have df6:=B2.out.liv 6;by_cases h0:i<0
 · obtain ⟨rfl,rfl⟩:=hn h0;have HN:=zH hp;have H0:=zH h0;clear hn hp h0;go_wp2_with fail;refine bodyPost_ret (v:=.tuple #[.agg #[.int .i64 0,.int .i64 0,.int .i64 0,.int .i64 0,.int .i64 0,.int .i64 0,.slice none 0 0],.bool false]) (by simp [results,Tryz.results178,go_sem,d0,d1,d2,d3,d4,d5,d6]) rfl ?_;have M9:Mod (fun _=>False) g ⟨own2,_⟩:=Mod.stn (Mod.stn (Mod.stn (Mod.stn (Mod.stn (Mod.stn (Mod.stn (b:=g.w.heap.size) (i:=0) (v:=.int .i64 0) M2.out (Nat.le_refl _)) (b:=g.w.heap.size) (i:=1) (v:=.int .i64 0) (Nat.le_refl _)) (b:=g.w.heap.size) (i:=2) (v:=.int .i64 0) (Nat.le_refl _)) (b:=g.w.heap.size) (i:=3) (v:=.int .i64 0) (Nat.le_refl _)) (b:=g.w.heap.size) (i:=4) (v:=.int .i64 0) (Nat.le_refl _)) (b:=g.w.heap.size) (i:=5) (v:=.int .i64 0) (Nat.le_refl _)) (b:=g.w.heap.size) (i:=6) (v:=.slice none 0 0) (Nat.le_refl _);exact ⟨_,_,rfl,M9,[.int .i64 0,.int .i64 0,.int .i64 0,.int .i64 0,.int .i64 0,.int .i64 0,.slice none 0 0],false,rfl,fun _=>⟨rfl,rfl⟩,fun hh=>by have:=H0.out;omega⟩
 · obtain ⟨rfl,e,A',c',hL,rfl,hr⟩:=hp zo;have HL:=zH hL;have HR:=zH hr;have H0:=zH h0;clear hn hL hr h0;go_wp2_with fail;refine bodyPost_ret (v:=.tuple #[.agg #[.int .i64 e.thread,.int .i64 e.frags,.int .i64 e.spine,.int .i64 e.state,.int .i64 e.cycles,.int .i64 e.at_,.slice A' e.got.length c'],.bool true]) (by simp [results,Tryz.results178,go_sem,d0,d1,d2,d3,d4,d5,d6]) rfl ?_;have M9:Mod (fun _=>False) g ⟨own2,_⟩:=Mod.stn (Mod.stn (Mod.stn (Mod.stn (Mod.stn (Mod.stn (Mod.stn (b:=g.w.heap.size) (i:=0) (v:=.int .i64 e.thread) M2.out (Nat.le_refl _)) (b:=g.w.heap.size) (i:=1) (v:=.int .i64 e.frags) (Nat.le_refl _)) (b:=g.w.heap.size) (i:=2) (v:=.int .i64 e.spine) (Nat.le_refl _)) (b:=g.w.heap.size) (i:=3) (v:=.int .i64 e.state) (Nat.le_refl _)) (b:=g.w.heap.size) (i:=4) (v:=.int .i64 e.cycles) (Nat.le_refl _)) (b:=g.w.heap.size) (i:=5) (v:=.int .i64 e.at_) (Nat.le_refl _)) (b:=g.w.heap.size) (i:=6) (v:=.slice A' e.got.length c') (Nat.le_refl _)
   have T9:Mod (fun x=>x=9) ⟨own2,w2⟩ ⟨own2,_⟩:=Mod.st (Mod.st (Mod.st (Mod.st (Mod.st (Mod.st (Mod.st (b:=g.w.heap.size) (i:=0) (v:=.int .i64 e.thread) (Mod.refl _ _) B2.out.own) (b:=g.w.heap.size) (i:=1) (v:=.int .i64 e.frags) B2.out.own) (b:=g.w.heap.size) (i:=2) (v:=.int .i64 e.spine) B2.out.own) (b:=g.w.heap.size) (i:=3) (v:=.int .i64 e.state) B2.out.own) (b:=g.w.heap.size) (i:=4) (v:=.int .i64 e.cycles) B2.out.own) (b:=g.w.heap.size) (i:=5) (v:=.int .i64 e.at_) B2.out.own) (b:=g.w.heap.size) (i:=6) (v:=.slice A' e.got.length c') B2.out.own;exact ⟨_,_,rfl,M9,[.int .i64 e.thread,.int .i64 e.frags,.int .i64 e.spine,.int .i64 e.state,.int .i64 e.cycles,.int .i64 e.at_,.slice A' e.got.length c'],true,rfl,fun hh=>by have:=H0.out;omega,fun _=>⟨rfl,e,A',c',HL.out,rfl,HR.out.keep T9 zd⟩⟩
end Go.Proofs.YtdhjjpnajjingaaGreat
namespace Go
def failL (L:List Ent):List Ent:=if placeOf waitB L<0 then L else L.modify (placeOf waitB L).toNat fun e=>{ e with state:=2 }
def grantL (L:List Ent) (got:List Int) (a:Int):List Ent:=if placeOf waitB L<0 then L else L.modify (placeOf waitB L).toNat fun e=>{ e with state:=1,got:=got,at_:=a }
def noteE (e:Ent):Ent:={ e with noted:=waitB e }
def endE (e:Ent):Ent:={ e with cycles:=if e.noted&&waitB e then e.cycles+1 else e.cycles,noted:=false }
def EntM.failed (m:EntM):EntM:=⟨{ m.e with state:=2 },m.A,m.cap⟩
def EntM.gr1 (m:EntM):EntM:=⟨{ m.e with state:=1 },m.A,m.cap⟩
def EntM.gr2 (m:EntM) (got:List Int) (A:Option Addr) (c:Nat):EntM:=⟨{ m.e with state:=1,got:=got },A,c⟩
def EntM.gr3 (m:EntM) (got:List Int) (a:Int) (A:Option Addr) (c:Nat):EntM:=⟨{ m.e with state:=1,got:=got,at_:=a },A,c⟩
def EntM.noted' (m:EntM):EntM:=⟨noteE m.e,m.A,m.cap⟩
def EntM.ended (m:EntM):EntM:=⟨endE m.e,m.A,m.cap⟩
def EntM.cyc (m:EntM) (v:Int):EntM:=⟨{ m.e with cycles:=v },m.A,m.cap⟩
theorem yft (f:Ent→Ent) (fm:EntM→EntM) (hf: ∀m,(fm m).e=f m.e) (ms:List EntM):(ms.map fm).map EntM.e=(ms.map EntM.e).map f:=by
 simp [List.map_map];intro m _;exact hf m
theorem ydy {α:Type} (l:List α) (k:Nat) (f:α→α) (x:α) (h:l[k]?=some x):l.modify k f=l.set k (f x):=by
 apply List.ext_getElem?;intro i;rw [List.getElem?_modify,List.getElem?_set];by_cases e:k=i
 · subst e;obtain ⟨hl,hx⟩:=List.getElem?_eq_some_iff.1 h;simp [hl,hx]
 · simp [e]
end Go
namespace Go.Proofs.YtdhjjpnajjingaaGreat
open Go Go.RowKit
structure LineIn (g:GW) (t b:Nat) (A:Option Addr) (c:Nat) (ms:List EntM):Prop where
 blk:Blk g t b 222 [.slice A ms.length c]
 row:Row g t 224 8 (.slice A ms.length c) ms.length (ms.flatMap EntM.cells)
 at_: ∀m∈ms,m.At g (t+1)
theorem LineAt.in_ {g:GW} {t b:Nat} {L:List Ent} (h:LineAt g t b L): ∃A c ms,LineIn g t b A c ms∧ms.map EntM.e=L:=by
 obtain ⟨A,c,ms,h1,h2,h3,h4⟩:=h.ex;have e:L.length=ms.length:=by rw [←h3,List.length_map]
 rw [e] at h1 h2;exact ⟨A,c,ms,⟨h1,h2,h4⟩,h3⟩
theorem LineIn.out {g:GW} {t b c:Nat} {A:Option Addr} {ms:List EntM} {L:List Ent} (h:LineIn g t b A c ms) (e:ms.map EntM.e=L) (hl:L.length≤1000000):LineAt g t b L:=by
 have e':L.length=ms.length:=by rw [←e,List.length_map]
 refine ⟨⟨A,c,ms,?_,?_,e,h.at_⟩,hl⟩
 · rw [e'];exact h.blk
 · rw [e'];exact h.row
theorem LineIn.keep {S:Nat→Prop} {g g':GW} {t b c:Nat} {A:Option Addr} {ms:List EntM} (h:LineIn g t b A c ms) (d:Mod S g g') (hs: ¬S t) (hs1: ¬S (t+1)):LineIn g' t b A c ms:=
 ⟨h.blk.keep d hs,h.row.keep d hs,fun m hm=>(h.at_ m hm).keep d hs1⟩
theorem LineIn.elem {g:GW} {t b c:Nat} {A:Option Addr} {ms:List EntM} (h:LineIn g t b A c ms) {k:Nat} {m:EntM} (hk:ms[k]?=some m): ∃r,A=some ⟨r,0,none⟩∧r<g.w.heap.size∧g.own r=t∧b≠r∧(∀j,g.w.frozen? ⟨r,j,none⟩=false)∧ ∀j v,j<8→m.cells[j]?=some v→g.w.cell? ⟨r,k*8+j,none⟩=some v:=by
 obtain ⟨hl, -⟩:=List.getElem?_eq_some_iff.1 hk;obtain ⟨r,rfl,h1,h2,h3,h4⟩:=h.row.block zo;exact ⟨r,rfl,h1,h2,h.row.ne_type h.blk zd rfl,h4,fun j v hj hv=>h3 _ _ (by rw [yaI EntM.cells_len ms k j m hk hj];exact hv)⟩
theorem LineIn.put {g:GW} {t b r c:Nat} {ms:List EntM} (h:LineIn g t b (some ⟨r,0,none⟩) c ms) {k j:Nat} {x y:EntM} {v:Value} (hk:ms[k]?=some x) (hj:j<8) (hy:y.cells=x.cells.set j v) (ho:g.own r=t) (hn:b≠r) (hat:y.At g (t+1)):
 LineIn ⟨g.own,g.w.setCell ⟨r,k*8+j,none⟩ v⟩ t b (some ⟨r,0,none⟩) c (ms.set k y):=by
 have m1:Mod (fun x=>x=t) g ⟨g.own,g.w.setCell ⟨r,k*8+j,none⟩ v⟩:=Mod.set ho;refine ⟨?_,?_,fun m hm=>?_⟩
 · simp only [List.length_set];exact h.blk.setOther _ _ (fun e=>hn e.symm)
 · simp only [List.length_set];rw [ykm EntM.cells_len ms k j x y v hk hj hy];exact h.row.store _ _
 · rcases List.mem_or_eq_of_mem_set hm with hm|rfl
   · exact (h.at_ m hm).keep m1 zo
   · exact hat.keep m1 zo
theorem yi7 (g:GW) (t b:Nat) (L:List Ent) (h:LineAt g t b L):
 Calls prog 183 #[.pointer (some ⟨b,0,none⟩)] g.w (Does (.bool (decide (0≤placeOf waitB L))) g (fun x=>x=t) (fun g'=>LineAt g' t b (failL L))):=by
 have HI:=zH (yb7 g t b L h);have H:=zH h;have HL:=zH h.len;have hbd:=ybt waitB L;clear h;go_enter func183,ntmps183;go_wp2_with fail;refine HI.out.mono ?_;rintro e w1 ⟨rfl,hX⟩;obtain ⟨own1,m1⟩:=Mod.ofExt (show Ext g.w w1 from hX) g.own;have M1:=zH (show Mod (fun _=>False) g ⟨own1,w1⟩ from m1);have H1:=zH (H.out.keep M1.out id id);clear m1 hX;by_cases h0:placeOf waitB L<0
 · have HV:=zH (show failL L=L from if_pos h0);have HD:=zH (show decide (0≤placeOf waitB L)=false from decide_eq_false zo);go_wp2_with fail;go_ret;exact Does.of ⟨own1,w1⟩ rfl (by rw [HD.out];try rfl) (M1.out.mono (fun x hx=>hx.elim)) (by rw [HV.out];exact H1.out)
 · have HV:=zH (show failL L=L.modify (placeOf waitB L).toNat (fun e=>{ e with state:=2 }) from if_neg h0);have HD:=zH (show decide (0≤placeOf waitB L)=true from decide_eq_true zo);obtain ⟨k,hk⟩:=Int.eq_ofNat_of_zero_le (show 0≤placeOf waitB L by omega);rw [hk] at HV hbd ⊢;obtain ⟨A,c,ms,hin,hms⟩:=H1.out.in_;have hml:ms.length=L.length:=by rw [←hms,List.length_map]
   have hkm:k<ms.length:=zo;have hx:=List.getElem?_eq_getElem hkm;obtain ⟨r,rfl,hr1,hr2,hr3,hr4,hc⟩:=hin.elem hx;have hxL:L[k]?=some ms[k].e:=by rw [←hms,List.getElem?_map,hx];rfl
   have HR:=zH (show LineAt ⟨own1,w1.setCell ⟨r,k*8+3,none⟩ (zI z6 2)⟩ t b (failL L) by
    refine (hin.put (y:=ms[k].failed) hx zd rfl hr2 hr3 ?_).out ?_ (by rw [HV.out,Int.toNat_natCast,List.length_modify];exact HL.out)
    · exact ⟨(hin.at_ _ (List.getElem_mem hkm)).seg,(hin.at_ _ (List.getElem_mem hkm)).len⟩
    · rw [HV.out,Int.toNat_natCast,List.map_set,hms,ydy _ _ _ _ hxL];rfl)
   have HM:=zH (show Mod (fun x=>x=t) g ⟨own1,w1.setCell ⟨r,k*8+3,none⟩ (zI z6 2)⟩ from Mod.st (M1.out.mono (fun x hx=>hx.elim)) hr2);have c0:=hin.blk.cell (i:=0) rfl;have g3:=hc 3 _ zd rfl;have f3:=hr4 (k*8+3);have hbl:=hin.blk.lt;simp only at c0 g3 f3 hbl hr1;rw [hml] at c0 hkm;generalize L.length=n at *;clear hc hr4 hx hxL hin hms hml hr2;go_wp2_with fail;go_ret;exact Does.of ⟨own1,_⟩ rfl (by rw [HD.out];try rfl) HM.out HR.out
theorem yhy (g:GW) (t b:Nat) (A0:Option Addr) (c0 n0:Nat) (got:List Int) (a:Int) (L:List Ent) (h:LineAt g t b L) (hn0:got.length=n0) (hg:CellsAt g.w A0 (got.map (Value.int .i64))) (hgl:n0≤1024):
 Calls prog 182 #[.pointer (some ⟨b,0,none⟩),.slice A0 n0 c0,.int .i64 a] g.w (Does (.bool (decide (0≤placeOf waitB L))) g (fun x=>x=t) (fun g'=>LineAt g' t b (grantL L got a))):=by
 have HI:=zH (yb7 g t b L h);have H:=zH h;have HL:=zH h.len;have hbd:=ybt waitB L;have HCL:=zH (fun g' (m:Mod (fun _=>False) g g')=>ybl A0 c0 n0 got (t+1) g' hn0 (hg.ext m.toExt) zo);have HN0:=zH hn0;have HGL:=zH hgl;clear h hg hn0;go_enter func182,ntmps182;go_wp2_with fail;refine HI.out.mono ?_;rintro e w1 ⟨rfl,hX⟩;obtain ⟨own1,m1⟩:=Mod.ofExt (show Ext g.w w1 from hX) g.own;have M1:=zH (show Mod (fun _=>False) g ⟨own1,w1⟩ from m1);have H1:=zH (H.out.keep M1.out id id);clear m1 hX;by_cases h0:placeOf waitB L<0
 · have HV:=zH (show grantL L got a=L from if_pos h0);have HD:=zH (show decide (0≤placeOf waitB L)=false from decide_eq_false zo);go_wp2_with fail;go_ret;exact Does.of ⟨own1,w1⟩ rfl (by rw [HD.out];try rfl) (M1.out.mono (fun x hx=>hx.elim)) (by rw [HV.out];exact H1.out)
 · have HV:=zH (show grantL L got a=L.modify (placeOf waitB L).toNat (fun e=>{ e with state:=1,got:=got,at_:=a }) from if_neg h0);have HD:=zH (show decide (0≤placeOf waitB L)=true from decide_eq_true zo);obtain ⟨k,hk⟩:=Int.eq_ofNat_of_zero_le (show 0≤placeOf waitB L by omega);rw [hk] at HV hbd ⊢;obtain ⟨A,c,ms,hin,hms⟩:=H1.out.in_;have hml:ms.length=L.length:=by rw [←hms,List.length_map]
   have hkm:k<ms.length:=zo;have hx:=List.getElem?_eq_getElem hkm;obtain ⟨r,rfl,hr1,hr2,hr3,hr4,hc⟩:=hin.elem hx;have hxL:L[k]?=some ms[k].e:=by rw [←hms,List.getElem?_map,hx];rfl
   have HIN:=zH hin;have c0':=hin.blk.cell (i:=0) rfl;have hbl:=hin.blk.lt;simp only at c0' hbl hr1;rw [hml] at c0';have HX:=zH (And.intro hx (And.intro hxL (And.intro hms hkm)));have HO:=zH (And.intro hr2 hr3);have hkl:k<L.length:=zo;generalize hLn:L.length=n at *;have HLN:=zH hLn;clear hc hr4 hx hxL hin hms hml hr2 hr3 hLn;go_wp2_with fail;refine (HCL.out ⟨own1,w1⟩ M1.out).mono ?_;rintro e w2 ⟨A',c',rfl,m2,r2, -, -⟩;obtain ⟨own2,m2,r2⟩: ∃own2,Mod (fun _=>False) ⟨own1,w1⟩ ⟨own2,w2⟩∧Row ⟨own2,w2⟩ (t+1) 3 1 (.slice A' n0 c') n0 (got.map (Value.int .i64)):=⟨_,m2,r2⟩;have hin2:=HIN.out.keep m2 id id;obtain ⟨hx,hxL,hms,hkm⟩:=HX.out;obtain ⟨r',hre,hr1',hr2,hr3,hr4,hc⟩:=hin2.elem hx;injection hre with hre;injection hre with hre;subst hre;have p1:=hin2.put (y:=ms[k].gr1) hx (j:=3) (v:=.int .i64 1) zd rfl hr2 hr3 ⟨(hin2.at_ _ (List.getElem_mem hkm)).seg,(hin2.at_ _ (List.getElem_mem hkm)).len⟩;have q1:Mod (fun x=>x=t) ⟨own2,w2⟩ ⟨own2,w2.setCell ⟨r,k*8+3,none⟩ (zI z6 1)⟩:=Mod.set hr2;have r3:=r2.keep q1 zo
   have p2:=p1.put (y:=ms[k].gr2 got A' c') (x:=ms[k].gr1) (j:=6) (v:=.slice A' n0 c') (List.getElem?_set_self hkm) zd (by rw [←HN0.out];rfl) hr2 hr3 ⟨r3.seg,by rw [show (ms[k].gr2 got A' c').e.got=got from rfl,HN0.out];exact HGL.out⟩;have r4:=r3.keep (Mod.set (T:=fun x=>x=t) (g:=⟨own2,w2.setCell ⟨r,k*8+3,none⟩ (zI z6 1)⟩) (b:=r) (i:=k*8+6) (v:=.slice A' n0 c') hr2) zo;have p3:=p2.put (y:=ms[k].gr3 got a A' c') (x:=ms[k].gr2 got A' c') (j:=5) (v:=.int .i64 a) (List.getElem?_set_self (by simpa using hkm)) zd (by simp [EntM.gr2,EntM.gr3,EntM.cells,EntM.req]) hr2 hr3 ⟨r4.seg,by rw [show (ms[k].gr3 got a A' c').e.got=got from rfl,HN0.out];exact HGL.out⟩;have HR:=zH (p3.out (L:=grantL L got a) (by rw [HV.out,Int.toNat_natCast,List.set_set,List.set_set,List.map_set,hms,ydy _ _ _ _ hxL];rfl) (by rw [HV.out,Int.toNat_natCast,List.length_modify,HLN.out];exact HL.out));have HM:=zH (Mod.st (b:=r) (i:=k*8+5) (v:=.int .i64 a) (Mod.st (b:=r) (i:=k*8+6) (v:=.slice A' n0 c') (Mod.st (b:=r) (i:=k*8+3) (v:=.int .i64 1) ((M1.out.trans m2).mono (S:=fun x=>x=t) (fun x hx=>hx.elim)) hr2) hr2) hr2);have g3:=hc 3 _ zd rfl;have f3:=hr4 (k*8+3);have g6:=hc 6 _ zd rfl;have f6:=hr4 (k*8+6)
   have g5:=hc 5 _ zd rfl;have f5:=hr4 (k*8+5);have hrl2:=Nat.lt_of_lt_of_le hr1 m2.size;simp only at g3 f3 g6 f6 g5 f5 hrl2;clear hc hr4 hx hxL hms m2 r2 r3 r4 p1 p2 p3 q1 hin2 hr1' hr2 hr3;go_wp2_with fail;go_ret;exact Does.of ⟨own2,_⟩ rfl (by rw [HD.out];try rfl) HM.out HR.out
theorem yhx (g:GW) (t b:Nat) (L:List Ent) (h:LineAt g t b L):
 Calls prog 159 #[.pointer (some ⟨b,0,none⟩)] g.w (Does (.tuple #[]) g (fun x=>x=t) (fun g'=>LineAt g' t b (L.map noteE))):=by
 obtain ⟨A,c,ms,hin,hms⟩:=h.in_;have hml:ms.length=L.length:=by rw [←hms,List.length_map]
 have hlen:=h.len;rw [←hml] at hlen;have HMS:=zH hms;have HLEN:=zH h.len;have HIN:=zH hin;have c0:=hin.blk.cell (i:=0) rfl;have cl:=hin.blk.lt;clear hin hms hml h;generalize hn:ms.length=n at *;have HN:=zH hn;clear hn;go_enter func159,ntmps159;go_wp2_with fail;go_loopw [8] (fun i wr=> ∃(k:Nat) (own:Nat→Nat),k≤n∧i=.int .i64 k∧Hid (Mod (fun x=>x=t) g ⟨own,wr⟩)∧Hid (LineIn ⟨own,wr⟩ t b A c (upto EntM.noted' ms k))) (fun i _=>n-(intOf i).toNat)
 case atStart=>exact ⟨0,g.own,Nat.zero_le _,rfl,zH Mod.self,by rw [yeC];exact HIN⟩
 case round=>
  obtain ⟨k,own,hk,rfl,M,S⟩:=hrel;clear c0 cl;by_cases hlt:k<n
  · have hkm:k<ms.length:=by rw [HN.out];exact hlt
    have hx:=List.getElem?_eq_getElem hkm;have hxu:(upto EntM.noted' ms k)[k]?=some ms[k]:=by rw [ygL];exact hx
    obtain ⟨r,rfl,hr1,hr2,hr3,hr4,hc⟩:=S.out.elem hxu;have hmem:=S.out.at_ _ (List.mem_of_getElem? hxu)
    have HR:=zH (show LineIn ⟨own,wr.setCell ⟨r,k*8+7,none⟩ (.bool (waitB ms[k].e))⟩ t b (some ⟨r,0,none⟩) c (upto EntM.noted' ms (k+1)) by
     rw [ycP _ _ _ _ hx];exact S.out.put hxu zd rfl hr2 hr3 ⟨hmem.seg,hmem.len⟩)
    have HM:=zH (Mod.st (b:=r) (i:=k*8+7) (v:=.bool (waitB ms[k].e)) M.out hr2);have c0:=S.out.blk.cell (i:=0) rfl;have cl:=S.out.blk.lt;have g3:=hc 3 _ zd rfl;have g7:=hc 7 _ zd rfl;have f7:=hr4 (k*8+7);simp only [ydn] at c0;rw [HN.out] at c0;simp only at cl g3 g7 f7 hr1;have hwb:waitB ms[k].e=(ms[k].e.state==0):=rfl;rw [hwb] at HR HM;generalize ms[k].e.state=st at *;generalize ms[k].e.noted=nt at *;clear hc hr4 hx hxu hmem hr2 hwb;go_wp2_with fail;refine yab [zT,zT,zT,zT,zT,zT,zT,zT,zT,zT,zT,zT,zT,zT,zT,zT,zT,zU] 1 17 ?_;intro X00;simp only [pickOps];repeat (go_big_quiet_step (fail))
    refine wpQuiet_nil (fun X0=>?_);clear X00;refine yai 17 _ zQ zQ rfl rfl (fun X1 K Q' hK=>?_);go_simp;refine hK _ _ (fun X2=>?_);clear hK K Q';go_wp2_with fail;go_roundw
    case rel=>exact ⟨k+1,_,zo,by go_num,zH (Mod.pt HM.out _),zH (HR.out.keep (Mod.pt (Mod.refl (fun _=>False) _) _) id id)⟩
    case measure=>simp [intOf];omega
  · obtain rfl:k=n:=zo;go_wp2_with fail;refine bodyPost_end (results_none rfl _ _ _) rfl (Does.of ⟨own,wr⟩ rfl rfl M.out ?_);have:=S.out;rw [←HN.out,yfJ] at this;refine this.out ?_ (by rw [List.length_map];exact HLEN.out);rw [←HMS.out];exact yft noteE EntM.noted' (fun m=>rfl) ms
theorem ykv (g:GW) (t b:Nat) (L:List Ent) (h:LineAt g t b L) (hcy: ∀e∈L,0≤e.cycles∧e.cycles≤1099511627776):
 Calls prog 177 #[.pointer (some ⟨b,0,none⟩)] g.w (Does (.tuple #[]) g (fun x=>x=t) (fun g'=>LineAt g' t b (L.map endE))):=by
 obtain ⟨A,c,ms,hin,hms⟩:=h.in_;have hml:ms.length=L.length:=by rw [←hms,List.length_map]
 have hlen:=h.len;rw [←hml] at hlen;have HMS:=zH hms;have HLEN:=zH h.len;have HIN:=zH hin;have HCY:=zH (show∀m∈ms,0≤m.e.cycles∧m.e.cycles≤1099511627776 from fun m hm=>hcy _ (by rw [←hms];exact List.mem_map_of_mem hm));have c0:=hin.blk.cell (i:=0) rfl;have cl:=hin.blk.lt;clear hin hms hml h hcy;generalize hn:ms.length=n at *;have HN:=zH hn;clear hn;go_enter func177,ntmps177;go_wp2_with fail;go_loopw [9] (fun i wr=> ∃(k:Nat) (own:Nat→Nat),k≤n∧i=.int .i64 k∧Hid (Mod (fun x=>x=t) g ⟨own,wr⟩)∧Hid (LineIn ⟨own,wr⟩ t b A c (upto EntM.ended ms k))) (fun i _=>n-(intOf i).toNat)
 case atStart=>exact ⟨0,g.own,Nat.zero_le _,rfl,zH Mod.self,by rw [yeC];exact HIN⟩
 case round=>
  obtain ⟨k,own,hk,rfl,M,S⟩:=hrel;clear c0 cl;by_cases hlt:k<n
  · have hkm:k<ms.length:=by rw [HN.out];exact hlt
    have hx:=List.getElem?_eq_getElem hkm;have hxu:(upto EntM.ended ms k)[k]?=some ms[k]:=by rw [ygL];exact hx
    obtain ⟨hy0,hy1⟩:=HCY.out _ (List.getElem_mem hkm);obtain ⟨r,rfl,hr1,hr2,hr3,hr4,hc⟩:=S.out.elem hxu;have hmem:=S.out.at_ _ (List.mem_of_getElem? hxu);have c0:=S.out.blk.cell (i:=0) rfl;have cl:=S.out.blk.lt;have g3:=hc 3 _ zd rfl;have g4:=hc 4 _ zd rfl;have g7:=hc 7 _ zd rfl;have f4:=hr4 (k*8+4);have f7:=hr4 (k*8+7);simp only [ydn] at c0;rw [HN.out] at c0;simp only at cl g3 g4 g7 f7 f4 hr1;cases hb:(ms[k].e.noted&&waitB ms[k].e)
    · have HR:=zH (show LineIn ⟨own,wr.setCell ⟨r,k*8+7,none⟩ (.bool false)⟩ t b (some ⟨r,0,none⟩) c (upto EntM.ended ms (k+1)) by
       rw [ycP _ _ _ _ hx];exact S.out.put hxu zd (by simp [EntM.ended,endE,EntM.cells,EntM.req,hb]) hr2 hr3 ⟨hmem.seg,hmem.len⟩)
      have HM:=zH (Mod.st (b:=r) (i:=k*8+7) (v:=.bool false) M.out hr2);have hwb:waitB ms[k].e=(ms[k].e.state==0):=rfl;rw [hwb] at hb;generalize ms[k].e.state=st at *;generalize ms[k].e.noted=nt at *;generalize ms[k].e.cycles=cy at *;clear hc hr4 hx hxu hmem hr2 hwb;cases nt
      · go_wp2_with fail;go_roundw
        case rel=>exact ⟨k+1,_,zo,by go_num,HM,HR⟩
        case measure=>simp [intOf];omega
      · have hst:(st==0)=false:=by simpa using hb
        clear hb;go_wp2_with fail;go_roundw
        case rel=>exact ⟨k+1,_,zo,by go_num,HM,HR⟩
        case measure=>simp [intOf];omega
    · have HR:=zH (show LineIn ⟨own,(wr.setCell ⟨r,k*8+4,none⟩ (zI z6 (ms[k].e.cycles+1))).setCell ⟨r,k*8+7,none⟩ (.bool false)⟩ t b (some ⟨r,0,none⟩) c (upto EntM.ended ms (k+1)) by
       rw [ycP _ _ _ _ hx];have p1:=S.out.put (y:=ms[k].cyc (ms[k].e.cycles+1)) hxu (j:=4) (v:=.int .i64 (ms[k].e.cycles+1)) zd rfl hr2 hr3 ⟨hmem.seg,hmem.len⟩;have hku:k<(upto EntM.ended ms k).length:=by rw [ydn];exact hkm
       have p2:=p1.put (y:=ms[k].ended) (x:=ms[k].cyc (ms[k].e.cycles+1)) (j:=7) (v:=.bool false) (List.getElem?_set_self hku) zd (by simp [EntM.ended,endE,EntM.cells,EntM.req,hb,EntM.cyc]) hr2 hr3 ⟨(hmem.keep (Mod.set (T:=fun x=>x=t) (g:=⟨own,wr⟩) (b:=r) (i:=k*8+4) (v:=.int .i64 (ms[k].e.cycles+1)) hr2) zo).seg,hmem.len⟩;rw [List.set_set] at p2;exact p2)
      have HM:=zH (Mod.st (b:=r) (i:=k*8+7) (v:=.bool false) (Mod.st (b:=r) (i:=k*8+4) (v:=.int .i64 (ms[k].e.cycles+1)) M.out hr2) hr2);have hwb:waitB ms[k].e=(ms[k].e.state==0):=rfl;rw [hwb,Bool.and_eq_true] at hb;obtain ⟨hn1,hst⟩:=hb;rw [hn1] at g7;generalize ms[k].e.state=st at *;generalize ms[k].e.cycles=cy at *;clear hc hr4 hx hxu hmem hr2 hwb hn1;go_wp2_with fail;go_roundw
      case rel=>exact ⟨k+1,_,zo,by go_num,HM,HR⟩
      case measure=>simp [intOf];omega
  · obtain rfl:k=n:=zo;go_wp2_with fail;refine bodyPost_end (results_none rfl _ _ _) rfl (Does.of ⟨own,wr⟩ rfl rfl M.out ?_);have:=S.out;rw [←HN.out,yfJ] at this;refine this.out ?_ (by rw [List.length_map];exact HLEN.out);rw [←HMS.out];exact yft endE EntM.ended (fun m=>rfl) ms
end Go.Proofs.YtdhjjpnajjingaaGreat
namespace Go
open Go.RowKit
variable {P:Program}
end Go
namespace Go.Proofs.YtdhjjpnajjingaaGreat
open Go Go.RowKit
def dropL (th:Int) (L:List Ent):List Ent:=if placeOf (ofB th) L<0 then L else L.eraseIdx (placeOf (ofB th) L).toNat
end Go.Proofs.YtdhjjpnajjingaaGreat
namespace Go
open Go.RowKit
def ent0:Ent:=⟨0,0,0,0,0,0,[],false⟩
end Go
namespace Go.Proofs.YtdhjjpnajjingaaGreat
open Go Go.RowKit
def beginS (S:SpaceS):SpaceS:={ S.tick with forced:=false,line:=S.line.map noteE }
def endS (S:SpaceS):SpaceS:={ S.tick with line:=S.line.map endE }
def look (S:SpaceS) (t:Int):AskR:=
 if placeOf (ofB t) S.line<0 then ((3,[], -1),S.tick)
 else if (S.line.getD (placeOf (ofB t) S.line).toNat ent0).state=0 then ((0,[], -1),S.tick)
 else if (S.line.getD (placeOf (ofB t) S.line).toNat ent0).state=2 then ((2,[], -1),{ S.tick with line:=dropL t S.line })
 else ((1,(S.line.getD (placeOf (ofB t) S.line).toNat ent0).got,(S.line.getD (placeOf (ofB t) S.line).toNat ent0).at_),{ S.tick with line:=dropL t S.line })
theorem SpaceIn.force {g:GW} {B b bt bp bk bl cs:Nat} {S:SpaceS} {A:Option Addr} {cm:Cnf} {bs:List Nat} (h:SpaceIn g B b bt S bp bk bl A cs cm bs) (v:Bool):SpaceIn ⟨g.own,g.w.setCell ⟨b,2,none⟩ (.bool v)⟩ B b bt { S with forced:=v } bp bk bl A cs cm bs:=by
 have m:Mod (fun x=>x=B) g ⟨g.own,g.w.setCell ⟨b,2,none⟩ (.bool v)⟩:=Mod.set h.blk.own;exact ⟨h.blk.set 2 _,h.row.setOther 2 _ (fun x hx=>h.row.ne_type h.blk zd hx),h.tab.keep m zo,h.pool.keep m zo,h.coil.keep m zo,h.line.keep m zo zo,h.cnf.keep m zo,h.same,h.blen,fun j x s hx hs=>(h.stock j x s hx hs).keep m zo,h.check,h.few⟩
theorem ygl (g:GW) (B b bt:Nat) (S:SpaceS) (h:SpaceAt g B b bt S) (hB:100≤B) (hc:0≤S.count∧S.count≤1099511627776):
 Calls prog 86 #[.pointer (some ⟨b,0,none⟩)] g.w (Does (.tuple #[]) g (inst B) (fun g'=>SpaceAt g' B b bt (beginS S))):=by
 obtain ⟨bp,bk,bl,A,cs,cm,bs,h⟩:=h;obtain ⟨hc0,hc1⟩:=hc;have H0:=zH (show SpaceIn ⟨g.own,(g.w.setCell ⟨b,3,none⟩ (zI z6 (S.count+1))).setCell ⟨b,2,none⟩ (.bool false)⟩ B b bt { S.tick with forced:=false } bp bk bl A cs cm bs from h.tick.force false);have M0:=zH (show Mod (inst B) g ⟨g.own,(g.w.setCell ⟨b,3,none⟩ (zI z6 (S.count+1))).setCell ⟨b,2,none⟩ (.bool false)⟩ from Mod.st (Mod.set (by rw [h.blk.own];exact ⟨zo,zo⟩)) (by rw [h.blk.own];exact ⟨zo,zo⟩));obtain ⟨a0,a1,a2,a3,a4,a5,a6,a7,a8,a9,a10,a11,a12,a13,a14,a15,al⟩:=h.blk.k16;have af2:=h.blk.liv 2;have af3:=h.blk.liv 3;clear h;go_enter func86,ntmps86;go_wp2_with fail;refine (yhx ⟨g.own,_⟩ (B+3) bl S.line H0.out.line).mono ?_;rintro e w1 ⟨rfl,own1,m1,l1⟩;have M1:=zH (M0.out.trans (m1.mono (fun x (hx:x=B+3)=>(⟨zo,zo⟩:inst B x))));have H1:=zH (H0.out.withLine (m1.mono (fun x hx=>Or.inl hx)) l1);clear m1 l1;go_wp2_with fail;exact bodyPost_end (results_none rfl _ _ _) rfl (Does.of ⟨own1,w1⟩ rfl rfl M1.out ⟨_,_,_,_,_,_,_,H1.out⟩)
theorem yjL (g:GW) (B b bt:Nat) (S:SpaceS) (h:SpaceAt g B b bt S) (hB:100≤B) (hc:0≤S.count∧S.count≤1099511627776) (hcy: ∀e∈S.line,0≤e.cycles∧e.cycles≤1099511627776):
 Calls prog 108 #[.pointer (some ⟨b,0,none⟩)] g.w (Does (.tuple #[]) g (inst B) (fun g'=>SpaceAt g' B b bt (endS S))):=by
 obtain ⟨bp,bk,bl,A,cs,cm,bs,h⟩:=h;obtain ⟨hc0,hc1⟩:=hc;have HCY:=zH hcy;have H0:=zH (show SpaceIn ⟨g.own,g.w.setCell ⟨b,3,none⟩ (zI z6 (S.count+1))⟩ B b bt S.tick bp bk bl A cs cm bs from h.tick);have M0:=zH (show Mod (inst B) g ⟨g.own,g.w.setCell ⟨b,3,none⟩ (zI z6 (S.count+1))⟩ from Mod.set (by rw [h.blk.own];exact ⟨zo,zo⟩));obtain ⟨a0,a1,a2,a3,a4,a5,a6,a7,a8,a9,a10,a11,a12,a13,a14,a15,al⟩:=h.blk.k16;have af3:=h.blk.liv 3;clear h hcy;go_enter func108,ntmps108;go_wp2_with fail;refine (ykv ⟨g.own,_⟩ (B+3) bl S.line H0.out.line HCY.out).mono ?_;rintro e w1 ⟨rfl,own1,m1,l1⟩;have M1:=zH (M0.out.trans (m1.mono (fun x (hx:x=B+3)=>(⟨zo,zo⟩:inst B x))));have H1:=zH (H0.out.withLine (m1.mono (fun x hx=>Or.inl hx)) l1);clear m1 l1;go_wp2_with fail;exact bodyPost_end (results_none rfl _ _ _) rfl (Does.of ⟨own1,w1⟩ rfl rfl M1.out ⟨_,_,_,_,_,_,_,H1.out⟩)
end Go.Proofs.YtdhjjpnajjingaaGreat
namespace Go
def Ent.fair2 (e:Ent):Prop:=1≤e.frags∧0≤e.spine
def Ent.fair (e:Ent):Prop:=1≤e.frags∧e.frags≤1099511627776∧0≤e.spine∧e.spine≤1099511627776
end Go
namespace Go.Proofs.YtdhjjpnajjingaaGreat
open Go Go.RowKit
def serveE (S:SpaceS):Ent:=S.line.getD (placeOf waitB S.line).toNat ent0
def serveYes (S:SpaceS) (got:List Int) (sp:Int) (sense:Bool):SpaceS:={ takesS S got sp with tab:=S.tab.setAll got 2 sense,line:=grantL S.line got (takesAt S got sp) }
def serve (S:SpaceS) (sense:Bool):Bool × SpaceS:=
 if placeOf waitB S.line<0 then (false,S.tick)
 else if S.fits (serveE S).frags (serveE S).spine then (true,serveYes S.tick (askGot S (serveE S).frags) (serveE S).spine sense)
 else if 2≤(serveE S).cycles then (true,{ S.tick with line:=failL S.line })
 else (false,S.tick)
theorem ydF (sense:Bool) (g:GW) (B b bt:Nat) (S:SpaceS) (h:SpaceAt g B b bt S) (hB:100≤B) (hc:0≤S.count∧S.count≤1099511627776) (hfair: ∀e∈S.line,e.fair2):
 Calls prog 109 #[.pointer (some ⟨b,0,none⟩),.bool sense] g.w (Does (.bool (serve S sense).1) g (inst B) (fun g'=>SpaceAt g' B b bt (serve S sense).2)):=by
 obtain ⟨bp,bk,bl,A,cs,cm,bs,h⟩:=h;obtain ⟨hc0,hc1⟩:=hc;have H0:=zH (show SpaceIn ⟨g.own,g.w.setCell ⟨b,3,none⟩ (zI z6 (S.count+1))⟩ B b bt S.tick bp bk bl A cs cm bs from h.tick);have M0:=zH (show Mod (inst B) g ⟨g.own,g.w.setCell ⟨b,3,none⟩ (zI z6 (S.count+1))⟩ from Mod.set (by rw [h.blk.own];exact ⟨zo,zo⟩));have HFA:=zH hfair;obtain ⟨a0,a1,a2,a3,a4,a5,a6,a7,a8,a9,a10,a11,a12,a13,a14,a15,al⟩:=h.blk.k16;have af3:=h.blk.liv 3;clear h hfair;go_enter func109,ntmps109;go_wp2_with fail;refine (yhw ⟨g.own,_⟩ (B+3) bl S.line H0.out.line).mono ?_;rintro e w1 ⟨v,own1,rfl,m1,r,ok,rfl,hn,hp⟩;have M1:=zH (M0.out.trans (m1.mono (fun x hx=>hx.elim)));have H1:=zH (H0.out.keep m1 (fun x hx=>hx.elim));clear m1 a0 a1 a2 a3 a4 a5 a6 a7 a8 a9 a10 a11 a12 a13 a14 a15 af3 al;by_cases hi:placeOf waitB S.line<0
 · obtain ⟨rfl,rfl⟩:=hn hi;have HK:=zH (show serve S sense=(false,S.tick) from if_pos hi);clear hn hp hi;go_wp2_with fail;go_ret;rw [HK.out];refine Does.ext ⟨own1,w1⟩ zE rfl M1.out (fun g2 m=>⟨_,_,_,_,_,_,_,H1.out.keep m (fun x hx=>hx.elim)⟩)
 · obtain ⟨rfl,ee,A',c',hL',rfl,hr⟩:=hp zo;have he0:serveE S=ee:=by unfold serveE;rw [List.getD_eq_getElem?_getD,hL'];rfl
   obtain ⟨f1,f3⟩:=HFA.out ee (List.mem_of_getElem? hL');have HKA:=zH (show S.fits ee.frags ee.spine=true→serve S sense=(true,serveYes S.tick (askGot S ee.frags) ee.spine sense) from fun h2=>by unfold serve;rw [if_neg hi,he0,h2];rfl);have HKB:=zH (show S.fits ee.frags ee.spine=false→2≤ee.cycles→serve S sense=(true,{ S.tick with line:=failL S.line }) from fun h2 h3=>by unfold serve;rw [if_neg hi,he0,h2,if_neg (by simp),if_pos h3]);have HKC:=zH (show S.fits ee.frags ee.spine=false→ ¬2≤ee.cycles→serve S sense=(false,S.tick) from fun h2 h3=>by unfold serve;rw [if_neg hi,he0,h2,if_neg (by simp),if_neg h3]);have HIP:=zH (show decide (0≤placeOf waitB S.line)=true from decide_eq_true zo)
   obtain ⟨own2,m2,q2⟩: ∃own2,Mod (fun _=>False) ⟨own1,w1⟩ ⟨own2,w1.alloc (.cells #[.int .i64 ee.thread,.int .i64 ee.frags,.int .i64 ee.spine,.int .i64 ee.state,.int .i64 ee.cycles,.int .i64 ee.at_,.slice A' ee.got.length c'] 199)⟩∧Blk ⟨own2,w1.alloc (.cells #[.int .i64 ee.thread,.int .i64 ee.frags,.int .i64 ee.spine,.int .i64 ee.state,.int .i64 ee.cycles,.int .i64 ee.at_,.slice A' ee.got.length c'] 199)⟩ 9 w1.heap.size 199 [.int .i64 ee.thread,.int .i64 ee.frags,.int .i64 ee.spine,.int .i64 ee.state,.int .i64 ee.cycles,.int .i64 ee.at_,.slice A' ee.got.length c']:=⟨_,Mod.ext (g:=⟨own1,w1⟩) zE 9,Blk.new ⟨own1,w1⟩ 9 199 [.int .i64 ee.thread,.int .i64 ee.frags,.int .i64 ee.spine,.int .i64 ee.state,.int .i64 ee.cycles,.int .i64 ee.at_,.slice A' ee.got.length c']⟩;have M2:=zH (M1.out.trans (m2.mono (fun x hx=>hx.elim)));have H2:=zH (H1.out.keep m2 (fun x hx=>hx.elim));have Q2:=zH q2;clear m2 q2 hn hr hL' hi he0 H1 M1;go_wp2_with fail;have qx:w1.heap.size<(w1.alloc (.cells #[.int .i64 ee.thread,.int .i64 ee.frags,.int .i64 ee.spine,.int .i64 ee.state,.int .i64 ee.cycles,.int .i64 ee.at_,.slice A' ee.got.length c'] 199)).heap.size:=by rw [World.size_alloc];omega
   generalize w1.heap.size=bq at *;generalize w1.alloc (.cells #[.int .i64 ee.thread,.int .i64 ee.frags,.int .i64 ee.spine,.int .i64 ee.state,.int .i64 ee.cycles,.int .i64 ee.at_,.slice A' ee.got.length c'] 199)=w2 at *;obtain ⟨q0,q1,q2,q3,q4,q5,q6,ql⟩:=Q2.out.k7;have HFT:=zH (fun X=>(show Calls prog 179 #[shelves cm bp bk bl,.int .i64 ee.frags,.int .i64 ee.spine] ((⟨own2,w2⟩:GW).pt X).w (Gives (.bool (S.fits ee.frags ee.spine)) _) from yd1 (S:=S.tick) ee.frags ee.spine (H2.out.keep (Mod.pt (Mod.refl (fun _=>False) _) X) (fun x hx=>hx.elim))));unfold shelves at HFT;obtain ⟨a0,a1,a2,a3,a4,a5,a6,a7,a8,a9,a10,a11,a12,a13,a14,a15,al⟩:=H2.out.blk.k16;refine yab [zT,zT,zT,zT,zT,zT,zT,zT,zT,zT] 0 10 ?_;intro X00;simp only [pickOps];repeat (go_big_quiet_step ((go_at_call 179;exact Calls.added (HFT.out _))))
   refine wpQuiet_nil (fun X0=>?_);clear X00;refine yaa zQ (fun X0'=>?_) _;generalize hW:World.patch (World.patch _ _) _=w3;have hX:Ext w2 w3:=by rw [←hW];exact Ext.trans ⟨_,rfl⟩ ⟨_,rfl⟩
   clear hW;obtain ⟨own3,m3⟩:=Mod.ofExt hX own2;have M3:=zH (M2.out.trans (m3.mono (fun x hx=>hx.elim)));have H3:=zH (H2.out.keep m3 (fun x hx=>hx.elim));have Q3:=zH (Q2.out.keep m3 id);clear m3 hX a0 a1 a2 a3 a4 a5 a6 a7 a8 a9 a10 a11 a12 a13 a14 a15 al q0 q1 q2 q3 q4 q5 q6 ql H2 M2 Q2 HFT;obtain ⟨q0,q1,q2,q3,q4,q5,q6,ql⟩:=Q3.out.k7;cases hft:S.fits ee.frags ee.spine
   · by_cases h2:2≤ee.cycles
     · have HK:=zH (HKB.out hft zo);have hz2:decide ((2:Int)≤ee.cycles)=true:=decide_eq_true h2;clear hft h2;obtain ⟨a0,a1,a2,a3,a4,a5,a6,a7,a8,a9,a10,a11,a12,a13,a14,a15,al⟩:=H3.out.blk.k16;go_wp2_with fail;refine (yi7 ⟨own3,w3⟩ (B+3) bl S.line H3.out.line).mono ?_;rintro e w4 ⟨rfl,own4,m4,l4⟩;have M4:=zH (M3.out.trans (m4.mono (fun x (hx:x=B+3)=>(⟨zo,zo⟩:inst B x))));have H4:=zH (H3.out.withLine (m4.mono (fun x hx=>Or.inl hx)) l4);clear m4 l4;go_wp2_with fail;go_ret;rw [HK.out];exact Does.of ⟨own4,w4⟩ rfl (by rw [HIP.out];try rfl) M4.out ⟨_,_,_,_,_,_,_,H4.out⟩
     · have HK:=zH (HKC.out hft zo);have hz2:decide ((2:Int)≤ee.cycles)=false:=decide_eq_false h2;clear hft h2;go_wp2_with fail;go_ret;rw [HK.out];exact Does.of ⟨own3,w3⟩ rfl rfl M3.out ⟨_,_,_,_,_,_,_,H3.out⟩
   · have HK:=zH (HKA.out hft)
     have hfree:ee.frags≤(S.pool.free:Int):=by
      unfold SpaceS.fits at hft;simp only [Bool.and_eq_true,decide_eq_true_eq] at hft;exact hft.1
     obtain ⟨got,hgot⟩:=PoolS.taken_some (p:=S.pool) (k:=ee.frags) f1 hfree;have HG:=zH (show askGot S ee.frags=got by unfold askGot;rw [hgot];rfl);have HGL:=zH (show got.length≤1024 from Nat.le_trans (PoolS.taken_len hgot) H3.out.pool.len);have HSD:=zH (ycy hft hgot (show S.pool.l.length≤1024 from H3.out.pool.len) H3.out.coil.ok)
     have HT:=zH (fun w' (he:Ext w3 w')=>(show Calls prog 180 #[shelves cm bp bk bl,.int .i64 ee.frags,.int .i64 ee.spine] w' (fun e w4=> ∃s4 c4,e=.returned (.tuple #[.slice s4 got.length c4,.int .i64 (takesAt S.tick got ee.spine)])∧Hid (∃own4,Mod (inst B) g ⟨own4,w4⟩∧Row ⟨own4,w4⟩ 0 3 1 (.slice s4 got.length c4) got.length (got.map (Value.int .i64))∧SpaceIn ⟨own4,w4⟩ B b bt (takesS S.tick got ee.spine) bp bk bl A cs cm bs)) from by
      obtain ⟨ownp,mp⟩:=Mod.ofExt he own3;refine (ydj ee.frags ee.spine got (H3.out.keep mp (fun x hx=>hx.elim)) hB hgot ⟨f3,HSD.out⟩).mono ?_;rintro e w4 ⟨v,own4,rfl,m4,s4,c4,rfl,r4,h4⟩;exact ⟨s4,c4,rfl,zH ⟨own4,(M3.out.trans (mp.mono (fun x hx=>hx.elim))).trans (m4.mono (fun x (hx:x=B+1∨x=B+2)=>(⟨zo,zo⟩:inst B x))),r4,h4⟩⟩))
     unfold shelves at HT;clear hgot hft hfree;generalize hgn:got.length=ng at *;have HGN:=zH hgn;clear hgn;generalize hat4:takesAt S.tick got ee.spine=at4 at *;have HAT4:=zH hat4;clear hat4;obtain ⟨a0,a1,a2,a3,a4,a5,a6,a7,a8,a9,a10,a11,a12,a13,a14,a15,al⟩:=H3.out.blk.k16;go_wp2_with fail;go_cut [7,8] (fun s7 s8 wx=> ∃s4 c4,s7=.slice s4 ng c4∧s8=.int .i64 at4∧Hid (∃own4,Mod (inst B) g ⟨own4,wx⟩∧Row ⟨own4,wx⟩ 0 3 1 (.slice s4 ng c4) ng (got.map (Value.int .i64))∧SpaceIn ⟨own4,wx⟩ B b bt (takesS S.tick got ee.spine) bp bk bl A cs cm bs))
     case first=>
      go_region_with (go_at_call 180;refine (HT.out _ ?he).mono ?_;(case he=>exact zE);rintro e w4 ⟨s4,c4,rfl,HG4⟩)
      all_goals
       go_wp2_with fail;go_meet
       exact ⟨s4,c4,rfl,rfl,HG4⟩
     case rest=>
      obtain ⟨s4,c4,rfl,rfl,HG4⟩:=hcut;obtain ⟨w4,rfl⟩: ∃w4:World,w4=wc:=⟨_,rfl⟩;obtain ⟨own4,m4,r4,h4⟩:=HG4.out;have M4:=zH m4;have R4:=zH r4;have H4:=zH h4;clear m4 r4 h4 HG4 HT H3 M3 Q3 a0 a1 a2 a3 a4 a5 a6 a7 a8 a9 a10 a11 a12 a13 a14 a15 al q0 q1 q2 q3 q4 q5 q6 ql;have HST:=zH (ya2 2 sense s4 c4 got H4.out R4.out.seg hB (by rw [HGN.out];have:=HGL.out;omega));rw [HGN.out] at HST;go_wp2_with fail;refine HST.out.mono ?_;rintro e w5 ⟨rfl,own5,m5,h5⟩;have M5:=zH (M4.out.trans (m5.mono (fun x (hx:x=B+50)=>(⟨zo,zo⟩:inst B x))));have R5:=zH (R4.out.keep m5 zo);have H5:=zH h5;clear m5 h5;have HLG:=zH (yhy ⟨own5,w5⟩ (B+3) bl s4 c4 ng got at4 S.line H5.out.line HGN.out R5.out.cells HGL.out);obtain ⟨a0,a1,a2,a3,a4,a5,a6,a7,a8,a9,a10,a11,a12,a13,a14,a15,al⟩:=H5.out.blk.k16;go_wp2_with fail;refine HLG.out.mono ?_;rintro e w6 ⟨rfl,own6,m6,l6⟩;have M6:=zH (M5.out.trans (m6.mono (fun x (hx:x=B+3)=>(⟨zo,zo⟩:inst B x))));have H6:=zH (H5.out.withLine (m6.mono (fun x hx=>Or.inl hx)) l6);clear m6 l6;go_wp2_with fail;go_ret;rw [HK.out,HG.out];exact Does.of ⟨own6,w6⟩ rfl (by rw [HIP.out];try rfl) M6.out ⟨_,_,_,_,_,_,_,by have:=H6.out;rw [←HAT4.out] at this;exact this⟩
theorem ygo (sense:Bool) (g:GW) (B b bt:Nat) (S:SpaceS) (h:SpaceAt g B b bt S) (hB:100≤B) (hc:0≤S.count∧S.count≤1099511627776) (hfair: ∀e∈S.line,e.fair):
 Calls prog 109 #[.pointer (some ⟨b,0,none⟩),.bool sense] g.w (Does (.bool (serve S sense).1) g (inst B) (fun g'=>SpaceAt g' B b bt (serve S sense).2)):=
 ydF sense g B b bt S h hB hc (fun e he=>⟨(hfair e he).1,(hfair e he).2.2.1⟩)
theorem yis (g:GW) (t b:Nat) (c:CoilS) (h:CoilAt g t b c) (hk:c.kept≤0):
 Calls prog 175 #[.pointer (some ⟨b,0,none⟩)] g.w (Does (.bool true) g (fun x=>x=t) (fun g'=>CoilAt g' t b c.done)):=by
 have c0:=h.blk.cell (i:=0) rfl;have c1:=h.blk.cell (i:=1) rfl;have c2:=h.blk.cell (i:=2) rfl;have c3:=h.blk.cell (i:=3) rfl;have c4:=h.blk.cell (i:=4) rfl;have f2:=h.blk.live 2;have f3:=h.blk.live 3;have hbl:=h.blk.lt;obtain ⟨o1,⟨_,_⟩,⟨_,_⟩,⟨_,_⟩,⟨_,_⟩,o6⟩:=h.ok;have HO:=zH h.blk.own;have HB:=zH h.blk;have H:=zH h;clear h;obtain ⟨size,cur,u0,u1,kept⟩:=c;simp only at *;have hd:decide (0<kept)=false:=decide_eq_false zo;rcases (show cur=0∨cur=1 by omega) with rfl|rfl
 · replace c1:g.w.cell? ⟨b,1,none⟩=some (zI z6 0):=c1;have HT:=zH (show CoilS.done ⟨size,0,u0,u1,kept⟩=⟨size,0,u0,0,kept⟩ by unfold CoilS.done CoilS.doneable;simp only;rw [if_pos (decide_eq_true hk)];rfl);have HK:=zH (show CoilS.Ok ⟨size,0,u0,0,kept⟩ from ⟨by simp,by simp only;omega,by simp only;omega,by simp only;omega,by simp only;omega,by simp only [CoilS.used,if_true,if_false,Nat.one_ne_zero] at *;omega⟩);clear o6;go_enter func175,ntmps175;go_wp2_with fail;refine yab [zT,zT,zT,zT,zT,zT,zT,zT,zT,zU] 1 9 ?_;intro X00;simp only [pickOps];repeat (go_big_quiet_step (fail))
   refine wpQuiet_nil (fun X0=>?_);clear X00;refine yai 9 _ zQ zQ rfl rfl (fun X1 K Q' hK=>?_);go_simp;refine hK _ _ (fun X2=>?_);clear hK K Q';go_wp2_with fail;go_ret;(try rw [World.patch_patch]);refine Does.of (GW.pt ⟨g.own,_⟩ _) rfl rfl (Mod.pt (Mod.st Mod.self HO.out) _) ?_;rw [HT.out];exact CoilAt.pt ⟨HB.out.set 3 _,HK.out⟩ _
 · replace c1:g.w.cell? ⟨b,1,none⟩=some (zI z6 1):=c1;have HT:=zH (show CoilS.done ⟨size,1,u0,u1,kept⟩=⟨size,1,0,u1,kept⟩ by unfold CoilS.done CoilS.doneable;simp only;rw [if_pos (decide_eq_true hk)];rfl);have HK:=zH (show CoilS.Ok ⟨size,1,0,u1,kept⟩ from ⟨by simp,by simp only;omega,by simp only;omega,by simp only;omega,by simp only;omega,by simp only [CoilS.used,if_true,if_false,Nat.one_ne_zero] at *;omega⟩);clear o6;go_enter func175,ntmps175;go_wp2_with fail;refine yab [zT,zT,zT,zT,zT,zT,zT,zT,zT,zU] 1 9 ?_;intro X00;simp only [pickOps];repeat (go_big_quiet_step (fail))
   refine wpQuiet_nil (fun X0=>?_);clear X00;refine yai 9 _ zQ zQ rfl rfl (fun X1 K Q' hK=>?_);go_simp;refine hK _ _ (fun X2=>?_);clear hK K Q';go_wp2_with fail;go_ret;(try rw [World.patch_patch]);refine Does.of (GW.pt ⟨g.own,_⟩ _) rfl rfl (Mod.pt (Mod.st Mod.self HO.out) _) ?_;rw [HT.out];exact CoilAt.pt ⟨HB.out.set 2 _,HK.out⟩ _
def c4 (A:Option Addr):Cnf:=⟨4,0,0,1,1,0,1,0,A,1,[⟨false,none,0,[]⟩]⟩
def s4 (A:Option Addr):SpaceS:=SpaceS.fresh (c4 A) (TabS.fresh 4)
end Go.Proofs.YtdhjjpnajjingaaGreat
namespace Go
end Go
namespace Go.Proofs.YtdhjjpnajjingaaGreat
open Go Go.RowKit
end Go.Proofs.YtdhjjpnajjingaaGreat
namespace Go
theorem Mod.none {T:Nat→Prop} {g g':GW} (h:Mod T g g') (hn: ∀k,k<g.w.heap.size→ ¬T (g.own k)):Mod (fun _=>False) g g':=⟨h.os,h.tape,h.output,h.size,h.own,fun k hk _=>h.block k hk (hn k hk)⟩
end Go
namespace Go.Proofs.YtdhjjpnajjingaaGreat
open Go Go.RowKit
def sweeps (S:SpaceS) (i:Int) (sense:Bool):Bool:=S.tab.state i==2&& !S.tab.black i sense
def sweepS (S:SpaceS) (i:Int) (sense:Bool):SpaceS:=if sweeps S i sense then { S.tick with tab:=S.tab.set i 0 false false,pool:=S.pool.give i } else S.tick
theorem ygp (i:Int) (sense:Bool) (g:GW) (B b bt:Nat) (S:SpaceS) (h:SpaceAt g B b bt S) (hB:100≤B) (hc:0≤S.count∧S.count≤1099511627776):
 Calls prog 107 #[.pointer (some ⟨b,0,none⟩),.int .i64 i,.bool sense] g.w (Does (.bool (sweeps S i sense)) g (inst B) (fun g'=>SpaceAt g' B b bt (sweepS S i sense))):=by
 obtain ⟨bp,bk,bl,A,cs,cm,bs,h⟩:=h;obtain ⟨hc0,hc1⟩:=hc;have H:=zH h;have M0:=zH (show Mod (inst B) g ⟨g.own,g.w.setCell ⟨b,3,none⟩ (zI z6 (S.count+1))⟩ from Mod.set (by rw [h.blk.own];exact ⟨zo,zo⟩));have H0:=zH h.tick;obtain ⟨a0,a1,a2,a3,a4,a5,a6,a7,a8,a9,a10,a11,a12,a13,a14,a15,al⟩:=h.blk.k16;have af3:=h.blk.liv 3;have k0:=(h.tick.blk.cell (i:=0) rfl);have k13:=(h.tick.blk.cell (i:=13) rfl);simp only at k0 k13;have HST:=zH (ybp ⟨g.own,g.w.setCell ⟨b,3,none⟩ (zI z6 (S.count+1))⟩ (B+50) bt i S.tab h.tick.tab);have HBL:=zH (ybT ⟨g.own,g.w.setCell ⟨b,3,none⟩ (zI z6 (S.count+1))⟩ (B+50) bt i sense S.tab h.tick.tab);have HFR:=zH (yc6 i h.tick hB);clear h;cases hst:(S.tab.state i==2)
 · have HV:=zH (show sweeps S i sense=false by unfold sweeps;rw [hst];rfl);have HW:=zH (show sweepS S i sense=S.tick by unfold sweepS;rw [HV.out];rfl);have hz:((S.tab.state i:Int) !=2)=true:=by rw [bne,show (2:Int)=((2:Nat):Int) from rfl,ybB];simpa using hst
   generalize S.tab.state i=x at *;clear hst;go_enter func107,ntmps107;go_wp2_with fail;refine HST.out.mono ?_;rintro e w1 ⟨rfl,rfl⟩;go_wp2_with fail;go_ret;exact Does.of ⟨g.own,_⟩ rfl (by rw [HV.out];try rfl) M0.out (by rw [HW.out];exact ⟨_,_,_,_,_,_,_,H0.out⟩)
 · have hz:((S.tab.state i:Int) !=2)=false:=by rw [bne,show (2:Int)=((2:Nat):Int) from rfl,ybB];simpa using hst
   cases hbl:S.tab.black i sense
   · have HV:=zH (show sweeps S i sense=true by unfold sweeps;rw [hst,hbl];rfl);have HW:=zH (show sweepS S i sense={ S.tick with tab:=S.tab.set i 0 false false,pool:=S.pool.give i } by unfold sweepS;rw [HV.out];rfl);rw [hbl] at HBL;generalize S.tab.state i=x at *;clear hst hbl;go_enter func107,ntmps107;go_wp2_with fail;refine HST.out.mono ?_;rintro e w1 ⟨rfl,rfl⟩;go_wp2_with fail;refine HBL.out.mono ?_;rintro e w1 ⟨rfl,rfl⟩;go_wp2_with fail;refine HFR.out.mono ?_;rintro e w1 ⟨rfl,own1,m1,h1⟩;have M1:=zH (M0.out.trans (m1.mono (fun y (hy:y=B+50∨y=B+1)=>(⟨zo,zo⟩:inst B y))));have H1:=zH h1;clear m1 h1;go_wp2_with fail;go_ret;exact Does.of ⟨own1,_⟩ rfl (by rw [HV.out];try rfl) M1.out (by rw [HW.out];exact ⟨_,_,_,_,_,_,_,H1.out⟩)
   · have HV:=zH (show sweeps S i sense=false by unfold sweeps;rw [hst,hbl];rfl);have HW:=zH (show sweepS S i sense=S.tick by unfold sweepS;rw [HV.out];rfl);rw [hbl] at HBL;generalize S.tab.state i=x at *;clear hst hbl;go_enter func107,ntmps107;go_wp2_with fail;refine HST.out.mono ?_;rintro e w1 ⟨rfl,rfl⟩;go_wp2_with fail;refine HBL.out.mono ?_;rintro e w1 ⟨rfl,rfl⟩;go_wp2_with fail;go_ret;exact Does.of ⟨g.own,_⟩ rfl (by rw [HV.out];try rfl) M0.out (by rw [HW.out];exact ⟨_,_,_,_,_,_,_,H0.out⟩)
end Go.Proofs.YtdhjjpnajjingaaGreat
