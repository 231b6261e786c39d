import Derived.Test.YtdhjjpnajjingaaGreatKF05
set_option linter.unusedVariables false
set_option linter.unnecessarySimpa false
set_option linter.unusedSimpArgs false
open Bool renaming true→zT,false→zU
open Go.Value renaming int→zI,complex→zc,pointer→zp,bool→zb
open Go.IntKind renaming i64→z6
open Go.FloatKind renaming f64→z4
set_option maxHeartbeats 8000000
set_option maxRecDepth 100000
open Go.Proofs.Tryz
open Go.Lib renaming hid→zH
open Go.Ext renaming alloc→zA,patch→zP,drew→zD,drewN→zN,more→zM,refl→zR,setCell→zS
open Nat renaming le_refl→zL,le_add_right→zK
namespace Go.Proofs.YtdhjjpnajjingaaGreat
open Go Go.RowKit
structure CyAt (g:GW) (t b:Nat) (Y:CyS) (tr:Option TraceS) (h:Option HaulS) (tp hp:Option Addr):Prop where
 blk:Blk g t b 113 (Y.cells tp hp)
 tr: ∀S,tr=some S→ ∃bt cm,tp=some ⟨bt,0,none⟩∧cm.Same S.c∧TraceAt g (t+1) bt { S with c:=cm }
 hn:h=none→hp=none
 hl: ∀S,h=some S→ ∃bh cm,hp=some ⟨bh,0,none⟩∧cm.Same S.c∧HaulAt g (t+3) bh { S with c:=cm }
theorem CyAt.keep {T:Nat→Prop} {g g':GW} {t b:Nat} {Y:CyS} {tr:Option TraceS} {h:Option HaulS} {tp hp:Option Addr} (H:CyAt g t b Y tr h tp hp) (m:Mod T g g') (hT: ∀x,T x→x<t∨t+5≤x):CyAt g' t b Y tr h tp hp:=by
 have q: ∀k,k<5→ ¬T (t+k):=fun k hk ht=>by have:=hT _ ht;omega
 refine ⟨H.blk.keep m (q 0 zo),fun S hS=>?_,H.hn,fun S hS=>?_⟩
 · obtain ⟨bt,cm,h1,h2,h3⟩:=H.tr S hS;exact ⟨bt,cm,h1,h2,h3.keep m (q 1 zo) (q 2 zo)⟩
 · obtain ⟨bt,cm,h1,h2,h3⟩:=H.hl S hS;exact ⟨bt,cm,h1,h2,h3.keep m (q 3 zo) (q 4 zo)⟩
theorem CyAt.set {g:GW} {t b:Nat} {Y:CyS} {tr:Option TraceS} {h:Option HaulS} {tp hp:Option Addr} (H:CyAt g t b Y tr h tp hp) (i:Nat) (v:Value) (Y':CyS) (hv:Y'.cells tp hp=(Y.cells tp hp).set i v):CyAt ⟨g.own,g.w.setCell ⟨b,i,none⟩ v⟩ t b Y' tr h tp hp:=by
 have m:Mod (fun x=>x=t) g ⟨g.own,g.w.setCell ⟨b,i,none⟩ v⟩:=Mod.set H.blk.own;refine ⟨by rw [hv];exact H.blk.set i v,fun S hS=>?_,H.hn,fun S hS=>?_⟩
 · obtain ⟨bt,cm,h1,h2,h3⟩:=H.tr S hS;exact ⟨bt,cm,h1,h2,h3.keep m zo zo⟩
 · obtain ⟨bt,cm,h1,h2,h3⟩:=H.hl S hS;exact ⟨bt,cm,h1,h2,h3.keep m zo zo⟩
structure CyApart (t B:Nat):Prop where
 hb:100≤B
 ht:100≤t
 apart:t+5≤B∨B+70≤t
def cyT (t B:Nat) (x:Nat):Prop:=(t≤x∧x<t+5)∨(B≤x∧x<B+70)
structure CyIn (g:GW) (t B b k:Nat) (W:CyW) (tp hp:Option Addr) (bm bs bt bp bsp bh:Nat) (cm:Cnf):Prop where
 y:CyAt g t b W.y W.tr W.h tp hp
 c:CoreIn g B k W.K bm bs bt bp bsp bh cm
def CyWAt (g:GW) (t B b k:Nat) (W:CyW):Prop:= ∃tp hp bm bs bt bp bsp bh cm,CyIn g t B b k W tp hp bm bs bt bp bsp bh cm
structure CyW.Bd (W:CyW):Prop where
 i:0≤W.y.i∧W.y.i≤1099511627776
 started:0≤W.y.started∧W.y.started≤1099511627776
 finished:0≤W.y.finished∧W.y.finished≤1099511627776
 freed:0≤W.y.freed∧W.y.freed≤1099511627776
 moved:0≤W.y.moved∧W.y.moved≤1099511627776
 steps:0≤W.y.steps∧W.y.steps≤1099511627776
 hand:0≤W.K.hand.count∧W.K.hand.count≤1099511627776
 sp:0≤W.K.sp.count∧W.K.sp.count≤1099511627776
 mem:0≤W.K.mem.count∧W.K.mem.count≤1099511627776
 n:0≤W.K.n∧W.K.n≤1099511627776
section
variable {g:GW} {t B b k:Nat} {W:CyW} {tp hp:Option Addr} {bm bs bt bp bsp bh:Nat} {cm:Cnf}
theorem CyIn.set (H:CyIn g t B b k W tp hp bm bs bt bp bsp bh cm) (A:CyApart t B) (i:Nat) (v:Value) (Y':CyS) (hv:Y'.cells tp hp=(W.y.cells tp hp).set i v):CyIn ⟨g.own,g.w.setCell ⟨b,i,none⟩ v⟩ t B b k { W with y:=Y' } tp hp bm bs bt bp bsp bh cm:=
 ⟨H.y.set i v Y' hv,H.c.keep (Mod.set (T:=fun x=>x=t) H.y.blk.own) (fun x (hx:x=_)=>by have:=A.apart;omega)⟩
theorem CyIn.hand {g':GW} (H:CyIn g t B b k W tp hp bm bs bt bp bsp bh cm) (A:CyApart t B) {h:HandS} (m:Mod (fun x=>x=B+63) g g') (hh:HandAt g' (B+63) bh h):CyIn g' t B b k { W with K:={ W.K with hand:=h } } tp hp bm bs bt bp bsp bh cm:=
 ⟨H.y.keep m (fun x (hx:x=_)=>by have:=A.apart;omega),H.c.putHand m hh⟩
theorem CyIn.spc {g':GW} (H:CyIn g t B b k W tp hp bm bs bt bp bsp bh cm) (A:CyApart t B) {S:SpaceS} (m:Mod (inst B) g g') (hs:SpaceAt g' B bsp bt S):CyIn g' t B b k (W.spc S) tp hp bm bs bt bp bsp bh cm:=
 ⟨H.y.keep m (fun x hx=>by have:=A.apart;have h1:=hx.1;have h2:=hx.2;omega),H.c.putSp m hs⟩
theorem CyIn.keep {T:Nat→Prop} {g':GW} (H:CyIn g t B b k W tp hp bm bs bt bp bsp bh cm) (m:Mod T g g') (h1: ∀x,T x→x<t∨t+5≤x) (h2: ∀x,T x→x<B∨B+70≤x):CyIn g' t B b k W tp hp bm bs bt bp bsp bh cm:=
 ⟨H.y.keep m h1,H.c.keep m h2⟩
theorem CyIn.modY (H:CyIn g t B b k W tp hp bm bs bt bp bsp bh cm):cyT t B (g.own b):=by rw [H.y.blk.own];exact Or.inl ⟨Nat.le_refl _,zo⟩
end
theorem ybH {t B x:Nat} (h:x=B+63):cyT t B x:=Or.inr zo
theorem yaT {t B x:Nat} (h:inst B x):cyT t B x:=Or.inr (by have h1:=h.1;have h2:=h.2;omega)
section
variable (g:GW) (t b:Nat) (Y:CyS) (tr:Option TraceS) (hh:Option HaulS) (tp hp:Option Addr)
theorem yhE (h:CyAt g t b Y tr hh tp hp):Calls prog 36 #[zp (some ⟨b,0,none⟩)] g.w (fun e w'=>e=.returned (zI z6 Y.started)∧g.w=w'):=by
 obtain ⟨a0,a1,a2,a3,a4,a5,a6,a7,a8,a9,a10,a11,a12,a13,al⟩:=h.blk.k14;clear h;go_enter func36,ntmps36;go_wp2_with fail;go_ret;exact ⟨rfl,rfl⟩
theorem ygt (h:CyAt g t b Y tr hh tp hp):Calls prog 17 #[zp (some ⟨b,0,none⟩)] g.w (fun e w'=>e=.returned (zI z6 Y.finished)∧g.w=w'):=by
 obtain ⟨a0,a1,a2,a3,a4,a5,a6,a7,a8,a9,a10,a11,a12,a13,al⟩:=h.blk.k14;clear h;go_enter func17,ntmps17;go_wp2_with fail;go_ret;exact ⟨rfl,rfl⟩
end
theorem yi7 (g:GW) (t:Nat):Calls prog 34 #[] g.w (fun e w'=> ∃own' b,e=.returned (zp (some ⟨b,0,none⟩))∧Mod (fun _=>False) g ⟨own',w'⟩∧CyAt ⟨own',w'⟩ t b CyS.fresh none none none none):=by
 go_enter func34,ntmps34;go_wp2_with fail;go_ret;exact ⟨_,g.w.heap.size,rfl,Mod.ext (show Ext g.w (g.w.alloc (.cells ((CyS.fresh.cells none none).toArray) 113)) from zE) t,⟨Blk.new g t 113 (CyS.fresh.cells none none),(fun S hS=>by cases hS),(fun _=>rfl),(fun S hS=>by cases hS)⟩⟩
section
variable {g:GW} {t B b k:Nat} {W:CyW} {tp hp:Option Addr} {bm bs bt bp bsp bh:Nat} {cm:Cnf}
theorem yao (A:CyApart t B) (s:Int) (H:CyIn g t B b k W tp hp bm bs bt bp bsp bh cm):Calls prog 45 #[zp (some ⟨b,0,none⟩),zI z6 s] g.w (Does (.tuple #[]) g (cyT t B) (fun g'=>CyIn g' t B b k (W.ent s) tp hp bm bs bt bp bsp bh cm)):=by
 have H3:=zH (((H.set A 0 (zI z6 s) { W.y with stage:=s } rfl).set A 1 (zI z6 0) { W.y with stage:=s,at_:=0 } rfl).set A 2 (zI z6 0) (W.y.enters s) rfl);have M:=zH (show Mod (cyT t B) g ⟨g.own,((g.w.setCell ⟨b,0,none⟩ (zI z6 s)).setCell ⟨b,1,none⟩ (zI z6 0)).setCell ⟨b,2,none⟩ (zI z6 0)⟩ from Mod.st (Mod.st (Mod.st Mod.self H.modY) H.modY) H.modY);obtain ⟨a0,a1,a2,a3,a4,a5,a6,a7,a8,a9,a10,a11,a12,a13,al⟩:=H.y.blk.k14;have af0:=H.y.blk.liv 0;have af1:=H.y.blk.liv 1;have af2:=H.y.blk.liv 2;clear H;go_enter func45,ntmps45;go_wp2_with fail;exact bodyPost_end (results_none rfl _ _ _) rfl (Does.of ⟨g.own,_⟩ rfl rfl M.o H3.o)
theorem CyIn.pt (H:CyIn g t B b k W tp hp bm bs bt bp bsp bh cm) (X:Extra):CyIn (g.pt X) t B b k W tp hp bm bs bt bp bsp bh cm:=H.keep (T:=fun _=>False) (Mod.pt (Mod.refl _ _) X) zG zG
theorem ya4 (A:CyApart t B) (hd:W.Bd) (H:CyIn g t B b k W tp hp bm bs bt bp bsp bh cm):Calls prog 88 #[zp (some ⟨b,0,none⟩),zp (some ⟨k,0,none⟩)] g.w (Does (zb W.pollsB) g (cyT t B) (fun g'=>CyIn g' t B b k W.polls tp hp bm bs bt bp bsp bh cm)):=by
 have HH:=zH H;have HPL:=zH (fun X=>yjr (g.pt X) (B+63) bh W.y.i W.K.hand (H.pt X).c.hand hd.hand);obtain ⟨hi0,hi1⟩:=hd.i;obtain ⟨a0,a1,a2,a3,a4,a5,a6,a7,a8,a9,a10,a11,a12,a13,al⟩:=H.y.blk.k14;obtain ⟨c0,c1,c2,c3,c4,c5,c6,c7,c8,c9,c10,c11,c12,cl⟩:=H.c.blk.k13;clear H hd;go_enter func88,ntmps88;go_wp2_with fail;refine yab [zT,zT,zT,zT,zT,zT,zT,zT,zU] 1 8 ?_;intro X00;simp only [pickOps];repeat (go_big_quiet_step (fail))
 refine wpQuiet_nil (fun X0=>?_);clear X00;refine yaf rfl zQ (fun X2=>?_);simp only [List.drop_succ_cons,List.drop_zero];go_wp2_with fail;refine (HPL.o _).mono ?_;rintro e w1 ⟨rfl,own1,m1,h1⟩;have P1:=(Mod.pt (Mod.refl _ _) _).trans m1;have M1:=zH (P1.mono (S:=cyT t B) (fun x hx=>ybH hx));have H1:=zH (HH.o.hand A P1 h1);clear P1 m1 h1 a0 a1 a2 a3 a4 a5 a6 a7 a8 a9 a10 a11 a12 a13 al c0 c1 c2 c3 c4 c5 c6 c7 c8 c9 c10 c11 c12 cl HPL HH;have hth:=H1.o.c.same.threads;cases hp:W.K.hand.polled W.y.i
 · have HN:=zH (show W.nextI=W.y.i by unfold CyW.nextI CyW.polled;rw [hp];rfl);have HE:=zH (show W.polls={ W with K:={ W.K with hand:=W.K.hand.tick } } by unfold CyW.polls;rw [HN.o]);have HV:=zH (show W.pollsB=(W.y.i==cm.threads) by unfold CyW.pollsB;rw [HN.o,hth]);clear hp hth;obtain ⟨a0,a1,a2,a3,a4,a5,a6,a7,a8,a9,a10,a11,a12,a13,al⟩:=H1.o.y.blk.k14;obtain ⟨c0,c1,c2,c3,c4,c5,c6,c7,c8,c9,c10,c11,c12,cl⟩:=H1.o.c.blk.k13;go_wp2_with fail;refine yab [zT,zT,zT,zT,zT,zT,zT,zT,zT,zT,zT] 0 11 ?_;intro X00;simp only [pickOps];repeat (go_big_quiet_step (fail))
   refine wpQuiet_nil (fun X0=>?_);clear X00;refine yaa zQ (fun X0'=>?_) _;(try go_simp);go_wp2_with fail;go_ret;exact Does.ext ⟨own1,w1⟩ zE (by rw [HV.o];rfl) M1.o (fun g2 m=>by rw [HE.o];exact H1.o.keep m zG zG)
 · have HN:=zH (show W.nextI=W.y.i+1 by unfold CyW.nextI CyW.polled;rw [hp];rfl);have HE:=zH (show W.polls={ W with y:={ W.y with i:=W.y.i+1 },K:={ W.K with hand:=W.K.hand.tick } } by unfold CyW.polls;rw [HN.o]);have HV:=zH (show W.pollsB=(W.y.i+1==cm.threads) by unfold CyW.pollsB;rw [HN.o,hth]);have H2:=zH (H1.o.set A 2 (zI z6 (W.y.i+1)) { W.y with i:=W.y.i+1 } rfl);have M2:=zH (show Mod (cyT t B) g ⟨own1,w1.setCell ⟨b,2,none⟩ (zI z6 (W.y.i+1))⟩ from Mod.st M1.o H1.o.modY);clear hp hth;obtain ⟨a0,a1,a2,a3,a4,a5,a6,a7,a8,a9,a10,a11,a12,a13,al⟩:=H1.o.y.blk.k14;have af2:=H1.o.y.blk.liv 2;go_upto_region 3 with fail
   generalize w1.setCell ⟨b,2,none⟩ (zI z6 (W.y.i+1))=w2 at *;clear a0 a1 a2 a3 a4 a5 a6 a7 a8 a9 a10 a11 a12 a13 af2 al H1 M1;obtain ⟨a0,a1,a2,a3,a4,a5,a6,a7,a8,a9,a10,a11,a12,a13,al⟩:=H2.o.y.blk.k14;obtain ⟨c0,c1,c2,c3,c4,c5,c6,c7,c8,c9,c10,c11,c12,cl⟩:=H2.o.c.blk.k13;refine yab [zT,zT,zT,zT,zT,zT,zT,zT,zT,zT,zT] 0 11 ?_;intro X00;simp only [pickOps];repeat (go_big_quiet_step (fail))
   refine wpQuiet_nil (fun X0=>?_);clear X00;refine yaa zQ (fun X0'=>?_) _;(try go_simp);go_wp2_with fail;go_ret;exact Does.ext ⟨own1,w2⟩ zE (by rw [HV.o];rfl) M2.o (fun g2 m=>by rw [HE.o];exact H2.o.keep m zG zG)
end
end Go.Proofs.YtdhjjpnajjingaaGreat
namespace Go.Proofs.YtdhjjpnajjingaaGreat
open Go Go.RowKit
section
variable {g:GW} {t B b k:Nat} {W:CyW}
theorem CyIn.at_ {tp hp:Option Addr} {bm bs bt bp bsp bh:Nat} {cm:Cnf} (H:CyIn g t B b k W tp hp bm bs bt bp bsp bh cm):CyWAt g t B b k W:=⟨tp,hp,bm,bs,bt,bp,bsp,bh,cm,H⟩
theorem yb8 (A:CyApart t B) (hd:W.Bd) (status stage:Int) (H:CyWAt g t B b k W):Calls prog 47 #[zp (some ⟨b,0,none⟩),zp (some ⟨k,0,none⟩),zI z6 status,zI z6 stage] g.w (Does (.tuple #[]) g (cyT t B) (fun g'=>CyWAt g' t B b k (W.hands status stage))):=by
 obtain ⟨tp,hp,bm,bs,bt,bp,bsp,bh,cm,H⟩:=H;have HH:=zH H;have HD:=zH hd;by_cases h0:W.y.at_=0
 · have hz:(W.y.at_==0)=true:=beq_iff_eq.2 h0;have HV:=zH (show W.hands status stage=if W.pollsB then W.polls.atY 2 else W.polls by unfold CyW.hands;rw [if_pos h0]);obtain ⟨a0,a1,a2,a3,a4,a5,a6,a7,a8,a9,a10,a11,a12,a13,al⟩:=H.y.blk.k14;have af1:=H.y.blk.liv 1;obtain ⟨c0,c1,c2,c3,c4,c5,c6,c7,c8,c9,c10,c11,c12,cl⟩:=H.c.blk.k13;clear H hd h0;go_enter func47,ntmps47;go_wp2_with fail;refine (ya4 A HD.o HH.o).mono ?_;rintro e w1 ⟨rfl,own1,m1,h1⟩;have M1:=zH m1;have H1:=zH h1;clear a0 a1 a2 a3 a4 a5 a6 a7 a8 a9 a10 a11 a12 a13 af1 al c0 c1 c2 c3 c4 c5 c6 c7 c8 c9 c10 c11 c12 cl;clear m1 h1 hz;cases hp:W.pollsB
   · have HW:=zH (show W.hands status stage=W.polls by rw [HV.o,hp];rfl);go_wp2_with fail;exact bodyPost_end (results_none rfl _ _ _) rfl (Does.of ⟨own1,w1⟩ rfl rfl M1.o (by rw [HW.o];exact H1.o.at_))
   · have HW:=zH (show W.hands status stage=W.polls.atY 2 by rw [HV.o,hp];rfl);have H2:=zH (H1.o.set A 1 (zI z6 2) { W.polls.y with at_:=2 } rfl);obtain ⟨a0,a1,a2,a3,a4,a5,a6,a7,a8,a9,a10,a11,a12,a13,al⟩:=H1.o.y.blk.k14;have af1:=H1.o.y.blk.liv 1;go_wp2_with fail;exact bodyPost_end (results_none rfl _ _ _) rfl (Does.of ⟨own1,w1.setCell ⟨b,1,none⟩ (zI z6 2)⟩ rfl rfl (Mod.st M1.o H1.o.modY) (by rw [HW.o];exact H2.o.at_))
 · have hz:(W.y.at_==0)=false:=beq_eq_false_iff_ne.2 h0;have HV:=zH (show W.hands status stage=(W.posts status false).ent stage by unfold CyW.hands;rw [if_neg h0]);obtain ⟨a0,a1,a2,a3,a4,a5,a6,a7,a8,a9,a10,a11,a12,a13,al⟩:=H.y.blk.k14;have af1:=H.y.blk.liv 1;obtain ⟨c0,c1,c2,c3,c4,c5,c6,c7,c8,c9,c10,c11,c12,cl⟩:=H.c.blk.k13;clear H hd h0;go_enter func47,ntmps47;go_wp2_with fail;refine (ybW g (B+63) bh status false W.K.hand HH.o.c.hand HD.o.hand).mono ?_;rintro e w1 ⟨rfl,own1,m1,h1⟩;have M1:=zH (m1.mono (S:=cyT t B) (fun x hx=>ybH hx));have H1:=zH (show CyIn ⟨own1,w1⟩ t B b k (W.posts status false) tp hp bm bs bt bp bsp bh cm from HH.o.hand A m1 h1);clear a0 a1 a2 a3 a4 a5 a6 a7 a8 a9 a10 a11 a12 a13 af1 al c0 c1 c2 c3 c4 c5 c6 c7 c8 c9 c10 c11 c12 cl;clear m1 h1 hz;go_wp2_with fail;refine (yao A stage H1.o).mono ?_;rintro e w2 ⟨rfl,own2,m2,h2⟩;have M2:=zH (M1.o.trans m2);have H2:=zH h2;clear m2 h2;go_wp2_with fail;exact bodyPost_end (results_none rfl _ _ _) rfl (Does.of ⟨own2,w2⟩ rfl rfl M2.o (by rw [HV.o];exact H2.o.at_))
theorem yeC (A:CyApart t B) (hd:W.Bd) (H:CyWAt g t B b k W):Calls prog 46 #[zp (some ⟨b,0,none⟩),zp (some ⟨k,0,none⟩)] g.w (Does (.tuple #[]) g (cyT t B) (fun g'=>CyWAt g' t B b k W.starts)):=by
 obtain ⟨tp,hp,bm,bs,bt,bp,bsp,bh,cm,H⟩:=H;have HH:=zH H;have HD:=zH hd;by_cases h0:W.y.at_=0
 · have hz:(W.y.at_==0)=true:=beq_iff_eq.2 h0;have HV:=zH (show W.starts=(W.spc (beginS W.K.sp)).atY 2 by unfold CyW.starts;rw [if_pos h0]);obtain ⟨a0,a1,a2,a3,a4,a5,a6,a7,a8,a9,a10,a11,a12,a13,al⟩:=H.y.blk.k14;have af1:=H.y.blk.liv 1;obtain ⟨c0,c1,c2,c3,c4,c5,c6,c7,c8,c9,c10,c11,c12,cl⟩:=H.c.blk.k13;clear H hd h0;go_enter func46,ntmps46;go_wp2_with fail;refine (ygU g B bsp bt W.K.sp HH.o.c.sp A.hb HD.o.sp).mono ?_;rintro e w1 ⟨rfl,own1,m1,h1⟩;have M1:=zH (m1.mono (S:=cyT t B) (fun x hx=>yaT hx));have H1:=zH (HH.o.spc A m1 h1);clear a0 a1 a2 a3 a4 a5 a6 a7 a8 a9 a10 a11 a12 a13 af1 al c0 c1 c2 c3 c4 c5 c6 c7 c8 c9 c10 c11 c12 cl;clear m1 h1 hz;have H2:=zH (H1.o.set A 1 (zI z6 2) { W.y with at_:=2 } rfl);obtain ⟨a0,a1,a2,a3,a4,a5,a6,a7,a8,a9,a10,a11,a12,a13,al⟩:=H1.o.y.blk.k14;have af1:=H1.o.y.blk.liv 1;go_wp2_with fail;exact bodyPost_end (results_none rfl _ _ _) rfl (Does.of ⟨own1,w1.setCell ⟨b,1,none⟩ (zI z6 2)⟩ rfl rfl (Mod.st M1.o H1.o.modY) (by rw [HV.o];exact H2.o.at_))
 · have hz:(W.y.at_==0)=false:=beq_eq_false_iff_ne.2 h0;have HV:=zH (show W.starts=CyW.ent { W.posts 1 true with y:={ W.y with started:=W.y.started+1,sense:= !W.y.sense,steps:=0 } } 2 by unfold CyW.starts;rw [if_neg h0];rfl);obtain ⟨a0,a1,a2,a3,a4,a5,a6,a7,a8,a9,a10,a11,a12,a13,al⟩:=H.y.blk.k14;have af1:=H.y.blk.liv 1;obtain ⟨c0,c1,c2,c3,c4,c5,c6,c7,c8,c9,c10,c11,c12,cl⟩:=H.c.blk.k13;clear H hd h0;go_enter func46,ntmps46;go_wp2_with fail;refine (ybW g (B+63) bh 1 true W.K.hand HH.o.c.hand HD.o.hand).mono ?_;rintro e w1 ⟨rfl,own1,m1,h1⟩;have M1:=zH (m1.mono (S:=cyT t B) (fun x hx=>ybH hx));have H1:=zH (show CyIn ⟨own1,w1⟩ t B b k (W.posts 1 true) tp hp bm bs bt bp bsp bh cm from HH.o.hand A m1 h1);clear a0 a1 a2 a3 a4 a5 a6 a7 a8 a9 a10 a11 a12 a13 af1 al c0 c1 c2 c3 c4 c5 c6 c7 c8 c9 c10 c11 c12 cl;clear m1 h1 hz;have H2:=zH (((H1.o.set A 8 (zI z6 (W.y.started+1)) { W.y with started:=W.y.started+1 } rfl).set A 7 (zb (!W.y.sense)) { W.y with started:=W.y.started+1,sense:= !W.y.sense } rfl).set A 12 (zI z6 0) { W.y with started:=W.y.started+1,sense:= !W.y.sense,steps:=0 } rfl)
   have M2:=zH (show Mod (cyT t B) g ⟨own1,((w1.setCell ⟨b,8,none⟩ (zI z6 (W.y.started+1))).setCell ⟨b,7,none⟩ (zb (!W.y.sense))).setCell ⟨b,12,none⟩ (zI z6 0)⟩ from Mod.st (Mod.st (Mod.st M1.o H1.o.modY) H1.o.modY) H1.o.modY);obtain ⟨a0,a1,a2,a3,a4,a5,a6,a7,a8,a9,a10,a11,a12,a13,al⟩:=H1.o.y.blk.k14;have af7:=H1.o.y.blk.liv 7;have af8:=H1.o.y.blk.liv 8;have af12:=H1.o.y.blk.liv 12;obtain ⟨hs0,hs1⟩:=HD.o.started;have hw8:(W.posts 1 true).y=W.y:=rfl;rw [hw8] at a0 a1 a2 a3 a4 a7 a8 a9 a10 a11 a12 a13;go_wp2_with fail;refine (yao A 2 H2.o).mono ?_;rintro e w2 ⟨rfl,own2,m2,h2⟩;have M3:=zH (M2.o.trans m2);have H3:=zH h2;clear m2 h2;go_wp2_with fail;exact bodyPost_end (results_none rfl _ _ _) rfl (Does.of ⟨own2,w2⟩ rfl rfl M3.o (by rw [HV.o];exact H3.o.at_))
end
end Go.Proofs.YtdhjjpnajjingaaGreat
namespace Go.Proofs.YtdhjjpnajjingaaGreat
open Go Go.RowKit
section
variable {g:GW} {t B b k:Nat} {W:CyW}
theorem CyIn.drop {tp hp:Option Addr} {bm bs bt bp bsp bh:Nat} {cm:Cnf} (H:CyIn g t B b k W tp hp bm bs bt bp bsp bh cm) (A:CyApart t B):CyIn ⟨g.own,g.w.setCell ⟨b,6,none⟩ (zp none)⟩ t B b k { W with h:=none } tp none bm bs bt bp bsp bh cm:=by
 have m:Mod (fun x=>x=t) g ⟨g.own,g.w.setCell ⟨b,6,none⟩ (zp none)⟩:=Mod.set H.y.blk.own;refine ⟨⟨H.y.blk.set 6 (zp none),fun S hS=>?_,(fun _=>rfl),(fun S hS=>by cases hS)⟩,H.c.keep m (fun x (hx:x=_)=>by have:=A.apart;omega)⟩;obtain ⟨bt,cm,h1,h2,h3⟩:=H.y.tr S hS;exact ⟨bt,cm,h1,h2,h3.keep m zo zo⟩
theorem yfG (A:CyApart t B) (hd:W.Bd) (H:CyWAt g t B b k W):Calls prog 50 #[zp (some ⟨b,0,none⟩),zp (some ⟨k,0,none⟩)] g.w (Does (.tuple #[]) g (cyT t B) (fun g'=>CyWAt g' t B b k W.turns)):=by
 obtain ⟨tp,hp,bm,bs,bt,bp,bsp,bh,cm,H⟩:=H;have HH:=zH H;have HD:=zH hd;by_cases h0:W.y.at_=0
 · have HV:=zH (show W.turns=(W.spc (turnS W.K.sp)).atY 2 by unfold CyW.turns;rw [if_pos h0]);obtain ⟨a0,a1,a2,a3,a4,a5,a6,a7,a8,a9,a10,a11,a12,a13,al⟩:=H.y.blk.k14;have af1:=H.y.blk.liv 1;obtain ⟨c0,c1,c2,c3,c4,c5,c6,c7,c8,c9,c10,c11,c12,cl⟩:=H.c.blk.k13;rw [h0] at a1;clear H hd h0;go_enter func50,ntmps50;go_wp2_with fail;refine (yiz g B bsp bt W.K.sp HH.o.c.sp A.hb HD.o.sp).mono ?_;rintro e w1 ⟨rfl,own1,m1,h1⟩;have M1:=zH (m1.mono (S:=cyT t B) (fun x hx=>yaT hx));have H1:=zH (HH.o.spc A m1 h1);clear a0 a1 a2 a3 a4 a5 a6 a7 a8 a9 a10 a11 a12 a13 af1 al c0 c1 c2 c3 c4 c5 c6 c7 c8 c9 c10 c11 c12 cl;clear m1 h1;have H2:=zH (H1.o.set A 1 (zI z6 2) { W.y with at_:=2 } rfl);obtain ⟨a0,a1,a2,a3,a4,a5,a6,a7,a8,a9,a10,a11,a12,a13,al⟩:=H1.o.y.blk.k14;have af1:=H1.o.y.blk.liv 1;go_wp2_with fail;exact bodyPost_end (results_none rfl _ _ _) rfl (Does.of ⟨own1,w1.setCell ⟨b,1,none⟩ (zI z6 2)⟩ rfl rfl (Mod.st M1.o H1.o.modY) (by rw [HV.o];exact H2.o.at_))
 by_cases h2:W.y.at_=2
 · have HV:=zH (show W.turns=(W.posts 4 false).atY 1 by unfold CyW.turns;rw [if_neg h0,if_pos h2]);obtain ⟨a0,a1,a2,a3,a4,a5,a6,a7,a8,a9,a10,a11,a12,a13,al⟩:=H.y.blk.k14;have af1:=H.y.blk.liv 1;obtain ⟨c0,c1,c2,c3,c4,c5,c6,c7,c8,c9,c10,c11,c12,cl⟩:=H.c.blk.k13;rw [h2] at a1;clear H hd h0 h2;go_enter func50,ntmps50;go_wp2_with fail;refine (ybW g (B+63) bh 4 false W.K.hand HH.o.c.hand HD.o.hand).mono ?_;rintro e w1 ⟨rfl,own1,m1,h1⟩;have M1:=zH (m1.mono (S:=cyT t B) (fun x hx=>ybH hx));have H1:=zH (show CyIn ⟨own1,w1⟩ t B b k (W.posts 4 false) tp hp bm bs bt bp bsp bh cm from HH.o.hand A m1 h1);clear a0 a1 a2 a3 a4 a5 a6 a7 a8 a9 a10 a11 a12 a13 af1 al c0 c1 c2 c3 c4 c5 c6 c7 c8 c9 c10 c11 c12 cl;clear m1 h1;have H2:=zH (H1.o.set A 1 (zI z6 1) { W.y with at_:=1 } rfl);obtain ⟨a0,a1,a2,a3,a4,a5,a6,a7,a8,a9,a10,a11,a12,a13,al⟩:=H1.o.y.blk.k14;have af1:=H1.o.y.blk.liv 1;go_wp2_with fail;exact bodyPost_end (results_none rfl _ _ _) rfl (Does.of ⟨own1,w1.setCell ⟨b,1,none⟩ (zI z6 1)⟩ rfl rfl (Mod.st M1.o H1.o.modY) (by rw [HV.o];exact H2.o.at_))
 have hz0:(W.y.at_==0)=false:=beq_eq_false_iff_ne.2 h0;have hz2:(W.y.at_==2)=false:=beq_eq_false_iff_ne.2 h2;have HV:=zH (show W.turns=if W.pollsB then { W.polls.ent 7 with h:=none } else W.polls by unfold CyW.turns;rw [if_neg h0,if_neg h2]);obtain ⟨a0,a1,a2,a3,a4,a5,a6,a7,a8,a9,a10,a11,a12,a13,al⟩:=H.y.blk.k14;have af1:=H.y.blk.liv 1;obtain ⟨c0,c1,c2,c3,c4,c5,c6,c7,c8,c9,c10,c11,c12,cl⟩:=H.c.blk.k13;clear H hd h0 h2;go_enter func50,ntmps50;go_wp2_with fail;refine (ya4 A HD.o HH.o).mono ?_;rintro e w1 ⟨rfl,own1,m1,h1⟩;have M1:=zH m1;have H1:=zH h1;clear a0 a1 a2 a3 a4 a5 a6 a7 a8 a9 a10 a11 a12 a13 af1 al c0 c1 c2 c3 c4 c5 c6 c7 c8 c9 c10 c11 c12 cl;clear m1 h1 hz0 hz2;cases hp:W.pollsB
 · have HW:=zH (show W.turns=W.polls by rw [HV.o,hp];rfl);go_wp2_with fail;exact bodyPost_end (results_none rfl _ _ _) rfl (Does.of ⟨own1,w1⟩ rfl rfl M1.o (by rw [HW.o];exact H1.o.at_))
 · have HW:=zH (show W.turns={ W.polls.ent 7 with h:=none } by rw [HV.o,hp];rfl);go_wp2_with fail;refine (yao A 7 H1.o).mono ?_;rintro e w2 ⟨rfl,own2,m2,h2⟩;have M2:=zH (M1.o.trans m2);have H2:=zH h2;clear m2 h2;have H3:=zH (H2.o.drop A);obtain ⟨a0,a1,a2,a3,a4,a5,a6,a7,a8,a9,a10,a11,a12,a13,al⟩:=H2.o.y.blk.k14;have af6:=H2.o.y.blk.liv 6;go_wp2_with fail;exact bodyPost_end (results_none rfl _ _ _) rfl (Does.of ⟨own2,w2.setCell ⟨b,6,none⟩ (zp none)⟩ rfl rfl (Mod.st M2.o H2.o.modY) (by rw [HW.o];exact H3.o.at_))
theorem ydC (A:CyApart t B) (hd:W.Bd) (hk:W.y.at_≠0→W.K.sp.coil.kept≤0) (H:CyWAt g t B b k W):Calls prog 52 #[zp (some ⟨b,0,none⟩),zp (some ⟨k,0,none⟩)] g.w (Does (.tuple #[]) g (cyT t B) (fun g'=>CyWAt g' t B b k W.settles)):=by
 obtain ⟨tp,hp,bm,bs,bt,bp,bsp,bh,cm,H⟩:=H;have HH:=zH H;have HD:=zH hd;by_cases h0:W.y.at_=0
 · have hz:(W.y.at_==0)=true:=beq_iff_eq.2 h0;have HV:=zH (show W.settles=if W.pollsB then W.polls.atY 7 else W.polls by unfold CyW.settles;rw [if_pos h0]);obtain ⟨a0,a1,a2,a3,a4,a5,a6,a7,a8,a9,a10,a11,a12,a13,al⟩:=H.y.blk.k14;have af1:=H.y.blk.liv 1;obtain ⟨c0,c1,c2,c3,c4,c5,c6,c7,c8,c9,c10,c11,c12,cl⟩:=H.c.blk.k13;clear H hd h0 hk;go_enter func52,ntmps52;go_wp2_with fail;refine (ya4 A HD.o HH.o).mono ?_;rintro e w1 ⟨rfl,own1,m1,h1⟩;have M1:=zH m1;have H1:=zH h1;clear a0 a1 a2 a3 a4 a5 a6 a7 a8 a9 a10 a11 a12 a13 af1 al c0 c1 c2 c3 c4 c5 c6 c7 c8 c9 c10 c11 c12 cl;clear m1 h1 hz;cases hp:W.pollsB
   · have HW:=zH (show W.settles=W.polls by rw [HV.o,hp];rfl);go_wp2_with fail;exact bodyPost_end (results_none rfl _ _ _) rfl (Does.of ⟨own1,w1⟩ rfl rfl M1.o (by rw [HW.o];exact H1.o.at_))
   · have HW:=zH (show W.settles=W.polls.atY 7 by rw [HV.o,hp];rfl);have H2:=zH (H1.o.set A 1 (zI z6 7) { W.polls.y with at_:=7 } rfl);obtain ⟨a0,a1,a2,a3,a4,a5,a6,a7,a8,a9,a10,a11,a12,a13,al⟩:=H1.o.y.blk.k14;have af1:=H1.o.y.blk.liv 1;go_wp2_with fail;exact bodyPost_end (results_none rfl _ _ _) rfl (Does.of ⟨own1,w1.setCell ⟨b,1,none⟩ (zI z6 7)⟩ rfl rfl (Mod.st M1.o H1.o.modY) (by rw [HW.o];exact H2.o.at_))
 · have hz:(W.y.at_==0)=false:=beq_eq_false_iff_ne.2 h0;have HV:=zH (show W.settles=(W.spc (doneS W.K.sp)).ent 9 by unfold CyW.settles;rw [if_neg h0]);have HK:=zH (hk h0);obtain ⟨a0,a1,a2,a3,a4,a5,a6,a7,a8,a9,a10,a11,a12,a13,al⟩:=H.y.blk.k14;have af1:=H.y.blk.liv 1;obtain ⟨c0,c1,c2,c3,c4,c5,c6,c7,c8,c9,c10,c11,c12,cl⟩:=H.c.blk.k13;clear H hd h0 hk;go_enter func52,ntmps52;go_wp2_with fail;refine (yix g B bsp bt W.K.sp HH.o.c.sp A.hb HD.o.sp HK.o).mono ?_;rintro e w1 ⟨rfl,own1,m1,h1⟩;have M1:=zH (m1.mono (S:=cyT t B) (fun x hx=>yaT hx));have H1:=zH (HH.o.spc A m1 h1);clear a0 a1 a2 a3 a4 a5 a6 a7 a8 a9 a10 a11 a12 a13 af1 al c0 c1 c2 c3 c4 c5 c6 c7 c8 c9 c10 c11 c12 cl;clear m1 h1 hz;go_wp2_with fail;refine (yao A 9 H1.o).mono ?_;rintro e w2 ⟨rfl,own2,m2,h2⟩;have M2:=zH (M1.o.trans m2);have H2:=zH h2;clear m2 h2;go_wp2_with fail;exact bodyPost_end (results_none rfl _ _ _) rfl (Does.of ⟨own2,w2⟩ rfl rfl M2.o (by rw [HV.o];exact H2.o.at_))
theorem yeD (A:CyApart t B) (hd:W.Bd) (H:CyWAt g t B b k W):Calls prog 53 #[zp (some ⟨b,0,none⟩),zp (some ⟨k,0,none⟩)] g.w (Does (.tuple #[]) g (cyT t B) (fun g'=>CyWAt g' t B b k W.sweepsY)):=by
 obtain ⟨tp,hp,bm,bs,bt,bp,bsp,bh,cm,H⟩:=H;have HH:=zH H;have HD:=zH hd;have HS:=zH (fun X=>ygY W.y.i W.y.sense (g.pt X) B bsp bt W.K.sp (H.pt X).c.sp A.hb hd.sp);obtain ⟨hi0,hi1⟩:=hd.i;obtain ⟨hf0,hf1⟩:=hd.freed;have hfr:=H.c.same.frags;obtain ⟨a0,a1,a2,a3,a4,a5,a6,a7,a8,a9,a10,a11,a12,a13,al⟩:=H.y.blk.k14;have af1:=H.y.blk.liv 1;obtain ⟨c0,c1,c2,c3,c4,c5,c6,c7,c8,c9,c10,c11,c12,cl⟩:=H.c.blk.k13;clear H hd;go_enter func53,ntmps53;go_wp2_with fail;refine yab [zT,zT,zT,zT,zT,zT,zT,zT,zT,zT,zT,zT,zU] 1 12 ?_;intro X00;simp only [pickOps];repeat (go_big_quiet_step (fail))
 refine wpQuiet_nil (fun X0=>?_);clear X00;refine yaf rfl zQ (fun X2=>?_);simp only [List.drop_succ_cons,List.drop_zero];go_wp2_with fail;refine (HS.o _).mono ?_;rintro e w1 ⟨rfl,own1,m1,h1⟩;have P1:=(Mod.pt (Mod.refl _ _) _).trans m1;have M1:=zH (P1.mono (S:=cyT t B) (fun x hx=>yaT hx));have H1:=zH (HH.o.spc A P1 h1);have HFR:=zH hfr;clear a0 a1 a2 a3 a4 a5 a6 a7 a8 a9 a10 a11 a12 a13 af1 al c0 c1 c2 c3 c4 c5 c6 c7 c8 c9 c10 c11 c12 cl;clear P1 m1 h1 HS hfr;obtain ⟨F,hF⟩: ∃F:Int,F=(if sweeps W.K.sp W.y.i W.y.sense then W.y.freed+1 else W.y.freed):=⟨_,rfl⟩;have H2: ∃g2:GW,True:=⟨g,trivial⟩;clear H2;obtain ⟨a0,a1,a2,a3,a4,a5,a6,a7,a8,a9,a10,a11,a12,a13,al⟩:=H1.o.y.blk.k14;have af2:=H1.o.y.blk.liv 2;have af10:=H1.o.y.blk.liv 10;have hw8:(W.spc (sweepS W.K.sp W.y.i W.y.sense)).y=W.y:=rfl;rw [hw8] at a0 a1 a2 a3 a4 a7 a8 a9 a10 a11 a12 a13;cases hsw:sweeps W.K.sp W.y.i W.y.sense
 · have HV:=zH (show W.sweep1={ W.spc (sweepS W.K.sp W.y.i W.y.sense) with y:={ W.y with i:=W.y.i+1 } } by unfold CyW.sweep1 CyW.swept;rw [hsw];rfl);have H3:=zH (H1.o.set A 2 (zI z6 (W.y.i+1)) { W.y with i:=W.y.i+1 } rfl);have M3:=zH (show Mod (cyT t B) g ⟨own1,w1.setCell ⟨b,2,none⟩ (zI z6 (W.y.i+1))⟩ from Mod.st M1.o H1.o.modY);clear hsw hF;go_upto_region 3 with fail
   generalize w1.setCell ⟨b,2,none⟩ (zI z6 (W.y.i+1))=w3 at *;clear a0 a1 a2 a3 a4 a5 a6 a7 a8 a9 a10 a11 a12 a13 af2 af10 al H1 M1;obtain ⟨a0,a1,a2,a3,a4,a5,a6,a7,a8,a9,a10,a11,a12,a13,al⟩:=H3.o.y.blk.k14;obtain ⟨c0,c1,c2,c3,c4,c5,c6,c7,c8,c9,c10,c11,c12,cl⟩:=H3.o.c.blk.k13;refine yab [zT,zT,zT,zT,zT,zT,zT,zT,zT,zT] 0 10 ?_;intro X00;simp only [pickOps];repeat (go_big_quiet_step (fail))
   refine wpQuiet_nil (fun X0=>?_);clear X00;refine yaa zQ (fun X0'=>?_) _;(try go_simp);cases hlast:(W.y.i+1==cm.frags)
   · have HW:=zH (show W.sweepsY=W.sweep1 by unfold CyW.sweepsY;rw [if_neg (by rw [←HFR.o];exact beq_eq_false_iff_ne.1 hlast)]);obtain ⟨own4,m4⟩: ∃own4,Mod (fun _=>False) ⟨own1,w3⟩ ⟨own4,w3.patch ⟨X0.blocks++X0'.blocks,X0'.drawn⟩⟩:=⟨_,Mod.pt (Mod.refl _ _) _⟩;generalize w3.patch ⟨X0.blocks++X0'.blocks,X0'.drawn⟩=w4 at *;have H4:=zH (H3.o.keep m4 zG zG);have M4:=zH (M3.o.trans (m4.mono (S:=cyT t B) zG));go_wp2_with fail;exact bodyPost_end (results_none rfl _ _ _) rfl (Does.of ⟨own4,w4⟩ rfl rfl M4.o (by rw [HW.o,HV.o];exact H4.o.at_))
   · have HW:=zH (show W.sweepsY=W.sweep1.ent 10 by unfold CyW.sweepsY;rw [if_pos (by rw [←HFR.o];exact beq_iff_eq.1 hlast)]);obtain ⟨own4,m4⟩: ∃own4,Mod (fun _=>False) ⟨own1,w3⟩ ⟨own4,w3.patch ⟨X0.blocks++X0'.blocks,X0'.drawn⟩⟩:=⟨_,Mod.pt (Mod.refl _ _) _⟩;generalize w3.patch ⟨X0.blocks++X0'.blocks,X0'.drawn⟩=w4 at *;have H4:=zH (H3.o.keep m4 zG zG);have M4:=zH (M3.o.trans (m4.mono (S:=cyT t B) zG));clear a0 a1 a2 a3 a4 a5 a6 a7 a8 a9 a10 a11 a12 a13 al c0 c1 c2 c3 c4 c5 c6 c7 c8 c9 c10 c11 c12 cl m4 H3 M3;go_wp2_with fail;refine (yao A 10 H4.o).mono ?_;rintro e w5 ⟨rfl,own5,m5,h5⟩;have M5:=zH (M4.o.trans m5);have H5:=zH h5;clear m5 h5;go_wp2_with fail;exact bodyPost_end (results_none rfl _ _ _) rfl (Does.of ⟨own5,w5⟩ rfl rfl M5.o (by rw [HW.o,HV.o];exact H5.o.at_))
 · have HV:=zH (show W.sweep1={ W.spc (sweepS W.K.sp W.y.i W.y.sense) with y:={ W.y with freed:=W.y.freed+1,i:=W.y.i+1 } } by unfold CyW.sweep1 CyW.swept;rw [hsw];rfl);have H3:=zH ((H1.o.set A 10 (zI z6 (W.y.freed+1)) { W.y with freed:=W.y.freed+1 } rfl).set A 2 (zI z6 (W.y.i+1)) { W.y with freed:=W.y.freed+1,i:=W.y.i+1 } rfl);have M3:=zH (show Mod (cyT t B) g ⟨own1,(w1.setCell ⟨b,10,none⟩ (zI z6 (W.y.freed+1))).setCell ⟨b,2,none⟩ (zI z6 (W.y.i+1))⟩ from Mod.st (Mod.st M1.o H1.o.modY) H1.o.modY);clear hsw hF;go_upto_region 3 with fail
   generalize (w1.setCell ⟨b,10,none⟩ (zI z6 (W.y.freed+1))).setCell ⟨b,2,none⟩ (zI z6 (W.y.i+1))=w3 at *;clear a0 a1 a2 a3 a4 a5 a6 a7 a8 a9 a10 a11 a12 a13 af2 af10 al H1 M1;obtain ⟨a0,a1,a2,a3,a4,a5,a6,a7,a8,a9,a10,a11,a12,a13,al⟩:=H3.o.y.blk.k14;obtain ⟨c0,c1,c2,c3,c4,c5,c6,c7,c8,c9,c10,c11,c12,cl⟩:=H3.o.c.blk.k13;refine yab [zT,zT,zT,zT,zT,zT,zT,zT,zT,zT] 0 10 ?_;intro X00;simp only [pickOps];repeat (go_big_quiet_step (fail))
   refine wpQuiet_nil (fun X0=>?_);clear X00;refine yaa zQ (fun X0'=>?_) _;(try go_simp);cases hlast:(W.y.i+1==cm.frags)
   · have HW:=zH (show W.sweepsY=W.sweep1 by unfold CyW.sweepsY;rw [if_neg (by rw [←HFR.o];exact beq_eq_false_iff_ne.1 hlast)]);obtain ⟨own4,m4⟩: ∃own4,Mod (fun _=>False) ⟨own1,w3⟩ ⟨own4,w3.patch ⟨X0.blocks++X0'.blocks,X0'.drawn⟩⟩:=⟨_,Mod.pt (Mod.refl _ _) _⟩;generalize w3.patch ⟨X0.blocks++X0'.blocks,X0'.drawn⟩=w4 at *;have H4:=zH (H3.o.keep m4 zG zG);have M4:=zH (M3.o.trans (m4.mono (S:=cyT t B) zG));go_wp2_with fail;exact bodyPost_end (results_none rfl _ _ _) rfl (Does.of ⟨own4,w4⟩ rfl rfl M4.o (by rw [HW.o,HV.o];exact H4.o.at_))
   · have HW:=zH (show W.sweepsY=W.sweep1.ent 10 by unfold CyW.sweepsY;rw [if_pos (by rw [←HFR.o];exact beq_iff_eq.1 hlast)]);obtain ⟨own4,m4⟩: ∃own4,Mod (fun _=>False) ⟨own1,w3⟩ ⟨own4,w3.patch ⟨X0.blocks++X0'.blocks,X0'.drawn⟩⟩:=⟨_,Mod.pt (Mod.refl _ _) _⟩;generalize w3.patch ⟨X0.blocks++X0'.blocks,X0'.drawn⟩=w4 at *;have H4:=zH (H3.o.keep m4 zG zG);have M4:=zH (M3.o.trans (m4.mono (S:=cyT t B) zG));clear a0 a1 a2 a3 a4 a5 a6 a7 a8 a9 a10 a11 a12 a13 al c0 c1 c2 c3 c4 c5 c6 c7 c8 c9 c10 c11 c12 cl m4 H3 M3;go_wp2_with fail;refine (yao A 10 H4.o).mono ?_;rintro e w5 ⟨rfl,own5,m5,h5⟩;have M5:=zH (M4.o.trans m5);have H5:=zH h5;clear m5 h5;go_wp2_with fail;exact bodyPost_end (results_none rfl _ _ _) rfl (Does.of ⟨own5,w5⟩ rfl rfl M5.o (by rw [HW.o,HV.o];exact H5.o.at_))
theorem yeB (A:CyApart t B) (hd:W.Bd) (hl: ∀e∈W.K.sp.line,(0≤e.cycles∧e.cycles≤1099511627776)∧e.fair) (H:CyWAt g t B b k W):Calls prog 54 #[zp (some ⟨b,0,none⟩),zp (some ⟨k,0,none⟩)] g.w (Does (.tuple #[]) g (cyT t B) (fun g'=>CyWAt g' t B b k W.serves)):=by
 obtain ⟨tp,hp,bm,bs,bt,bp,bsp,bh,cm,H⟩:=H;have HH:=zH H;have HD:=zH hd;by_cases h0:W.y.at_=0
 · have hz:(W.y.at_==0)=true:=beq_iff_eq.2 h0;have HV:=zH (show W.serves=(W.spc (endS W.K.sp)).atY 7 by unfold CyW.serves;rw [if_pos h0]);have HE:=zH (ykj g B bsp bt W.K.sp H.c.sp A.hb hd.sp (fun e he=>(hl e he).1));obtain ⟨a0,a1,a2,a3,a4,a5,a6,a7,a8,a9,a10,a11,a12,a13,al⟩:=H.y.blk.k14;have af1:=H.y.blk.liv 1;obtain ⟨c0,c1,c2,c3,c4,c5,c6,c7,c8,c9,c10,c11,c12,cl⟩:=H.c.blk.k13;clear H hd h0 hl;go_enter func54,ntmps54;go_wp2_with fail;refine HE.o.mono ?_;rintro e w1 ⟨rfl,own1,m1,h1⟩;have M1:=zH (m1.mono (S:=cyT t B) (fun x hx=>yaT hx));have H1:=zH (HH.o.spc A m1 h1);clear a0 a1 a2 a3 a4 a5 a6 a7 a8 a9 a10 a11 a12 a13 af1 al c0 c1 c2 c3 c4 c5 c6 c7 c8 c9 c10 c11 c12 cl;clear m1 h1 hz;have H2:=zH (H1.o.set A 1 (zI z6 7) { W.y with at_:=7 } rfl);obtain ⟨a0,a1,a2,a3,a4,a5,a6,a7,a8,a9,a10,a11,a12,a13,al⟩:=H1.o.y.blk.k14;have af1:=H1.o.y.blk.liv 1;go_wp2_with fail;exact bodyPost_end (results_none rfl _ _ _) rfl (Does.of ⟨own1,w1.setCell ⟨b,1,none⟩ (zI z6 7)⟩ rfl rfl (Mod.st M1.o H1.o.modY) (by rw [HV.o];exact H2.o.at_))
 · have hz:(W.y.at_==0)=false:=beq_eq_false_iff_ne.2 h0;have HS:=zH (fun X=>ygX W.y.sense (g.pt X) B bsp bt W.K.sp (H.pt X).c.sp A.hb hd.sp (fun e he=>(hl e he).2));obtain ⟨hf0,hf1⟩:=hd.finished;obtain ⟨a0,a1,a2,a3,a4,a5,a6,a7,a8,a9,a10,a11,a12,a13,al⟩:=H.y.blk.k14;have af1:=H.y.blk.liv 1;obtain ⟨c0,c1,c2,c3,c4,c5,c6,c7,c8,c9,c10,c11,c12,cl⟩:=H.c.blk.k13;clear H hd hl;go_enter func54,ntmps54;go_wp2_with fail;refine yab [zT,zT,zT,zT,zT,zT,zT,zT,zU,zU] 2 8 ?_;intro X00;simp only [pickOps];repeat (go_big_quiet_step (fail))
   refine wpQuiet_nil (fun X0=>?_);clear X00;refine yaf rfl zQ (fun X2=>?_);simp only [List.drop_succ_cons,List.drop_zero];go_wp2_with fail;refine (HS.o _).mono ?_;rintro e w1 ⟨rfl,own1,m1,h1⟩;have P1:=(Mod.pt (Mod.refl _ _) _).trans m1;have M1:=zH (P1.mono (S:=cyT t B) (fun x hx=>yaT hx));have H1:=zH (HH.o.spc A P1 h1);clear a0 a1 a2 a3 a4 a5 a6 a7 a8 a9 a10 a11 a12 a13 af1 al c0 c1 c2 c3 c4 c5 c6 c7 c8 c9 c10 c11 c12 cl;clear P1 m1 h1 hz HS;cases hs:(serve W.K.sp W.y.sense).1
   · have HV:=zH (show W.serves=CyW.ent { W.spc (serve W.K.sp W.y.sense).2 with y:={ W.y with finished:=W.y.finished+1 } } 0 by unfold CyW.serves;rw [if_neg h0];simp only [hs];rfl);have H2:=zH (H1.o.set A 9 (zI z6 (W.y.finished+1)) { W.y with finished:=W.y.finished+1 } rfl);have M2:=zH (show Mod (cyT t B) g ⟨own1,w1.setCell ⟨b,9,none⟩ (zI z6 (W.y.finished+1))⟩ from Mod.st M1.o H1.o.modY);obtain ⟨a0,a1,a2,a3,a4,a5,a6,a7,a8,a9,a10,a11,a12,a13,al⟩:=H1.o.y.blk.k14;have af9:=H1.o.y.blk.liv 9;have hw8:(W.spc (serve W.K.sp W.y.sense).2).y=W.y:=rfl;rw [hw8] at a0 a1 a2 a3 a4 a7 a8 a9 a10 a11 a12 a13;clear h0;go_wp2_with fail;refine (yao A 0 H2.o).mono ?_;rintro e w2 ⟨rfl,own2,m2,h2⟩;have M3:=zH (M2.o.trans m2);have H3:=zH h2;clear m2 h2;go_wp2_with fail;exact bodyPost_end (results_none rfl _ _ _) rfl (Does.of ⟨own2,w2⟩ rfl rfl M3.o (by rw [HV.o];exact H3.o.at_))
   · have HV:=zH (show W.serves=W.spc (serve W.K.sp W.y.sense).2 by unfold CyW.serves;rw [if_neg h0];simp only [hs];rfl);clear h0;go_wp2_with fail;exact bodyPost_end (results_none rfl _ _ _) rfl (Does.of ⟨own1,w1⟩ rfl rfl M1.o (by rw [HV.o];exact H1.o.at_))
end
end Go.Proofs.YtdhjjpnajjingaaGreat
namespace Go
section
variable {P:Program} {ops:Array Oper} {Q:Exit→Act→World→Prop} {md:Region.Mode} {w0:World}
theorem ydZ {v:Value} {fuel:Nat} {listed:Array Bool} {a:Act} {w:World} (i:Nat) (o:Oper) (ho:ops[i]?=some o) (hs:Region.noSelect ops=true) (hf:Region.free md ops listed i=true) (hr:(Region.ready md ops listed).contains i=true)
 (hQ: ∀(c:List PanicEntry) (a:Act) (d:Option Tmp) (v:Value) (w:World),Q (.panic c) (a.put d v) w→Q (.panic c) a w) (hg:o.guard=none) (hv: ∀w,(execOp a.eval o).run P w=.ok (.value v) w) (h:wpAny P md ops Q fuel (listed.setIfInBounds i true) (a.put o.dst v) w):wpAny P md ops Q (fuel+1) listed a w:=
 wpAny_take ho hs hf hr (fun c a w h=>hQ c a _ _ w h) (Or.inl ⟨by simp [Region.wanted,hg],hv⟩) h
theorem ydX {fuel:Nat} {listed:Array Bool} {a:Act} {w:World} (i:Nat) (o:Oper) (hr:Region.ready md ops listed=[i]) (ho:ops[i]?=some o) (hg:o.guard=none)
 (h: ∀K:Act→World→Prop, ∀Q':Exit→Act→World→Prop,(∀a' w',wpAny P md ops Q fuel (listed.setIfInBounds i true) a' w'→K a' w')→o.wp P a w K Q'):wpAny P md ops Q (fuel+1) listed a w:=by
 refine wpAny_all hr (by simp) (fun j hj=>?_);simp only [List.mem_cons,List.not_mem_nil,or_false] at hj;subst hj;unfold wpOp;simp only [ho,Region.wanted,hg,if_true];exact .inl (h _ Q fun a2 w2 h4=>h4)
theorem yad {v:Value} {fuel:Nat} {listed:Array Bool} {a:Act} {w:World} (i:Nat) {o:Oper} (h:wpAny P md ops Q fuel (listed.setIfInBounds i true) (a.put o.dst v) w) (ho:ops[i]?=some o:=by exact rfl) (hg:o.guard=none:=by exact rfl)
 (hs:Region.noSelect ops=true:=by kernel_rfl) (hf:Region.free md ops listed i=true:=by kernel_rfl) (hr:(Region.ready md ops listed).contains i=true:=by kernel_rfl)
 (hQ: ∀(c:List PanicEntry) (a:Act) (d:Option Tmp) (v:Value) (w:World),Q (.panic c) (a.put d v) w→Q (.panic c) a w:=by (intro c a d v w h;cases d<;>exact h)) (hv: ∀w,(execOp a.eval o).run P w=.ok (.value v) w:=by (intro w;exact rfl)):wpAny P md ops Q (fuel+1) listed a w:=
 ydZ i o ho hs hf hr hQ hg hv h
theorem yag {fuel:Nat} {listed:Array Bool} {a:Act} {w:World} (i:Nat) {o:Oper}
 (h: ∀K:Act→World→Prop, ∀Q':Exit→Act→World→Prop,(∀a' w',wpAny P md ops Q fuel (listed.setIfInBounds i true) a' w'→K a' w')→o.wp P a w K Q') (ho:ops[i]?=some o:=by exact rfl) (hg:o.guard=none:=by exact rfl) (hr:Region.ready md ops listed=[i]:=by kernel_rfl):wpAny P md ops Q (fuel+1) listed a w:=
 ydX i o hr ho hg h
theorem ycu {id:Nat} {a:Act} {w:World} {l:List Oper} (E:List Nat) (m:List Bool) (L:Nat) (o:Oper) (n2:Nat) (hm:P.follows .mixedOrders=true) (hs:Region.noSelect l.toArray=true) (hE:movesOk .any l.toArray E (Array.replicate l.length false)=true) (hLast:Region.lastE .any l.toArray E L=true) (hQ: ∀(c:List PanicEntry) (a:Act) (d:Option Tmp) (v:Value) (w:World),Q (.panic c) (a.put d v) w→Q (.panic c) a w)
 (hlen:m.length≤l.length) (hn:n2+1+countB m+E.length=l.length) (hM:maskBut L m 0=true) (hB:lexMask .any l.toArray m 0 (movesList E (Array.replicate l.length false))=true)
 (hr:Region.ready .any l.toArray (markOps m 0 (movesList E (Array.replicate l.length false)))=[L]) (ho:l[L]?=some o) (hg:o.guard=none)
 (h: ∀X00:Extra,wpQuiet P l.toArray (fun w'=> ∃X:Extra,w'=w.patch ⟨X00.blocks++X.blocks,X.drawn⟩) (fun a'=> ∀X, ∀K:Act→World→Prop, ∀Q':Exit→Act→World→Prop,
  (∀a2 w2,wpAny P .any l.toArray Q n2 ((markOps m 0 (movesList E (Array.replicate l.length false))).setIfInBounds L true) a2 w2→K a2 w2)→o.wp P a' (w.patch X) K Q') (pickOps m l) (movesAct l.toArray E a)):(Code.region id l.toArray true).wp P Q a w:=by
 obtain ⟨c1,c2⟩:=ycx (md:=.any) (ops:=l.toArray) E _ (Closed.start _ (by simp)) hE;obtain ⟨X,hX⟩:=Ext.drew (Ext.refl w)
 have h2:wpCalm P l.toArray w (fun a'=> ∀X,wpAnyM P .any l.toArray Q w L (n2+1) (markOps m 0 (movesList E (Array.replicate l.length false))) a' (w.patch X)) (pickOps m l) (movesAct l.toArray E a):=by
  refine yaS (fun a' h3 X=>?_) _ _ (yav _ _ h);rintro w1 ⟨Y,rfl⟩;refine ⟨fun h0=>(by rw [hr] at h0;cases h0),fun j hj=>?_⟩;rw [hr] at hj;simp only [List.mem_singleton] at hj;subst hj;refine ⟨fun h0=>by omega,fun _=>?_⟩;obtain ⟨Z,hZ⟩:=(show Ext w ((w.patch X).patch Y) from Ext.trans ⟨X,rfl⟩ ⟨Y,rfl⟩);rw [hZ];have ho':l.toArray[j]?=some o:=by simpa using ho
  unfold wpOp;simp only [ho',Region.wanted,hg,if_true];exact .inl (h3 Z _ Q fun a2 w2 h4=>h4)
 have h5:=ybn (md:=.any) hLast hs hQ (n2+1) m l 0 _ _ c1 (fun i hi=>c2 i (Or.inr hi)) (by simp) hlen hB hM h2 X;rw [←hX] at h5;refine wp_region_any hm ?_;have h6:=yde (md:=.any) hs hQ E (n2+1+countB m) _ a _ hE (ya1 (w0:=w) (L:=L) _ _ _ _ h5);simpa [hn] using h6
theorem yat {id:Nat} {a:Act} {w:World} {l:List Oper} (E:List Nat) (m:List Bool) (L n2:Nat) {o:Oper}
 (h: ∀X00:Extra,wpQuiet P l.toArray (fun w'=> ∃X:Extra,w'=w.patch ⟨X00.blocks++X.blocks,X.drawn⟩) (fun a'=> ∀X, ∀K:Act→World→Prop, ∀Q':Exit→Act→World→Prop,
  (∀a2 w2,wpAny P .any l.toArray Q n2 ((markOps m 0 (movesList E (Array.replicate l.length false))).setIfInBounds L true) a2 w2→K a2 w2)→o.wp P a' (w.patch X) K Q') (pickOps m l) (movesAct l.toArray E a))
 (ho:l[L]?=some o:=by exact rfl) (hg:o.guard=none:=by exact rfl) (hm:P.follows .mixedOrders=true:=by kernel_rfl) (hs:Region.noSelect l.toArray=true:=by kernel_rfl) (hE:movesOk .any l.toArray E (Array.replicate l.length false)=true:=by kernel_rfl) (hLast:Region.lastE .any l.toArray E L=true:=by kernel_rfl)
 (hQ: ∀(c:List PanicEntry) (a:Act) (d:Option Tmp) (v:Value) (w:World),Q (.panic c) (a.put d v) w→Q (.panic c) a w:=by (intro c a d v w h;cases d<;>exact h))
 (hlen:m.length≤l.length:=by decide) (hn:n2+1+countB m+E.length=l.length:=by decide) (hM:maskBut L m 0=true:=by decide) (hB:lexMask .any l.toArray m 0 (movesList E (Array.replicate l.length false))=true:=by kernel_rfl)
 (hr:Region.ready .any l.toArray (markOps m 0 (movesList E (Array.replicate l.length false)))=[L]:=by kernel_rfl):(Code.region id l.toArray true).wp P Q a w:=
 ycu E m L o n2 hm hs hE hLast hQ hlen hn hM hB hr ho hg h
end
end Go
namespace Go
section
variable {P:Program} {a:Act} {w:World} {Q:Exit→Act→World→Prop}
theorem ya3 {c r0 r1:Code} (l0 l1:Nat) (h0:findLabel c l0=some r0) (h1:findLabel c l1=some r1) (first:c.wp P (Exit.via P Q [(l0,r0),(l1,r1)]) a w):(Code.scope c).wp P Q a w:=
 ybf [(l0,r0),(l1,r1)] (by
  intro p hp;simp only [List.mem_cons,List.not_mem_nil,or_false] at hp;rcases hp with rfl|rfl
  · exact h0
  · exact h1) first
end
end Go
namespace Go.Proofs.YtdhjjpnajjingaaGreat
open Go Go.RowKit
theorem yjt (g:GW) (t b bm bs bk:Nat) (S:HaulS) (T:Nat→Prop) (R:GW→Prop) (h:HaulAt g t b S) (hck:S.c.check=0) (hfr:S.frm=0∨S.frm=1) (hfin:0≤S.fin∧S.fin≤S.c.spine)
 (hL:S.pc<4→ ∀g',Mod (fun _=>False) g g'→HaulAt g' t b S→Calls prog 231 #[zp (some ⟨b,0,none⟩),zp (some ⟨bm,0,none⟩),zp (some ⟨bs,0,none⟩)] g'.w (Does (zb true) g' T R))
 (hC:4≤S.pc→ ∀g',Mod (fun _=>False) g g'→HaulAt g' t b S→Calls prog 232 #[zp (some ⟨b,0,none⟩),zp (some ⟨bm,0,none⟩),zp (some ⟨bk,0,none⟩)] g'.w (Does (zb true) g' T R)):
 Calls prog 174 #[zp (some ⟨b,0,none⟩),zp (some ⟨bm,0,none⟩),zp (some ⟨bs,0,none⟩),zp (some ⟨bk,0,none⟩)] g.w (Does (zb true) g T R):=by
 have k0:=h.blk.cell (i:=0) rfl;have k1:=h.blk.cell (i:=1) rfl;have k2:=h.blk.cell (i:=2) rfl;have k3:=h.blk.cell (i:=3) rfl;have k4:=h.blk.cell (i:=4) rfl;have k5:=h.blk.cell (i:=5) rfl;have k6:=h.blk.cell (i:=6) rfl;have k7:=h.blk.cell (i:=7) rfl;have k8:=h.blk.cell (i:=8) rfl;have c9:=h.blk.cell (i:=9) rfl;have c10:=h.blk.cell (i:=10) rfl;have c12:=h.blk.cell (i:=12) rfl;have hl:=h.blk.lt
 have HCK:=zH (fun X=>show Calls prog 60 #[S.c.val] (g.w.patch X) (Gives (zI z6 0) (g.w.patch X)) from by
  have h1:=yaw S.c (g.w.patch X) (h.cnf.ok.ext ⟨X,rfl⟩);rw [hck] at h1;exact h1)
 unfold Cnf.val at HCK;have H:=zH h;obtain ⟨hf0,hf1⟩:=hfin;have d1:decide (S.fin<0)=false:=decide_eq_false zo;have d2:decide (S.c.spine<S.fin)=false:=decide_eq_false zo;have HL:=zH hL;have HC:=zH hC;clear h hck hL hC;by_cases hpc:S.pc<4
 · have d3:decide (S.pc<4)=true:=decide_eq_true hpc;have HLL:=zH (fun Y=>HL.o hpc (g.pt Y) (Mod.pt (Mod.refl _ g) Y) (H.o.keep (Mod.pt (Mod.refl (fun _=>False) g) Y) id id));clear HL HC hpc;rcases hfr with hfr|hfr
   all_goals
    rw [hfr] at c9;clear hfr;go_enter func174,ntmps174;go_wp2_with fail;refine yab [zT,zT,zT,zT,zT,zT,zT,zT,zT,zT,zT,zT,zT,zT,zT,zT,zT,zT,zT,zT,zT,zT,zT,zT,zT,zT,zT,zT,zT,zT,zT,zT,zT,zT,zT,zT,zT,zT,zT,zT] 0 40 ?_;intro X00;simp only [pickOps];repeat (go_big_quiet_step (exact Calls.added (HCK.o _)))
    refine wpQuiet_nil (fun X0=>?_);clear X00;refine yaa zQ (fun X0'=>?_) _;obtain ⟨Y,hY⟩:=(show Ext g.w ((g.w.patch X0).patch X0') from Ext.trans ⟨X0,rfl⟩ ⟨X0',rfl⟩);rw [hY];clear hY;go_wp2_with fail;refine (HLL.o Y).mono ?_;rintro e w1 ⟨rfl,own1,m1,r1⟩;have M1:=zH m1;have R1:=zH r1;clear m1 r1;go_wp2_with fail;go_ret;exact ⟨rfl,own1,(Mod.pt (Mod.refl T g) Y).trans M1.o,R1.o⟩
 · have d3:decide (S.pc<4)=false:=decide_eq_false hpc;have HLL:=zH (fun Y=>HC.o zo (g.pt Y) (Mod.pt (Mod.refl _ g) Y) (H.o.keep (Mod.pt (Mod.refl (fun _=>False) g) Y) id id));clear HL HC hpc;rcases hfr with hfr|hfr
   all_goals
    rw [hfr] at c9;clear hfr;go_enter func174,ntmps174;go_wp2_with fail;refine yab [zT,zT,zT,zT,zT,zT,zT,zT,zT,zT,zT,zT,zT,zT,zT,zT,zT,zT,zT,zT,zT,zT,zT,zT,zT,zT,zT,zT,zT,zT,zT,zT,zT,zT,zT,zT,zT,zT,zT,zT] 0 40 ?_;intro X00;simp only [pickOps];repeat (go_big_quiet_step (exact Calls.added (HCK.o _)))
    refine wpQuiet_nil (fun X0=>?_);clear X00;refine yaa zQ (fun X0'=>?_) _;obtain ⟨Y,hY⟩:=(show Ext g.w ((g.w.patch X0).patch X0') from Ext.trans ⟨X0,rfl⟩ ⟨X0',rfl⟩);rw [hY];clear hY;go_wp2_with fail;refine (HLL.o Y).mono ?_;rintro e w1 ⟨rfl,own1,m1,r1⟩;have M1:=zH m1;have R1:=zH r1;clear m1 r1;go_wp2_with fail;go_ret;exact ⟨rfl,own1,(Mod.pt (Mod.refl T g) Y).trans M1.o,R1.o⟩
theorem yju (g:GW) (t b bm bs bk:Nat) (S S':HaulS) (T:Nat→Prop) (R:GW→Prop) (h:HaulAt g t b S) (hpc:S.pc≠11) (hs:0≤S.steps∧S.steps≤1099511627776) (hT:T t)
 (hD: ∀g',Mod (fun x=>x=t) g g'→HaulAt g' t b { S with steps:=S.steps+1 }→Calls prog 174 #[zp (some ⟨b,0,none⟩),zp (some ⟨bm,0,none⟩),zp (some ⟨bs,0,none⟩),zp (some ⟨bk,0,none⟩)] g'.w (Does (zb true) g' T (fun g''=>HaulAt g'' t b S'∧R g''))):
 Calls prog 103 #[zp (some ⟨b,0,none⟩),zp (some ⟨bm,0,none⟩),zp (some ⟨bs,0,none⟩),zp (some ⟨bk,0,none⟩)] g.w (Does (zb (S'.pc==11)) g T (fun g''=>HaulAt g'' t b S'∧R g'')):=by
 have c12:=h.blk.cell (i:=12) rfl;have c21:=h.blk.cell (i:=21) rfl;have f21:=h.blk.live 21;have hl:=h.blk.lt;have hpb:(S.pc==11)=false:=beq_eq_false_iff_ne.2 hpc;obtain ⟨hs0,hs1⟩:=hs;have e1:=IntWalk.i64_in (S.steps+1) zo;have HO:=zH h.blk.own;have M1:=zH (show Mod (fun x=>x=t) g ⟨g.own,g.w.setCell ⟨b,21,none⟩ (zI z6 (S.steps+1))⟩ from Mod.st Mod.self HO.o);have HB:=zH (hD ⟨g.own,g.w.setCell ⟨b,21,none⟩ (zI z6 (S.steps+1))⟩ M1.o (h.st 21 (zI z6 (S.steps+1)) { S with steps:=S.steps+1 } rfl rfl));have HT:=zH hT;clear h hD hT hpc;go_enter func103,ntmps103;go_wp2_with fail;refine HB.o.mono ?_;rintro e w1 ⟨rfl,own1,m1,r1,r2⟩;have M2:=zH m1;have R1:=zH r1;have R2:=zH r2;clear m1 r1 r2 c12 c21 f21 hl;have c12:=R1.o.blk.cell (i:=12) rfl;have hl:=R1.o.blk.lt;simp only at c12 hl;go_wp2_with fail;go_ret;exact ⟨rfl,own1,(M1.o.mono (fun x hx=>hx▸HT.o)).trans M2.o,R1.o,R2.o⟩
namespace CyW
def rootsV (W:CyW):CyW:=if W.y.at_=0 then { W with y:={ W.y with at_:=1,i:=0 } } else W
def rootsPoll (W:CyW):CyW:=if W.rootsV.pollsB then W.rootsV.polls.ent 5 else W.rootsV.polls
def rootsNone (W:CyW):CyW:={ W with y:={ W.y with head:=0,at_:=0,i:=W.y.i+1 },K:={ W.K with mem:=W.K.mem.tick } }
def marksEmpty (W:CyW):CyW:={ W with y:={ W.y with head:=W.K.pile.top,at_:=5,rescan:=false },K:={ W.K with pile:=W.K.pile.pop,n:=W.K.n+1 } }
def marksFound (W:CyW):CyW:=CyW.ent { W with K:={ W.K with pile:=W.K.pile.found,n:=W.K.n+1 } } 6
def hauled (W:CyW):HaulS:={ HaulS.fresh W.K.c (1-W.K.sp.coil.cur) 0 W.y.sense with pc:=11,steps:=1 }
def haulsNone (W:CyW):CyW:={ W with h:=some W.hauled,y:={ W.y with e:=0,at_:=2 } }
def haulsPost (W:CyW):CyW:=(W.posts 0 false).ent 8
end CyW
theorem yea (g:GW) (t b bm bs bk:Nat) (S:HaulS) (h:HaulAt g t b S) (hpc:S.pc=0) (hfin:S.fin=0) (hs:0≤S.steps∧S.steps≤1099511627776) (hck:S.c.check=0) (hfr:S.frm=0∨S.frm=1):
 Calls prog 103 #[zp (some ⟨b,0,none⟩),zp (some ⟨bm,0,none⟩),zp (some ⟨bs,0,none⟩),zp (some ⟨bk,0,none⟩)] g.w (Does (zb true) g (fun x=>x=t) (fun g''=>HaulAt g'' t b { S with steps:=S.steps+1,pc:=11 }∧True)):=by
 obtain ⟨⟨_,_⟩,⟨h1,_⟩, -⟩:=Cnf.ranged (Cnf.check_zero hck).1
 have:=yju g t b bm bs bk S { S with steps:=S.steps+1,pc:=11 } (fun x=>x=t) (fun _=>True) h zo hs rfl (fun g' m h'=>
  yjt g' t b bm bs bk { S with steps:=S.steps+1 } (fun x=>x=t) _ h' hck hfr ⟨by show 0≤S.fin;omega,by show S.fin≤S.c.spine;omega⟩ (fun _ g2 m2 h2=>(yh8 g2 t b bm bs { S with steps:=S.steps+1 } h2 hpc hfin).mono (fun e w' hd=>by
   obtain ⟨h3,own',h4,h5⟩:=hd;exact ⟨h3,own',h4,h5,trivial⟩)) (fun h4=>by have h5:(4:Int)≤S.pc:=h4;omega))
 exact this
section
variable {P:Program} {a:Act} {w:World} {Q:Exit→Act→World→Prop}
theorem yct {c r0 r1 r2:Code} (l0 l1 l2:Nat) (h0:findLabel c l0=some r0) (h1:findLabel c l1=some r1) (h2:findLabel c l2=some r2) (first:c.wp P (Exit.via P Q [(l0,r0),(l1,r1),(l2,r2)]) a w):(Code.scope c).wp P Q a w:=
 ybf [(l0,r0),(l1,r1),(l2,r2)] (by
  intro p hp;simp only [List.mem_cons,List.not_mem_nil,or_false] at hp;rcases hp with rfl|rfl|rfl
  · exact h0
  · exact h1
  · exact h2) first
end
section
variable {g:GW} {t B b k:Nat} {W:CyW}
theorem ye7 (A:CyApart t B) (hd:W.Bd) (h3:W.y.at_≠3) (hp:W.K.c.globals≤W.y.i∨W.y.at_=1) (H:CyWAt g t B b k W):Calls prog 48 #[zp (some ⟨b,0,none⟩),zp (some ⟨k,0,none⟩)] g.w (Does (.tuple #[]) g (cyT t B) (fun g'=>CyWAt g' t B b k W.rootsPoll)):=by
 obtain ⟨tp,hp0,bm,bs,bt,bp,bsp,bh,cm,H⟩:=H;have HH:=zH H;have HD:=zH hd;have hz3:(W.y.at_==3)=false:=beq_eq_false_iff_ne.2 h3;rw [←H.c.same.globals] at hp;obtain ⟨a0,a1,a2,a3,a4,a5,a6,a7,a8,a9,a10,a11,a12,a13,al⟩:=H.y.blk.k14;have af1:=H.y.blk.liv 1;obtain ⟨c0,c1,c2,c3,c4,c5,c6,c7,c8,c9,c10,c11,c12,cl⟩:=H.c.blk.k13;clear H hd h3;go_enter func48,ntmps48;go_wp2_with fail;refine ya3 0 1 rfl rfl ?_;go_wp2_with fail;by_cases hg:cm.globals≤W.y.i
 · have d1:decide (cm.globals≤W.y.i)=true:=decide_eq_true hg;clear hp hg;refine yab [zT,zT,zT,zT,zT,zT,zT,zT,zT,zT,zT,zT,zT,zT,zT,zT,zT] 0 17 ?_;intro X00;simp only [pickOps];repeat (go_big_quiet_step (fail))
   refine wpQuiet_nil (fun X0=>?_);clear X00;refine yaa zQ (fun X0'=>?_) _;(try go_simp);go_wp2_with fail;go_step3
   refine ydw (yaX ?_);obtain ⟨own1,m1⟩: ∃own1,Mod (fun _=>False) g ⟨own1,g.w.patch ⟨X0.blocks++X0'.blocks,X0'.drawn⟩⟩:=⟨_,Mod.pt (Mod.refl _ _) _⟩;generalize g.w.patch ⟨X0.blocks++X0'.blocks,X0'.drawn⟩=w1 at *;have H1:=zH (HH.o.keep m1 zG zG);have M1:=zH (m1.mono (S:=cyT t B) zG);clear a0 a1 a2 a3 a4 a5 a6 a7 a8 a9 a10 a11 a12 a13 af1 al c0 c1 c2 c3 c4 c5 c6 c7 c8 c9 c10 c11 c12 cl;clear m1;by_cases h0:W.y.at_=0
   · have hz:(W.y.at_==0)=true:=beq_iff_eq.2 h0;have HV:=zH (show W.rootsV={ W with y:={ W.y with at_:=1,i:=0 } } from if_pos h0);have H2:=zH (show CyIn ⟨own1,(w1.setCell ⟨b,1,none⟩ (zI z6 1)).setCell ⟨b,2,none⟩ (zI z6 0)⟩ t B b k W.rootsV tp hp0 bm bs bt bp bsp bh cm from by rw [HV.o];exact (H1.o.set A 1 (zI z6 1) { W.y with at_:=1 } rfl).set A 2 (zI z6 0) { W.y with at_:=1,i:=0 } rfl);have M2:=zH (show Mod (cyT t B) g ⟨own1,(w1.setCell ⟨b,1,none⟩ (zI z6 1)).setCell ⟨b,2,none⟩ (zI z6 0)⟩ from Mod.st (Mod.st M1.o H1.o.modY) H1.o.modY);have HDV:=zH (show W.rootsV.Bd from by rw [HV.o];exact ⟨⟨Int.le_refl _,by show (0:Int)≤1099511627776;decide⟩,HD.o.started,HD.o.finished,HD.o.freed,HD.o.moved,HD.o.steps,HD.o.hand,HD.o.sp,HD.o.mem,HD.o.n⟩);clear h0;obtain ⟨a0,a1,a2,a3,a4,a5,a6,a7,a8,a9,a10,a11,a12,a13,al⟩:=H1.o.y.blk.k14;have af1:=H1.o.y.blk.liv 1;have af2:=H1.o.y.blk.liv 2;go_wp2_with fail;refine (ya4 A HDV.o H2.o).mono ?_;rintro e w3 ⟨rfl,own3,m3,h3⟩;have M3:=zH (M2.o.trans m3);have H3:=zH h3;clear m3 h3;cases hpp:W.rootsV.pollsB
     · have HW:=zH (show W.rootsPoll=W.rootsV.polls by unfold CyW.rootsPoll;rw [hpp];rfl);go_wp2_with fail;(try rw [Exit.via_normal]);exact bodyPost_end (results_none rfl _ _ _) rfl (Does.of ⟨own3,w3⟩ rfl rfl M3.o (by rw [HW.o];exact H3.o.at_))
     · have HW:=zH (show W.rootsPoll=W.rootsV.polls.ent 5 by unfold CyW.rootsPoll;rw [hpp];rfl);go_wp2_with fail;refine (yao A 5 H3.o).mono ?_;rintro e w4 ⟨rfl,own4,m4,h4⟩;have M4:=zH (M3.o.trans m4);have H4:=zH h4;clear m4 h4;go_wp2_with fail;(try rw [Exit.via_normal]);exact bodyPost_end (results_none rfl _ _ _) rfl (Does.of ⟨own4,w4⟩ rfl rfl M4.o (by rw [HW.o];exact H4.o.at_))
   · have hz:(W.y.at_==0)=false:=beq_eq_false_iff_ne.2 h0;have HV:=zH (show W.rootsV=W from if_neg h0);have HDV:=zH (show W.rootsV.Bd from by rw [HV.o];exact HD.o);have H2:=zH (show CyIn ⟨own1,w1⟩ t B b k W.rootsV tp hp0 bm bs bt bp bsp bh cm from by rw [HV.o];exact H1.o);clear h0;obtain ⟨a0,a1,a2,a3,a4,a5,a6,a7,a8,a9,a10,a11,a12,a13,al⟩:=H1.o.y.blk.k14;have af1:=H1.o.y.blk.liv 1;have af2:=H1.o.y.blk.liv 2;go_wp2_with fail;refine (ya4 A HDV.o H2.o).mono ?_;rintro e w3 ⟨rfl,own3,m3,h3⟩;have M3:=zH (M1.o.trans m3);have H3:=zH h3;clear m3 h3;cases hpp:W.rootsV.pollsB
     · have HW:=zH (show W.rootsPoll=W.rootsV.polls by unfold CyW.rootsPoll;rw [hpp];rfl);go_wp2_with fail;(try rw [Exit.via_normal]);exact bodyPost_end (results_none rfl _ _ _) rfl (Does.of ⟨own3,w3⟩ rfl rfl M3.o (by rw [HW.o];exact H3.o.at_))
     · have HW:=zH (show W.rootsPoll=W.rootsV.polls.ent 5 by unfold CyW.rootsPoll;rw [hpp];rfl);go_wp2_with fail;refine (yao A 5 H3.o).mono ?_;rintro e w4 ⟨rfl,own4,m4,h4⟩;have M4:=zH (M3.o.trans m4);have H4:=zH h4;clear m4 h4;go_wp2_with fail;(try rw [Exit.via_normal]);exact bodyPost_end (results_none rfl _ _ _) rfl (Does.of ⟨own4,w4⟩ rfl rfl M4.o (by rw [HW.o];exact H4.o.at_))
 · have d1:decide (cm.globals≤W.y.i)=false:=decide_eq_false hg;have h1:(W.y.at_==1)=true:=beq_iff_eq.2 (hp.resolve_left hg);clear hp hg;refine yab [zT,zT,zT,zT,zT,zT,zT,zT,zT,zT,zT,zT,zT,zT,zT,zT,zT] 0 17 ?_;intro X00;simp only [pickOps];repeat (go_big_quiet_step (fail))
   refine wpQuiet_nil (fun X0=>?_);clear X00;refine yaa zQ (fun X0'=>?_) _;(try go_simp);go_wp2_with fail;go_step3
   refine ydw (yaX ?_);obtain ⟨own1,m1⟩: ∃own1,Mod (fun _=>False) g ⟨own1,g.w.patch ⟨X0.blocks++X0'.blocks,X0'.drawn⟩⟩:=⟨_,Mod.pt (Mod.refl _ _) _⟩;generalize g.w.patch ⟨X0.blocks++X0'.blocks,X0'.drawn⟩=w1 at *;have H1:=zH (HH.o.keep m1 zG zG);have M1:=zH (m1.mono (S:=cyT t B) zG);clear a0 a1 a2 a3 a4 a5 a6 a7 a8 a9 a10 a11 a12 a13 af1 al c0 c1 c2 c3 c4 c5 c6 c7 c8 c9 c10 c11 c12 cl;clear m1;by_cases h0:W.y.at_=0
   · have hz:(W.y.at_==0)=true:=beq_iff_eq.2 h0;have HV:=zH (show W.rootsV={ W with y:={ W.y with at_:=1,i:=0 } } from if_pos h0);have H2:=zH (show CyIn ⟨own1,(w1.setCell ⟨b,1,none⟩ (zI z6 1)).setCell ⟨b,2,none⟩ (zI z6 0)⟩ t B b k W.rootsV tp hp0 bm bs bt bp bsp bh cm from by rw [HV.o];exact (H1.o.set A 1 (zI z6 1) { W.y with at_:=1 } rfl).set A 2 (zI z6 0) { W.y with at_:=1,i:=0 } rfl);have M2:=zH (show Mod (cyT t B) g ⟨own1,(w1.setCell ⟨b,1,none⟩ (zI z6 1)).setCell ⟨b,2,none⟩ (zI z6 0)⟩ from Mod.st (Mod.st M1.o H1.o.modY) H1.o.modY);have HDV:=zH (show W.rootsV.Bd from by rw [HV.o];exact ⟨⟨Int.le_refl _,by show (0:Int)≤1099511627776;decide⟩,HD.o.started,HD.o.finished,HD.o.freed,HD.o.moved,HD.o.steps,HD.o.hand,HD.o.sp,HD.o.mem,HD.o.n⟩);clear h0;obtain ⟨a0,a1,a2,a3,a4,a5,a6,a7,a8,a9,a10,a11,a12,a13,al⟩:=H1.o.y.blk.k14;have af1:=H1.o.y.blk.liv 1;have af2:=H1.o.y.blk.liv 2;go_wp2_with fail;refine (ya4 A HDV.o H2.o).mono ?_;rintro e w3 ⟨rfl,own3,m3,h3⟩;have M3:=zH (M2.o.trans m3);have H3:=zH h3;clear m3 h3;cases hpp:W.rootsV.pollsB
     · have HW:=zH (show W.rootsPoll=W.rootsV.polls by unfold CyW.rootsPoll;rw [hpp];rfl);go_wp2_with fail;(try rw [Exit.via_normal]);exact bodyPost_end (results_none rfl _ _ _) rfl (Does.of ⟨own3,w3⟩ rfl rfl M3.o (by rw [HW.o];exact H3.o.at_))
     · have HW:=zH (show W.rootsPoll=W.rootsV.polls.ent 5 by unfold CyW.rootsPoll;rw [hpp];rfl);go_wp2_with fail;refine (yao A 5 H3.o).mono ?_;rintro e w4 ⟨rfl,own4,m4,h4⟩;have M4:=zH (M3.o.trans m4);have H4:=zH h4;clear m4 h4;go_wp2_with fail;(try rw [Exit.via_normal]);exact bodyPost_end (results_none rfl _ _ _) rfl (Does.of ⟨own4,w4⟩ rfl rfl M4.o (by rw [HW.o];exact H4.o.at_))
   · have hz:(W.y.at_==0)=false:=beq_eq_false_iff_ne.2 h0;have HV:=zH (show W.rootsV=W from if_neg h0);have HDV:=zH (show W.rootsV.Bd from by rw [HV.o];exact HD.o);have H2:=zH (show CyIn ⟨own1,w1⟩ t B b k W.rootsV tp hp0 bm bs bt bp bsp bh cm from by rw [HV.o];exact H1.o);clear h0;obtain ⟨a0,a1,a2,a3,a4,a5,a6,a7,a8,a9,a10,a11,a12,a13,al⟩:=H1.o.y.blk.k14;have af1:=H1.o.y.blk.liv 1;have af2:=H1.o.y.blk.liv 2;go_wp2_with fail;refine (ya4 A HDV.o H2.o).mono ?_;rintro e w3 ⟨rfl,own3,m3,h3⟩;have M3:=zH (M1.o.trans m3);have H3:=zH h3;clear m3 h3;cases hpp:W.rootsV.pollsB
     · have HW:=zH (show W.rootsPoll=W.rootsV.polls by unfold CyW.rootsPoll;rw [hpp];rfl);go_wp2_with fail;(try rw [Exit.via_normal]);exact bodyPost_end (results_none rfl _ _ _) rfl (Does.of ⟨own3,w3⟩ rfl rfl M3.o (by rw [HW.o];exact H3.o.at_))
     · have HW:=zH (show W.rootsPoll=W.rootsV.polls.ent 5 by unfold CyW.rootsPoll;rw [hpp];rfl);go_wp2_with fail;refine (yao A 5 H3.o).mono ?_;rintro e w4 ⟨rfl,own4,m4,h4⟩;have M4:=zH (M3.o.trans m4);have H4:=zH h4;clear m4 h4;go_wp2_with fail;(try rw [Exit.via_normal]);exact bodyPost_end (results_none rfl _ _ _) rfl (Does.of ⟨own4,w4⟩ rfl rfl M4.o (by rw [HW.o];exact H4.o.at_))
theorem ydN {a b c:Cnf} (h:a.Same b) (h':b.Same c):a.Same c:=⟨h.frags.trans h'.frags,h.spine.trans h'.spine,h.globals.trans h'.globals,h.threads.trans h'.threads,h.locals.trans h'.locals,h.cache.trans h'.cache,h.check.trans h'.check,h.low.trans h'.low,h.shapes.trans h'.shapes⟩
theorem CyIn.putH {tp hp:Option Addr} {bm bs bt bp bsp bh bx:Nat} {cm ch:Cnf} {S:HaulS} (H:CyIn g t B b k W tp hp bm bs bt bp bsp bh cm) (A:CyApart t B) (hS:HaulAt g (t+3) bx { S with c:=ch }) (hs:ch.Same S.c):CyIn ⟨g.own,g.w.setCell ⟨b,6,none⟩ (zp (some ⟨bx,0,none⟩))⟩ t B b k { W with h:=some S } tp (some ⟨bx,0,none⟩) bm bs bt bp bsp bh cm:=by
 have m:Mod (fun x=>x=t) g ⟨g.own,g.w.setCell ⟨b,6,none⟩ (zp (some ⟨bx,0,none⟩))⟩:=Mod.set H.y.blk.own;refine ⟨⟨H.y.blk.set 6 _,fun S hS=>?_,(fun h=>by cases h),fun S' hS'=>?_⟩,H.c.keep m (fun x (hx:x=_)=>by have:=A.apart;omega)⟩
 · obtain ⟨bt,cm,h1,h2,h3⟩:=H.y.tr S hS;exact ⟨bt,cm,h1,h2,h3.keep m zo zo⟩
 · injection hS' with hS';subst hS';exact ⟨bx,ch,rfl,hs,hS.keep m zo zo⟩
theorem CyIn.turnH {g':GW} {tp:Option Addr} {bm bs bt bp bsp bh bx:Nat} {cm ch:Cnf} {S S':HaulS} (H:CyIn g t B b k { W with h:=some S } tp (some ⟨bx,0,none⟩) bm bs bt bp bsp bh cm) (A:CyApart t B) (m:Mod (fun x=>x=t+3) g g') (hS:HaulAt g' (t+3) bx { S' with c:=ch }) (hs:ch.Same S'.c):CyIn g' t B b k { W with h:=some S' } tp (some ⟨bx,0,none⟩) bm bs bt bp bsp bh cm:=by
 refine ⟨⟨H.y.blk.keep m zo,fun S hS=>?_,(fun h=>by cases h),fun S2 hS2=>?_⟩,H.c.keep m (fun x (hx:x=_)=>by have:=A.apart;omega)⟩
 · obtain ⟨bt,cm,h1,h2,h3⟩:=H.y.tr S hS;exact ⟨bt,cm,h1,h2,h3.keep m zo zo⟩
 · injection hS2 with hS2;subst hS2;exact ⟨bx,ch,rfl,hs,hS⟩
theorem ydA {c:Cnf} (hck:c.check=0) {i:Int} (hi:0≤i∧i<c.globals):cAt c 3 i=.tuple #[zI z6 (i+cAhead c 3),zI z6 0]:=by
 unfold cAt;rw [if_pos ⟨hi.1,by unfold cSize;rw [if_pos hck];exact hi.2⟩]
theorem ye6 (A:CyApart t B) (hd:W.Bd) (h0:W.y.at_=0) (hi:0≤W.y.i∧W.y.i<W.K.c.globals) (hck:W.K.c.check=0) (hin:inB (W.y.i+cAhead W.K.c 3) W.K.mem.l.length=true) (hw:wIndex (W.K.mem.peek (W.y.i+cAhead W.K.c 3))=none) (H:CyWAt g t B b k W):Calls prog 48 #[zp (some ⟨b,0,none⟩),zp (some ⟨k,0,none⟩)] g.w (Does (.tuple #[]) g (cyT t B) (fun g'=>CyWAt g' t B b k W.rootsNone)):=by
 obtain ⟨tp,hp0,bm,bs,bt,bp,bsp,bh,cm,H⟩:=H;have HH:=zH H;have HD:=zH hd;have hckm:cm.check=0:=by rw [H.c.same.check];exact hck
 have hah:cAhead cm 3=cAhead W.K.c 3:=by
  unfold cAhead;rw [hckm,hck,H.c.same.frags,H.c.same.spine,H.c.same.globals]
 have HGL:=zH (fun (g':GW) (hc:CnfAt g' (B+65) cm)=>show Calls prog 66 #[cm.val,zI z6 W.y.i] g'.w (Gives (.tuple #[zI z6 (W.y.i+cAhead W.K.c 3),zI z6 0]) g'.w) from by
  have h1:=ybc cm W.y.i g'.w hc.ok;rw [ydA hckm (by rw [H.c.same.globals];exact hi),hah] at h1;exact h1)
 unfold Cnf.val at HGL;have d1:decide (cm.globals≤W.y.i)=false:=decide_eq_false (by rw [H.c.same.globals];omega);obtain ⟨hi0,hi1⟩:=hd.i;have HIN:=zH hin;have HW:=zH hw;obtain ⟨a0,a1,a2,a3,a4,a5,a6,a7,a8,a9,a10,a11,a12,a13,al⟩:=H.y.blk.k14;have af1:=H.y.blk.liv 1;obtain ⟨c0,c1,c2,c3,c4,c5,c6,c7,c8,c9,c10,c11,c12,cl⟩:=H.c.blk.k13;rw [h0] at a1;clear H hd h0 hi hck hckm hah hin hw;generalize W.y.i+cAhead W.K.c 3=ad at *;go_enter func48,ntmps48;go_wp2_with fail;refine ya3 0 1 rfl rfl ?_;go_wp2_with fail;refine yab [zT,zT,zT,zT,zT,zT,zT,zT,zT,zT,zT,zT,zT,zT,zT,zT,zT] 0 17 ?_;intro X00;simp only [pickOps];repeat (go_big_quiet_step (fail))
 refine wpQuiet_nil (fun X0=>?_);clear X00;refine yaa zQ (fun X0'=>?_) _;(try go_simp);obtain ⟨own1,m1⟩: ∃own1,Mod (fun _=>False) g ⟨own1,g.w.patch ⟨X0.blocks++X0'.blocks,X0'.drawn⟩⟩:=⟨_,Mod.pt (Mod.refl _ _) _⟩;generalize g.w.patch ⟨X0.blocks++X0'.blocks,X0'.drawn⟩=w1 at *;have H1:=zH (HH.o.keep m1 zG zG);have M1:=zH (m1.mono (S:=cyT t B) zG);clear a0 a1 a2 a3 a4 a5 a6 a7 a8 a9 a10 a11 a12 a13 af1 al c0 c1 c2 c3 c4 c5 c6 c7 c8 c9 c10 c11 c12 cl;clear m1;have HG2:=zH (fun X=>HGL.o (GW.pt ⟨own1,w1⟩ X) (H1.o.pt X).c.cnf);obtain ⟨a0,a1,a2,a3,a4,a5,a6,a7,a8,a9,a10,a11,a12,a13,al⟩:=H1.o.y.blk.k14;have af3:=H1.o.y.blk.liv 3;obtain ⟨c0,c1,c2,c3,c4,c5,c6,c7,c8,c9,c10,c11,c12,cl⟩:=H1.o.c.blk.k13;go_wp2_with fail;refine yat [0] [zU,zT,zT,zT,zT,zT,zT,zT,zT] 9 7 ?_;intro X00;simp only [pickOps,movesAct,moveOf,List.getElem?_toArray,List.getElem?_cons_zero,List.getElem?_cons_succ];(try go_simp);repeat (go_big_quiet_step (fail))
 refine wpQuiet_nil (fun X0 K Q' hK=>?_);clear X00;(try go_simp);refine (HG2.o _).mono ?_;rintro e w2 ⟨rfl,hE2⟩;obtain ⟨own2,m2⟩: ∃own2,Mod (fun _=>False) ⟨own1,w1⟩ ⟨own2,w2⟩:=⟨_,Mod.ext (g:=⟨own1,w1⟩) (show Ext w1 w2 from (show Ext w1 (w1.patch X0) from ⟨X0,rfl⟩).trans hE2) 0⟩;have H2:=zH (H1.o.keep m2 zG zG);have M2:=zH (M1.o.trans (m2.mono (S:=cyT t B) zG));clear m2 hE2 a0 a1 a2 a3 a4 a5 a6 a7 a8 a9 a10 a11 a12 a13 af3 al c0 c1 c2 c3 c4 c5 c6 c7 c8 c9 c10 c11 c12 cl H1 M1 HGL HG2;obtain ⟨a0,a1,a2,a3,a4,a5,a6,a7,a8,a9,a10,a11,a12,a13,al⟩:=H2.o.y.blk.k14;have af3:=H2.o.y.blk.liv 3;(try go_simp);refine hK _ _ ?_;clear hK K Q';refine yad (v:=.tuple #[zI z6 ad,zI z6 0]) 10 ?_;(try go_simp);refine yad (v:=zI z6 ad) 11 ?_;(try go_simp);refine yad (v:=zI z6 0) 12 ?_;(try go_simp);refine yad (v:=zp (some ⟨b,0,none⟩)) 13 ?_;(try go_simp);refine yad (v:=zp (some ⟨b,3,none⟩)) 14 ?_;(try go_simp);refine yag 15 (fun K Q' hK=>?_);(try go_simp);refine hK _ _ ?_;clear hK K Q';refine yad (v:=zI z6 0) 16 ?_;(try go_simp);refine wpAny_done zQ ?_ _
 have H3:=zH (H2.o.set A 3 (zI z6 ad) { W.y with head:=ad } rfl);have M3:=zH (show Mod (cyT t B) g ⟨own2,w2.setCell ⟨b,3,none⟩ (zI z6 ad)⟩ from Mod.st M2.o H2.o.modY);generalize w2.setCell ⟨b,3,none⟩ (zI z6 ad)=w3 at *;clear a0 a1 a2 a3 a4 a5 a6 a7 a8 a9 a10 a11 a12 a13 af3 al H2 M2;have HRD:=zH (fun X=>ybP (GW.pt ⟨own2,w3⟩ X) (B+62) bm ad W.K.mem (H3.o.pt X).c.mem HD.o.mem);rw [HIN.o] at HRD;obtain ⟨a0,a1,a2,a3,a4,a5,a6,a7,a8,a9,a10,a11,a12,a13,al⟩:=H3.o.y.blk.k14;obtain ⟨c0,c1,c2,c3,c4,c5,c6,c7,c8,c9,c10,c11,c12,cl⟩:=H3.o.c.blk.k13;go_wp2_with fail;refine ybv [zT,zT,zT,zT,zT,zT,zT,zT] 8 [zU,zU,zU,zU,zU,zU,zU,zU,zU,zT,zT,zT,zT,zT] ?_;intro X00;simp only [pickOps];repeat (go_big_quiet_step (fail))
 refine wpQuiet_nil ?_;intro X0 K Q' hK;clear X00;(try go_simp);refine (HRD.o _).mono ?_;rintro e w4 ⟨rfl,own4,m4,r4⟩;have P4:=(Mod.pt (Mod.refl (fun x=>x=B+62) ⟨own2,w3⟩) _).trans m4;have H4:=zH (show CyIn ⟨own4,w4⟩ t B b k { W with y:={ W.y with head:=ad },K:={ W.K with mem:=W.K.mem.tick } } tp hp0 bm bs bt bp bsp bh cm from ⟨H3.o.y.keep P4 (fun x (hx:x=_)=>by have:=A.apart;omega),H3.o.c.putMem P4 r4⟩);have M4:=zH (M3.o.trans (P4.mono (S:=cyT t B) (fun x (hx:x=B+62)=>Or.inr zo)));clear P4 m4 r4 a0 a1 a2 a3 a4 a5 a6 a7 a8 a9 a10 a11 a12 a13 al c0 c1 c2 c3 c4 c5 c6 c7 c8 c9 c10 c11 c12 cl H3 M3;(try go_simp);refine hK _ _ (fun X00=>?_);clear hK K Q';(try simp only [pickOps]);repeat (go_big_quiet_step (fail))
 refine wpQuiet_nil (fun X2=>?_);clear X00;obtain ⟨own5,m5⟩: ∃own5,Mod (fun _=>False) ⟨own4,w4⟩ ⟨own5,w4.patch X2⟩:=⟨_,Mod.pt (Mod.refl _ _) X2⟩;have H5:=zH (H4.o.keep m5 zG zG);have M5:=zH (M4.o.trans (m5.mono (S:=cyT t B) zG));generalize w4.patch X2=w5 at *;clear m5 H4 M4;have HIX:=zH (fun w'=>yaJ (W.K.mem.peek ad) w');rw [HW.o] at HIX;generalize W.K.mem.peek ad=pq at *;obtain ⟨p,q⟩:=pq;(try simp only);go_wp2_with fail;refine (HIX.o _).mono ?_;rintro e w6 ⟨rfl,hE6⟩;obtain ⟨own6,m6⟩: ∃own6,Mod (fun _=>False) ⟨own5,w5⟩ ⟨own6,w6⟩:=⟨_,Mod.ext (g:=⟨own5,w5⟩) (show Ext w5 w6 from hE6) 0⟩;have H6:=zH (H5.o.keep m6 zG zG);have M6:=zH (M5.o.trans (m6.mono (S:=cyT t B) zG));clear m6 hE6 H5 M5;unfold optV;have H7:=zH (((H6.o.set A 3 (zI z6 0) { W.y with head:=0 } rfl).set A 1 (zI z6 0) { W.y with head:=0,at_:=0 } rfl).set A 2 (zI z6 (W.y.i+1)) { W.y with head:=0,at_:=0,i:=W.y.i+1 } rfl)
 have M7:=zH (show Mod (cyT t B) g ⟨own6,((w6.setCell ⟨b,3,none⟩ (zI z6 0)).setCell ⟨b,1,none⟩ (zI z6 0)).setCell ⟨b,2,none⟩ (zI z6 (W.y.i+1))⟩ from Mod.st (Mod.st (Mod.st M6.o H6.o.modY) H6.o.modY) H6.o.modY);obtain ⟨a0,a1,a2,a3,a4,a5,a6,a7,a8,a9,a10,a11,a12,a13,al⟩:=H6.o.y.blk.k14;have af1:=H6.o.y.blk.liv 1;have af2:=H6.o.y.blk.liv 2;have af3:=H6.o.y.blk.liv 3;obtain ⟨hi0,hi1⟩:=HD.o.i;go_wp2_with fail;go_step3
 go_wp2_with fail;rw [Exit.via_ret];exact bodyPost_ret (results_none rfl _ _ _) rfl (Does.of ⟨own6,((w6.setCell ⟨b,3,none⟩ (zI z6 0)).setCell ⟨b,1,none⟩ (zI z6 0)).setCell ⟨b,2,none⟩ (zI z6 (W.y.i+1))⟩ rfl rfl M7.o H7.o.at_)
theorem yd4 (A:CyApart t B) (hd:W.Bd) (h0:W.y.at_=0) (hp:W.K.pile.some_=false) (H:CyWAt g t B b k W):Calls prog 49 #[zp (some ⟨b,0,none⟩),zp (some ⟨k,0,none⟩)] g.w (Does (.tuple #[]) g (cyT t B) (fun g'=>CyWAt g' t B b k W.marksEmpty)):=by
 obtain ⟨tp,hp0,bm,bs,bt,bp,bsp,bh,cm,H⟩:=H;have HH:=zH H;have HN:=zH (ydR g (B+60) bs bt (B+50) bp (B+61) W.K.sp.tab W.K.pile W.K.n H.c.shd hd.n zo zo zo);rw [hp] at HN;obtain ⟨a0,a1,a2,a3,a4,a5,a6,a7,a8,a9,a10,a11,a12,a13,al⟩:=H.y.blk.k14;have af1:=H.y.blk.liv 1;obtain ⟨c0,c1,c2,c3,c4,c5,c6,c7,c8,c9,c10,c11,c12,cl⟩:=H.c.blk.k13;rw [h0] at a1;clear H hd h0 hp;go_enter func49,ntmps49;go_wp2_with fail;go_step3
 go_wp2_with fail;refine HN.o.mono ?_;rintro e w1 ⟨rfl,own1,m1,h1⟩;have M1:=zH (m1.mono (S:=cyT t B) (fun x hx=>Or.inr zo));have H1:=zH (show CyIn ⟨own1,w1⟩ t B b k { W with K:={ W.K with pile:=W.K.pile.pop,n:=W.K.n+1 } } tp hp0 bm bs bt bp bsp bh cm from ⟨HH.o.y.keep m1 (fun x hx=>by have:=A.apart;omega),HH.o.c.putShd (m1.mono (fun x hx=>by omega)) h1⟩);clear a0 a1 a2 a3 a4 a5 a6 a7 a8 a9 a10 a11 a12 a13 af1 al c0 c1 c2 c3 c4 c5 c6 c7 c8 c9 c10 c11 c12 cl;clear m1 h1 HN;have H2:=zH (((H1.o.set A 3 (zI z6 W.K.pile.top) { W.y with head:=W.K.pile.top } rfl).set A 1 (zI z6 5) { W.y with head:=W.K.pile.top,at_:=5 } rfl).set A 4 (zb false) { W.y with head:=W.K.pile.top,at_:=5,rescan:=false } rfl);obtain ⟨a0,a1,a2,a3,a4,a5,a6,a7,a8,a9,a10,a11,a12,a13,al⟩:=H1.o.y.blk.k14;have af1:=H1.o.y.blk.liv 1;have af3:=H1.o.y.blk.liv 3;have af4:=H1.o.y.blk.liv 4;go_wp2_with fail;(try rw [Exit.noGoto_ret]);exact bodyPost_ret (results_none rfl _ _ _) rfl (Does.of ⟨own1,((w1.setCell ⟨b,3,none⟩ (zI z6 W.K.pile.top)).setCell ⟨b,1,none⟩ (zI z6 5)).setCell ⟨b,4,none⟩ (zb false)⟩ rfl rfl (Mod.st (Mod.st (Mod.st M1.o H1.o.modY) H1.o.modY) H1.o.modY) H2.o.at_)
theorem yd5 (A:CyApart t B) (hd:W.Bd) (h5:W.y.at_=5) (hp:W.K.pile.lost=false) (H:CyWAt g t B b k W):Calls prog 49 #[zp (some ⟨b,0,none⟩),zp (some ⟨k,0,none⟩)] g.w (Does (.tuple #[]) g (cyT t B) (fun g'=>CyWAt g' t B b k W.marksFound)):=by
 obtain ⟨tp,hp0,bm,bs,bt,bp,bsp,bh,cm,H⟩:=H;have HH:=zH H;have HN:=zH (yiu g (B+60) bs bt (B+50) bp (B+61) W.K.sp.tab W.K.pile W.K.n H.c.shd hd.n zo zo zo);rw [hp] at HN;obtain ⟨a0,a1,a2,a3,a4,a5,a6,a7,a8,a9,a10,a11,a12,a13,al⟩:=H.y.blk.k14;have af1:=H.y.blk.liv 1;obtain ⟨c0,c1,c2,c3,c4,c5,c6,c7,c8,c9,c10,c11,c12,cl⟩:=H.c.blk.k13;rw [h5] at a1;clear H hd h5 hp;go_enter func49,ntmps49;go_wp2_with fail;refine yct 0 1 2 rfl rfl rfl ?_;go_wp2_with fail;go_step3
 refine ydw (yaX ?_);go_wp2_with fail;refine HN.o.mono ?_;rintro e w1 ⟨rfl,own1,m1,h1⟩;have M1:=zH (m1.mono (S:=cyT t B) (fun x hx=>Or.inr zo));have H1:=zH (show CyIn ⟨own1,w1⟩ t B b k { W with K:={ W.K with pile:=W.K.pile.found,n:=W.K.n+1 } } tp hp0 bm bs bt bp bsp bh cm from ⟨HH.o.y.keep m1 (fun x hx=>by have:=A.apart;omega),HH.o.c.putShd (m1.mono (fun x hx=>by omega)) h1⟩);clear a0 a1 a2 a3 a4 a5 a6 a7 a8 a9 a10 a11 a12 a13 af1 al c0 c1 c2 c3 c4 c5 c6 c7 c8 c9 c10 c11 c12 cl;clear m1 h1 HN;go_wp2_with fail;refine (yao A 6 H1.o).mono ?_;rintro e w2 ⟨rfl,own2,m2,h2⟩;have M2:=zH (M1.o.trans m2);have H2:=zH h2;clear m2 h2;go_wp2_with fail;rw [Exit.via_ret];exact bodyPost_ret (results_none rfl _ _ _) rfl (Does.of ⟨own2,w2⟩ rfl rfl M2.o H2.o.at_)
theorem ycq (A:CyApart t B) (hd:W.Bd) (h0:W.y.at_=0) (hh:W.h=none) (hck:W.K.c.check=0) (hu:W.K.sp.coil.used (1-W.K.sp.coil.cur)=0) (H:CyWAt g t B b k W):Calls prog 51 #[zp (some ⟨b,0,none⟩),zp (some ⟨k,0,none⟩)] g.w (Does (.tuple #[]) g (cyT t B) (fun g'=>CyWAt g' t B b k W.haulsNone)):=by
 obtain ⟨tp,hp,bm,bs,bt,bp,bsp,bh,cm,H⟩:=H;obtain rfl:=H.y.hn hh;have HH:=zH H;have HD:=zH hd;have hckm:cm.check=0:=by rw [H.c.same.check];exact hck
 have hcmx:cm.shapes.length≤1000000:=by
  have h9:=(Cnf.check_zero hckm).2.2.1;unfold within at h9;simp only [decide_eq_true_eq] at h9;omega
 obtain ⟨bpp,bk,bl,A1,cs,cms,bss,hsp⟩:=H.c.sp;have HSP:=zH hsp;have hcur:W.K.sp.coil.cur<2:=hsp.coil.ok.cur;obtain ⟨lf,hlf⟩: ∃lf:Nat,(1:Int)-W.K.sp.coil.cur=lf∧lf<2∧1-W.K.sp.coil.cur=lf:=⟨1-W.K.sp.coil.cur,zo,zo,rfl⟩;obtain ⟨hl1,hl2,hl3⟩:=hlf;rw [hl3] at hu;have HLF:=zH hl1;have HSC:=zH (fun w'=>ylK w' cms bpp bk bl);have HCC:=zH (fun X=>ycA (g.pt X) (B+2) bk W.K.sp.coil (hsp.coil.pt X))
 have HCU:=zH (fun X=>(yeA (g.pt X) (B+2) bk lf W.K.sp.coil (hsp.coil.pt X) hl2).mono (show∀e w',_→Gives (zI z6 0) (g.pt X).w e w' from fun e w' h=>by
  obtain ⟨rfl,rfl⟩:=h;rw [hu];exact Gives.mk rfl (Ext.refl _)))
 have HU:=zH hu;have HMX:=zH hcmx;have HCKM:=zH hckm;obtain ⟨a0,a1,a2,a3,a4,a5,a6,a7,a8,a9,a10,a11,a12,a13,al⟩:=H.y.blk.k14;have af1:=H.y.blk.liv 1;obtain ⟨c0,c1,c2,c3,c4,c5,c6,c7,c8,c9,c10,c11,c12,cl⟩:=H.c.blk.k13;rw [h0] at a1;obtain ⟨s0,s1,s2,s3,s4,s5,s6,s7,s8,s9,s10,s11,s12,s13,s14,s15,sl⟩:=hsp.blk.k16;clear H hd h0 hck hh hsp hu hcmx hckm;unfold shelves at HSC;go_enter func51,ntmps51;go_wp2_with fail;refine (HSC.o _).mono ?_;rintro e w1 ⟨rfl,X1,rfl⟩;go_wp2_with fail;refine (HCC.o X1).mono ?_;rintro e w1 ⟨rfl,rfl⟩;simp only [GW.pt,GW.to];go_wp2_with fail;clear hl1 hl3;obtain ⟨own1,m1⟩: ∃own1,Mod (fun _=>False) g ⟨own1,g.w.patch X1⟩:=⟨_,Mod.pt (Mod.refl _ _) X1⟩;have HSP1:=zH (HSP.o.keep m1 zG);have H1:=zH (HH.o.keep m1 zG zG);have M1:=zH (m1.mono (S:=cyT t B) zG);generalize g.w.patch X1=w1 at *;clear m1 HCC HCU HSP;clear a0 a1 a2 a3 a4 a5 a6 a7 a8 a9 a10 a11 a12 a13 af1 al c0 c1 c2 c3 c4 c5 c6 c7 c8 c9 c10 c11 c12 cl;clear s0 s1 s2 s3 s4 s5 s6 s7 s8 s9 s10 s11 s12 s13 s14 s15 sl
 have HCU1:=zH (fun X=>(yeA (GW.pt ⟨own1,w1⟩ X) (B+2) bk lf W.K.sp.coil (HSP1.o.coil.pt X) hl2).mono (show∀e w',_→Gives (zI z6 0) (GW.pt ⟨own1,w1⟩ X).w e w' from fun e w' h=>by
  obtain ⟨rfl,rfl⟩:=h;rw [HU.o];exact Gives.mk rfl (Ext.refl _)))
 have HNW:=zH (fun X=>ykV cm lf 0 W.y.sense (t+3) (GW.pt ⟨own1,w1⟩ X) (H1.o.pt X).c.cnf.ok HMX.o);unfold Cnf.val at HNW;obtain ⟨a0,a1,a2,a3,a4,a5,a6,a7,a8,a9,a10,a11,a12,a13,al⟩:=H1.o.y.blk.k14;have af6:=H1.o.y.blk.liv 6;obtain ⟨c0,c1,c2,c3,c4,c5,c6,c7,c8,c9,c10,c11,c12,cl⟩:=H1.o.c.blk.k13;obtain ⟨s0,s1,s2,s3,s4,s5,s6,s7,s8,s9,s10,s11,s12,s13,s14,s15,sl⟩:=HSP1.o.blk.k16;refine yat [0] [zU,zT,zT,zT,zT,zT,zT,zT,zT,zT,zT,zT,zT,zT,zT,zT,zT,zT,zT,zT] 20 3 ?_;intro X00;simp only [pickOps,movesAct,moveOf,List.getElem?_toArray,List.getElem?_cons_zero,List.getElem?_cons_succ];(try go_simp);repeat (go_big_quiet_step (first|(go_at_call 99;exact Calls.added (HSC.o _))|(go_at_call 102;exact Calls.added (HCU1.o _))))
 refine wpQuiet_nil (fun X0 K Q' hK=>?_);clear X00;(try go_simp);refine (HNW.o _).mono ?_;rintro e w2 ⟨own2,bh2,cmh,rfl,m2,ha2,hsm2⟩;have P2:=(Mod.pt (Mod.refl (fun _=>False) ⟨own1,w1⟩) _).trans m2;have H2:=zH (H1.o.keep P2 zG zG);have HSP2:=zH (HSP1.o.keep P2 zG);have M2:=zH (M1.o.trans (P2.mono (S:=cyT t B) zG));have HA2:=zH ha2;have HSM:=zH hsm2;clear P2 m2 ha2 hsm2 a0 a1 a2 a3 a4 a5 a6 a7 a8 a9 a10 a11 a12 a13 af6 al c0 c1 c2 c3 c4 c5 c6 c7 c8 c9 c10 c11 c12 cl s0 s1 s2 s3 s4 s5 s6 s7 s8 s9 s10 s11 s12 s13 s14 s15 sl H1 HSP1 M1 HCU1 HNW;obtain ⟨a0,a1,a2,a3,a4,a5,a6,a7,a8,a9,a10,a11,a12,a13,al⟩:=H2.o.y.blk.k14;have af6:=H2.o.y.blk.liv 6;(try go_simp);refine hK _ _ ?_;clear hK K Q';refine yad (v:=zp (some ⟨b,0,none⟩)) 21 ?_;(try go_simp);refine yad (v:=zp (some ⟨b,6,none⟩)) 22 ?_;(try go_simp);refine yag 23 (fun K Q' hK=>?_);(try go_simp);refine hK _ _ ?_;clear hK K Q';refine wpAny_done zQ ?_ _;have HSX:=zH (ydN HSM.o H2.o.c.same)
 have H3:=zH (show CyIn ⟨own2,w2.setCell ⟨b,6,none⟩ (zp (some ⟨bh2,0,none⟩))⟩ t B b k { W with h:=some (HaulS.fresh W.K.c lf 0 W.y.sense) } tp (some ⟨bh2,0,none⟩) bm bs bt bp bsp bh cm from H2.o.putH A HA2.o HSX.o);have HA3:=zH (HA2.o.keep (Mod.set (T:=fun x=>x=t) (g:=⟨own2,w2⟩) (b:=b) (i:=6) (v:=zp (some ⟨bh2,0,none⟩)) H2.o.y.blk.own) zo zo);have HSP3:=zH (HSP2.o.keep (Mod.set (T:=fun x=>x=t) (g:=⟨own2,w2⟩) (b:=b) (i:=6) (v:=zp (some ⟨bh2,0,none⟩)) H2.o.y.blk.own) (fun x (hx:x=_)=>by have:=A.apart;omega));have M3:=zH (show Mod (cyT t B) g ⟨own2,w2.setCell ⟨b,6,none⟩ (zp (some ⟨bh2,0,none⟩))⟩ from Mod.st M2.o H2.o.modY);generalize w2.setCell ⟨b,6,none⟩ (zp (some ⟨bh2,0,none⟩))=w3 at *;clear a0 a1 a2 a3 a4 a5 a6 a7 a8 a9 a10 a11 a12 a13 af6 al H2 HSP2 M2 HA2;have HCKH:=zH (show cmh.check=0 from by rw [HSM.o.check];exact HCKM.o);have HST:=zH (fun X=>yea (GW.pt ⟨own2,w3⟩ X) (t+3) bh2 bm bs bk (HaulS.fresh cmh lf 0 W.y.sense) (HA3.o.keep (Mod.pt (Mod.refl (fun _=>False) _) X) id id) rfl rfl ⟨Int.le_refl _,by show (0:Int)≤1099511627776;decide⟩ HCKH.o (by show (lf:Int)=0∨(lf:Int)=1;omega))
 obtain ⟨a0,a1,a2,a3,a4,a5,a6,a7,a8,a9,a10,a11,a12,a13,al⟩:=H3.o.y.blk.k14;obtain ⟨c0,c1,c2,c3,c4,c5,c6,c7,c8,c9,c10,c11,c12,cl⟩:=H3.o.c.blk.k13;obtain ⟨s0,s1,s2,s3,s4,s5,s6,s7,s8,s9,s10,s11,s12,s13,s14,s15,sl⟩:=HSP3.o.blk.k16;go_wp2_with fail;refine yab [zT,zT,zT,zT,zT,zT,zT,zT,zT,zT,zT,zT,zT,zT,zT,zT,zT,zT,zT,zT,zU] 1 20 ?_;intro X00;simp only [pickOps];repeat (go_big_quiet_step ((go_at_call 99;exact Calls.added (HSC.o _))))
 refine wpQuiet_nil (fun X0=>?_);clear X00;refine yaf rfl zQ (fun X2=>?_);simp only [List.drop_succ_cons,List.drop_zero];go_wp2_with fail;refine (HST.o _).mono ?_;rintro e w4 ⟨rfl,own4,m4,h4, -⟩;have P4:=(Mod.pt (Mod.refl (fun x=>x=t+3) ⟨own2,w3⟩) _).trans m4;have H4:=zH (show CyIn ⟨own4,w4⟩ t B b k { W with h:=some { HaulS.fresh W.K.c lf 0 W.y.sense with steps:=0+1,pc:=11 } } tp (some ⟨bh2,0,none⟩) bm bs bt bp bsp bh cm from H3.o.turnH A P4 h4 HSX.o);have HA4:=zH h4;have M4:=zH (M3.o.trans (P4.mono (S:=cyT t B) (fun x (hx:x=t+3)=>Or.inl zo)));clear P4 m4 h4 a0 a1 a2 a3 a4 a5 a6 a7 a8 a9 a10 a11 a12 a13 al c0 c1 c2 c3 c4 c5 c6 c7 c8 c9 c10 c11 c12 cl s0 s1 s2 s3 s4 s5 s6 s7 s8 s9 s10 s11 s12 s13 s14 s15 sl H3 HSP3 M3 HA3 HST HSC;have H5:=zH (H4.o.set A 13 (zI z6 0) { W.y with e:=0 } rfl);have HA5:=zH (HA4.o.keep (Mod.set (T:=fun x=>x=t) (g:=⟨own4,w4⟩) (b:=b) (i:=13) (v:=zI z6 0) H4.o.y.blk.own) zo zo);have M5:=zH (show Mod (cyT t B) g ⟨own4,w4.setCell ⟨b,13,none⟩ (zI z6 0)⟩ from Mod.st M4.o H4.o.modY);obtain ⟨a0,a1,a2,a3,a4,a5,a6,a7,a8,a9,a10,a11,a12,a13,al⟩:=H4.o.y.blk.k14;have af13:=H4.o.y.blk.liv 13;go_wp2_with fail
 refine (yhX ⟨own4,w4⟩ (t+3) bh2 _ HA4.o).mono ?_;rintro e w4' ⟨rfl,rfl⟩;(try simp only [HaulS.fresh]);go_upto_region 8 with fail
 generalize w4.setCell ⟨b,13,none⟩ (zI z6 0)=w5 at *;clear a0 a1 a2 a3 a4 a5 a6 a7 a8 a9 a10 a11 a12 a13 af13 al H4 M4 HA4
 have HMV:=zH (fun X=>(yhY (GW.pt ⟨own4,w5⟩ X) (t+3) bh2 _ (HA5.o.keep (Mod.pt (Mod.refl (fun _=>False) _) X) id id)).mono (show∀e w',_→Gives (zI z6 0) (GW.pt ⟨own4,w5⟩ X).w e w' from fun e w' h=>by
  obtain ⟨rfl,rfl⟩:=h;exact Gives.mk rfl (Ext.refl _)))
 obtain ⟨hm0,hm1⟩:=HD.o.moved;have e0:IntKind.i64.wrap (W.y.moved+0)=W.y.moved:=by rw [IntWalk.i64_in _ zo];omega
 obtain ⟨a0,a1,a2,a3,a4,a5,a6,a7,a8,a9,a10,a11,a12,a13,al⟩:=H5.o.y.blk.k14;have af11:=H5.o.y.blk.liv 11;refine yab [zT,zT,zT,zT,zT,zT,zT,zT,zT,zT,zT,zT,zU] 1 12 ?_;intro X00;simp only [pickOps];repeat (go_big_quiet_step ((go_at_call 105;exact Calls.added (HMV.o _))))
 refine wpQuiet_nil (fun X0=>?_);clear X00;refine yaj 12 _ zQ zQ rfl rfl (fun X1 K Q' hK=>?_);go_simp;refine hK _ _ (fun X2=>?_);clear hK K Q';(try go_simp);obtain ⟨own6,m6⟩: ∃own6,Mod (fun _=>False) ⟨own4,w5.setCell ⟨b,11,none⟩ (zI z6 W.y.moved)⟩ ⟨own6,(w5.setCell ⟨b,11,none⟩ (zI z6 W.y.moved)).patch ⟨X0.blocks++(X1.blocks++X2.blocks),X2.drawn⟩⟩:=⟨_,Mod.pt (Mod.refl _ _) _⟩;generalize (w5.setCell ⟨b,11,none⟩ (zI z6 W.y.moved)).patch ⟨X0.blocks++(X1.blocks++X2.blocks),X2.drawn⟩=w6 at *;have H6:=zH ((H5.o.set A 11 (zI z6 W.y.moved) { W.y with e:=0 } rfl).keep m6 zG zG);have M6:=zH ((Mod.st (i:=11) (v:=zI z6 W.y.moved) M5.o H5.o.modY).trans (m6.mono (S:=cyT t B) zG));clear m6 a0 a1 a2 a3 a4 a5 a6 a7 a8 a9 a10 a11 a12 a13 af11 al H5 M5 HA5 HMV e0;have H7:=zH (H6.o.set A 1 (zI z6 2) { W.y with e:=0,at_:=2 } rfl);obtain ⟨a0,a1,a2,a3,a4,a5,a6,a7,a8,a9,a10,a11,a12,a13,al⟩:=H6.o.y.blk.k14;have af1:=H6.o.y.blk.liv 1;go_wp2_with fail
 have HF:=zH (show W.haulsNone={ W with h:=some { HaulS.fresh W.K.c lf 0 W.y.sense with steps:=0+1,pc:=11 },y:={ W.y with e:=0,at_:=2 } } from by unfold CyW.haulsNone CyW.hauled;rw [HLF.o];rfl);exact bodyPost_end (results_none rfl _ _ _) rfl (Does.of ⟨own6,w6.setCell ⟨b,1,none⟩ (zI z6 2)⟩ rfl rfl (Mod.st M6.o H6.o.modY) (by rw [HF.o];exact H7.o.at_))
theorem ycr (A:CyApart t B) (hd:W.Bd) (h2:W.y.at_=2) (H:CyWAt g t B b k W):Calls prog 51 #[zp (some ⟨b,0,none⟩),zp (some ⟨k,0,none⟩)] g.w (Does (.tuple #[]) g (cyT t B) (fun g'=>CyWAt g' t B b k W.haulsPost)):=by
 obtain ⟨tp,hp,bm,bs,bt,bp,bsp,bh,cm,H⟩:=H;have HH:=zH H;have HD:=zH hd;obtain ⟨a0,a1,a2,a3,a4,a5,a6,a7,a8,a9,a10,a11,a12,a13,al⟩:=H.y.blk.k14;have af1:=H.y.blk.liv 1;obtain ⟨c0,c1,c2,c3,c4,c5,c6,c7,c8,c9,c10,c11,c12,cl⟩:=H.c.blk.k13;rw [h2] at a1;clear H hd h2;go_enter func51,ntmps51;go_wp2_with fail;refine (ybW g (B+63) bh 0 false W.K.hand HH.o.c.hand HD.o.hand).mono ?_;rintro e w1 ⟨rfl,own1,m1,h1⟩;have M1:=zH (m1.mono (S:=cyT t B) (fun x hx=>ybH hx));have H1:=zH (show CyIn ⟨own1,w1⟩ t B b k (W.posts 0 false) tp hp bm bs bt bp bsp bh cm from HH.o.hand A m1 h1);clear a0 a1 a2 a3 a4 a5 a6 a7 a8 a9 a10 a11 a12 a13 af1 al c0 c1 c2 c3 c4 c5 c6 c7 c8 c9 c10 c11 c12 cl;clear m1 h1;go_wp2_with fail;refine (yao A 8 H1.o).mono ?_;rintro e w2 ⟨rfl,own2,m2,h2⟩;have M2:=zH (M1.o.trans m2);have H2:=zH h2;clear m2 h2;go_wp2_with fail;exact bodyPost_end (results_none rfl _ _ _) rfl (Does.of ⟨own2,w2⟩ rfl rfl M2.o H2.o.at_)
end
end Go.Proofs.YtdhjjpnajjingaaGreat
namespace Go.Proofs.YtdhjjpnajjingaaGreat
open Go Go.RowKit
namespace CyW
def tick1 (W:CyW):CyW:=if 0<W.y.started then { W with y:={ W.y with steps:=W.y.steps+1 } } else W
theorem tick1_K (W:CyW):W.tick1.K=W.K:=by unfold tick1;split<;>rfl
theorem tick1_h (W:CyW):W.tick1.h=W.h:=by unfold tick1;split<;>rfl
theorem tick1_at (W:CyW):W.tick1.y.at_=W.y.at_:=by unfold tick1;split<;>rfl
theorem tick1_i (W:CyW):W.tick1.y.i=W.y.i:=by unfold tick1;split<;>rfl
end CyW
section
variable {g:GW} {t B b k:Nat} {W:CyW}
theorem yd8 (A:CyApart t B) (hd:W.Bd) (hd1:W.tick1.Bd) (he:W.y.e=0) (hst:W.y.stage=1) (H:CyWAt g t B b k W):Calls prog 19 #[zp (some ⟨b,0,none⟩),zp (some ⟨k,0,none⟩)] g.w (Does (.tuple #[]) g (cyT t B) (fun g'=>CyWAt g' t B b k W.tick1.starts)):=by
 obtain ⟨tp,hp,bm,bs,bt,bp,bsp,bh,cm,H⟩:=H;have HH:=zH H;have HD1:=zH hd1;obtain ⟨a0,a1,a2,a3,a4,a5,a6,a7,a8,a9,a10,a11,a12,a13,al⟩:=H.y.blk.k14;have af12:=H.y.blk.liv 12;obtain ⟨c0,c1,c2,c3,c4,c5,c6,c7,c8,c9,c10,c11,c12,cl⟩:=H.c.blk.k13;rw [hst] at a0;rw [he] at a13;obtain ⟨hs0,hs1⟩:=hd.steps;clear H hd hd1 hst he;by_cases hs:0<W.y.started
 · have d1:decide (0<W.y.started)=true:=decide_eq_true hs;have HT:=zH (show W.tick1={ W with y:={ W.y with steps:=W.y.steps+1 } } from if_pos hs);have H1:=zH (show CyWAt ⟨g.own,g.w.setCell ⟨b,12,none⟩ (zI z6 (W.y.steps+1))⟩ t B b k W.tick1 from by rw [HT.o];exact (HH.o.set A 12 (zI z6 (W.y.steps+1)) { W.y with steps:=W.y.steps+1 } rfl).at_);have M1:=zH (show Mod (cyT t B) g ⟨g.own,g.w.setCell ⟨b,12,none⟩ (zI z6 (W.y.steps+1))⟩ from Mod.st Mod.self HH.o.modY);clear hs;go_enter func19,ntmps19;go_wp2_with fail;refine (yeC A HD1.o H1.o).mono ?_;rintro e w2 ⟨rfl,own2,m2,h2⟩;have M2:=zH (M1.o.trans m2);have H2:=zH h2;clear m2 h2;go_wp2_with fail;exact bodyPost_end (results_none rfl _ _ _) rfl (Does.of ⟨own2,w2⟩ rfl rfl M2.o H2.o)
 · have d1:decide (0<W.y.started)=false:=decide_eq_false hs;have HT:=zH (show W.tick1=W from if_neg hs);have H1:=zH (show CyWAt ⟨g.own,g.w⟩ t B b k W.tick1 from by rw [HT.o];exact HH.o.at_);clear hs;go_enter func19,ntmps19;go_wp2_with fail;refine (yeC A HD1.o H1.o).mono ?_;rintro e w2 ⟨rfl,own2,m2,h2⟩;have M2:=zH m2;have H2:=zH h2;clear m2 h2;go_wp2_with fail;exact bodyPost_end (results_none rfl _ _ _) rfl (Does.of ⟨own2,w2⟩ rfl rfl M2.o H2.o)
theorem ye9 (A:CyApart t B) (hd:W.Bd) (hd1:W.tick1.Bd) (he:W.y.e=0) (hst:W.y.stage=2) (H:CyWAt g t B b k W):Calls prog 19 #[zp (some ⟨b,0,none⟩),zp (some ⟨k,0,none⟩)] g.w (Does (.tuple #[]) g (cyT t B) (fun g'=>CyWAt g' t B b k (W.tick1.hands 2 3))):=by
 obtain ⟨tp,hp,bm,bs,bt,bp,bsp,bh,cm,H⟩:=H;have HH:=zH H;have HD1:=zH hd1;obtain ⟨a0,a1,a2,a3,a4,a5,a6,a7,a8,a9,a10,a11,a12,a13,al⟩:=H.y.blk.k14;have af12:=H.y.blk.liv 12;obtain ⟨c0,c1,c2,c3,c4,c5,c6,c7,c8,c9,c10,c11,c12,cl⟩:=H.c.blk.k13;rw [hst] at a0;rw [he] at a13;obtain ⟨hs0,hs1⟩:=hd.steps;clear H hd hd1 hst he;by_cases hs:0<W.y.started
 · have d1:decide (0<W.y.started)=true:=decide_eq_true hs;have HT:=zH (show W.tick1={ W with y:={ W.y with steps:=W.y.steps+1 } } from if_pos hs);have H1:=zH (show CyWAt ⟨g.own,g.w.setCell ⟨b,12,none⟩ (zI z6 (W.y.steps+1))⟩ t B b k W.tick1 from by rw [HT.o];exact (HH.o.set A 12 (zI z6 (W.y.steps+1)) { W.y with steps:=W.y.steps+1 } rfl).at_);have M1:=zH (show Mod (cyT t B) g ⟨g.own,g.w.setCell ⟨b,12,none⟩ (zI z6 (W.y.steps+1))⟩ from Mod.st Mod.self HH.o.modY);clear hs;go_enter func19,ntmps19;go_wp2_with fail;refine (yb8 A HD1.o 2 3 H1.o).mono ?_;rintro e w2 ⟨rfl,own2,m2,h2⟩;have M2:=zH (M1.o.trans m2);have H2:=zH h2;clear m2 h2;go_wp2_with fail;exact bodyPost_end (results_none rfl _ _ _) rfl (Does.of ⟨own2,w2⟩ rfl rfl M2.o H2.o)
 · have d1:decide (0<W.y.started)=false:=decide_eq_false hs;have HT:=zH (show W.tick1=W from if_neg hs);have H1:=zH (show CyWAt ⟨g.own,g.w⟩ t B b k W.tick1 from by rw [HT.o];exact HH.o.at_);clear hs;go_enter func19,ntmps19;go_wp2_with fail;refine (yb8 A HD1.o 2 3 H1.o).mono ?_;rintro e w2 ⟨rfl,own2,m2,h2⟩;have M2:=zH m2;have H2:=zH h2;clear m2 h2;go_wp2_with fail;exact bodyPost_end (results_none rfl _ _ _) rfl (Does.of ⟨own2,w2⟩ rfl rfl M2.o H2.o)
theorem yfF (A:CyApart t B) (hd:W.Bd) (hd1:W.tick1.Bd) (he:W.y.e=0) (hst:W.y.stage=3) (H:CyWAt g t B b k W):Calls prog 19 #[zp (some ⟨b,0,none⟩),zp (some ⟨k,0,none⟩)] g.w (Does (.tuple #[]) g (cyT t B) (fun g'=>CyWAt g' t B b k (W.tick1.hands 3 4))):=by
 obtain ⟨tp,hp,bm,bs,bt,bp,bsp,bh,cm,H⟩:=H;have HH:=zH H;have HD1:=zH hd1;obtain ⟨a0,a1,a2,a3,a4,a5,a6,a7,a8,a9,a10,a11,a12,a13,al⟩:=H.y.blk.k14;have af12:=H.y.blk.liv 12;obtain ⟨c0,c1,c2,c3,c4,c5,c6,c7,c8,c9,c10,c11,c12,cl⟩:=H.c.blk.k13;rw [hst] at a0;rw [he] at a13;obtain ⟨hs0,hs1⟩:=hd.steps;clear H hd hd1 hst he;by_cases hs:0<W.y.started
 · have d1:decide (0<W.y.started)=true:=decide_eq_true hs;have HT:=zH (show W.tick1={ W with y:={ W.y with steps:=W.y.steps+1 } } from if_pos hs);have H1:=zH (show CyWAt ⟨g.own,g.w.setCell ⟨b,12,none⟩ (zI z6 (W.y.steps+1))⟩ t B b k W.tick1 from by rw [HT.o];exact (HH.o.set A 12 (zI z6 (W.y.steps+1)) { W.y with steps:=W.y.steps+1 } rfl).at_);have M1:=zH (show Mod (cyT t B) g ⟨g.own,g.w.setCell ⟨b,12,none⟩ (zI z6 (W.y.steps+1))⟩ from Mod.st Mod.self HH.o.modY);clear hs;go_enter func19,ntmps19;go_wp2_with fail;refine (yb8 A HD1.o 3 4 H1.o).mono ?_;rintro e w2 ⟨rfl,own2,m2,h2⟩;have M2:=zH (M1.o.trans m2);have H2:=zH h2;clear m2 h2;go_wp2_with fail;exact bodyPost_end (results_none rfl _ _ _) rfl (Does.of ⟨own2,w2⟩ rfl rfl M2.o H2.o)
 · have d1:decide (0<W.y.started)=false:=decide_eq_false hs;have HT:=zH (show W.tick1=W from if_neg hs);have H1:=zH (show CyWAt ⟨g.own,g.w⟩ t B b k W.tick1 from by rw [HT.o];exact HH.o.at_);clear hs;go_enter func19,ntmps19;go_wp2_with fail;refine (yb8 A HD1.o 3 4 H1.o).mono ?_;rintro e w2 ⟨rfl,own2,m2,h2⟩;have M2:=zH m2;have H2:=zH h2;clear m2 h2;go_wp2_with fail;exact bodyPost_end (results_none rfl _ _ _) rfl (Does.of ⟨own2,w2⟩ rfl rfl M2.o H2.o)
theorem yfa (A:CyApart t B) (hd:W.Bd) (hd1:W.tick1.Bd) (he:W.y.e=0) (hst:W.y.stage=6) (H:CyWAt g t B b k W):Calls prog 19 #[zp (some ⟨b,0,none⟩),zp (some ⟨k,0,none⟩)] g.w (Does (.tuple #[]) g (cyT t B) (fun g'=>CyWAt g' t B b k W.tick1.turns)):=by
 obtain ⟨tp,hp,bm,bs,bt,bp,bsp,bh,cm,H⟩:=H;have HH:=zH H;have HD1:=zH hd1;obtain ⟨a0,a1,a2,a3,a4,a5,a6,a7,a8,a9,a10,a11,a12,a13,al⟩:=H.y.blk.k14;have af12:=H.y.blk.liv 12;obtain ⟨c0,c1,c2,c3,c4,c5,c6,c7,c8,c9,c10,c11,c12,cl⟩:=H.c.blk.k13;rw [hst] at a0;rw [he] at a13;obtain ⟨hs0,hs1⟩:=hd.steps;clear H hd hd1 hst he;by_cases hs:0<W.y.started
 · have d1:decide (0<W.y.started)=true:=decide_eq_true hs;have HT:=zH (show W.tick1={ W with y:={ W.y with steps:=W.y.steps+1 } } from if_pos hs);have H1:=zH (show CyWAt ⟨g.own,g.w.setCell ⟨b,12,none⟩ (zI z6 (W.y.steps+1))⟩ t B b k W.tick1 from by rw [HT.o];exact (HH.o.set A 12 (zI z6 (W.y.steps+1)) { W.y with steps:=W.y.steps+1 } rfl).at_);have M1:=zH (show Mod (cyT t B) g ⟨g.own,g.w.setCell ⟨b,12,none⟩ (zI z6 (W.y.steps+1))⟩ from Mod.st Mod.self HH.o.modY);clear hs;go_enter func19,ntmps19;go_wp2_with fail;refine (yfG A HD1.o H1.o).mono ?_;rintro e w2 ⟨rfl,own2,m2,h2⟩;have M2:=zH (M1.o.trans m2);have H2:=zH h2;clear m2 h2;go_wp2_with fail;exact bodyPost_end (results_none rfl _ _ _) rfl (Does.of ⟨own2,w2⟩ rfl rfl M2.o H2.o)
 · have d1:decide (0<W.y.started)=false:=decide_eq_false hs;have HT:=zH (show W.tick1=W from if_neg hs);have H1:=zH (show CyWAt ⟨g.own,g.w⟩ t B b k W.tick1 from by rw [HT.o];exact HH.o.at_);clear hs;go_enter func19,ntmps19;go_wp2_with fail;refine (yfG A HD1.o H1.o).mono ?_;rintro e w2 ⟨rfl,own2,m2,h2⟩;have M2:=zH m2;have H2:=zH h2;clear m2 h2;go_wp2_with fail;exact bodyPost_end (results_none rfl _ _ _) rfl (Does.of ⟨own2,w2⟩ rfl rfl M2.o H2.o)
theorem ycB (A:CyApart t B) (hd:W.Bd) (hd1:W.tick1.Bd) (he:W.y.e=0) (hst:W.y.stage=7) (h0:W.tick1.y.at_=0) (hh:W.tick1.h=none) (hck:W.tick1.K.c.check=0) (hu:W.tick1.K.sp.coil.used (1-W.tick1.K.sp.coil.cur)=0) (H:CyWAt g t B b k W):Calls prog 19 #[zp (some ⟨b,0,none⟩),zp (some ⟨k,0,none⟩)] g.w (Does (.tuple #[]) g (cyT t B) (fun g'=>CyWAt g' t B b k W.tick1.haulsNone)):=by
 have HP:=zH (And.intro h0 (And.intro hh (And.intro hck hu)));clear h0 hh hck hu;obtain ⟨tp,hp,bm,bs,bt,bp,bsp,bh,cm,H⟩:=H;have HH:=zH H;have HD1:=zH hd1;obtain ⟨a0,a1,a2,a3,a4,a5,a6,a7,a8,a9,a10,a11,a12,a13,al⟩:=H.y.blk.k14;have af12:=H.y.blk.liv 12;obtain ⟨c0,c1,c2,c3,c4,c5,c6,c7,c8,c9,c10,c11,c12,cl⟩:=H.c.blk.k13;rw [hst] at a0;rw [he] at a13;obtain ⟨hs0,hs1⟩:=hd.steps;clear H hd hd1 hst he;by_cases hs:0<W.y.started
 · have d1:decide (0<W.y.started)=true:=decide_eq_true hs;have HT:=zH (show W.tick1={ W with y:={ W.y with steps:=W.y.steps+1 } } from if_pos hs);have H1:=zH (show CyWAt ⟨g.own,g.w.setCell ⟨b,12,none⟩ (zI z6 (W.y.steps+1))⟩ t B b k W.tick1 from by rw [HT.o];exact (HH.o.set A 12 (zI z6 (W.y.steps+1)) { W.y with steps:=W.y.steps+1 } rfl).at_);have M1:=zH (show Mod (cyT t B) g ⟨g.own,g.w.setCell ⟨b,12,none⟩ (zI z6 (W.y.steps+1))⟩ from Mod.st Mod.self HH.o.modY);clear hs;go_enter func19,ntmps19;go_wp2_with fail;refine (ycq A HD1.o HP.o.1 HP.o.2.1 HP.o.2.2.1 HP.o.2.2.2 H1.o).mono ?_;rintro e w2 ⟨rfl,own2,m2,h2⟩;have M2:=zH (M1.o.trans m2);have H2:=zH h2;clear m2 h2;go_wp2_with fail;exact bodyPost_end (results_none rfl _ _ _) rfl (Does.of ⟨own2,w2⟩ rfl rfl M2.o H2.o)
 · have d1:decide (0<W.y.started)=false:=decide_eq_false hs;have HT:=zH (show W.tick1=W from if_neg hs);have H1:=zH (show CyWAt ⟨g.own,g.w⟩ t B b k W.tick1 from by rw [HT.o];exact HH.o.at_);clear hs;go_enter func19,ntmps19;go_wp2_with fail;refine (ycq A HD1.o HP.o.1 HP.o.2.1 HP.o.2.2.1 HP.o.2.2.2 H1.o).mono ?_;rintro e w2 ⟨rfl,own2,m2,h2⟩;have M2:=zH m2;have H2:=zH h2;clear m2 h2;go_wp2_with fail;exact bodyPost_end (results_none rfl _ _ _) rfl (Does.of ⟨own2,w2⟩ rfl rfl M2.o H2.o)
theorem ycC (A:CyApart t B) (hd:W.Bd) (hd1:W.tick1.Bd) (he:W.y.e=0) (hst:W.y.stage=7) (h0:W.tick1.y.at_=2) (H:CyWAt g t B b k W):Calls prog 19 #[zp (some ⟨b,0,none⟩),zp (some ⟨k,0,none⟩)] g.w (Does (.tuple #[]) g (cyT t B) (fun g'=>CyWAt g' t B b k W.tick1.haulsPost)):=by
 have HP:=zH h0;clear h0;obtain ⟨tp,hp,bm,bs,bt,bp,bsp,bh,cm,H⟩:=H;have HH:=zH H;have HD1:=zH hd1;obtain ⟨a0,a1,a2,a3,a4,a5,a6,a7,a8,a9,a10,a11,a12,a13,al⟩:=H.y.blk.k14;have af12:=H.y.blk.liv 12;obtain ⟨c0,c1,c2,c3,c4,c5,c6,c7,c8,c9,c10,c11,c12,cl⟩:=H.c.blk.k13;rw [hst] at a0;rw [he] at a13;obtain ⟨hs0,hs1⟩:=hd.steps;clear H hd hd1 hst he;by_cases hs:0<W.y.started
 · have d1:decide (0<W.y.started)=true:=decide_eq_true hs;have HT:=zH (show W.tick1={ W with y:={ W.y with steps:=W.y.steps+1 } } from if_pos hs);have H1:=zH (show CyWAt ⟨g.own,g.w.setCell ⟨b,12,none⟩ (zI z6 (W.y.steps+1))⟩ t B b k W.tick1 from by rw [HT.o];exact (HH.o.set A 12 (zI z6 (W.y.steps+1)) { W.y with steps:=W.y.steps+1 } rfl).at_);have M1:=zH (show Mod (cyT t B) g ⟨g.own,g.w.setCell ⟨b,12,none⟩ (zI z6 (W.y.steps+1))⟩ from Mod.st Mod.self HH.o.modY);clear hs;go_enter func19,ntmps19;go_wp2_with fail;refine (ycr A HD1.o HP.o H1.o).mono ?_;rintro e w2 ⟨rfl,own2,m2,h2⟩;have M2:=zH (M1.o.trans m2);have H2:=zH h2;clear m2 h2;go_wp2_with fail;exact bodyPost_end (results_none rfl _ _ _) rfl (Does.of ⟨own2,w2⟩ rfl rfl M2.o H2.o)
 · have d1:decide (0<W.y.started)=false:=decide_eq_false hs;have HT:=zH (show W.tick1=W from if_neg hs);have H1:=zH (show CyWAt ⟨g.own,g.w⟩ t B b k W.tick1 from by rw [HT.o];exact HH.o.at_);clear hs;go_enter func19,ntmps19;go_wp2_with fail;refine (ycr A HD1.o HP.o H1.o).mono ?_;rintro e w2 ⟨rfl,own2,m2,h2⟩;have M2:=zH m2;have H2:=zH h2;clear m2 h2;go_wp2_with fail;exact bodyPost_end (results_none rfl _ _ _) rfl (Does.of ⟨own2,w2⟩ rfl rfl M2.o H2.o)
theorem ydD (A:CyApart t B) (hd:W.Bd) (hd1:W.tick1.Bd) (he:W.y.e=0) (hst:W.y.stage=8) (hk:W.tick1.y.at_≠0→W.tick1.K.sp.coil.kept≤0) (H:CyWAt g t B b k W):Calls prog 19 #[zp (some ⟨b,0,none⟩),zp (some ⟨k,0,none⟩)] g.w (Does (.tuple #[]) g (cyT t B) (fun g'=>CyWAt g' t B b k W.tick1.settles)):=by
 have HP:=zH hk;clear hk;obtain ⟨tp,hp,bm,bs,bt,bp,bsp,bh,cm,H⟩:=H;have HH:=zH H;have HD1:=zH hd1;obtain ⟨a0,a1,a2,a3,a4,a5,a6,a7,a8,a9,a10,a11,a12,a13,al⟩:=H.y.blk.k14;have af12:=H.y.blk.liv 12;obtain ⟨c0,c1,c2,c3,c4,c5,c6,c7,c8,c9,c10,c11,c12,cl⟩:=H.c.blk.k13;rw [hst] at a0;rw [he] at a13;obtain ⟨hs0,hs1⟩:=hd.steps;clear H hd hd1 hst he;by_cases hs:0<W.y.started
 · have d1:decide (0<W.y.started)=true:=decide_eq_true hs;have HT:=zH (show W.tick1={ W with y:={ W.y with steps:=W.y.steps+1 } } from if_pos hs);have H1:=zH (show CyWAt ⟨g.own,g.w.setCell ⟨b,12,none⟩ (zI z6 (W.y.steps+1))⟩ t B b k W.tick1 from by rw [HT.o];exact (HH.o.set A 12 (zI z6 (W.y.steps+1)) { W.y with steps:=W.y.steps+1 } rfl).at_);have M1:=zH (show Mod (cyT t B) g ⟨g.own,g.w.setCell ⟨b,12,none⟩ (zI z6 (W.y.steps+1))⟩ from Mod.st Mod.self HH.o.modY);clear hs;go_enter func19,ntmps19;go_wp2_with fail;refine (ydC A HD1.o HP.o H1.o).mono ?_;rintro e w2 ⟨rfl,own2,m2,h2⟩;have M2:=zH (M1.o.trans m2);have H2:=zH h2;clear m2 h2;go_wp2_with fail;exact bodyPost_end (results_none rfl _ _ _) rfl (Does.of ⟨own2,w2⟩ rfl rfl M2.o H2.o)
 · have d1:decide (0<W.y.started)=false:=decide_eq_false hs;have HT:=zH (show W.tick1=W from if_neg hs);have H1:=zH (show CyWAt ⟨g.own,g.w⟩ t B b k W.tick1 from by rw [HT.o];exact HH.o.at_);clear hs;go_enter func19,ntmps19;go_wp2_with fail;refine (ydC A HD1.o HP.o H1.o).mono ?_;rintro e w2 ⟨rfl,own2,m2,h2⟩;have M2:=zH m2;have H2:=zH h2;clear m2 h2;go_wp2_with fail;exact bodyPost_end (results_none rfl _ _ _) rfl (Does.of ⟨own2,w2⟩ rfl rfl M2.o H2.o)
theorem yd9 (A:CyApart t B) (hd:W.Bd) (hd1:W.tick1.Bd) (he:W.y.e=0) (hst:W.y.stage=9) (H:CyWAt g t B b k W):Calls prog 19 #[zp (some ⟨b,0,none⟩),zp (some ⟨k,0,none⟩)] g.w (Does (.tuple #[]) g (cyT t B) (fun g'=>CyWAt g' t B b k W.tick1.sweepsY)):=by
 obtain ⟨tp,hp,bm,bs,bt,bp,bsp,bh,cm,H⟩:=H;have HH:=zH H;have HD1:=zH hd1;obtain ⟨a0,a1,a2,a3,a4,a5,a6,a7,a8,a9,a10,a11,a12,a13,al⟩:=H.y.blk.k14;have af12:=H.y.blk.liv 12;obtain ⟨c0,c1,c2,c3,c4,c5,c6,c7,c8,c9,c10,c11,c12,cl⟩:=H.c.blk.k13;rw [hst] at a0;rw [he] at a13;obtain ⟨hs0,hs1⟩:=hd.steps;clear H hd hd1 hst he;by_cases hs:0<W.y.started
 · have d1:decide (0<W.y.started)=true:=decide_eq_true hs;have HT:=zH (show W.tick1={ W with y:={ W.y with steps:=W.y.steps+1 } } from if_pos hs);have H1:=zH (show CyWAt ⟨g.own,g.w.setCell ⟨b,12,none⟩ (zI z6 (W.y.steps+1))⟩ t B b k W.tick1 from by rw [HT.o];exact (HH.o.set A 12 (zI z6 (W.y.steps+1)) { W.y with steps:=W.y.steps+1 } rfl).at_);have M1:=zH (show Mod (cyT t B) g ⟨g.own,g.w.setCell ⟨b,12,none⟩ (zI z6 (W.y.steps+1))⟩ from Mod.st Mod.self HH.o.modY);clear hs;go_enter func19,ntmps19;go_wp2_with fail;refine (yeD A HD1.o H1.o).mono ?_;rintro e w2 ⟨rfl,own2,m2,h2⟩;have M2:=zH (M1.o.trans m2);have H2:=zH h2;clear m2 h2;go_wp2_with fail;exact bodyPost_end (results_none rfl _ _ _) rfl (Does.of ⟨own2,w2⟩ rfl rfl M2.o H2.o)
 · have d1:decide (0<W.y.started)=false:=decide_eq_false hs;have HT:=zH (show W.tick1=W from if_neg hs);have H1:=zH (show CyWAt ⟨g.own,g.w⟩ t B b k W.tick1 from by rw [HT.o];exact HH.o.at_);clear hs;go_enter func19,ntmps19;go_wp2_with fail;refine (yeD A HD1.o H1.o).mono ?_;rintro e w2 ⟨rfl,own2,m2,h2⟩;have M2:=zH m2;have H2:=zH h2;clear m2 h2;go_wp2_with fail;exact bodyPost_end (results_none rfl _ _ _) rfl (Does.of ⟨own2,w2⟩ rfl rfl M2.o H2.o)
theorem yd7 (A:CyApart t B) (hd:W.Bd) (hd1:W.tick1.Bd) (he:W.y.e=0) (hst:W.y.stage=10) (hl: ∀e∈W.tick1.K.sp.line,(0≤e.cycles∧e.cycles≤1099511627776)∧e.fair) (H:CyWAt g t B b k W):Calls prog 19 #[zp (some ⟨b,0,none⟩),zp (some ⟨k,0,none⟩)] g.w (Does (.tuple #[]) g (cyT t B) (fun g'=>CyWAt g' t B b k W.tick1.serves)):=by
 have HP:=zH hl;clear hl;obtain ⟨tp,hp,bm,bs,bt,bp,bsp,bh,cm,H⟩:=H;have HH:=zH H;have HD1:=zH hd1;obtain ⟨a0,a1,a2,a3,a4,a5,a6,a7,a8,a9,a10,a11,a12,a13,al⟩:=H.y.blk.k14;have af12:=H.y.blk.liv 12;obtain ⟨c0,c1,c2,c3,c4,c5,c6,c7,c8,c9,c10,c11,c12,cl⟩:=H.c.blk.k13;rw [hst] at a0;rw [he] at a13;obtain ⟨hs0,hs1⟩:=hd.steps;clear H hd hd1 hst he;by_cases hs:0<W.y.started
 · have d1:decide (0<W.y.started)=true:=decide_eq_true hs;have HT:=zH (show W.tick1={ W with y:={ W.y with steps:=W.y.steps+1 } } from if_pos hs);have H1:=zH (show CyWAt ⟨g.own,g.w.setCell ⟨b,12,none⟩ (zI z6 (W.y.steps+1))⟩ t B b k W.tick1 from by rw [HT.o];exact (HH.o.set A 12 (zI z6 (W.y.steps+1)) { W.y with steps:=W.y.steps+1 } rfl).at_);have M1:=zH (show Mod (cyT t B) g ⟨g.own,g.w.setCell ⟨b,12,none⟩ (zI z6 (W.y.steps+1))⟩ from Mod.st Mod.self HH.o.modY);clear hs;go_enter func19,ntmps19;go_wp2_with fail;refine (yeB A HD1.o HP.o H1.o).mono ?_;rintro e w2 ⟨rfl,own2,m2,h2⟩;have M2:=zH (M1.o.trans m2);have H2:=zH h2;clear m2 h2;go_wp2_with fail;exact bodyPost_end (results_none rfl _ _ _) rfl (Does.of ⟨own2,w2⟩ rfl rfl M2.o H2.o)
 · have d1:decide (0<W.y.started)=false:=decide_eq_false hs;have HT:=zH (show W.tick1=W from if_neg hs);have H1:=zH (show CyWAt ⟨g.own,g.w⟩ t B b k W.tick1 from by rw [HT.o];exact HH.o.at_);clear hs;go_enter func19,ntmps19;go_wp2_with fail;refine (yeB A HD1.o HP.o H1.o).mono ?_;rintro e w2 ⟨rfl,own2,m2,h2⟩;have M2:=zH m2;have H2:=zH h2;clear m2 h2;go_wp2_with fail;exact bodyPost_end (results_none rfl _ _ _) rfl (Does.of ⟨own2,w2⟩ rfl rfl M2.o H2.o)
end
end Go.Proofs.YtdhjjpnajjingaaGreat
namespace Go.Proofs.YtdhjjpnajjingaaGreat
open Go Go.RowKit
structure IdleK (c:Cnf) (N:Int) (K:CoreS):Prop where
 cc:K.c=c
 own: ∀i,K.hand.own i= -1
 line:K.sp.line=[]
 free:(K.sp.pool.free:Int)=c.frags
 cur:K.sp.coil.cur<2
 u0:K.sp.coil.u0=0
 u1:K.sp.coil.u1=0
 kept:K.sp.coil.kept=0
 tab: ∀i,K.sp.tab.state i=0
 pl:K.pile.l=[]
 lost:K.pile.lost=false
 mem: ∀i,0≤i→i<c.globals→inB (i+cAhead c 3) K.mem.l.length=true∧wIndex (K.mem.peek (i+cAhead c 3))=none
 hc:0≤K.hand.count∧K.hand.count≤N
 sc:0≤K.sp.count∧K.sp.count≤N
 mc:0≤K.mem.count∧K.mem.count≤N
 nc:0≤K.n∧K.n≤N
theorem up {a N M:Int} (h:a≤N) (hm:N≤M):a≤M:=Int.le_trans h hm
namespace IdleK
variable {c:Cnf} {N:Int} {K:CoreS}
theorem mono (h:IdleK c N K) {M:Int} (hm:N≤M):IdleK c M K:=⟨h.cc,h.own,h.line,h.free,h.cur,h.u0,h.u1,h.kept,h.tab,h.pl,h.lost,h.mem,⟨h.hc.1,up h.hc.2 zo⟩,⟨h.sc.1,up h.sc.2 zo⟩,⟨h.mc.1,up h.mc.2 zo⟩,⟨h.nc.1,up h.nc.2 zo⟩⟩
theorem hand (h:IdleK c N K) {H:HandS} (hl:H.l=K.hand.l) (hc:H.count=K.hand.count+1):IdleK c (N+1) { K with hand:=H }:=by
 obtain ⟨a0,a1⟩:=h.hc;exact ⟨h.cc,(fun i=>by have:=h.own i;unfold HandS.own at this ⊢;simp only [hl];exact this),h.line,h.free,h.cur,h.u0,h.u1,h.kept,h.tab,h.pl,h.lost,h.mem,⟨by show 0≤H.count;omega,by show H.count≤_;omega⟩,⟨h.sc.1,up h.sc.2 zo⟩,⟨h.mc.1,up h.mc.2 zo⟩,⟨h.nc.1,up h.nc.2 zo⟩⟩
theorem yj5 (H:HandS) (s:Int) (f:Bool):(H.post s f).l=H.l∧(H.post s f).count=H.count+1:=by
 unfold HandS.post HandS.tick;split<;>exact ⟨rfl,rfl⟩
theorem post (h:IdleK c N K) (s:Int) (f:Bool):IdleK c (N+1) { K with hand:=K.hand.post s f }:=h.hand (yj5 _ s f).1 (yj5 _ s f).2
theorem tick (h:IdleK c N K):IdleK c (N+1) { K with hand:=K.hand.tick }:=h.hand rfl rfl
theorem sp (h:IdleK c N K) {S:SpaceS} (hl:S.line=[]) (hf:S.pool=K.sp.pool) (ht:S.tab=K.sp.tab) (hcur:S.coil.cur<2) (h0:S.coil.u0=0) (h1:S.coil.u1=0) (hk:S.coil.kept=0) (hc:S.count=K.sp.count+1):IdleK c (N+1) { K with sp:=S }:=by
 obtain ⟨a0,a1⟩:=h.sc;exact ⟨h.cc,h.own,hl,by show (S.pool.free:Int)=_;rw [hf];exact h.free,hcur,h0,h1,hk,(fun i=>by show S.tab.state i=0;rw [ht];exact h.tab i),h.pl,h.lost,h.mem,⟨h.hc.1,up h.hc.2 zo⟩,⟨by show 0≤S.count;omega,by show S.count≤_;omega⟩,⟨h.mc.1,up h.mc.2 zo⟩,⟨h.nc.1,up h.nc.2 zo⟩⟩
theorem ymk (h:IdleK c N K):IdleK c (N+1) { K with sp:=beginS K.sp }:=h.sp (show K.sp.line.map noteE=[] by rw [h.line];rfl) rfl rfl h.cur h.u0 h.u1 h.kept rfl
theorem ends (h:IdleK c N K):IdleK c (N+1) { K with sp:=endS K.sp }:=h.sp (show K.sp.line.map endE=[] by rw [h.line];rfl) rfl rfl h.cur h.u0 h.u1 h.kept rfl
theorem force (h:IdleK c N K):IdleK c (N+1) { K with sp:=forceS K.sp }:=h.sp h.line rfl rfl h.cur h.u0 h.u1 h.kept rfl
theorem used (h:IdleK c N K) (s:Nat):K.sp.coil.used s=0:=by
 unfold CoilS.used;split
 · exact h.u0
 · exact h.u1
theorem turn (h:IdleK c N K):IdleK c (N+1) { K with sp:=turnS K.sp }:=by
 have ht:K.sp.coil.turn={ K.sp.coil with kept:=K.sp.coil.used K.sp.coil.cur,cur:=1-K.sp.coil.cur }:=if_pos (by unfold CoilS.turnable;rw [h.used];rfl);refine h.sp (S:=turnS K.sp) h.line rfl rfl ?_ ?_ ?_ ?_ rfl
 · show K.sp.coil.turn.cur<2;rw [ht];show 1-K.sp.coil.cur<2;omega
 · show K.sp.coil.turn.u0=0;rw [ht];exact h.u0
 · show K.sp.coil.turn.u1=0;rw [ht];exact h.u1
 · show K.sp.coil.turn.kept=0;rw [ht];exact h.used _
theorem done (h:IdleK c N K):IdleK c (N+1) { K with sp:=doneS K.sp }:=by
 have ht:K.sp.coil.done=if K.sp.coil.cur=0 then { K.sp.coil with u1:=0 } else { K.sp.coil with u0:=0 }:=if_pos (by unfold CoilS.doneable;rw [h.kept];rfl);refine h.sp (S:=doneS K.sp) h.line rfl rfl ?_ ?_ ?_ ?_ rfl
 · show K.sp.coil.done.cur<2;rw [ht];split<;>exact h.cur
 · show K.sp.coil.done.u0=0;rw [ht];split
   · exact h.u0
   · rfl
 · show K.sp.coil.done.u1=0;rw [ht];split
   · rfl
   · exact h.u1
 · show K.sp.coil.done.kept=0;rw [ht];split<;>exact h.kept
theorem yml (h:IdleK c N K) (hf:K.sp.forced=true):wantsS K.sp=true:=by
 unfold wantsS;rw [hf,Bool.or_true,Bool.or_true]
theorem pile (h:IdleK c N K) {p:PileS} (hp:p.l=[]) (hl:p.lost=false):IdleK c (N+1) { K with pile:=p,n:=K.n+1 }:=by
 obtain ⟨a0,a1⟩:=h.nc;exact ⟨h.cc,h.own,h.line,h.free,h.cur,h.u0,h.u1,h.kept,h.tab,hp,hl,h.mem,⟨h.hc.1,up h.hc.2 zo⟩,⟨h.sc.1,up h.sc.2 zo⟩,⟨h.mc.1,up h.mc.2 zo⟩,⟨by show 0≤K.n+1;omega,by show K.n+1≤_;omega⟩⟩
end IdleK
structure JB (c:Cnf) (n N:Int) (W:CyW):Prop where
 K:IdleK c N W.K
 e:W.y.e=0
 fin:W.y.finished=n
 fr:W.y.freed=0
 mv:W.y.moved=0
 st:0≤W.y.steps∧W.y.steps≤N
 ib:0≤W.y.i∧W.y.i≤5000
namespace JB
variable {c:Cnf} {n N:Int} {W:CyW}
theorem polled (h:JB c n N W):W.polled=true:=by
 unfold CyW.polled HandS.polled;rw [h.K.own];rfl
theorem nextI (h:JB c n N W):W.nextI=W.y.i+1:=by
 unfold CyW.nextI;rw [h.polled];rfl
theorem pollsB (h:JB c n N W):W.pollsB=(W.y.i+1==c.threads):=by
 unfold CyW.pollsB;rw [h.nextI,h.K.cc]
theorem polls (h:JB c n N W) (hi:W.y.i≤4999):JB c n (N+1) W.polls:=
 ⟨h.K.tick,h.e,h.fin,h.fr,h.mv,⟨h.st.1,up h.st.2 zo⟩,⟨by show 0≤W.nextI;rw [h.nextI];have:=h.ib;omega,by show W.nextI≤_;rw [h.nextI];omega⟩⟩
theorem posts (h:JB c n N W) (s:Int) (f:Bool):JB c n (N+1) (W.posts s f):=⟨h.K.post s f,h.e,h.fin,h.fr,h.mv,⟨h.st.1,up h.st.2 zo⟩,h.ib⟩
theorem ent (h:JB c n N W) (s:Int):JB c n N (W.ent s):=⟨h.K,h.e,h.fin,h.fr,h.mv,h.st,by show (0:Int)≤0∧(0:Int)≤5000;omega⟩
theorem atY (h:JB c n N W) (s:Int):JB c n N (W.atY s):=⟨h.K,h.e,h.fin,h.fr,h.mv,h.st,h.ib⟩
theorem spc (h:JB c n N W) {S:SpaceS} (hk:IdleK c (N+1) { W.K with sp:=S }):JB c n (N+1) (W.spc S):=⟨hk,h.e,h.fin,h.fr,h.mv,⟨h.st.1,up h.st.2 zo⟩,h.ib⟩
theorem mono (h:JB c n N W) {M:Int} (hm:N≤M):JB c n M W:=⟨h.K.mono hm,h.e,h.fin,h.fr,h.mv,⟨h.st.1,up h.st.2 zo⟩,h.ib⟩
theorem tick1 (h:JB c n N W):JB c n (N+1) W.tick1:=by
 obtain ⟨s0,s1⟩:=h.st;unfold CyW.tick1;split
 · exact ⟨h.K.mono zo,h.e,h.fin,h.fr,h.mv,⟨by show 0≤W.y.steps+1;omega,by show W.y.steps+1≤_;omega⟩,h.ib⟩
 · exact h.mono zo
end JB
theorem CyW.tick1_stage (W:CyW):W.tick1.y.stage=W.y.stage:=by unfold CyW.tick1;split<;>rfl
theorem CyW.tick1_started (W:CyW):W.tick1.y.started=W.y.started:=by unfold CyW.tick1;split<;>rfl
theorem CyW.tick1_sense (W:CyW):W.tick1.y.sense=W.y.sense:=by unfold CyW.tick1;split<;>rfl
end Go.Proofs.YtdhjjpnajjingaaGreat
namespace Go.Proofs.YtdhjjpnajjingaaGreat
open Go Go.RowKit
structure Tk (c:Cnf) (n N:Int) (W V:CyW):Prop where
 b:JB c n N V
 s:V.y.stage=W.y.stage
 a:V.y.at_=W.y.at_
 i:V.y.i=W.y.i
 st:V.y.started=W.y.started
 se:V.y.sense=W.y.sense
 h:V.h=W.h
 K:V.K=W.K
theorem JB.tk {c:Cnf} {n N:Int} {W:CyW} (h:JB c n N W):Tk c n (N+1) W W.tick1:=⟨h.tick1,W.tick1_stage,W.tick1_at,W.tick1_i,W.tick1_started,W.tick1_sense,W.tick1_h,W.tick1_K⟩
section
variable {c:Cnf} {n L:Int} {s0:Bool} {W V:CyW}
end
end Go.Proofs.YtdhjjpnajjingaaGreat
namespace Go.Proofs.YtdhjjpnajjingaaGreat
open Go Go.RowKit
def CyW.idles (W:CyW):CyW:=if wantsS W.K.sp then (W.spc W.K.sp.tick).ent 1 else W.spc W.K.sp.tick
section
variable {g:GW} {t B b k:Nat} {W:CyW}
theorem ycD (A:CyApart t B) (hd:W.Bd) (he:W.y.e=0) (hst:W.y.stage=0) (H:CyWAt g t B b k W):Calls prog 19 #[zp (some ⟨b,0,none⟩),zp (some ⟨k,0,none⟩)] g.w (Does (.tuple #[]) g (cyT t B) (fun g'=>CyWAt g' t B b k W.tick1.idles)):=by
 obtain ⟨tp,hp,bm,bs,bt,bp,bsp,bh,cm,H⟩:=H;have HH:=zH H;have HD:=zH hd;obtain ⟨a0,a1,a2,a3,a4,a5,a6,a7,a8,a9,a10,a11,a12,a13,al⟩:=H.y.blk.k14;have af12:=H.y.blk.liv 12;obtain ⟨c0,c1,c2,c3,c4,c5,c6,c7,c8,c9,c10,c11,c12,cl⟩:=H.c.blk.k13;rw [hst] at a0;rw [he] at a13;obtain ⟨hs0,hs1⟩:=hd.steps;clear H hd hst he;by_cases hs:0<W.y.started
 · have d1:decide (0<W.y.started)=true:=decide_eq_true hs;have HT:=zH (show W.tick1={ W with y:={ W.y with steps:=W.y.steps+1 } } from if_pos hs);have H1:=zH (show CyIn ⟨g.own,g.w.setCell ⟨b,12,none⟩ (zI z6 (W.y.steps+1))⟩ t B b k { W with y:={ W.y with steps:=W.y.steps+1 } } tp hp bm bs bt bp bsp bh cm from HH.o.set A 12 (zI z6 (W.y.steps+1)) { W.y with steps:=W.y.steps+1 } rfl);have M1:=zH (show Mod (cyT t B) g ⟨g.own,g.w.setCell ⟨b,12,none⟩ (zI z6 (W.y.steps+1))⟩ from Mod.st Mod.self HH.o.modY);clear hs;have HWT:=zH (ydc ⟨g.own,g.w.setCell ⟨b,12,none⟩ (zI z6 (W.y.steps+1))⟩ B bsp bt W.K.sp H1.o.c.sp A.hb HD.o.sp);go_enter func19,ntmps19;go_wp2_with fail;refine HWT.o.mono ?_;rintro e w2 ⟨rfl,own2,m2,h2⟩;have M2:=zH (M1.o.trans (m2.mono (S:=cyT t B) (fun x hx=>yaT hx)));have H2:=zH (show CyIn ⟨own2,w2⟩ t B b k { y:={ W.y with steps:=W.y.steps+1 },tr:=W.tr,h:=W.h,K:={ W.K with sp:=W.K.sp.tick } } tp hp bm bs bt bp bsp bh cm from H1.o.spc A m2 h2);clear m2 h2 HWT a0 a1 a2 a3 a4 a5 a6 a7 a8 a9 a10 a11 a12 a13 af12 al c0 c1 c2 c3 c4 c5 c6 c7 c8 c9 c10 c11 c12 cl;cases hw:wantsS W.K.sp
   · have HF:=zH (show W.tick1.idles={ y:={ W.y with steps:=W.y.steps+1 },tr:=W.tr,h:=W.h,K:={ W.K with sp:=W.K.sp.tick } } from by rw [HT.o];unfold CyW.idles;rw [hw];rfl);clear hw;go_wp2_with fail;exact bodyPost_end (results_none rfl _ _ _) rfl (Does.of ⟨own2,w2⟩ rfl rfl M2.o (by rw [HF.o];exact H2.o.at_))
   · have HF:=zH (show W.tick1.idles=CyW.ent { y:={ W.y with steps:=W.y.steps+1 },tr:=W.tr,h:=W.h,K:={ W.K with sp:=W.K.sp.tick } } 1 from by rw [HT.o];unfold CyW.idles;rw [hw];rfl);clear hw;go_wp2_with fail;refine (yao A 1 H2.o).mono ?_;rintro e w3 ⟨rfl,own3,m3,h3⟩;have M3:=zH (M2.o.trans m3);have H3:=zH h3;clear m3 h3;go_wp2_with fail;exact bodyPost_end (results_none rfl _ _ _) rfl (Does.of ⟨own3,w3⟩ rfl rfl M3.o (by rw [HF.o];exact H3.o.at_))
 · have d1:decide (0<W.y.started)=false:=decide_eq_false hs;have HT:=zH (show W.tick1=W from if_neg hs);have H1:=zH (show CyIn ⟨g.own,g.w⟩ t B b k W tp hp bm bs bt bp bsp bh cm from HH.o);have M1:=zH (show Mod (cyT t B) g ⟨g.own,g.w⟩ from Mod.self);clear hs;have HWT:=zH (ydc ⟨g.own,g.w⟩ B bsp bt W.K.sp H1.o.c.sp A.hb HD.o.sp);go_enter func19,ntmps19;go_wp2_with fail;refine HWT.o.mono ?_;rintro e w2 ⟨rfl,own2,m2,h2⟩;have M2:=zH (M1.o.trans (m2.mono (S:=cyT t B) (fun x hx=>yaT hx)));have H2:=zH (show CyIn ⟨own2,w2⟩ t B b k { y:=W.y,tr:=W.tr,h:=W.h,K:={ W.K with sp:=W.K.sp.tick } } tp hp bm bs bt bp bsp bh cm from H1.o.spc A m2 h2);clear m2 h2 HWT a0 a1 a2 a3 a4 a5 a6 a7 a8 a9 a10 a11 a12 a13 af12 al c0 c1 c2 c3 c4 c5 c6 c7 c8 c9 c10 c11 c12 cl;cases hw:wantsS W.K.sp
   · have HF:=zH (show W.tick1.idles={ y:=W.y,tr:=W.tr,h:=W.h,K:={ W.K with sp:=W.K.sp.tick } } from by rw [HT.o];unfold CyW.idles;rw [hw];rfl);clear hw;go_wp2_with fail;exact bodyPost_end (results_none rfl _ _ _) rfl (Does.of ⟨own2,w2⟩ rfl rfl M2.o (by rw [HF.o];exact H2.o.at_))
   · have HF:=zH (show W.tick1.idles=CyW.ent { y:=W.y,tr:=W.tr,h:=W.h,K:={ W.K with sp:=W.K.sp.tick } } 1 from by rw [HT.o];unfold CyW.idles;rw [hw];rfl);clear hw;go_wp2_with fail;refine (yao A 1 H2.o).mono ?_;rintro e w3 ⟨rfl,own3,m3,h3⟩;have M3:=zH (M2.o.trans m3);have H3:=zH h3;clear m3 h3;go_wp2_with fail;exact bodyPost_end (results_none rfl _ _ _) rfl (Does.of ⟨own3,w3⟩ rfl rfl M3.o (by rw [HF.o];exact H3.o.at_))
end
section
variable {g:GW} {t B b k:Nat} {W:CyW} {c:Cnf} {n L:Int} {s0:Bool}
theorem JB.bd {N:Int} (h:JB c n N W) (hn:0≤n∧n≤5) (hN:N≤1000000) (hs:0≤W.y.started∧W.y.started≤10):W.Bd:=by
 have hi:=h.ib;have h2:=h.st;have hf:=h.fin;have hf2:=h.fr;have hm:=h.mv;have k1:=h.K.hc;have k2:=h.K.sc;have k3:=h.K.mc;have k4:=h.K.nc;exact ⟨zo,zo,zo,zo,zo,zo,zo,zo,zo,zo⟩
end
end Go.Proofs.YtdhjjpnajjingaaGreat
namespace Go.Proofs.YtdhjjpnajjingaaGreat
open Go Go.RowKit
namespace CyW
def cOk (n:Int):Bool:=decide (0≤n∧n≤1099511627776)
def bdB (W:CyW):Bool:=cOk W.y.i&&(cOk W.y.started&&(cOk W.y.finished&&(cOk W.y.freed&&(cOk W.y.moved&&(cOk W.y.steps&&(cOk W.K.hand.count&&(cOk W.K.sp.count&&(cOk W.K.mem.count&&cOk W.K.n))))))))
theorem bdB_of {W:CyW} (h:W.bdB=true):W.Bd:=by
 unfold bdB cOk at h;simp only [Bool.and_eq_true,decide_eq_true_eq] at h;obtain ⟨h1,h2,h3,h4,h5,h6,h7,h8,h9,h10⟩:=h;exact ⟨h1,h2,h3,h4,h5,h6,h7,h8,h9,h10⟩
def entOk (e:Ent):Bool:=decide ((0≤e.cycles∧e.cycles≤1099511627776)∧(1≤e.frags∧e.frags≤1099511627776∧0≤e.spine∧e.spine≤1099511627776))
def rootsO (W:CyW):Option CyW:=
 if W.y.at_=3 then none
 else if W.K.c.globals≤W.y.i∨W.y.at_=1 then some W.rootsPoll
 else if W.y.at_=0∧0≤W.y.i∧W.K.c.check=0∧inB (W.y.i+cAhead W.K.c 3) W.K.mem.l.length=true∧(wIndex (W.K.mem.peek (W.y.i+cAhead W.K.c 3))).isNone=true then some W.rootsNone else none
def marksO (W:CyW):Option CyW:=
 if W.y.at_=0 then (if W.K.pile.some_=false then some W.marksEmpty else none)
 else if W.y.at_=5 then (if W.K.pile.lost=false then some W.marksFound else none) else none
def haulsO (W:CyW):Option CyW:=
 if W.y.at_=0 then (if W.h.isNone=true∧W.K.c.check=0∧W.K.sp.coil.used (1-W.K.sp.coil.cur)=0 then some W.haulsNone else none)
 else if W.y.at_=2 then some W.haulsPost else none
def stageO (W:CyW):Option CyW:=
 if W.y.stage=1 then some W.starts else if W.y.stage=2 then some (W.hands 2 3) else if W.y.stage=3 then some (W.hands 3 4)
 else if W.y.stage=4 then W.rootsO else if W.y.stage=5 then W.marksO else if W.y.stage=6 then some W.turns
 else if W.y.stage=7 then W.haulsO
 else if W.y.stage=8 then (if W.y.at_=0∨W.K.sp.coil.kept≤0 then some W.settles else none)
 else if W.y.stage=9 then some W.sweepsY
 else if W.y.stage=10 then (if W.K.sp.line.all entOk then some W.serves else none)
 else none
def stepO (W:CyW):Option CyW:=
 if (W.bdB&&(W.tick1.bdB&&W.y.e==0))=false then none
 else if W.y.stage=0 then some W.tick1.idles
 else W.tick1.stageO
end CyW
section
variable {g:GW} {t B b k:Nat} {W:CyW}
theorem yi9 (A:CyApart t B) (V:CyW) (h:W.stepO=some V) (h45:W.y.stage≠4∧W.y.stage≠5) (H:CyWAt g t B b k W):Calls prog 19 #[zp (some ⟨b,0,none⟩),zp (some ⟨k,0,none⟩)] g.w (Does (.tuple #[]) g (cyT t B) (fun g'=>CyWAt g' t B b k V)):=by
 unfold CyW.stepO at h;split at h
 · cases h
 rename_i hb
 simp only [Bool.not_eq_false,Bool.and_eq_true,beq_iff_eq] at hb;obtain ⟨hb1,hb2,he⟩:=hb;have hd:=CyW.bdB_of hb1;have hd1:=CyW.bdB_of hb2;by_cases s0:W.y.stage=0
 · rw [if_pos s0] at h;injection h with h;subst h;exact ycD A hd he s0 H
 rw [if_neg s0] at h;unfold CyW.stageO at h;rw [CyW.tick1_stage] at h;by_cases s1:W.y.stage=1
 · rw [if_pos s1] at h;injection h with h;subst h;exact yd8 A hd hd1 he s1 H
 rw [if_neg s1] at h;by_cases s2:W.y.stage=2
 · rw [if_pos s2] at h;injection h with h;subst h;exact ye9 A hd hd1 he s2 H
 rw [if_neg s2] at h;by_cases s3:W.y.stage=3
 · rw [if_pos s3] at h;injection h with h;subst h;exact yfF A hd hd1 he s3 H
 rw [if_neg s3] at h;rw [if_neg h45.1,if_neg h45.2] at h;by_cases s6:W.y.stage=6
 · rw [if_pos s6] at h;injection h with h;subst h;exact yfa A hd hd1 he s6 H
 rw [if_neg s6] at h;by_cases s7:W.y.stage=7
 · rw [if_pos s7] at h;unfold CyW.haulsO at h;by_cases a0:W.tick1.y.at_=0
   · rw [if_pos a0] at h;split at h
     case isFalse=>cases h
     case isTrue hc=>
      injection h with h;subst h;exact ycB A hd hd1 he s7 a0 (Option.isNone_iff_eq_none.1 hc.1) hc.2.1 hc.2.2 H
   rw [if_neg a0] at h;by_cases a2:W.tick1.y.at_=2
   · rw [if_pos a2] at h;injection h with h;subst h;exact ycC A hd hd1 he s7 a2 H
   rw [if_neg a2] at h;cases h
 rw [if_neg s7] at h;by_cases s8:W.y.stage=8
 · rw [if_pos s8] at h;split at h
   case isFalse=>cases h
   case isTrue hc=>
    injection h with h;subst h;exact ydD A hd hd1 he s8 (fun hn=>hc.resolve_left hn) H
 rw [if_neg s8] at h;by_cases s9:W.y.stage=9
 · rw [if_pos s9] at h;injection h with h;subst h;exact yd9 A hd hd1 he s9 H
 rw [if_neg s9] at h;by_cases s10:W.y.stage=10
 · rw [if_pos s10] at h;split at h
   case isFalse=>cases h
   case isTrue hc=>
    injection h with h;subst h;refine yd7 A hd hd1 he s10 (fun e he=>?_) H;have h1:=List.all_eq_true.1 hc e he;unfold CyW.entOk at h1;have h2:=of_decide_eq_true h1;exact h2
 rw [if_neg s10] at h;cases h
end
end Go.Proofs.YtdhjjpnajjingaaGreat
namespace Go
open Go.RowKit
def SpaceS.freed (S:SpaceS) (l:List Int):SpaceS:=l.foldl (fun S i=>{ S with tab:=S.tab.set i 0 false false,pool:=S.pool.give i }) S
end Go
namespace Go.Proofs.YtdhjjpnajjingaaGreat
open Go Go.RowKit
def drainN (S:SpaceS) (t:Int):Int:=if inB t S.stocks.length then ((stockOf S t).l.length:Int) else 0
def drainS (S:SpaceS) (t:Int):SpaceS:=if inB t S.stocks.length then ({ S.tick with stocks:=S.stocks.set t.toNat ⟨[],(stockOf S t).most⟩ }).freed (stockOf S t).l else S.tick
theorem ygW (t:Int) (g:GW) (B b bt:Nat) (S:SpaceS) (h:SpaceAt g B b bt S) (hB:100≤B) (hc:0≤S.count∧S.count≤1099511627776):
 Calls prog 73 #[zp (some ⟨b,0,none⟩),zI z6 t] g.w (Does (zI z6 (drainN S t)) g (inst B) (fun g'=>SpaceAt g' B b bt (drainS S t))):=by
 obtain ⟨bp,bk,bl,A,cs,cm,bs,h⟩:=h;obtain ⟨hc0,hc1⟩:=hc;have M0:=zH (show Mod (inst B) g ⟨g.own,g.w.setCell ⟨b,3,none⟩ (zI z6 (S.count+1))⟩ from Mod.set (by rw [h.blk.own];exact ⟨zo,zo⟩));have H0:=zH (show SpaceIn ⟨g.own,g.w.setCell ⟨b,3,none⟩ (zI z6 (S.count+1))⟩ B b bt S.tick bp bk bl A cs cm bs from h.tick);have HST:=zH (ydb t h.tick);obtain ⟨a0,a1,a2,a3,a4,a5,a6,a7,a8,a9,a10,a11,a12,a13,a14,a15,al⟩:=h.blk.k16;have af3:=h.blk.liv 3;clear h;cases hin:inB t S.stocks.length
 · have HV:=zH (show drainN S t=0 by unfold drainN;rw [hin];rfl);have HW:=zH (show drainS S t=S.tick by unfold drainS;rw [hin];rfl);simp only [hin,Bool.false_eq_true,if_false] at HST;clear hin;go_enter func73,ntmps73;go_wp2_with fail;refine HST.o.mono ?_;rintro e w1 ⟨rfl,rfl⟩;go_wp2_with fail;go_ret;exact Does.of ⟨g.own,_⟩ rfl (by rw [HV.o];try rfl) M0.o (by rw [HW.o];exact ⟨_,_,_,_,_,_,_,H0.o⟩)
 · obtain ⟨k,rfl,hk⟩:=yap hin;obtain ⟨s,hs⟩: ∃s,S.stocks[k]?=some s:=⟨S.stocks[k],List.getElem?_eq_getElem hk⟩;obtain ⟨x,hx⟩: ∃x,bs[k]?=some x:=⟨bs[k]'(by have:=H0.o.blen;rw [this];exact hk),List.getElem?_eq_getElem _⟩;have HSO:=zH (show stockOf S k=s by unfold stockOf;rw [Int.toNat_natCast,List.getD_eq_getElem?_getD,hs];rfl);have HV:=zH (show drainN S k=(s.l.length:Int) by unfold drainN;rw [hin,HSO.o];rfl);have HW:=zH (show drainS S k=({ S.tick with stocks:=S.stocks.set k ⟨[],s.most⟩ }).freed s.l by unfold drainS;rw [hin,HSO.o,Int.toNat_natCast];rfl);have hbx:bs.getD k 0=x:=by rw [List.getD_eq_getElem?_getD,hx];rfl
   simp only [hin,if_true,Int.toNat_natCast,hbx] at HST;have HSA:=zH (H0.o.stock k x s hx hs);have HX:=zH hx;have HKL:=zH hk;have HD:=zH (yg0 _ _ _ _ HSA.o);have hsl:s.l.length≤8:=by have h1:=HSA.o.most;have h2:=HSA.o.len;omega
   clear hin hbx hs hx hk;go_enter func73,ntmps73;go_wp2_with fail;refine HST.o.mono ?_;rintro e w1 ⟨rfl,rfl⟩;go_wp2_with fail;refine HD.o.mono ?_;rintro e w2 ⟨v,own2,rfl,m2,s2,r2⟩;obtain ⟨A2,c2,rfl⟩:=yak r2.row;have M2:=zH (M0.o.trans (m2.mono (fun y (hy:y=B+10+k)=>(⟨by have:=HKL.o;omega,by have:=HKL.o;have:=H0.o.few;simp only [SpaceS.tick] at this;omega⟩:inst B y))));have H2:=zH (H0.o.withStock HKL.o HX.o m2 s2);have R2:=zH r2;clear m2 s2 r2 a0 a1 a2 a3 a4 a5 a6 a7 a8 a9 a10 a11 a12 a13 a14 a15 al HST HD;go_wp2_with fail;go_loopw [25] (fun i wr=> ∃(j:Nat) (own:Nat→Nat),j≤s.l.length∧i=zI z6 j∧Hid (Mod (inst B) g ⟨own,wr⟩)∧Hid (SpaceIn ⟨own,wr⟩ B b bt (({ S.tick with stocks:=S.stocks.set k ⟨[],s.most⟩ }).freed (s.l.take j)) bp bk bl A cs cm bs)∧Hid (Row ⟨own,wr⟩ (B+10+k) 3 1 (.slice A2 s.l.length c2) s.l.length (s.l.map (zI z6)))) (fun i _=>s.l.length-(intOf i).toNat)
   case atStart=>exact ⟨0,own2,Nat.zero_le _,rfl,M2,H2,R2⟩
   case round=>
    obtain ⟨j,own3,hj,rfl,M3,H3,R3⟩:=hrel;clear M2 H2 R2;by_cases hlt:j<s.l.length
    · obtain ⟨q,o,hA,hq,hcell⟩:=ygk R3.o.cells hlt;have k0:=hcell j hlt;simp only at k0 hq
      have HS:=zH (show ({ S.tick with stocks:=S.stocks.set k ⟨[],s.most⟩ }).freed (s.l.take (j+1))={ ({ S.tick with stocks:=S.stocks.set k ⟨[],s.most⟩ }).freed (s.l.take j) with tab:=(({ S.tick with stocks:=S.stocks.set k ⟨[],s.most⟩ }).freed (s.l.take j)).tab.set (s.l.getD j 0) 0 false false,pool:=(({ S.tick with stocks:=S.stocks.set k ⟨[],s.most⟩ }).freed (s.l.take j)).pool.give (s.l.getD j 0) } by
       unfold SpaceS.freed;rw [List.take_add_one,List.getElem?_eq_getElem hlt,List.getD_eq_getElem?_getD,List.getElem?_eq_getElem hlt,List.foldl_append];rfl)
      generalize s.l.getD j 0=y at *;subst hA;clear hcell;go_wp2_with fail;refine (yda y H3.o hB).mono ?_;rintro e w4 ⟨rfl,own4,m4,h4⟩;have M4:=zH (M3.o.trans (m4.mono (fun z (hz:z=B+50∨z=B+1)=>(⟨zo,zo⟩:inst B z))));have H4:=zH h4;have R4:=zH (R3.o.keep m4 (by have:=HKL.o;have:=H0.o.few;simp only [SpaceS.tick] at this;omega));clear m4 h4;go_wp2_with fail;go_roundw
      case rel=>exact ⟨j+1,own4,zo,by go_num,M4,by rw [HS.o];exact H4,R4⟩
      case measure=>simp [intOf];omega
    · obtain rfl:j=s.l.length:=zo;have HS:=zH (show s.l.take s.l.length=s.l from List.take_of_length_le (Nat.le_refl _));go_wp2_with fail;go_ret;rw [HS.o] at H3;exact Does.of ⟨own3,_⟩ rfl (by rw [HV.o];try rfl) M3.o (by rw [HW.o];exact ⟨_,_,_,_,_,_,_,H3.o⟩)
end Go.Proofs.YtdhjjpnajjingaaGreat
