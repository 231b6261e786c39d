import Derived.Test.YtdhjjpnajjingaaGreatKF12
set_option linter.unusedVariables false
set_option linter.unnecessarySimpa false
set_option linter.unusedSimpArgs false
open Bool renaming true→zT,false→zU
open Go.Value renaming int→zI,complex→zc,pointer→zp,bool→zb
open Go.IntKind renaming i64→z6
open Go.FloatKind renaming f64→z4
set_option maxHeartbeats 8000000
set_option maxRecDepth 100000
open Go.Proofs.Tryz
open Go.Lib renaming hid→zH
open Go.Ext renaming alloc→zA,patch→zP,drew→zD,drewN→zN,more→zM,refl→zR,setCell→zS
open Nat renaming le_refl→zL,le_add_right→zK
namespace Go.Proofs.YtdhjjpnajjingaaGreat
open Go Go.RowKit
section
variable {g:GW} {t b B k:Nat} {W:AcW} {p:AcP} {bm bs bt bp bsp bh:Nat} {cm:Cnf}
theorem ygq [TbId] (P:AcApart t B) (hd:W.BdW) (hl2:W.a.locals.length≤1000) (hop:W.a.next<W.a.ops.length) (hkd:W.a.op.kind=2) (hg:W.greyOk=true) (H:AcIn g t B b k W p bm bs bt bp bsp bh cm) (r:AcR) (h:W.waiting=some r):
 Calls prog 42 #[zp (some ⟨b,0,none⟩),zp (some ⟨k,0,none⟩)] g.w (Does (resV r.1) g (acT t B) (fun g'=>AcWAt g' t B b k r.2)):=by
 have HH:=zH H;have HP:=zH P;have hPt:=P.ht;have hPb:=P.hb;have hPa:=P.apart;have hgr:W.a.pc=1→W.a.grey≠[]:=fun h=>yeG hg h;go_enter func42,ntmps42;go_upto_region 1 with fail
 obtain ⟨own0,M0,R0⟩:=yam g 40 resZ;unfold resZ at M0 R0;generalize (g.w.alloc (.cells #[zI z6 0,zI z6 0,zI z6 0,zb false,zc z4 0 0] 40))=w0 at *;have M0':=zH M0;have R0':=zH R0;clear M0 R0;have H0:=zH (HH.o.keep0 M0'.o);have M0:=zH (M0'.o.mono (S:=acT t B) zG);have R0:=R0';clear H M0' R0';unfold AcW.waiting at h;by_cases h5:W.a.pc=5
 · rw [if_pos h5] at h
   have HLK:=zH (fun w' (he:Ext w0 w')=>show Calls prog 83 #[zp (some ⟨bsp,0,none⟩),zI z6 W.a.t] w' (AskPost W.lookR own0 w0 w' B bsp bt) from by
    obtain ⟨own',m'⟩: ∃own',Mod (fun _=>False) ⟨own0,w0⟩ ⟨own',w'⟩∧ ∀k,w0.heap.size≤k→own' k=0:=yfW own0 he;exact (yiy W.a.t ⟨own',w'⟩ B bsp bt W.K.sp (H0.o.keep0 m'.1).c.sp P.hb hd.sp).mono (fun e w4 h=>yb6 (r:=W.lookR) m'.1 m'.2 P.hb h))
   obtain ⟨a0,a1,a2,a3,a4,a5,a6,a7,a8,a9,a10,a11,a12,a13,a14,a15,a16,a17,a18,al⟩:=H0.o.a.blk.k19;rw [h5] at a7;obtain ⟨c0,c1,c2,c3,c4,c5,c6,c7,c8,c9,c10,c11,c12,cl⟩:=H0.o.c.blk.k13;have HG:=zH h;clear h h5 hgr hg;go_upto_region 5 with fail
   go_cut [6] (fun s6 wx=> ∃qg gA gC,s6=zp (some ⟨qg,0,none⟩)∧Hid (∃own4,Mod (inst B) ⟨own0,w0⟩ ⟨own4,wx⟩∧Row ⟨own4,wx⟩ 0 3 1 (.slice gA W.lookR.1.2.1.length gC) W.lookR.1.2.1.length (W.lookR.1.2.1.map (zI z6))∧SpaceAt ⟨own4,wx⟩ B bsp bt W.lookR.2∧Blk ⟨own4,wx⟩ 0 qg 143 [zI z6 W.lookR.1.1,.slice gA W.lookR.1.2.1.length gC,zI z6 W.lookR.1.2.2]))
   case first=>
    refine ybl [zT,zT,zT,zT,zT,zT,zT,zT] 1 8 9 ?pk_o ?pk_u ?pk1 ?pk2 ?pk3 ?pk4 ?pk5 ?pk6 ?pk7 ?pk8 ?pk9 ?pk10 ?pk11 ?pk12 ?pk13 ?pk14 ?pk15 ?pk16
    case pk11=>exact rfl
    case pk13=>exact rfl
    case pk1=>kernel_rfl
    case pk2=>kernel_rfl
    case pk3=>kernel_rfl
    case pk4=>(intro c a d v w h;cases d<;>exact h)
    case pk5=>decide
    case pk6=>decide
    case pk7=>decide
    case pk8=>kernel_rfl
    case pk9=>kernel_rfl
    case pk10=>kernel_rfl
    case pk12=>exact rfl
    case pk14=>exact rfl
    case pk15=>decide
    intro X00;simp only [pickOps];repeat (go_big_quiet_step (fail))
    refine wpQuiet_nil ⟨?pkA,?pkB⟩
    case pkA=>
     intro X0 K Q' hK;(try go_simp);refine (HLK.o _ ⟨_,rfl⟩).mono ?_;rintro e w4 ⟨gA,gC,rfl,own4,M4,R4,S4, -, -⟩;(try go_simp);refine hK _ _ ?_;clear hK K Q';refine yag 9 (fun K Q' hK=>?_);(try go_simp);refine hK _ _ ?_;clear hK K Q';refine yag 10 (fun K Q' hK=>?_);(try go_simp);refine hK _ _ ?_;clear hK K Q';refine wpAny_done zQ ?_ _;go_wp2_with fail;go_meet
     obtain ⟨own5,m5,b5⟩:=ydl own4 w4 143 [zI z6 W.lookR.1.1,.slice gA W.lookR.1.2.1.length gC,zI z6 W.lookR.1.2.2];exact ⟨_,gA,gC,rfl,zH ⟨own5,M4.o.trans (m5.mono zG),R4.o.keep m5 id,S4.o.keep m5 zG,b5⟩⟩
    case pkB=>
     intro X0 K Q' hK;go_simp;refine hK _ _ ?_ (fun X2 K2 Q2 hK2=>?_)
     · exact zE
     clear hK K Q';(try go_simp);refine (HLK.o _ zE).mono ?_;rintro e w4 ⟨gA,gC,rfl,own4,M4,R4,S4,O4,H4⟩;obtain ⟨hrow,hq1,hq2⟩:=ydm H4.o;have B4:Blk ⟨own4,w4⟩ 0 (w0.patch X0).heap.size 143 [zI z6 0,.slice none 0 0,zI z6 0]:=⟨hrow,O4.o _ hq1 hq2⟩;generalize (w0.patch X0).heap.size=qg at *;have HB4:=zH B4;clear hrow hq2 H4 O4;obtain ⟨z0,z1,z2,zl⟩:=B4.k3;have zf0:=B4.liv 0;have zf1:=B4.liv 1;have zf2:=B4.liv 2;clear B4;(try go_simp);refine hK2 _ _ ?_;clear hK2 K2 Q2;refine yag 10 (fun K Q' hK=>?_);(try go_simp);refine hK _ _ ?_;clear hK K Q';refine wpAny_done zQ ?_ _;go_wp2_with fail;go_meet
     exact ⟨_,gA,gC,rfl,zH ⟨own4,Mod.stn (Mod.stn (Mod.stn M4.o hq1) hq1) hq1,ycK R4.o HB4.o,yel S4.o HB4.o HP.o.hb,ydk HB4.o _ _ _⟩⟩
   case rest=>
    obtain ⟨qg,gA,gC,rfl,HG4⟩:=hcut;obtain ⟨own4,m4,r4,s4,b4⟩:=HG4.o;obtain ⟨w4,rfl⟩: ∃w4:World,w4=wc:=⟨_,rfl⟩;have H4:=zH (H0.o.spc HP.o m4 s4);have M4:=zH (M0.o.trans (m4.mono (S:=acT t B) (fun x hx=>ybF hx)));have R4:=zH (R0.o.keep m4 (fun h=>by have:=h.1;omega));have G4:=zH r4;have B4:=zH b4;clear m4 r4 s4 b4 HG4 H0 M0 R0 HLK;clear a0 a1 a2 a3 a4 a5 a6 a7 a8 a9 a10 a11 a12 a13 a14 a15 a16 a17 a18 al;clear c0 c1 c2 c3 c4 c5 c6 c7 c8 c9 c10 c11 c12 cl;generalize W.lookR=ar at *;obtain ⟨⟨st,got,at_⟩,S'⟩:=ar;simp only at H4 G4 B4 HG;obtain ⟨z0,z1,z2,zl⟩:=B4.o.k3;by_cases h0:st=0
    · subst h0;have HD:=zH (show r=((W.spc S').withA { W.a with pc:=0 }).no from by have h:=HG.o;rw [if_pos rfl] at h;injection h with h;exact h.symm);clear HG;obtain ⟨a0,a1,a2,a3,a4,a5,a6,a7,a8,a9,a10,a11,a12,a13,a14,a15,a16,a17,a18,al⟩:=H4.o.a.blk.k19;have af7:=H4.o.a.blk.liv 7;go_upto_region 18 with fail
      have m5:Mod (fun x=>x=t) (⟨own4,w4⟩:GW) ⟨own4,w4.setCell ⟨b,7,none⟩ (zI z6 0)⟩:=Mod.st (Mod.refl _ _) H4.o.a.blk.own;have H5:=zH (H4.o.set HP.o 7 (zI z6 0) { W.a with pc:=0 } rfl ⟨rfl,rfl,rfl,rfl,rfl,rfl⟩);have M5:=zH (M4.o.trans (m5.mono (S:=acT t B) (fun x hx=>yaG hx)));have R5:=zH (R4.o.keep m5 zo);clear m5 M4 H4 R4 af7;clear a0 a1 a2 a3 a4 a5 a6 a7 a8 a9 a10 a11 a12 a13 a14 a15 a16 a17 a18 al;generalize w4.setCell ⟨b,7,none⟩ (zI z6 0)=w5 at *;clear z0 z1 z2 zl;obtain ⟨r0,r1,r2,r3,r4,rl⟩:=R5.o.k5;have rf0:=R5.o.liv 0;have rf1:=R5.o.liv 1;have rf2:=R5.o.liv 2;have rf3:=R5.o.liv 3;have rf4:=R5.o.liv 4;go_wp2_with fail;obtain ⟨Mf,mf,Rf⟩:=yae M5.o R5.o (Nat.le_refl _) (0) (0) (0) (false) (0) (0);generalize ((((((w5).setCell ⟨g.w.heap.size,0,none⟩ (zI z6 (0))).setCell ⟨g.w.heap.size,1,none⟩ (zI z6 (0))).setCell ⟨g.w.heap.size,2,none⟩ (zI z6 (0))).setCell ⟨g.w.heap.size,3,none⟩ (zb (false))).setCell ⟨g.w.heap.size,4,none⟩ (zc z4 (0) (0)))=wf at *;obtain ⟨f0,f1,f2,f3,f4,fl⟩:=Rf.k5
      refine bodyPost_ret (v:=.tuple #[.agg #[zI z6 (0),zI z6 (0),zI z6 (0),zb (false),zc z4 (0) (0)],zb false]) (by simp [results,Tryz.results42,go_sem,f0,f1,f2,f3,f4]) rfl ?_;exact Does.of ⟨own4,wf⟩ rfl (by rw [HD.o];rfl) Mf (by rw [HD.o];exact (H5.o.keep mf zo z9 z9).at_)
    by_cases h1:st=1
    · subst h1
      obtain ⟨hto,HD⟩:(W.spc S').takesOk W.a.op got at_=true∧Hid (r=((W.spc S').takes W.a.op got at_).no):=by
       have h:=HG.o;rw [if_neg zd,if_pos rfl] at h;split at h
       · rename_i hc
         injection h with h;exact ⟨hc,zH h.symm⟩
       · cases h
      obtain ⟨A',c',e1,e2,e3, -⟩:=G4.o.form;have e4:gC=c':=by injection e1
      rw [←e4] at e2 e3;clear e1 e4 A' c' HG h0;obtain ⟨i,hi⟩: ∃i:Nat,W.a.next=i:=⟨W.a.next.toNat,by have:=hd.next;omega⟩;have hil:i<W.a.ops.length:=zo;obtain ⟨o,ho⟩: ∃o,W.a.op=o:=⟨_,rfl⟩
      have hoi:W.a.ops[i]?=some o:=by
       rw [←ho];unfold AcS.op;rw [hi,Int.toNat_natCast,List.getD_eq_getElem?_getD,List.getElem?_eq_getElem hil];rfl
      rw [ho] at hto HD hkd;obtain ⟨ok,oa,ob,oc,on,x,y⟩:=o;obtain ⟨q,oo,hA,hq,hcell⟩:=H4.o.a.r.ops.cells.cases (by have:=yai W.a.ops i 0 ⟨ok,oa,ob,oc,on,x,y⟩ _ hoi rfl;have:=(List.getElem?_eq_some_iff.1 this).1;exact Nat.lt_of_le_of_lt (Nat.zero_le _) this);have k0:=hcell (i*6+0) _ (yai W.a.ops i 0 ⟨ok,oa,ob,oc,on,x,y⟩ _ hoi rfl);have k1:=hcell (i*6+1) _ (yai W.a.ops i 1 ⟨ok,oa,ob,oc,on,x,y⟩ _ hoi rfl);have k2:=hcell (i*6+2) _ (yai W.a.ops i 2 ⟨ok,oa,ob,oc,on,x,y⟩ _ hoi rfl);have k3:=hcell (i*6+3) _ (yai W.a.ops i 3 ⟨ok,oa,ob,oc,on,x,y⟩ _ hoi rfl);have k4:=hcell (i*6+4) _ (yai W.a.ops i 4 ⟨ok,oa,ob,oc,on,x,y⟩ _ hoi rfl);have k5:=hcell (i*6+5) _ (yai W.a.ops i 5 ⟨ok,oa,ob,oc,on,x,y⟩ _ hoi rfl);simp only [←Nat.add_assoc,Nat.add_zero] at k0 k1 k2 k3 k4 k5 hq;clear hcell hoi;obtain ⟨a0,a1,a2,a3,a4,a5,a6,a7,a8,a9,a10,a11,a12,a13,a14,a15,a16,a17,a18,al⟩:=H4.o.a.blk.k19;have a1':w4.cell? ⟨b,1,none⟩=some (.slice p.opsA W.a.ops.length p.opsC):=a1;have a6':w4.cell? ⟨b,6,none⟩=some (zI z6 W.a.next):=a6;rw [show p.opsA=some ⟨q,oo,none⟩ from hA] at a1';rw [hi] at a6';clear hA a1 a6 hop ho;have a1:=a1';have a6:=a6';clear a1' a6'
      generalize W.a.ops.length=nl at *;obtain rfl:ok=2:=hkd
      · have HTK:=zH (fun X=>yc1 (g:=(⟨own4,w4⟩:GW).pt X) HP.o (H4.o.pt X) oa ob oc on x y got gA gC 1 at_ (G4.o.keep (Mod.pt (Mod.refl (fun _=>False) _) _) id).seg ⟨e2,e3⟩ hto);go_upto_region 11 with fail
        refine yat [] [zT,zT,zT,zT,zT,zT,zT,zT,zT,zT,zT,zT,zT] 13 1 ?_;intro X00;simp only [pickOps,movesAct,moveOf,List.getElem?_toArray,List.getElem?_cons_zero,List.getElem?_cons_succ];(try go_simp);repeat (go_big_quiet_step (fail))
        refine wpQuiet_nil (fun X0 K Q' hK=>?_);clear X00;(try go_simp);refine (HTK.o _).mono ?_;rintro e w5 ⟨rfl,own5,m5,p5,h5⟩;have P5:=(Mod.pt (Mod.refl _ _) _).trans m5;have M5:=zH (M4.o.trans (P5.mono (S:=acT t B) (fun x hx=>yaG hx)));have R5:=zH (R4.o.keep P5 zo);have H5:=zH h5;clear P5 m5 h5 HTK k0 k1 k2 k3 k4 k5 hq z0 z1 z2 zl H4 M4 R4 e2 e3 hto;clear a0 a1 a2 a3 a4 a5 a6 a7 a8 a9 a10 a11 a12 a13 a14 a15 a16 a17 a18 al;(try go_simp);refine hK _ _ ?_;clear hK K Q';refine yad (v:=zb false) 14 ?_;(try go_simp);refine wpAny_done zQ ?_ _;go_upto_region 18 with fail
        obtain ⟨r0,r1,r2,r3,r4,rl⟩:=R5.o.k5;have rf0:=R5.o.liv 0;have rf1:=R5.o.liv 1;have rf2:=R5.o.liv 2;have rf3:=R5.o.liv 3;have rf4:=R5.o.liv 4;go_wp2_with fail;obtain ⟨Mf,mf,Rf⟩:=yae M5.o R5.o (Nat.le_refl _) (0) (0) (0) (false) (0) (0);generalize ((((((w5).setCell ⟨g.w.heap.size,0,none⟩ (zI z6 (0))).setCell ⟨g.w.heap.size,1,none⟩ (zI z6 (0))).setCell ⟨g.w.heap.size,2,none⟩ (zI z6 (0))).setCell ⟨g.w.heap.size,3,none⟩ (zb (false))).setCell ⟨g.w.heap.size,4,none⟩ (zc z4 (0) (0)))=wf at *;obtain ⟨f0,f1,f2,f3,f4,fl⟩:=Rf.k5;refine bodyPost_ret (v:=.tuple #[.agg #[zI z6 (0),zI z6 (0),zI z6 (0),zb (false),zc z4 (0) (0)],zb false]) (by simp [results,Tryz.results42,go_sem,f0,f1,f2,f3,f4]) rfl ?_;exact Does.of ⟨own5,wf⟩ rfl (by rw [HD.o];rfl) Mf (by rw [HD.o];exact (H5.o.keep mf zo z9 z9).at_)
    by_cases h2:st=2
    · subst h2;have HD:=zH (show r=(W.spc S').fails 6 from by have h:=HG.o;rw [if_neg zd,if_neg zd,if_pos rfl] at h;injection h with h;exact h.symm);obtain ⟨rs,hr⟩: ∃rs,(W.spc S').a.res LVal.zero 6=rs:=⟨_,rfl⟩;have HRr:=zH hr;have HFL:=zH (show Calls prog 85 #[zp (some ⟨b,0,none⟩),zI z6 6] w4 (Does (.tuple #[.agg #[zI z6 rs.op,zI z6 rs.own,zI z6 rs.e,zb rs.v.ref,zc z4 rs.v.z.1 rs.v.z.2],zb true]) ⟨own4,w4⟩ (acO t) (fun g'=>AcAt g' t b _ p)) from ya6 ⟨own4,w4⟩ t b _ p 6 rs hPt H4.o.a hd.next hr);clear hr HG h0 h1;obtain ⟨a0,a1,a2,a3,a4,a5,a6,a7,a8,a9,a10,a11,a12,a13,a14,a15,a16,a17,a18,al⟩:=H4.o.a.blk.k19;go_wp2_with fail;refine HFL.o.mono ?_;rintro e w5 ⟨rfl,own5,m5,h5⟩;have M5:=zH (M4.o.trans (m5.mono (S:=acT t B) (fun x hx=>yay hx)));have H5:=zH (H4.o.own HP.o m5 h5);have R5:=zH (R4.o.keep m5 (fun h=>by unfold acO at h;omega));clear M4 H4 R4 m5 h5 HFL z0 z1 z2 zl;clear a0 a1 a2 a3 a4 a5 a6 a7 a8 a9 a10 a11 a12 a13 a14 a15 a16 a17 a18 al;obtain ⟨r0,r1,r2,r3,r4,rl⟩:=R5.o.k5;have rf0:=R5.o.liv 0;have rf1:=R5.o.liv 1;have rf2:=R5.o.liv 2;have rf3:=R5.o.liv 3;have rf4:=R5.o.liv 4;go_wp2_with fail
      obtain ⟨Mf,mf,Rf⟩:=yae M5.o R5.o (Nat.le_refl _) (rs.op) (rs.own) (rs.e) (rs.v.ref) (rs.v.z.1) (rs.v.z.2);generalize ((((((w5).setCell ⟨g.w.heap.size,0,none⟩ (zI z6 (rs.op))).setCell ⟨g.w.heap.size,1,none⟩ (zI z6 (rs.own))).setCell ⟨g.w.heap.size,2,none⟩ (zI z6 (rs.e))).setCell ⟨g.w.heap.size,3,none⟩ (zb (rs.v.ref))).setCell ⟨g.w.heap.size,4,none⟩ (zc z4 (rs.v.z.1) (rs.v.z.2)))=wf at *;obtain ⟨f0,f1,f2,f3,f4,fl⟩:=Rf.k5;refine bodyPost_ret (v:=.tuple #[.agg #[zI z6 (rs.op),zI z6 (rs.own),zI z6 (rs.e),zb (rs.v.ref),zc z4 (rs.v.z.1) (rs.v.z.2)],zb true]) (by simp [results,Tryz.results42,go_sem,f0,f1,f2,f3,f4]) rfl ?_;exact Does.of ⟨own5,wf⟩ rfl (by rw [HD.o, ←HRr.o];rfl) Mf (by rw [HD.o];exact (H5.o.keep mf zo z9 z9).at_)
    · have h:=HG.o;rw [if_neg h0,if_neg h1,if_neg h2] at h;cases h
 rw [if_neg h5] at h;have hz5:(W.a.pc==5)=false:=beq_eq_false_iff_ne.2 h5;by_cases h0:W.a.pc=0
 · rw [if_pos h0] at h;injection h with h;have HK:=zH (yet (g:=⟨own0,w0⟩) P hd.hand hl2 H0.o.at_);obtain ⟨a0,a1,a2,a3,a4,a5,a6,a7,a8,a9,a10,a11,a12,a13,a14,a15,a16,a17,a18,al⟩:=H0.o.a.blk.k19;rw [h0] at a7;clear h5 h0 hgr hg hz5;go_wp2_with fail;refine HK.o.mono ?_;rintro e w1 ⟨rfl,own1,m1,h1⟩;obtain ⟨p1,bm1,bs1,bt1,bp1,bsp1,bh1,cm1,h1⟩:=h1;have M1:=zH (M0.o.trans m1);have H1:=zH h1;have R1:=zH (R0.o.keep m1 (fun h=>by unfold acT at h;omega));clear m1 h1 HK H0 M0 R0;clear a0 a1 a2 a3 a4 a5 a6 a7 a8 a9 a10 a11 a12 a13 a14 a15 a16 a17 a18 al;cases hl:W.looksB
   · have HD:=zH (show r=W.looks.no from by rw [←h,hl];rfl);clear hl h;go_upto_region 18 with fail
     obtain ⟨r0,r1,r2,r3,r4,rl⟩:=R1.o.k5;have rf0:=R1.o.liv 0;have rf1:=R1.o.liv 1;have rf2:=R1.o.liv 2;have rf3:=R1.o.liv 3;have rf4:=R1.o.liv 4;go_wp2_with fail;obtain ⟨Mf,mf,Rf⟩:=yae M1.o R1.o (Nat.le_refl _) (0) (0) (0) (false) (0) (0);generalize ((((((w1).setCell ⟨g.w.heap.size,0,none⟩ (zI z6 (0))).setCell ⟨g.w.heap.size,1,none⟩ (zI z6 (0))).setCell ⟨g.w.heap.size,2,none⟩ (zI z6 (0))).setCell ⟨g.w.heap.size,3,none⟩ (zb (false))).setCell ⟨g.w.heap.size,4,none⟩ (zc z4 (0) (0)))=wf at *;obtain ⟨f0,f1,f2,f3,f4,fl⟩:=Rf.k5;refine bodyPost_ret (v:=.tuple #[.agg #[zI z6 (0),zI z6 (0),zI z6 (0),zb (false),zc z4 (0) (0)],zb false]) (by simp [results,Tryz.results42,go_sem,f0,f1,f2,f3,f4]) rfl ?_;exact Does.of ⟨own1,wf⟩ rfl (by rw [HD.o];rfl) Mf (by rw [HD.o];exact (H1.o.keep mf zo z9 z9).at_)
   · have HD:=zH (show r=(W.looks.withA { W.looks.a with pc:=5 }).no from by
      rw [←h,hl,show W.looks=W.tickH from by unfold AcW.looks;rw [hl];rfl];rfl)
     clear hl h;obtain ⟨a0,a1,a2,a3,a4,a5,a6,a7,a8,a9,a10,a11,a12,a13,a14,a15,a16,a17,a18,al⟩:=H1.o.a.blk.k19;have af7:=H1.o.a.blk.liv 7;go_upto_region 18 with fail
     have m2:Mod (fun x=>x=t) (⟨own1,w1⟩:GW) ⟨own1,w1.setCell ⟨b,7,none⟩ (zI z6 5)⟩:=Mod.st (Mod.refl _ _) H1.o.a.blk.own;have H2:=zH (H1.o.set HP.o 7 (zI z6 5) { W.looks.a with pc:=5 } rfl ⟨rfl,rfl,rfl,rfl,rfl,rfl⟩);have M2:=zH (M1.o.trans (m2.mono (S:=acT t B) (fun x hx=>yaG hx)));have R2:=zH (R1.o.keep m2 zo);clear m2 M1 H1 R1 af7;clear a0 a1 a2 a3 a4 a5 a6 a7 a8 a9 a10 a11 a12 a13 a14 a15 a16 a17 a18 al;generalize w1.setCell ⟨b,7,none⟩ (zI z6 5)=w2 at *;obtain ⟨r0,r1,r2,r3,r4,rl⟩:=R2.o.k5;have rf0:=R2.o.liv 0;have rf1:=R2.o.liv 1;have rf2:=R2.o.liv 2;have rf3:=R2.o.liv 3;have rf4:=R2.o.liv 4;go_wp2_with fail;obtain ⟨Mf,mf,Rf⟩:=yae M2.o R2.o (Nat.le_refl _) (0) (0) (0) (false) (0) (0);generalize ((((((w2).setCell ⟨g.w.heap.size,0,none⟩ (zI z6 (0))).setCell ⟨g.w.heap.size,1,none⟩ (zI z6 (0))).setCell ⟨g.w.heap.size,2,none⟩ (zI z6 (0))).setCell ⟨g.w.heap.size,3,none⟩ (zb (false))).setCell ⟨g.w.heap.size,4,none⟩ (zc z4 (0) (0)))=wf at *;obtain ⟨f0,f1,f2,f3,f4,fl⟩:=Rf.k5
     refine bodyPost_ret (v:=.tuple #[.agg #[zI z6 (0),zI z6 (0),zI z6 (0),zb (false),zc z4 (0) (0)],zb false]) (by simp [results,Tryz.results42,go_sem,f0,f1,f2,f3,f4]) rfl ?_;exact Does.of ⟨own1,wf⟩ rfl (by rw [HD.o];rfl) Mf (by rw [HD.o];exact (H2.o.keep mf zo z9 z9).at_)
 rw [if_neg h0] at h;split at h
 case isFalse=>cases h
 case isTrue h12=>
  injection h with h;have HK:=zH (ycZ (g:=⟨own0,w0⟩) P hd.hand hd.n hgr H0.o.at_);obtain ⟨a0,a1,a2,a3,a4,a5,a6,a7,a8,a9,a10,a11,a12,a13,a14,a15,a16,a17,a18,al⟩:=H0.o.a.blk.k19;have hz0:(W.a.pc==0)=false:=beq_eq_false_iff_ne.2 h0;clear h5 h0 hgr hg h12;go_wp2_with fail;refine HK.o.mono ?_;rintro e w1 ⟨rfl,own1,m1,h1⟩;obtain ⟨p1,bm1,bs1,bt1,bp1,bsp1,bh1,cm1,h1⟩:=h1;have M1:=zH (M0.o.trans m1);have H1:=zH h1;have R1:=zH (R0.o.keep m1 (fun h=>by unfold acT at h;omega));clear m1 h1 HK H0 M0 R0;clear a0 a1 a2 a3 a4 a5 a6 a7 a8 a9 a10 a11 a12 a13 a14 a15 a16 a17 a18 al;cases hl:W.answersB
  · have HD:=zH (show r=W.answers.no from by rw [←h,hl];rfl);clear hl h;go_upto_region 18 with fail
    obtain ⟨r0,r1,r2,r3,r4,rl⟩:=R1.o.k5;have rf0:=R1.o.liv 0;have rf1:=R1.o.liv 1;have rf2:=R1.o.liv 2;have rf3:=R1.o.liv 3;have rf4:=R1.o.liv 4;go_wp2_with fail;obtain ⟨Mf,mf,Rf⟩:=yae M1.o R1.o (Nat.le_refl _) (0) (0) (0) (false) (0) (0);generalize ((((((w1).setCell ⟨g.w.heap.size,0,none⟩ (zI z6 (0))).setCell ⟨g.w.heap.size,1,none⟩ (zI z6 (0))).setCell ⟨g.w.heap.size,2,none⟩ (zI z6 (0))).setCell ⟨g.w.heap.size,3,none⟩ (zb (false))).setCell ⟨g.w.heap.size,4,none⟩ (zc z4 (0) (0)))=wf at *;obtain ⟨f0,f1,f2,f3,f4,fl⟩:=Rf.k5;refine bodyPost_ret (v:=.tuple #[.agg #[zI z6 (0),zI z6 (0),zI z6 (0),zb (false),zc z4 (0) (0)],zb false]) (by simp [results,Tryz.results42,go_sem,f0,f1,f2,f3,f4]) rfl ?_;exact Does.of ⟨own1,wf⟩ rfl (by rw [HD.o];rfl) Mf (by rw [HD.o];exact (H1.o.keep mf zo z9 z9).at_)
  · have HD:=zH (show r=(W.answers.withA { W.answers.a with pc:=5 }).no from by rw [←h,hl];rfl);clear hl h;obtain ⟨a0,a1,a2,a3,a4,a5,a6,a7,a8,a9,a10,a11,a12,a13,a14,a15,a16,a17,a18,al⟩:=H1.o.a.blk.k19;have af7:=H1.o.a.blk.liv 7;go_upto_region 18 with fail
    have m2:Mod (fun x=>x=t) (⟨own1,w1⟩:GW) ⟨own1,w1.setCell ⟨b,7,none⟩ (zI z6 5)⟩:=Mod.st (Mod.refl _ _) H1.o.a.blk.own;have H2:=zH (H1.o.set HP.o 7 (zI z6 5) { W.answers.a with pc:=5 } rfl ⟨rfl,rfl,rfl,rfl,rfl,rfl⟩);have M2:=zH (M1.o.trans (m2.mono (S:=acT t B) (fun x hx=>yaG hx)));have R2:=zH (R1.o.keep m2 zo);clear m2 M1 H1 R1 af7;clear a0 a1 a2 a3 a4 a5 a6 a7 a8 a9 a10 a11 a12 a13 a14 a15 a16 a17 a18 al;generalize w1.setCell ⟨b,7,none⟩ (zI z6 5)=w2 at *;obtain ⟨r0,r1,r2,r3,r4,rl⟩:=R2.o.k5;have rf0:=R2.o.liv 0;have rf1:=R2.o.liv 1;have rf2:=R2.o.liv 2;have rf3:=R2.o.liv 3;have rf4:=R2.o.liv 4;go_wp2_with fail;obtain ⟨Mf,mf,Rf⟩:=yae M2.o R2.o (Nat.le_refl _) (0) (0) (0) (false) (0) (0);generalize ((((((w2).setCell ⟨g.w.heap.size,0,none⟩ (zI z6 (0))).setCell ⟨g.w.heap.size,1,none⟩ (zI z6 (0))).setCell ⟨g.w.heap.size,2,none⟩ (zI z6 (0))).setCell ⟨g.w.heap.size,3,none⟩ (zb (false))).setCell ⟨g.w.heap.size,4,none⟩ (zc z4 (0) (0)))=wf at *;obtain ⟨f0,f1,f2,f3,f4,fl⟩:=Rf.k5
    refine bodyPost_ret (v:=.tuple #[.agg #[zI z6 (0),zI z6 (0),zI z6 (0),zb (false),zc z4 (0) (0)],zb false]) (by simp [results,Tryz.results42,go_sem,f0,f1,f2,f3,f4]) rfl ?_;exact Does.of ⟨own1,wf⟩ rfl (by rw [HD.o];rfl) Mf (by rw [HD.o];exact (H2.o.keep mf zo z9 z9).at_)
end
end Go.Proofs.YtdhjjpnajjingaaGreat
namespace Go.Proofs.YtdhjjpnajjingaaGreat
open Go Go.RowKit
section
variable {g:GW} {t b B k:Nat} {W:AcW} {p:AcP} {bm bs bt bp bsp bh:Nat} {cm:Cnf}
theorem yft [TbId] (P:AcApart t B) (hnx:0≤W.a.next∧W.a.next≤1099511627776) (H:AcIn g t B b k W p bm bs bt bp bsp bh cm) (hck:W.K.c.check=0) (oa ob oc on:Int) (x y:Nat) (ho:opOk W.K.c ⟨2,oa,ob,oc,on,x,y⟩=true) (hsp:0≤W.K.sp.count∧W.K.sp.count≤1099511627776) (hln:W.K.sp.line.length<1000000) (r:AcR) (hok:W.asksO ⟨2,oa,ob,oc,on,x,y⟩=some r):
 Calls prog 75 #[zp (some ⟨b,0,none⟩),zp (some ⟨k,0,none⟩),.agg #[zI z6 2,zI z6 oa,zI z6 ob,zI z6 oc,zI z6 on,zc z4 x y]] g.w (Does (resV r.1) g (acT t B) (fun g'=>AcWAt g' t B b k r.2)):=by
 have HH:=zH H;have HP:=zH P;have hPt:=P.ht;have hPb:=P.hb;have hPa:=P.apart;go_enter func75,ntmps75;go_upto_region 1 with fail
 obtain ⟨own0,m0,Q0,R0⟩:=yaq g 26 40 [zI z6 2,zI z6 oa,zI z6 ob,zI z6 oc,zI z6 on,zc z4 x y] resZ;unfold resZ at m0 R0 Q0;generalize (g.w.alloc (.cells #[zI z6 2,zI z6 oa,zI z6 ob,zI z6 oc,zI z6 on,zc z4 x y] 26)).alloc (.cells #[zI z6 0,zI z6 0,zI z6 0,zb false,zc z4 0 0] 40)=w0 at *;have H0:=zH (HH.o.keep0 m0);have M0:=zH (m0.mono (S:=acT t B) zG);have Q0':=zH Q0;have R0':=zH R0;have HCK:=zH (fun X=>(show Calls prog 133 #[cm.val,.agg #[zI z6 2,zI z6 oa,zI z6 ob,zI z6 oc,zI z6 on,zc z4 x y]] (w0.patch X) (Gives (zI z6 0) (w0.patch X)) from yhh cm oa ob oc on x y (w0.patch X) (H0.o.c.cnf.ok.ext ⟨X,rfl⟩) (by rw [HH.o.c.same.check];exact hck) (by rw [yaM HH.o.c.same];exact ho)));unfold Cnf.val at HCK;obtain ⟨c0,c1,c2,c3,c4,c5,c6,c7,c8,c9,c10,c11,c12,cl⟩:=H0.o.c.blk.k13;obtain ⟨x0,x1,x2,x3,x4,x5,xl⟩:=Q0.k6;clear m0 Q0 R0 H;refine yab [zT,zT,zT,zT,zT,zT,zT] 0 7 ?_;intro X00;simp only [pickOps];repeat (go_big_quiet_step ((go_at_call 133;exact Calls.added (HCK.o _))))
 refine wpQuiet_nil (fun X0=>?_);clear X00;refine yaa zQ (fun X0'=>?_) _;(try go_simp);obtain ⟨own1,m1⟩: ∃ownZ,Mod (fun _=>False) (⟨own0,w0⟩:GW) ⟨ownZ,w0.patch ⟨X0.blocks++X0'.blocks,X0'.drawn⟩⟩:=⟨_,Mod.pt (g:=⟨own0,w0⟩) (Mod.refl _ _) _⟩;have M1:=zH (M0.o.trans (m1.mono (S:=acT t B) zG));have H1:=zH (H0.o.keep0 m1);have Q1:=zH (Q0'.o.keep m1 id);have R1:=zH (R0'.o.keep m1 id);generalize w0.patch ⟨X0.blocks++X0'.blocks,X0'.drawn⟩=w1 at *;clear m1 M0 H0 Q0' R0' HCK;clear x0 x1 x2 x3 x4 x5 xl;clear c0 c1 c2 c3 c4 c5 c6 c7 c8 c9 c10 c11 c12 cl;obtain ⟨x0,x1,x2,x3,x4,x5,xl⟩:=Q1.o.k6;have HOP:=zH (show Calls prog 134 #[zp (some ⟨b,0,none⟩),.agg #[zI z6 2,zI z6 oa,zI z6 ob,zI z6 oc,zI z6 on,zc z4 x y]] w1 (Gives (zI z6 0) w1) from yih ⟨own1,w1⟩ t b W.a p H1.o.a oa ob oc on x y);go_wp2_with fail;refine HOP.o.mono ?_;rintro e w2 ⟨rfl,hE⟩
 obtain ⟨own2,m2⟩: ∃ownZ,Mod (fun _=>False) (⟨own1,w1⟩:GW) ⟨ownZ,w2⟩:=by
  obtain ⟨X2,rfl⟩:=hE;exact ⟨((⟨own1,w1⟩:GW).pt X2).own,(show Mod (fun _=>False) (⟨own1,w1⟩:GW) ((⟨own1,w1⟩:GW).pt X2) from Mod.pt (Mod.refl _ _) _)⟩
 clear hE;have M2:=zH (M1.o.trans (m2.mono (S:=acT t B) zG));have H2:=zH (H1.o.keep0 m2);have Q2:=zH (Q1.o.keep m2 id);have R2:=zH (R1.o.keep m2 id);clear m2 M1 H1 Q1 R1;clear HOP;clear x0 x1 x2 x3 x4 x5 xl;have HPL:=zH (show Calls prog 135 #[zp (some ⟨b,0,none⟩),.agg #[zI z6 2,zI z6 oa,zI z6 ob,zI z6 oc,zI z6 on,zc z4 x y]] w2 (Gives (.tuple #[.agg #[zb false,zc z4 (0) (0)],zb false]) w2) from ylG ⟨own2,w2⟩ t b W.a p H2.o.a oa ob oc on x y);obtain ⟨x0,x1,x2,x3,x4,x5,xl⟩:=Q2.o.k6;go_wp2_with fail;refine HPL.o.mono ?_;rintro e w3 ⟨rfl,hE⟩
 obtain ⟨own3,m3⟩: ∃ownZ,Mod (fun _=>False) (⟨own2,w2⟩:GW) ⟨ownZ,w3⟩:=by
  obtain ⟨X2,rfl⟩:=hE;exact ⟨((⟨own2,w2⟩:GW).pt X2).own,(show Mod (fun _=>False) (⟨own2,w2⟩:GW) ((⟨own2,w2⟩:GW).pt X2) from Mod.pt (Mod.refl _ _) _)⟩
 clear hE;have M3:=zH (M2.o.trans (m3.mono (S:=acT t B) zG));have H3:=zH (H2.o.keep0 m3);have Q3:=zH (Q2.o.keep m3 id);have R3:=zH (R2.o.keep m3 id);clear m3 M2 H2 Q2 R2;clear HPL;clear x0 x1 x2 x3 x4 x5 xl;obtain ⟨x0,x1,x2,x3,x4,x5,xl⟩:=Q3.o.k6;go_upto_region 9 with fail
 obtain ⟨own4,m4,V4⟩:=yam ⟨own3,w3⟩ 38 [zb false,zc z4 (0) (0)];have m4':Mod (fun _=>False) (⟨own3,w3⟩:GW) ⟨own4,w3.alloc (.cells #[zb false,zc z4 (0) (0)] 38)⟩:=m4;have V4':Blk ⟨own4,w3.alloc (.cells #[zb false,zc z4 (0) (0)] 38)⟩ 9 w3.heap.size 38 [zb false,zc z4 (0) (0)]:=V4;clear m4 V4;generalize w3.alloc (.cells #[zb false,zc z4 (0) (0)] 38)=w4 at *;have m4:=m4';clear m4';generalize w3.heap.size=qv at *;have M4:=zH (M3.o.trans (m4.mono (S:=acT t B) zG));have H4:=zH (H3.o.keep0 m4);have Q4:=zH (Q3.o.keep m4 id);have R4:=zH (R3.o.keep m4 id);clear m4 M3 H3 Q3 R3;clear x0 x1 x2 x3 x4 x5 xl;obtain ⟨x0,x1,x2,x3,x4,x5,xl⟩:=Q4.o.k6;clear V4';obtain ⟨⟨rr,rb⟩,rW⟩:=r
 have HAK:=zH (show Calls prog 137 #[zp (some ⟨b,0,none⟩),zp (some ⟨k,0,none⟩),.agg #[zI z6 2,zI z6 oa,zI z6 ob,zI z6 oc,zI z6 on,zc z4 x y]] w4 (Does (.tuple #[.agg #[zI z6 rr.op,zI z6 rr.own,zI z6 rr.e,zb rr.v.ref,zc z4 rr.v.z.1 rr.v.z.2],zb rb]) ⟨own4,w4⟩ (acT t B) (fun g'=>AcWAt g' t B b k rW)) from yhl (g:=⟨own4,w4⟩) P H4.o oa ob oc on x y ho hck hsp hln ((rr,rb),rW) hok);go_wp2_with fail;refine HAK.o.mono ?_;rintro e w5 ⟨rfl,own5,m5,h5⟩;have M5:=zH (M4.o.trans m5);have H5:=zH h5;have R5:=zH (R4.o.keep m5 (fun h=>by unfold acT at h;omega));clear M4 H4 R4 m5 h5 HAK;clear x0 x1 x2 x3 x4 x5 xl;obtain ⟨r0,r1,r2,r3,r4,rl⟩:=R5.o.k5;have rf0:=R5.o.liv 0;have rf1:=R5.o.liv 1;have rf2:=R5.o.liv 2;have rf3:=R5.o.liv 3;have rf4:=R5.o.liv 4;go_wp2_with fail;obtain ⟨Mf,mf,Rf⟩:=yae M5.o R5.o (Nat.le_succ _) (rr.op) (rr.own) (rr.e) (rr.v.ref) (rr.v.z.1) (rr.v.z.2)
 generalize ((((((w5).setCell ⟨g.w.heap.size+1,0,none⟩ (zI z6 (rr.op))).setCell ⟨g.w.heap.size+1,1,none⟩ (zI z6 (rr.own))).setCell ⟨g.w.heap.size+1,2,none⟩ (zI z6 (rr.e))).setCell ⟨g.w.heap.size+1,3,none⟩ (zb (rr.v.ref))).setCell ⟨g.w.heap.size+1,4,none⟩ (zc z4 (rr.v.z.1) (rr.v.z.2)))=wf at *;obtain ⟨f0,f1,f2,f3,f4,fl⟩:=Rf.k5;refine bodyPost_ret (v:=.tuple #[.agg #[zI z6 (rr.op),zI z6 (rr.own),zI z6 (rr.e),zb (rr.v.ref),zc z4 (rr.v.z.1) (rr.v.z.2)],zb rb]) (by simp [results,Tryz.results75,go_sem,f0,f1,f2,f3,f4]) rfl ?_;obtain ⟨p5,bm5,bs5,bt5,bp5,bsp5,bh5,cm5,H6⟩:=H5.o;exact Does.of ⟨own5,wf⟩ rfl rfl Mf ((H6.keep mf zo z9 z9).at_)
def AcW.okA (W:AcW):Bool:=W.a.op.kind==2&&((W.a.at_==0 || (W.a.at_==7 || W.a.at_==8))&&((W.a.at_ !=8 || inL W.K.c W.a.op.a)&&(W.a.at_ !=7 || W.wrOk)))
theorem yfx [TbId] (P:AcApart t B) (hd:W.BdW) (hck:W.K.c.check=0) (hl:(W.a.locals.length:Int)=W.K.c.locals) (hop:W.a.next<W.a.ops.length) (hw:W.okA=true) (H:AcIn g t B b k W p bm bs bt bp bsp bh cm) (r:AcR) (h:W.within=some r):
 Calls prog 41 #[zp (some ⟨b,0,none⟩),zp (some ⟨k,0,none⟩)] g.w (Does (resV r.1) g (acT t B) (fun g'=>AcWAt g' t B b k r.2)):=by
 have HH:=zH H;have HP:=zH P;have hPt:=P.ht;have hPb:=P.hb;have hPa:=P.apart;obtain ⟨i,hi⟩: ∃i:Nat,W.a.next=i:=⟨W.a.next.toNat,by have:=hd.next;omega⟩;have hil:i<W.a.ops.length:=zo;obtain ⟨o,ho⟩: ∃o,W.a.op=o:=⟨_,rfl⟩
 have hoi:W.a.ops[i]?=some o:=by
  rw [←ho];unfold AcS.op;rw [hi,Int.toNat_natCast,List.getD_eq_getElem?_getD,List.getElem?_eq_getElem hil];rfl
 obtain ⟨ok,oa,ob,oc,on,x,y⟩:=o;go_enter func41,ntmps41;go_upto_region 1 with fail
 obtain ⟨own0,m0,R0⟩:=yam g 40 resZ;unfold resZ at m0 R0;generalize (g.w.alloc (.cells #[zI z6 0,zI z6 0,zI z6 0,zb false,zc z4 0 0] 40))=w0 at *;have H0:=zH (HH.o.keep0 m0);have M0:=zH (m0.mono (S:=acT t B) zG);have R0':=zH R0;clear m0 R0;obtain ⟨q,oo,hA,hq,hcell⟩:=H0.o.a.r.ops.cells.cases (by have:=yai W.a.ops i 0 ⟨ok,oa,ob,oc,on,x,y⟩ _ hoi rfl;have:=(List.getElem?_eq_some_iff.1 this).1;omega);have k0:=hcell (i*6+0) _ (yai W.a.ops i 0 ⟨ok,oa,ob,oc,on,x,y⟩ _ hoi rfl);have k1:=hcell (i*6+1) _ (yai W.a.ops i 1 ⟨ok,oa,ob,oc,on,x,y⟩ _ hoi rfl);have k2:=hcell (i*6+2) _ (yai W.a.ops i 2 ⟨ok,oa,ob,oc,on,x,y⟩ _ hoi rfl);have k3:=hcell (i*6+3) _ (yai W.a.ops i 3 ⟨ok,oa,ob,oc,on,x,y⟩ _ hoi rfl);have k4:=hcell (i*6+4) _ (yai W.a.ops i 4 ⟨ok,oa,ob,oc,on,x,y⟩ _ hoi rfl);have k5:=hcell (i*6+5) _ (yai W.a.ops i 5 ⟨ok,oa,ob,oc,on,x,y⟩ _ hoi rfl);simp only [←Nat.add_assoc,Nat.add_zero] at k0 k1 k2 k3 k4 k5 hq;clear hcell hoi;obtain ⟨a0,a1,a2,a3,a4,a5,a6,a7,a8,a9,a10,a11,a12,a13,a14,a15,a16,a17,a18,al⟩:=H0.o.a.blk.k19;rw [hA] at a1;rw [hi] at a6;clear hA H;generalize W.a.ops.length=nl at *
 refine yab [zT,zT,zT,zT,zT,zT,zT,zT,zT,zT,zU,zU] 2 11 ?_;intro X00;simp only [pickOps];repeat (go_big_quiet_step (fail))
 refine wpQuiet_nil (fun X0=>?_);clear X00;refine yah 10 _ zQ rfl rfl zd (fun X1 K Q' hK=>?_);go_simp;refine hK _ _ ?_ ?_
 · exact zE
 clear hK K Q';refine yaf rfl zQ (fun X2=>?_);simp only [List.drop_succ_cons,List.drop_zero];go_upto_region 2 with fail
 obtain ⟨own1,m1,N1,hN⟩:=yeh own0 w0 ⟨X0.blocks++X1.blocks,X1.drawn⟩ X2 26 [zI z6 ok,zI z6 oa,zI z6 ob,zI z6 oc,zI z6 on,zc z4 x y];have M1:=zH (M0.o.trans (m1.mono (S:=acT t B) zG));have H1:=zH (H0.o.keep0 m1);have R1:=zH (R0'.o.keep m1 id);clear k0 k1 k2 k3 k4 k5 hq a0 a1 a2 a3 a4 a5 a6 a7 a8 a9 a10 a11 a12 a13 a14 a15 a16 a17 a18 al m1 M0 H0 R0' hN;generalize ((w0.patch ⟨X0.blocks++X1.blocks,X1.drawn⟩).alloc (.cells #[zI z6 ok,zI z6 oa,zI z6 ob,zI z6 oc,zI z6 on,zc z4 x y] 26)).patch X2=w1 at *;generalize (w0.patch ⟨X0.blocks++X1.blocks,X1.drawn⟩).heap.size=qn at *;clear X0 X1 X2;obtain ⟨x0,x1,x2,x3,x4,x5,xl⟩:=N1.k6;clear N1;unfold AcW.okA at hw;rw [ho] at hw;simp only [Bool.and_eq_true,Bool.or_eq_true,bne_iff_ne,ne_eq,beq_iff_eq] at hw;obtain ⟨rfl,hwa,hw8,hw7⟩:=hw;obtain ⟨⟨rr,rb⟩,rW⟩:=r;unfold AcW.within at h;rw [ho] at h;have hnx:=hd.next;by_cases h0:W.a.at_=0
 · rw [if_pos h0] at h
   have hoo:opOk W.K.c ⟨2,oa,ob,oc,on,x,y⟩=true:=by
    cases ho:opOk W.K.c ⟨2,oa,ob,oc,on,x,y⟩
    · unfold AcW.starts at h;rw [if_pos ho] at h;cases h
    · rfl
   unfold AcW.starts at h;rw [if_neg (by rw [hoo];simp),if_neg (show¬(W.a.operandsE ⟨2,oa,ob,oc,on,x,y⟩≠0) from fun h=>h rfl)] at h;have HCL:=zH (show Calls prog 75 #[zp (some ⟨b,0,none⟩),zp (some ⟨k,0,none⟩),.agg #[zI z6 2,zI z6 oa,zI z6 ob,zI z6 oc,zI z6 on,zc z4 x y]] w1 (Does (.tuple #[.agg #[zI z6 rr.op,zI z6 rr.own,zI z6 rr.e,zb rr.v.ref,zc z4 rr.v.z.1 rr.v.z.2],zb rb]) ⟨own1,w1⟩ (acT t B) (fun g'=>AcWAt g' t B b k rW)) from yft (g:=⟨own1,w1⟩) P hd.next H1.o hck oa ob oc on x y hoo hd.sp hd.line ((rr,rb),rW) h);obtain ⟨a0,a1,a2,a3,a4,a5,a6,a7,a8,a9,a10,a11,a12,a13,a14,a15,a16,a17,a18,al⟩:=H1.o.a.blk.k19;rw [h0] at a11;clear h hw7 hw8 hwa h0 hoo;go_wp2_with fail;refine HCL.o.mono ?_;rintro e w7 ⟨rfl,own7,m7,h7⟩;have M7:=zH (M1.o.trans m7);have H7:=zH h7;have R7:=zH (R1.o.keep m7 (fun h=>by unfold acT at h;omega));clear M1 H1 R1 m7 h7 HCL;obtain ⟨r0,r1,r2,r3,r4,rl⟩:=R7.o.k5;have rf0:=R7.o.liv 0;have rf1:=R7.o.liv 1;have rf2:=R7.o.liv 2;have rf3:=R7.o.liv 3;have rf4:=R7.o.liv 4;go_wp2_with fail
   obtain ⟨Mf,mf,Rf⟩:=yae M7.o R7.o (Nat.le_refl _) (rr.op) (rr.own) (rr.e) (rr.v.ref) (rr.v.z.1) (rr.v.z.2);generalize ((((((w7).setCell ⟨g.w.heap.size,0,none⟩ (zI z6 (rr.op))).setCell ⟨g.w.heap.size,1,none⟩ (zI z6 (rr.own))).setCell ⟨g.w.heap.size,2,none⟩ (zI z6 (rr.e))).setCell ⟨g.w.heap.size,3,none⟩ (zb (rr.v.ref))).setCell ⟨g.w.heap.size,4,none⟩ (zc z4 (rr.v.z.1) (rr.v.z.2)))=wf at *;obtain ⟨f0,f1,f2,f3,f4,fl⟩:=Rf.k5;refine bodyPost_ret (v:=.tuple #[.agg #[zI z6 (rr.op),zI z6 (rr.own),zI z6 (rr.e),zb (rr.v.ref),zc z4 (rr.v.z.1) (rr.v.z.2)],zb rb]) (by simp [results,Tryz.results41,go_sem,f0,f1,f2,f3,f4]) rfl ?_;obtain ⟨p5,bm5,bs5,bt5,bp5,bsp5,bh5,cm5,h8⟩:=H7.o;exact Does.of ⟨own7,wf⟩ rfl rfl Mf ((h8.keep mf zo z9 z9).at_)
 rw [if_neg h0] at h;by_cases h7:W.a.at_=7
 · rw [if_neg zo,if_neg zo,if_pos h7] at h;have hwr:=hw7.resolve_left (fun hh=>hh h7);unfold AcW.wrOk at hwr;split at hwr
   case h_2=>cases hwr
   case h_1 av cx cy l hwe=>
    rw [hwe] at h;simp only at h;split at h
    case isFalse=>cases h
    case isTrue hin=>
     injection h with h;have HCL:=zH (show Calls prog 78 #[zp (some ⟨b,0,none⟩),zp (some ⟨k,0,none⟩)] w1 (Does (.tuple #[.agg #[zI z6 rr.op,zI z6 rr.own,zI z6 rr.e,zb rr.v.ref,zc z4 rr.v.z.1 rr.v.z.2],zb rb]) ⟨own1,w1⟩ (acT t B) (fun g'=>AcWAt g' t B b k rW)) from (by have h9:=yeu (g:=⟨own1,w1⟩) P hd.mem H1.o av cx cy l hwe hin;rw [h] at h9;exact h9));obtain ⟨a0,a1,a2,a3,a4,a5,a6,a7,a8,a9,a10,a11,a12,a13,a14,a15,a16,a17,a18,al⟩:=H1.o.a.blk.k19;rw [h7] at a11;clear h hw7 hw8 hwa h0 h7;go_wp2_with fail;refine HCL.o.mono ?_;rintro e w7 ⟨rfl,own7,m7,h7⟩;have M7:=zH (M1.o.trans m7);have H7:=zH h7;have R7:=zH (R1.o.keep m7 (fun h=>by unfold acT at h;omega));clear M1 H1 R1 m7 h7 HCL;obtain ⟨r0,r1,r2,r3,r4,rl⟩:=R7.o.k5;have rf0:=R7.o.liv 0;have rf1:=R7.o.liv 1;have rf2:=R7.o.liv 2;have rf3:=R7.o.liv 3;have rf4:=R7.o.liv 4;go_wp2_with fail;obtain ⟨Mf,mf,Rf⟩:=yae M7.o R7.o (Nat.le_refl _) (rr.op) (rr.own) (rr.e) (rr.v.ref) (rr.v.z.1) (rr.v.z.2)
     generalize ((((((w7).setCell ⟨g.w.heap.size,0,none⟩ (zI z6 (rr.op))).setCell ⟨g.w.heap.size,1,none⟩ (zI z6 (rr.own))).setCell ⟨g.w.heap.size,2,none⟩ (zI z6 (rr.e))).setCell ⟨g.w.heap.size,3,none⟩ (zb (rr.v.ref))).setCell ⟨g.w.heap.size,4,none⟩ (zc z4 (rr.v.z.1) (rr.v.z.2)))=wf at *;obtain ⟨f0,f1,f2,f3,f4,fl⟩:=Rf.k5;refine bodyPost_ret (v:=.tuple #[.agg #[zI z6 (rr.op),zI z6 (rr.own),zI z6 (rr.e),zb (rr.v.ref),zc z4 (rr.v.z.1) (rr.v.z.2)],zb rb]) (by simp [results,Tryz.results41,go_sem,f0,f1,f2,f3,f4]) rfl ?_;obtain ⟨p5,bm5,bs5,bt5,bp5,bsp5,bh5,cm5,h8⟩:=H7.o;exact Does.of ⟨own7,wf⟩ rfl rfl Mf ((h8.keep mf zo z9 z9).at_)
 have h8:W.a.at_=8:=zo;rw [if_neg zo,if_neg zo,if_neg h7,if_pos h8] at h;have hoa:=yax (hw8.resolve_left (fun hh=>hh h8));split at h
 case isFalse=>cases h
 case isTrue hc=>
  obtain ⟨hg,hst,hb0,hb1⟩:=hc;obtain ⟨gi,gl,hgl⟩:=List.exists_cons_of_ne_nil hg;rw [hgl] at hst hb0 hb1;simp only [List.headD_cons] at hst hb0 hb1;injection h with h;have HCL:=zH (show Calls prog 79 #[zp (some ⟨b,0,none⟩),zp (some ⟨k,0,none⟩),.agg #[zI z6 2,zI z6 oa,zI z6 ob,zI z6 oc,zI z6 on,zc z4 x y]] w1 (Does (.tuple #[.agg #[zI z6 rr.op,zI z6 rr.own,zI z6 rr.e,zb rr.v.ref,zc z4 rr.v.z.1 rr.v.z.2],zb rb]) ⟨own1,w1⟩ (acT t B) (fun g'=>AcWAt g' t B b k rW)) from (by have h9:=yes (g:=⟨own1,w1⟩) P hd.sp hd.next H1.o 2 oa ob oc on x y zo gi gl hgl hst ⟨hb0,hb1⟩;rw [h] at h9;exact h9));obtain ⟨a0,a1,a2,a3,a4,a5,a6,a7,a8,a9,a10,a11,a12,a13,a14,a15,a16,a17,a18,al⟩:=H1.o.a.blk.k19;rw [h8] at a11;clear h hw7 hw8 hwa h0 h7 h8;go_wp2_with fail;refine HCL.o.mono ?_;rintro e w7 ⟨rfl,own7,m7,h7⟩;have M7:=zH (M1.o.trans m7);have H7:=zH h7;have R7:=zH (R1.o.keep m7 (fun h=>by unfold acT at h;omega));clear M1 H1 R1 m7 h7 HCL;obtain ⟨r0,r1,r2,r3,r4,rl⟩:=R7.o.k5;have rf0:=R7.o.liv 0;have rf1:=R7.o.liv 1;have rf2:=R7.o.liv 2;have rf3:=R7.o.liv 3;have rf4:=R7.o.liv 4;go_wp2_with fail
  obtain ⟨Mf,mf,Rf⟩:=yae M7.o R7.o (Nat.le_refl _) (rr.op) (rr.own) (rr.e) (rr.v.ref) (rr.v.z.1) (rr.v.z.2);generalize ((((((w7).setCell ⟨g.w.heap.size,0,none⟩ (zI z6 (rr.op))).setCell ⟨g.w.heap.size,1,none⟩ (zI z6 (rr.own))).setCell ⟨g.w.heap.size,2,none⟩ (zI z6 (rr.e))).setCell ⟨g.w.heap.size,3,none⟩ (zb (rr.v.ref))).setCell ⟨g.w.heap.size,4,none⟩ (zc z4 (rr.v.z.1) (rr.v.z.2)))=wf at *;obtain ⟨f0,f1,f2,f3,f4,fl⟩:=Rf.k5;refine bodyPost_ret (v:=.tuple #[.agg #[zI z6 (rr.op),zI z6 (rr.own),zI z6 (rr.e),zb (rr.v.ref),zc z4 (rr.v.z.1) (rr.v.z.2)],zb rb]) (by simp [results,Tryz.results41,go_sem,f0,f1,f2,f3,f4]) rfl ?_;obtain ⟨p5,bm5,bs5,bt5,bp5,bsp5,bh5,cm5,h8⟩:=H7.o;exact Does.of ⟨own7,wf⟩ rfl rfl Mf ((h8.keep mf zo z9 z9).at_)
namespace AcW
def stepX (W:AcW):Option AcR:=
 if W.a.phase==3 then (if W.bdB&&(decide (W.a.locals.length≤1000)&&(W.a.op.kind==2&&(W.opIn&&W.greyOk))) then W.up.waiting else none)
 else if W.a.phase==2&&W.a.op.kind==2 then (if W.bdB&&(W.up.okA&&(W.opIn&&(W.locOk&&W.K.c.check==0))) then W.up.within else none)
 else W.stepL
end AcW
theorem yhr [TbId] (P:AcApart t B) (H:AcWAt g t B b k W) (hol:W.a.ops.length≤1000000) (r:AcR) (h:W.stepX=some r):
 Calls prog 10 #[zp (some ⟨b,0,none⟩),zp (some ⟨k,0,none⟩)] g.w (Does (resV r.1) g (acT t B) (fun g'=>AcWAt g' t B b k r.2)):=by
 unfold AcW.stepX at h;split at h
 · rename_i h3
   rw [beq_iff_eq] at h3;split at h
   case isFalse=>cases h
   case isTrue hc=>
    simp only [Bool.and_eq_true,Bool.or_eq_true,beq_iff_eq,decide_eq_true_eq] at hc;obtain ⟨hbd,hl2,hkd,hg1,hgr⟩:=hc;have hd:=bdB_of hbd;have hop:W.a.next<W.a.ops.length:=of_decide_eq_true hg1;obtain ⟨p,bm,bs,bt,bp,bsp,bh,cm,H⟩:=H;have HH:=zH H;have HP:=zH P;have hPt:=P.ht;have hPb:=P.hb;have hPa:=P.apart;go_enter func10,ntmps10;go_upto_region 1 with fail
    obtain ⟨own0,M0,R0⟩:=yam g 40 resZ;unfold resZ at M0 R0;generalize (g.w.alloc (.cells #[zI z6 0,zI z6 0,zI z6 0,zb false,zc z4 0 0] 40))=w0 at *;have M0':=zH M0;have R0':=zH R0;clear M0 R0;have H0:=zH (HH.o.keep0 M0'.o);have M0:=zH (M0'.o.mono (S:=acT t B) zG);obtain ⟨a0,a1,a2,a3,a4,a5,a6,a7,a8,a9,a10,a11,a12,a13,a14,a15,a16,a17,a18,al⟩:=H0.o.a.blk.k19;clear H M0';rw [h3] at a3;have eo:=IntWalk.i64_in (W.a.own+1) (by have:=hd.own;omega);have H1:=zH (show AcIn ⟨own0,w0.setCell ⟨b,10,none⟩ (zI z6 (W.a.own+1))⟩ t B b k W.up p bm bs bt bp bsp bh cm from H0.o.set HP.o 10 (zI z6 (W.a.own+1)) { W.a with own:=W.a.own+1 } rfl ⟨rfl,rfl,rfl,rfl,rfl,rfl⟩);have m1:Mod (fun x=>x=t) (⟨own0,w0⟩:GW) ⟨own0,w0.setCell ⟨b,10,none⟩ (zI z6 (W.a.own+1))⟩:=Mod.st (Mod.refl _ _) H0.o.a.blk.own;have M1:=zH (M0.o.trans (m1.mono (S:=acT t B) (fun x hx=>yaG hx)));have R1:=zH (R0'.o.keep m1 zo);have af10:=H0.o.a.blk.live 10;obtain ⟨hd1,hd2⟩:=hd.own;clear m1;clear h3 hbd hg1;go_upto_region 15 with fail
    generalize w0.setCell ⟨b,10,none⟩ (zI z6 (W.a.own+1))=w1 at *;clear M0 H0 R0' eo af10;clear a0 a1 a2 a3 a4 a5 a6 a7 a8 a9 a10 a11 a12 a13 a14 a15 a16 a17 a18 al;obtain ⟨⟨rr,rb⟩,rW⟩:=r;have HWI:=zH (show Calls prog 42 #[zp (some ⟨b,0,none⟩),zp (some ⟨k,0,none⟩)] w1 (Does (.tuple #[.agg #[zI z6 rr.op,zI z6 rr.own,zI z6 rr.e,zb rr.v.ref,zc z4 rr.v.z.1 rr.v.z.2],zb rb]) ⟨own0,w1⟩ (acT t B) (fun g'=>AcWAt g' t B b k rW)) from ygq (g:=⟨own0,w1⟩) (W:=W.up) P ⟨hd.next,hd.hand,hd.sp,hd.mem,hd.n,hd.line⟩ hl2 hop hkd hgr H1.o ((rr,rb),rW) h);clear h;go_wp2_with fail;refine HWI.o.mono ?_;rintro e w7 ⟨rfl,own7,m7,h7⟩;have M7:=zH (M1.o.trans m7);have H7:=zH h7;have R7:=zH (R1.o.keep m7 (fun h=>by unfold acT at h;omega));clear M1 H1 R1 m7 h7 HWI;obtain ⟨r0,r1,r2,r3,r4,rl⟩:=R7.o.k5;have rf0:=R7.o.liv 0;have rf1:=R7.o.liv 1;have rf2:=R7.o.liv 2;have rf3:=R7.o.liv 3;have rf4:=R7.o.liv 4;go_wp2_with fail;obtain ⟨Mf,mf,Rf⟩:=yae M7.o R7.o (Nat.le_refl _) (rr.op) (rr.own) (rr.e) (rr.v.ref) (rr.v.z.1) (rr.v.z.2)
    generalize ((((((w7).setCell ⟨g.w.heap.size,0,none⟩ (zI z6 (rr.op))).setCell ⟨g.w.heap.size,1,none⟩ (zI z6 (rr.own))).setCell ⟨g.w.heap.size,2,none⟩ (zI z6 (rr.e))).setCell ⟨g.w.heap.size,3,none⟩ (zb (rr.v.ref))).setCell ⟨g.w.heap.size,4,none⟩ (zc z4 (rr.v.z.1) (rr.v.z.2)))=wf at *;obtain ⟨f0,f1,f2,f3,f4,fl⟩:=Rf.k5;refine bodyPost_ret (v:=.tuple #[.agg #[zI z6 (rr.op),zI z6 (rr.own),zI z6 (rr.e),zb (rr.v.ref),zc z4 (rr.v.z.1) (rr.v.z.2)],zb rb]) (by simp [results,Tryz.results10,go_sem,f0,f1,f2,f3,f4]) rfl ?_;obtain ⟨p5,bm5,bs5,bt5,bp5,bsp5,bh5,cm5,h8⟩:=H7.o;exact Does.of ⟨own7,wf⟩ rfl rfl Mf ((h8.keep mf zo z9 z9).at_)
 · rename_i hn3
   split at h
   · rename_i h2k
     rw [Bool.and_eq_true,beq_iff_eq,beq_iff_eq] at h2k;obtain ⟨h2,hk2⟩:=h2k;split at h
     case isFalse=>cases h
     case isTrue hc=>
      simp only [Bool.and_eq_true,beq_iff_eq] at hc;obtain ⟨hbd,hokA,hg1,hg2,hck⟩:=hc;have hd:=bdB_of hbd;have hop:W.a.next<W.a.ops.length:=of_decide_eq_true hg1;have hlo:(W.a.locals.length:Int)=W.K.c.locals:=of_decide_eq_true hg2;obtain ⟨p,bm,bs,bt,bp,bsp,bh,cm,H⟩:=H;have HH:=zH H;have HP:=zH P;have hPt:=P.ht;have hPb:=P.hb;have hPa:=P.apart;go_enter func10,ntmps10;go_upto_region 1 with fail
      obtain ⟨own0,M0,R0⟩:=yam g 40 resZ;unfold resZ at M0 R0;generalize (g.w.alloc (.cells #[zI z6 0,zI z6 0,zI z6 0,zb false,zc z4 0 0] 40))=w0 at *;have M0':=zH M0;have R0':=zH R0;clear M0 R0;have H0:=zH (HH.o.keep0 M0'.o);have M0:=zH (M0'.o.mono (S:=acT t B) zG);obtain ⟨a0,a1,a2,a3,a4,a5,a6,a7,a8,a9,a10,a11,a12,a13,a14,a15,a16,a17,a18,al⟩:=H0.o.a.blk.k19;clear H M0';rw [h2] at a3;have eo:=IntWalk.i64_in (W.a.own+1) (by have:=hd.own;omega);have H1:=zH (show AcIn ⟨own0,w0.setCell ⟨b,10,none⟩ (zI z6 (W.a.own+1))⟩ t B b k W.up p bm bs bt bp bsp bh cm from H0.o.set HP.o 10 (zI z6 (W.a.own+1)) { W.a with own:=W.a.own+1 } rfl ⟨rfl,rfl,rfl,rfl,rfl,rfl⟩);have m1:Mod (fun x=>x=t) (⟨own0,w0⟩:GW) ⟨own0,w0.setCell ⟨b,10,none⟩ (zI z6 (W.a.own+1))⟩:=Mod.st (Mod.refl _ _) H0.o.a.blk.own;have M1:=zH (M0.o.trans (m1.mono (S:=acT t B) (fun x hx=>yaG hx)));have R1:=zH (R0'.o.keep m1 zo);have af10:=H0.o.a.blk.live 10;obtain ⟨hd1,hd2⟩:=hd.own;clear m1;clear h2 hk2 hn3 hbd hg1 hg2;go_upto_region 12 with fail
      generalize w0.setCell ⟨b,10,none⟩ (zI z6 (W.a.own+1))=w1 at *;clear M0 H0 R0' eo af10;clear a0 a1 a2 a3 a4 a5 a6 a7 a8 a9 a10 a11 a12 a13 a14 a15 a16 a17 a18 al;obtain ⟨⟨rr,rb⟩,rW⟩:=r;have HWI:=zH (show Calls prog 41 #[zp (some ⟨b,0,none⟩),zp (some ⟨k,0,none⟩)] w1 (Does (.tuple #[.agg #[zI z6 rr.op,zI z6 rr.own,zI z6 rr.e,zb rr.v.ref,zc z4 rr.v.z.1 rr.v.z.2],zb rb]) ⟨own0,w1⟩ (acT t B) (fun g'=>AcWAt g' t B b k rW)) from yfx (g:=⟨own0,w1⟩) (W:=W.up) P ⟨hd.next,hd.hand,hd.sp,hd.mem,hd.n,hd.line⟩ hck hlo hop hokA H1.o ((rr,rb),rW) h);clear h;go_wp2_with fail;refine HWI.o.mono ?_;rintro e w7 ⟨rfl,own7,m7,h7⟩;have M7:=zH (M1.o.trans m7);have H7:=zH h7;have R7:=zH (R1.o.keep m7 (fun h=>by unfold acT at h;omega));clear M1 H1 R1 m7 h7 HWI;obtain ⟨r0,r1,r2,r3,r4,rl⟩:=R7.o.k5;have rf0:=R7.o.liv 0;have rf1:=R7.o.liv 1;have rf2:=R7.o.liv 2;have rf3:=R7.o.liv 3;have rf4:=R7.o.liv 4;go_wp2_with fail;obtain ⟨Mf,mf,Rf⟩:=yae M7.o R7.o (Nat.le_refl _) (rr.op) (rr.own) (rr.e) (rr.v.ref) (rr.v.z.1) (rr.v.z.2)
      generalize ((((((w7).setCell ⟨g.w.heap.size,0,none⟩ (zI z6 (rr.op))).setCell ⟨g.w.heap.size,1,none⟩ (zI z6 (rr.own))).setCell ⟨g.w.heap.size,2,none⟩ (zI z6 (rr.e))).setCell ⟨g.w.heap.size,3,none⟩ (zb (rr.v.ref))).setCell ⟨g.w.heap.size,4,none⟩ (zc z4 (rr.v.z.1) (rr.v.z.2)))=wf at *;obtain ⟨f0,f1,f2,f3,f4,fl⟩:=Rf.k5;refine bodyPost_ret (v:=.tuple #[.agg #[zI z6 (rr.op),zI z6 (rr.own),zI z6 (rr.e),zb (rr.v.ref),zc z4 (rr.v.z.1) (rr.v.z.2)],zb rb]) (by simp [results,Tryz.results10,go_sem,f0,f1,f2,f3,f4]) rfl ?_;obtain ⟨p5,bm5,bs5,bt5,bp5,bsp5,bh5,cm5,h8⟩:=H7.o;exact Does.of ⟨own7,wf⟩ rfl rfl Mf ((h8.keep mf zo z9 z9).at_)
   · exact yhq P H hol r h
end
end Go.Proofs.YtdhjjpnajjingaaGreat
namespace Go.Proofs.YtdhjjpnajjingaaGreat
open Go Go.RowKit
namespace AcW
theorem yg6 {W:AcW} {r:AcR} (h:W.waiting=some r):r.2.a.ops=W.a.ops:=by
 unfold waiting at h;split at h
 · split at h
   · injection h with h;rw [←h];rfl
   · split at h
     · split at h
       · injection h with h;rw [←h];rfl
       · cases h
     · split at h
       · injection h with h;rw [←h];exact yaU _ _ _
       · cases h
 · split at h
   · injection h with h;rw [←h];show (if W.looksB then W.looks.withA { W.a with pc:=5 } else W.looks).a.ops=W.a.ops;split
     · rfl
     · exact yeM W
   · split at h
     · injection h with h;rw [←h];show (if W.answersB then W.answers.withA { W.answers.a with pc:=5 } else W.answers).a.ops=W.a.ops;split
       · exact ybm W
       · exact ybm W
     · cases h
theorem stepX_ops {W:AcW} {r:AcR} (h:W.stepX=some r):r.2.a.ops=W.a.ops:=by
 unfold stepX at h;split at h
 · split at h
   · exact yg6 (W:=W.up) h
   · cases h
 · split at h
   · split at h
     · exact ydW (W:=W.up) h
     · cases h
   · exact yko h
end AcW
theorem DuW.Fit.stepX {D:DuW} (h:D.Fit) {x:AcR} (hx:D.ac.stepX=some x):(D.putA x.2).Fit:=⟨by show x.2.a.ops.length≤_;rw [AcW.stepX_ops hx];exact h.ops,h.tr⟩
section
variable {w0:World} {g:GW} {hb b c k:Nat} {st:Int} {lv:Value} {D:DuW}
theorem ykM (h:DuAt g b c k D) (hol:D.a.ops.length≤1000000) (x:AcR) (hx:D.ac.stepX=some x):Calls prog 10 #[zp (some ⟨b,0,none⟩),zp (some ⟨k,0,none⟩)] g.w (Does (resV x.1) g duT (fun g'=>DuAt g' b c k (D.putA x.2))):=by
 obtain ⟨p,tp,hp,bm,bs,bt,bp,bsp,bh,cm,h1,h2,h3⟩:=h.ex;letI:TbId:=⟨⟨bt⟩⟩
 refine (yhr ylX (AcIn.at_ (show AcIn g 500 100 b k D.ac p bm bs bt bp bsp bh cm from ⟨h1,h2,rfl⟩)) hol x hx).mono ?_;rintro e w' ⟨rfl,own',m',h'⟩;have h4:=h3.keep m' (fun x hx=>by unfold acT at hx;omega);obtain ⟨p',bm',bs',bt',bp',bsp',bh',cm',h'⟩:=h';exact ⟨rfl,own',m'.mono (fun x hx=>Or.inl hx),⟨⟨p',tp,hp,bm',bs',bt',bp',bsp',bh',cm',h'.a,h'.c,h4⟩⟩⟩
theorem ykX (h:HpIs w0 g hb st b c k D) (hst:0≤st∧st≤1000000) (fit:D.Fit) (x:AcR) (hx:D.ac.stepX=some x):
 Calls prog 26 #[zp (some ⟨hb,0,none⟩),zI z6 1] g.w (Does (tickV 1 x.1.2 x.1.1) g hpT (fun g'=>HpIs w0 g' hb (st+1) b c k (D.putA x.2)∧(D.putA x.2).Fit)):=by
 obtain ⟨lv,h2⟩:=h.h;refine (yh1 h2 hst x.1.1 x.1.2 (fun g1 h1=>ykM h1 fit.ops x hx)).mono ?_;rintro e w' ⟨rfl,own',m',h'⟩;exact ⟨rfl,own',m',⟨⟨h.m.trans m',_,h'⟩,fit.stepX hx⟩⟩
theorem ygo (g:GW) (t b:Nat) (A:AcS) (p:AcP) (H:AcAt g t b A p) (hl:A.locals.length≤1000000) (n:Nat) (hn:A.locals.length=n):Calls prog 59 #[zp (some ⟨b,0,none⟩)] g.w (ClonedRow 9 38 2 n (A.locals.flatMap LVal.cells) g):=by
 subst hn;have HC:=zH (yhy p.locA p.locC A.locals 9 g H.r.loc.cells hl);obtain ⟨a0,a1,a2,a3,a4,a5,a6,a7,a8,a9,a10,a11,a12,a13,a14,a15,a16,a17,a18,al⟩:=H.blk.k19;clear H;go_enter func59,ntmps59;go_wp2_with fail;refine HC.o.mono ?_;rintro e w1 ⟨A',c',rfl,m1,r1,hE1,hf1,hc1⟩;go_wp2_with fail;go_ret;exact ⟨A',c',rfl,m1,r1,hE1,hf1,hc1⟩
def ThreadGot (D:DuW) (n:Nat) (g:GW) (e:Ending) (w':World):Prop:= ∃A' c' own',e=.returned (.tuple #[zI z6 D.a.phase,zI z6 D.a.status,.slice A' n c'])∧Mod (fun _=>False) g ⟨own',w'⟩∧Row ⟨own',w'⟩ 9 38 2 (.slice A' n c') n (D.a.locals.flatMap LVal.cells)
theorem yfP (h:HpIn g hb st lv b c k D) (n:Nat) (hn:D.a.locals.length=n) (hl:n≤1000):Calls prog 32 #[zp (some ⟨hb,0,none⟩),zI z6 0] g.w (ThreadGot D n g):=by
 obtain ⟨p,tp,hp,bm,bs,bt,bp,bsp,bh,cm,h1,h2,h3⟩:=h.du.ex;have HP:=zH (show Calls prog 15 #[zp (some ⟨b,0,none⟩)] g.w (fun e w'=>e=.returned (zI z6 D.a.phase)∧g.w=w') from yiO g 500 b D.a p h1);have HS:=zH (show Calls prog 20 #[zp (some ⟨b,0,none⟩)] g.w (fun e w'=>e=.returned (zI z6 D.a.status)∧g.w=w') from yhp g 500 b D.a p h1);have HL:=zH (ygo g 500 b D.a p h1 zo n hn);obtain ⟨A',c',rfl, -, -⟩:=h.row.form;obtain ⟨a0,a1,a2,a3,al⟩:=h.blk.k4;obtain ⟨rb,ro,hA, -,ql, -,q0⟩:=h.row.cell (i:=0) (by simp);subst hA;simp only [Nat.add_zero,List.getElem?_cons_zero] at q0 ql;clear h h1 h2 h3 hn;go_enter func32,ntmps32;go_wp2_with fail;refine HP.o.mono ?_;rintro e w' ⟨rfl,rfl⟩;go_wp2_with fail;refine HS.o.mono ?_;rintro e w' ⟨rfl,rfl⟩;go_wp2_with fail;refine HL.o.mono ?_;rintro e w1 ⟨A',c',rfl,m1,r1, -, -, -⟩;go_wp2_with fail;go_ret3
 exact ⟨A',c',_,rfl,m1,r1⟩
end
end Go.Proofs.YtdhjjpnajjingaaGreat
namespace Go
open Go.RowKit
theorem Blk.segs {g:GW} {t b:Nat} {T:TypeId} {vs:List Value} (h:Blk g t b T vs):Seg g t (some ⟨b,0,none⟩) vs:=
 ⟨CellsAt.mk h.lt (fun i v hi=>by rw [Nat.zero_add];exact h.cell hi),fun a ha _=>by injection ha with ha;rw [←ha];exact h.own⟩
end Go
namespace Go.Proofs.YtdhjjpnajjingaaGreat
open Go Go.RowKit
def cTwo (frags low:Int) (A A0 A1 A2:Option Addr):Cnf:=⟨frags,40,2,2,3,0,3,low,A,3,[⟨false,A0,3,[zT,zT,zU]⟩,⟨true,A1,1,[true]⟩,⟨true,A2,1,[false]⟩]⟩
def TwoMade (frags low:Int) (w:World) (e:Ending) (w':World):Prop:= ∃A A0 A1 A2,e=.returned (cTwo frags low A A0 A1 A2).val∧Ext w w'∧(cTwo frags low A A0 A1 A2).Ok w'
theorem ylR (frags low:Int) (w:World):Calls prog 25 #[zI z6 frags,zI z6 low] w (TwoMade frags low w):=by
 go_enter func25,ntmps25;go_upto_region 1 with fail
 obtain ⟨own0,m0,B0⟩: ∃own0,Mod (fun _=>False) ⟨fun _=>0,w⟩ ⟨own0,w.alloc (.cells #[zI z6 0,zI z6 0,zI z6 0,zI z6 0,zI z6 0,zI z6 0,zI z6 0,zI z6 0,.slice none 0 0] 34)⟩∧Blk ⟨own0,w.alloc (.cells #[zI z6 0,zI z6 0,zI z6 0,zI z6 0,zI z6 0,zI z6 0,zI z6 0,zI z6 0,.slice none 0 0] 34)⟩ 8 w.heap.size 34 [zI z6 0,zI z6 0,zI z6 0,zI z6 0,zI z6 0,zI z6 0,zI z6 0,zI z6 0,.slice none 0 0]:=⟨_,Mod.ext (T:=fun _=>False) (g:=⟨fun _=>0,w⟩) (show Ext w (w.alloc (.cells #[zI z6 0,zI z6 0,zI z6 0,zI z6 0,zI z6 0,zI z6 0,zI z6 0,zI z6 0,.slice none 0 0] 34)) from zE) 8,Blk.new ⟨fun _=>0,w⟩ 8 34 _⟩;have M0:=zH m0;have B0':=zH B0;clear m0 B0;generalize w.alloc (.cells #[zI z6 0,zI z6 0,zI z6 0,zI z6 0,zI z6 0,zI z6 0,zI z6 0,zI z6 0,.slice none 0 0] 34)=w0 at *;obtain ⟨own1,m1,P1,P2⟩:=yaq ⟨own0,w0⟩ 4 4 [zb true,zb true,zb false] [zb true]
 obtain ⟨own2,m2,P3,S3⟩:=yaq ⟨own1,(w0.alloc (.cells ([zb true,zb true,zb false]:List Value).toArray 4)).alloc (.cells ([zb true]:List Value).toArray 4)⟩ 4 94 [zb false] [zb false,.slice (some ⟨w0.heap.size,0,none⟩) 3 3,zb true,.slice (some ⟨w0.heap.size+1,0,none⟩) 1 1,zb true,.slice (some ⟨w0.heap.size+1+1,0,none⟩) 1 1];have e1:((w0.alloc (.cells ([zb true,zb true,zb false]:List Value).toArray 4)).alloc (.cells ([zb true]:List Value).toArray 4)).heap.size=w0.heap.size+1+1:=by rw [World.size_alloc,World.size_alloc]
 rw [e1] at P3 S3;have M3:=zH ((M0.o.trans m1).trans m2);have C3:=zH ((B0'.o.keep m1 id).keep m2 id);have Q1:=zH (P1.keep m2 id);have Q2:=zH (P2.keep m2 id);have Q3:=zH P3;have S3':=zH S3;clear m1 m2 P1 P2 P3 S3 M0 B0' e1
 have HC:=zH (show CnfAt ⟨own2,_⟩ 9 (cTwo frags low (some ⟨w0.heap.size+1+1+1,0,none⟩) (some ⟨w0.heap.size,0,none⟩) (some ⟨w0.heap.size+1,0,none⟩) (some ⟨w0.heap.size+1+1,0,none⟩)) from ⟨S3'.o.segs,fun s hs=>by
  simp only [cTwo,List.mem_cons,List.not_mem_nil,or_false] at hs;rcases hs with rfl|rfl|rfl
  · exact ⟨Q1.o.segs,by simp,by simp⟩
  · exact ⟨Q2.o.segs,by simp,by simp⟩
  · exact ⟨Q3.o.segs,by simp,by simp⟩,by simp [cTwo],by simp [cTwo]⟩)
 have HO:=zH C3.o.own;have d0:=C3.o.live 0;have d1:=C3.o.live 1;have d2:=C3.o.live 2;have d3:=C3.o.live 3;have d4:=C3.o.live 4;have d5:=C3.o.live 5;have d6:=C3.o.live 6;have d7:=C3.o.live 7;have d8:=C3.o.live 8;have dl:=C3.o.lt;(try simp only at d0 d1 d2 d3 d4 d5 d6 d7 d8 dl);obtain ⟨z0,z1,z2,z3,z4,z5,z6,z7,z8,zl⟩:=C3.o.k9;(try simp only at z0 z1 z2 z3 z4 z5 z6 z7 z8);go_wp2_with fail;refine bodyPost_ret (v:=(cTwo frags low (some ⟨w0.heap.size+1+1+1,0,none⟩) (some ⟨w0.heap.size,0,none⟩) (some ⟨w0.heap.size+1,0,none⟩) (some ⟨w0.heap.size+1+1,0,none⟩)).val) (by unfold Cnf.val cTwo;simp [results,Tryz.results25,go_sem,z0,z1,z2,z3,z4,z5,z6,z7,z8]) rfl ?_;refine ⟨_,_,_,_,rfl,?_,?_⟩
 · exact (show Mod (fun _=>False) ⟨fun _=>0,w⟩ ⟨own2,_⟩ from Mod.stn (Mod.stn (Mod.stn (Mod.stn (Mod.stn (Mod.stn (Mod.stn (Mod.stn (Mod.stn M3.o (Nat.le_refl _)) (Nat.le_refl _)) (Nat.le_refl _)) (Nat.le_refl _)) (Nat.le_refl _)) (Nat.le_refl _)) (Nat.le_refl _)) (Nat.le_refl _)) (Nat.le_refl _)).toExt
 · refine (HC.o.keep (S:=fun x=>x=8) (g':=⟨own2,_⟩) ?_ zo).ok;exact Mod.st (Mod.st (Mod.st (Mod.st (Mod.st (Mod.st (Mod.st (Mod.st (Mod.st Mod.self HO.o) HO.o) HO.o) HO.o) HO.o) HO.o) HO.o) HO.o) HO.o
namespace DuW
def qStep (i made:Nat) (D:DuW):Option (Nat × DuW):=
 if i%2=1 then (match D.ac.stepL with
  |none=>none
  |some x=>if x.1.2 then (if x.1.1.e==0&&x.1.1.own==10 then some (made+1,D.putA x.2) else none) else some (made,D.putA x.2))
 else match D.cy.stepG with
  |none=>none
  |some V=>some (made,D.putC V)
def qOk (made:Nat) (D:DuW):Bool:=D.y.started==0&&(D.y.finished==0&&(D.y.freed==0&&(D.y.stage==0&&(Ent.wait D.K.sp.line==0&&(D.K.sp.tab.cnt 1==0&&(decide (made≤D.K.sp.tab.cnt 2)&&decide (D.K.sp.tab.cnt 2≤made+1)))))))
def qRun:Nat→Nat→Nat→DuW→Option (Nat × DuW)
 |0,_,made,D=>some (made,D)
 |f+1,i,made,D=>match qStep i made D with
  |none=>none
  |some q=>if qOk q.1 q.2 then qRun f (i+1) q.1 q.2 else none
end DuW
def Fits (pk:Int→Option (Nat × Nat)) (l:List (Nat × Nat)):Prop:= ∀a,pk a=if inB a l.length then some (l.getD a.toNat (0,0)) else none
theorem Fits.peek {pk:Int→Option (Nat × Nat)} {m:MemS} (h:Fits pk m.l) (a:Int):pk a=if inB a m.l.length then some (m.peek a) else none:=by
 rw [h a];unfold MemS.peek;split<;>rfl
def rdK (pk:Int→Option (Nat × Nat)) (S:TraceS) (frag k:Int):Option (Nat × Nat):=if S.okAt frag k then pk (frag*8+k) else none
namespace TrW
def headK (pk:Int→Option (Nat × Nat)) (w:TrW):TrW × Bool:=match rdK pk w.s w.s.head 1 with
 |none=>({ w with m:=w.s.rdM w.m w.s.head 1 },false)
 |some v=>({ w with m:=w.s.rdM w.m w.s.head 1,s:=(w.s.first v).1 },(w.s.first v).2)
def fieldK (pk:Int→Option (Nat × Nat)) (w:TrW):TrW × Bool:=match rdK pk w.s w.s.frag (w.s.words.headD 0) with
 |none=>({ w with m:=w.s.rdM w.m w.s.frag (w.s.words.headD 0) },false)
 |some v=>if wIs v=false then ({ w with m:=w.s.rdM w.m w.s.frag (w.s.words.headD 0) },false)
  else if (wIndex v).isSome then ({ w with m:=w.s.rdM w.m w.s.frag (w.s.words.headD 0),s:={ w.s with words:=w.s.words.tail,next:=(wIndex v).getD 0,pc:=2 } },true)
  else ({ w with m:=w.s.rdM w.m w.s.frag (w.s.words.headD 0),s:=TraceS.gone { w.s with words:=w.s.words.tail,next:=0 } },true)
def linkK (pk:Int→Option (Nat × Nat)) (w:TrW):TrW × Bool:=match rdK pk w.s w.s.frag 0 with
 |none=>({ w with m:=w.s.rdM w.m w.s.frag 0 },false)
 |some v=>match wIndex v with
  |none=>({ w with m:=w.s.rdM w.m w.s.frag 0 },false)
  |some i=>if i<w.s.c.frags then ({ w with m:=w.s.rdM w.m w.s.frag 0,s:={ w.s with frag:=i,pc:=4,j:=w.s.j+1 } },true) else ({ w with m:=w.s.rdM w.m w.s.frag 0 },false)
def lengthK (pk:Int→Option (Nat × Nat)) (w:TrW):TrW × Bool:=match rdK pk w.s w.s.head 2 with
 |none=>({ w with m:=w.s.rdM w.m w.s.head 2 },false)
 |some v=>match wInt v with
  |none=>({ w with m:=w.s.rdM w.m w.s.head 2,s:={ w.s with n:=0 } },false)
  |some n=>if n<0∨512<n then ({ w with m:=w.s.rdM w.m w.s.head 2,s:={ w.s with n:=n } },false) else ({ w with m:=w.s.rdM w.m w.s.head 2,s:={ w.s with n:=n,pc:=if n=0 then 9 else 6 } },true)
def modeK (pk:Int→Option (Nat × Nat)) (w:TrW):TrW × Bool:=match rdK pk w.s w.s.head 3 with
 |none=>({ w with m:=w.s.rdM w.m w.s.head 3 },false)
 |some v=>match wInt v with
  |none=>({ w with m:=w.s.rdM w.m w.s.head 3,s:={ w.s with mode:=0 } },false)
  |some n=>if n<0∨2<n∨decide (n=0)≠decide (sData w.s.n≤4) then ({ w with m:=w.s.rdM w.m w.s.head 3,s:={ w.s with mode:=n } },false)
   else ({ w with m:=w.s.rdM w.m w.s.head 3,s:={ w.s with mode:=n,pc:=if n=0 then 8 else 7 } },true)
def baseK (pk:Int→Option (Nat × Nat)) (w:TrW):TrW × Bool:=match rdK pk w.s w.s.head 4 with
 |none=>({ w with m:=w.s.rdM w.m w.s.head 4 },false)
 |some v=>if w.s.mode=1 then (match wInt v with
  |none=>({ w with m:=w.s.rdM w.m w.s.head 4,s:={ w.s with base:=0 } },false)
  |some a=>if a<0∨cWords w.s.c≤a then ({ w with m:=w.s.rdM w.m w.s.head 4,s:={ w.s with base:=a } },false) else ({ w with m:=w.s.rdM w.m w.s.head 4,s:={ w.s with base:=a,pc:=8 } },true))
  else (match wIndex v with
   |none=>({ w with m:=w.s.rdM w.m w.s.head 4,s:={ w.s with base:=0 } },false)
   |some i=>if w.s.c.frags<i+sData w.s.n then ({ w with m:=w.s.rdM w.m w.s.head 4,s:={ w.s with base:=i } },false) else ({ w with m:=w.s.rdM w.m w.s.head 4,s:={ w.s with base:=i,frag:=i+w.s.j,pc:=4 } },true))
def slotRdK (pk:Int→Option (Nat × Nat)) (w:TrW):Option (Nat × Nat):=if w.s.mode=0 then rdK pk w.s w.s.head (4+w.s.j) else pk (w.s.base+2+w.s.j)
def slotK (pk:Int→Option (Nat × Nat)) (w:TrW):TrW × Bool:=match slotRdK pk w with
 |none=>({ w with m:=w.slotM },false)
 |some v=>({ w with m:=w.slotM,s:={ w.s with frag:=(wIndex v).getD 0,pc:=4 } },(wIndex v).isSome&&decide ((wIndex v).getD 0<w.s.c.frags))
def doesK (pk:Int→Option (Nat × Nat)) (w:TrW):TrW × Bool:=
 if w.s.pc=0 then w.headK pk
 else if 5≤w.s.pc then (if w.s.pc=6 then w.modeK pk else if w.s.pc=7 then w.baseK pk else if w.s.pc=8 then w.slotK pk else w.lengthK pk)
 else if w.s.pc=2 then w.grey else if w.s.pc=3 then w.linkK pk else if w.s.pc=4 then w.part else w.fieldK pk
def stepK (pk:Int→Option (Nat × Nat)) (w:TrW):TrW:=if w.s.pc=9 then w else if (w.ticked.doesK pk).2 then (w.ticked.doesK pk).1 else (w.ticked.doesK pk).1.ended
end TrW
namespace CyW
def okN:Int→Bool
 |.ofNat k=>Nat.ble k 1099511627776
 |.negSucc _=>false
theorem okN_eq (n:Int):cOk n=okN n:=by
 cases n with
 |ofNat k=>
  unfold cOk okN;rw [Bool.eq_iff_iff,decide_eq_true_eq,Nat.ble_eq];constructor
  · intro h;have:=h.2;simp only [Int.ofNat_eq_natCast] at this;omega
  · intro h;simp only [Int.ofNat_eq_natCast];omega
 |negSucc k=>
  unfold cOk okN;rw [Bool.eq_iff_iff,decide_eq_true_eq];constructor
  · intro h;have:=h.1;omega
  · intro h;cases h
def bdK (W:CyW):Bool:=okN W.y.i&&(okN W.y.started&&(okN W.y.finished&&(okN W.y.freed&&(okN W.y.moved&&(okN W.y.steps&&(okN W.K.hand.count&&(okN W.K.sp.count&&(okN W.K.mem.count&&okN W.K.n))))))))
theorem yiW (W:CyW):W.bdB=W.bdK:=by unfold bdB bdK;simp only [okN_eq]
end CyW
namespace AcW
end AcW
namespace DuW
end DuW
namespace AcW
def bdQ (W:AcW):Bool:=CyW.okN W.a.own&&CyW.okN W.a.next&&CyW.okN W.K.hand.count&&CyW.okN W.K.sp.count&&CyW.okN W.K.mem.count&&CyW.okN W.K.n&&Nat.ble (W.K.sp.line.length+1) 1000000
theorem yiX (W:AcW):W.bdB=W.bdQ:=by
 have e: ∀n,cntOk n=CyW.okN n:=fun n=>CyW.okN_eq n
 have e2:decide (W.K.sp.line.length<1000000)=Nat.ble (W.K.sp.line.length+1) 1000000:=by
  rw [Bool.eq_iff_iff,decide_eq_true_eq,Nat.ble_eq];exact Iff.rfl
 unfold bdB bdQ;rw [e2];simp only [e]
def stepQ (W:AcW):Option AcR:=
 if W.okL=false then none
 else if W.bdQ=false then none
 else if W.a.phase=0 then some W.joins.no
 else if W.a.phase=1 then (if W.greyOk then some W.borderK.no else none)
 else if W.a.phase=2 then (if W.hasOp&&W.locOk then W.up.within else none)
 else if W.a.phase=4 then some W.no
 else none
theorem yli {W:AcW} {r:AcR} (h:W.stepQ=some r):W.stepL=some r:=by
 apply ylh;unfold stepQ at h;rw [←yiX] at h;exact h
end AcW
namespace CyW
end CyW
namespace DuW
def bd0 (D:DuW):Bool:=CyW.okN D.y.i&&(CyW.okN D.y.finished&&(CyW.okN D.y.freed&&(CyW.okN D.y.moved&&(CyW.okN D.y.steps&&(CyW.okN D.K.hand.count&&(CyW.okN D.K.mem.count&&(CyW.okN D.K.n&&(CyW.okN D.a.own&&(CyW.okN D.a.next&&Nat.ble (D.K.sp.line.length+1) 1000000)))))))))
def fin (made:Nat) (D:DuW):Bool:=D.a.phase==4&&(qOk made D&&(D.y.e==0&&(!wantsS D.K.sp&&(D.ac.okL&&(bd0 D&&(match D.K.sp.count with
 |.ofNat k=>Nat.ble k 1000000
 |.negSucc _=>false))))))
end DuW
def fullEnd (n:Nat):List Opr:=[⟨2,2,2,0,8*(9-n),0,0⟩,⟨13,0,0,0,0,0,0⟩,⟨13,1,0,0,0,0,0⟩,⟨8,0,1,0,0,0,0⟩,⟨2,2,2,0,8*(9-n),0,0⟩]
def fullOps (n:Nat):List Opr:=itsOps n++fullEnd n
def fullD (n:Nat) (A A0 A1 A2:Option Addr):DuW:=aloneD (cTwo 9 0 A A0 A1 A2) (fullOps n)
namespace AcW
def stepXQ (W:AcW):Option AcR:=
 if W.a.phase==3 then (if W.bdQ&&(decide (W.a.locals.length≤1000)&&(W.a.op.kind==2&&(W.opIn&&W.greyOk))) then W.up.waiting else none)
 else if W.a.phase==2&&W.a.op.kind==2 then (if W.bdQ&&(W.up.okA&&(W.opIn&&(W.locOk&&W.K.c.check==0))) then W.up.within else none)
 else W.stepQ
theorem stepXQ_of {W:AcW} {r:AcR} (h:W.stepXQ=some r):W.stepX=some r:=by
 unfold stepXQ at h;unfold stepX;rw [←yiX] at h;split at h
 · rename_i h3
   rw [if_pos h3];exact h
 · rename_i h3
   rw [if_neg h3];split at h
   · rename_i h2
     rw [if_pos h2];exact h
   · rename_i h2
     rw [if_neg h2];exact yli h
end AcW
namespace CyW
def stepGQ (W:CyW):Option CyW:=
 if (W.bdK&&(W.tick1.bdK&&W.y.e==0))=false then none
 else if W.y.stage=0 then some W.tick1.idles
 else W.tick1.stageG
theorem stepGQ_of {W V:CyW} (h:W.stepGQ=some V):W.stepG=some V:=by
 unfold stepGQ at h;unfold stepG;rw [yiW,yiW];exact h
end CyW
namespace DuW
def fDone (n:Nat) (r:ResS × Bool) (D:DuW) (rest:Bool):Bool:=
 if r.2 then (if r.1.op==4*(n:Int) then r.1.e==6&&(decide (2≤D.y.started)&&(decide (1≤D.y.finished)&&(D.a.locals.length==3&&(!(D.a.loc 2).ref&&rest))))
  else r.1.e==0&&(if r.1.op==4*(n:Int)+4 then D.K.sp.tab.cnt 2+n==10 else rest)) else rest
def fGo (n:Nat):Nat→Nat→DuW→Bool
 |0,_,_=>false
 |f+1,i,D=>if i%2=1 then (match D.ac.stepXQ with
  |none=>false
  |some x=>fDone n x.1 (D.putA x.2) (fGo n f (i+1) (D.putA x.2)))
 else match D.cy.stepGQ with
  |none=>false
  |some V=>fGo n f (i+1) (D.putC V)
theorem fGo_even {n f i:Nat} {D:DuW} (h:fGo n (f+1) i D=true) (hi:i%2=0): ∃V,D.cy.stepG=some V∧fGo n f (i+1) (D.putC V)=true:=by
 unfold fGo at h;rw [if_neg zo] at h;cases hV:D.cy.stepGQ with
 |none=>rw [hV] at h;cases h
 |some V=>rw [hV] at h;exact ⟨V,CyW.stepGQ_of hV,h⟩
def FCase (n f i:Nat) (x:AcR) (D:DuW):Prop:=
 (x.1.2=false∧fGo n f (i+1) D=true)∨
 (x.1.2=true∧x.1.1.op=4*(n:Int)∧x.1.1.e=6∧2≤D.y.started∧1≤D.y.finished∧D.a.locals.length=3∧(D.a.loc 2).ref=false∧fGo n f (i+1) D=true)∨
 (x.1.2=true∧x.1.1.op≠4*(n:Int)∧x.1.1.e=0∧x.1.1.op≠4*(n:Int)+4∧fGo n f (i+1) D=true)∨
 (x.1.2=true∧x.1.1.op=4*(n:Int)+4∧x.1.1.e=0∧D.K.sp.tab.cnt 2+n=10)
theorem fGo_odd {n f i:Nat} {D:DuW} (h:fGo n (f+1) i D=true) (hi:i%2=1): ∃x,D.ac.stepX=some x∧FCase n f i x (D.putA x.2):=by
 unfold fGo at h;rw [if_pos hi] at h;cases hV:D.ac.stepXQ with
 |none=>rw [hV] at h;cases h
 |some x=>
  rw [hV] at h;refine ⟨x,AcW.stepXQ_of hV,?_⟩;simp only at h;unfold fDone at h;cases hb:x.1.2
  · rw [hb] at h;exact Or.inl ⟨hb,h⟩
  · rw [hb,if_pos rfl] at h;split at h
    · rename_i ho
      rw [beq_iff_eq] at ho;simp only [Bool.and_eq_true,beq_iff_eq,decide_eq_true_eq,Bool.not_eq_true'] at h;obtain ⟨h1,h2,h3,h4,h5,h6⟩:=h;exact Or.inr (Or.inl ⟨hb,ho,h1,h2,h3,h4,h5,h6⟩)
    · rename_i ho
      rw [beq_iff_eq] at ho;rw [Bool.and_eq_true,beq_iff_eq] at h;obtain ⟨h1,h⟩:=h;split at h
      · rename_i h4
        rw [beq_iff_eq] at h4 h;exact Or.inr (Or.inr (Or.inr ⟨hb,h4,h1,h⟩))
      · rename_i h4
        rw [beq_iff_eq] at h4;exact Or.inr (Or.inr (Or.inl ⟨hb,ho,h1,h4,h⟩))
end DuW
def fullChk (n:Nat) (A A0 A1 A2:Option Addr):Bool:=DuW.fGo n 60000 0 (fullD n A A0 A1 A2)
theorem ykS {n:Nat} (h:fullChk n=fun _ _ _ _=>true) (A A0 A1 A2:Option Addr):DuW.fGo n 60000 0 (fullD n A A0 A1 A2)=true:=congrFun (congrFun (congrFun (congrFun h A) A0) A1) A2
theorem yc5 (n:Nat):(fullOps n).length=4*n+5:=by
 have h: ∀n,(itsOps n).length=4*n:=fun n=>by
  induction n with
  |zero=>rfl
  |succ n ih=>show (itsOps n++itOps).length=_;rw [List.length_append,ih];show 4*n+4=_;omega
 unfold fullOps;rw [List.length_append,h];rfl
structure HpNo (g:GW) (h:Nat) (st:Int) (c k:Nat) (W:CyW):Prop where
 blk:Blk g 90 h 86 [zp (some ⟨k,0,none⟩),zp (some ⟨c,0,none⟩),.slice none 0 0,zI z6 st]
 cy:CyWAt g 600 100 c k W
def HeapNone (c:Cnf) (w:World) (e:Ending) (w':World):Prop:=
 ∃w0 own' h y k,e=.returned (.tuple #[zp (some ⟨h,0,none⟩),zI z6 0])∧Ext w w0∧Mod hpT ⟨fun _=>0,w0⟩ ⟨own',w'⟩∧HpNo ⟨own',w'⟩ h 0 y k ⟨CyS.fresh,none,none,CoreS.fresh c⟩
theorem yjw (c:Cnf) (w:World) (h3:c.locals=1) (hth:0≤c.threads) (hck:c.check=0) (hc:c.Ok w):
 Calls prog 24 #[c.val,.slice none 0 0] w (HeapNone c w):=by
 have HE0:=zH (show Ext w (w.alloc (.cells #[zI z6 c.frags,zI z6 c.spine,zI z6 c.globals,zI z6 c.threads,zI z6 c.locals,zI z6 c.cache,zI z6 c.stack,zI z6 c.low,.slice c.A c.shapes.length c.cap] 34)) from zE);have HB:=zH (show Blk ⟨fun _=>0,w.alloc (.cells #[zI z6 c.frags,zI z6 c.spine,zI z6 c.globals,zI z6 c.threads,zI z6 c.locals,zI z6 c.cache,zI z6 c.stack,zI z6 c.low,.slice c.A c.shapes.length c.cap] 34)⟩ 0 w.heap.size 34 [zI z6 c.frags,zI z6 c.spine,zI z6 c.globals,zI z6 c.threads,zI z6 c.locals,zI z6 c.cache,zI z6 c.stack,zI z6 c.low,.slice c.A c.shapes.length c.cap] from ⟨World.row_alloc_new _,rfl⟩);have HOK:=zH (hc.ext HE0.o);have HCK:=zH hck;have dT:decide (c.threads<0)=false:=decide_eq_false zo;unfold Cnf.val;rw [h3] at HE0 HB HOK ⊢;clear hc hck hth;go_enter func24,ntmps24;go_upto_region 1 with fail
 generalize w.alloc (.cells #[zI z6 c.frags,zI z6 c.spine,zI z6 c.globals,zI z6 c.threads,zI z6 1,zI z6 c.cache,zI z6 c.stack,zI z6 c.low,.slice c.A c.shapes.length c.cap] 34)=w0 at *;have HM:=zH (show Calls prog 33 #[c.val] w0 (CoreMade c 100 ⟨fun _=>0,w0⟩) from yfD c 100 ⟨fun _=>0,w0⟩ HOK.o zo (fun k _=>Or.inl (show 0<100 by omega)));unfold Cnf.val at HM;rw [h3] at HM;generalize w.heap.size=hs0 at *;obtain ⟨f0,f1,f2,f3,f4,f5,f6,f7,f8,fl⟩:=HB.o.k9;go_wp2_with fail;refine HM.o.mono ?_;rintro e w1 hh;unfold CoreMade at hh;rw [if_pos HCK.o] at hh;obtain ⟨own1,k,rfl,m1,h1⟩:=hh;clear HOK HM f0 f1 f2 f3 f4 f5 f6 f7 f8 fl;obtain ⟨bm,bs,bt,bp,bsp,bh,cm,h1⟩:=h1;have M1:=zH m1;have H1:=zH h1;have B1:=zH (HB.o.keep m1 id);clear m1 h1 HB;obtain ⟨f0,f1,f2,f3,f4,f5,f6,f7,f8,fl⟩:=B1.o.k9;go_wp2_with fail;refine (yi7 ⟨own1,w1⟩ 600).mono ?_;rintro e w2 ⟨own2,y,rfl,m2,h2⟩;have M2:=zH (M1.o.trans m2);have H2:=zH (H1.o.keep m2 zG);have Y2:=zH h2;have B2:=zH (B1.o.keep m2 id);clear m2 h2 M1 H1 B1 f0 f1 f2 f3 f4 f5 f6 f7 f8 fl;obtain ⟨f0,f1,f2,f3,f4,f5,f6,f7,f8,fl⟩:=B2.o.k9;go_wp2_with fail
 obtain ⟨own3,w3,hw3,m3,b3⟩: ∃own3 w3,w3=w2.alloc (.cells #[zp (some ⟨k,0,none⟩),zp (some ⟨y,0,none⟩),.slice none 0 0,zI z6 0] 86)∧Mod (fun _=>False) (⟨own2,w2⟩:GW) ⟨own3,w3⟩∧Blk ⟨own3,w3⟩ 90 w2.heap.size 86 [zp (some ⟨k,0,none⟩),zp (some ⟨y,0,none⟩),.slice none 0 0,zI z6 0]:=⟨_,_,rfl,Mod.ext (T:=fun _=>False) (g:=⟨own2,w2⟩) (show Ext w2 (w2.alloc (.cells #[zp (some ⟨k,0,none⟩),zp (some ⟨y,0,none⟩),.slice none 0 0,zI z6 0] 86)) from zE) 90,Blk.new ⟨own2,w2⟩ 90 86 _⟩;rw [←hw3];have M3:=zH (M2.o.trans m3);have H3:=zH (H2.o.keep m3 zG);have Y3:=zH (Y2.o.keep m3 zG);have P3:=zH b3;clear m3 b3 hw3 M2 H2 Y2 B2 f0 f1 f2 f3 f4 f5 f6 f7 f8 fl;go_loopw [31] (fun i wr=>i=zI z6 0∧wr=w3) (fun i _=>0)
 case atStart=>exact ⟨rfl,rfl⟩
 case round=>
  obtain ⟨rfl,rfl⟩:=hrel;go_wp2_with fail;refine bodyPost_ret (v:=.tuple #[zp (some ⟨w2.heap.size,0,none⟩),zI z6 0]) (by simp [results,Tryz.results24,go_sem]) rfl ?_;exact ⟨w0,own3,w2.heap.size,y,k,rfl,HE0.o,M3.o.mono zG,P3.o,none,none,bm,bs,bt,bp,bsp,bh,cm,⟨Y3.o,H3.o⟩⟩
section
variable {g:GW} {hb c k:Nat} {st:Int} {W E:CyW}
theorem ycE {S:Nat→Prop} {g':GW} (h:CyWAt g 600 100 c k W) (m:Mod S g g') (hs: ∀x,S x→0<x∧x<100):CyWAt g' 600 100 c k W:=by
 obtain ⟨tp,hp,bm,bs,bt,bp,bsp,bh,cm,h1,h2⟩:=h;exact ⟨tp,hp,bm,bs,bt,bp,bsp,bh,cm,h1.keep m (fun x hx=>by have:=hs x hx;omega),h2.keep m (fun x hx=>by have:=hs x hx;omega)⟩
theorem HpNo.keepS {S:Nat→Prop} {g':GW} (h:HpNo g hb st c k W) (m:Mod S g g') (hs: ∀x,S x→x=9):HpNo g' hb st c k W:=
 ⟨h.blk.keep m (fun hx=>by have:=hs 90 hx;omega),ycE h.cy m (fun x hx=>by have:=hs x hx;omega)⟩
theorem HpNo.tick (h:HpNo g hb st c k W) (s:Int):HpNo ⟨g.own,g.w.setCell ⟨hb,3,none⟩ (zI z6 s)⟩ hb s c k W∧Mod (fun x=>x=90) g ⟨g.own,g.w.setCell ⟨hb,3,none⟩ (zI z6 s)⟩:=by
 have m:Mod (fun x=>x=90) g ⟨g.own,g.w.setCell ⟨hb,3,none⟩ (zI z6 s)⟩:=Mod.set h.blk.own;exact ⟨⟨h.blk.set 3 _,ycE h.cy m (fun x hx=>by omega)⟩,m⟩
theorem HpNo.put {g':GW} (h:HpNo g hb st c k W) (m:Mod (cyT 600 100) g g') (d:CyWAt g' 600 100 c k E):HpNo g' hb st c k E:=
 ⟨h.blk.keep m (fun hx=>by unfold cyT at hx;omega),d⟩
theorem ygG (h:HpNo g hb st c k W) (hst:0≤st∧st≤1000000) (hY: ∀g1,CyWAt g1 600 100 c k W→Calls prog 19 #[zp (some ⟨c,0,none⟩),zp (some ⟨k,0,none⟩)] g1.w (Does (.tuple #[]) g1 (cyT 600 100) (fun g'=>CyWAt g' 600 100 c k E))):
 Calls prog 26 #[zp (some ⟨hb,0,none⟩),zI z6 0] g.w (Does (tickV 0 false ⟨0,0,0,LVal.zero⟩) g hpT (fun g'=>HpNo g' hb (st+1) c k E)):=by
 have HH:=zH h;have HYY:=zH hY;clear h hY;obtain ⟨p0,p1,p2,p3,pl⟩:=HH.o.blk.k4;go_enter func26,ntmps26;go_upto_region 2 with fail
 obtain ⟨own0,m0,t0,x0⟩:=yaq g 78 78 (tickL 0 false ⟨0,0,0,LVal.zero⟩) (tickL 0 false ⟨0,0,0,LVal.zero⟩);unfold tickL at m0 t0 x0;change Mod _ _ ⟨own0,(g.w.alloc (.cells #[zI z6 0,zb false,zI z6 0,zI z6 0,zI z6 0,zb false,zc z4 0 0] 78)).alloc (.cells #[zI z6 0,zb false,zI z6 0,zI z6 0,zI z6 0,zb false,zc z4 0 0] 78)⟩ at m0;change Blk ⟨own0,(g.w.alloc (.cells #[zI z6 0,zb false,zI z6 0,zI z6 0,zI z6 0,zb false,zc z4 0 0] 78)).alloc (.cells #[zI z6 0,zb false,zI z6 0,zI z6 0,zI z6 0,zb false,zc z4 0 0] 78)⟩ _ _ _ _ at t0;change Blk ⟨own0,(g.w.alloc (.cells #[zI z6 0,zb false,zI z6 0,zI z6 0,zI z6 0,zb false,zc z4 0 0] 78)).alloc (.cells #[zI z6 0,zb false,zI z6 0,zI z6 0,zI z6 0,zb false,zc z4 0 0] 78)⟩ _ _ _ _ at x0;have M0:=zH m0;have T0:=zH t0;have X0:=zH x0;have H0:=zH (HH.o.keepS m0 zG);clear m0 t0 x0 p0 p1 p2 p3 pl
 generalize hw0:(g.w.alloc (.cells #[zI z6 0,zb false,zI z6 0,zI z6 0,zI z6 0,zb false,zc z4 0 0] 78)).alloc (.cells #[zI z6 0,zb false,zI z6 0,zI z6 0,zI z6 0,zb false,zc z4 0 0] 78)=w0 at *;clear hw0;obtain ⟨p0,p1,p2,p3,pl⟩:=H0.o.blk.k4;have pf3:=H0.o.blk.liv 3;go_upto_region 6 with fail
 have ht:=H0.o.tick (st+1);have m1:Mod (fun x=>x=90) (⟨own0,w0⟩:GW) ⟨own0,w0.setCell ⟨hb,3,none⟩ (zI z6 (st+1))⟩:=ht.2;have H1:=zH (show HpNo ⟨own0,w0.setCell ⟨hb,3,none⟩ (zI z6 (st+1))⟩ hb (st+1) c k W from ht.1);have T1:=zH (T0.o.keep m1 (show¬(9:Nat)=90 by decide));have X1:=zH (X0.o.keep m1 (show¬(9:Nat)=90 by decide));have M1:=zH ((M0.o.mono (S:=hpT) zG).trans (m1.mono (fun x hx=>Or.inr (Or.inl hx))));clear ht m1 p0 p1 p2 p3 pf3 pl H0 T0 X0 M0;generalize w0.setCell ⟨hb,3,none⟩ (zI z6 (st+1))=w1 at *;obtain ⟨p0,p1,p2,p3,pl⟩:=H1.o.blk.k4;refine yat [] [zT,zT,zT,zT,zT,zT,zT,zT,zT] 9 0 ?_;intro X00;simp only [pickOps,movesAct,moveOf,List.getElem?_toArray,List.getElem?_cons_zero,List.getElem?_cons_succ];(try go_simp);repeat (go_big_quiet_step (fail))
 refine wpQuiet_nil (fun X0 K Q' hK=>?_);clear X00;(try go_simp);refine (HYY.o ((⟨own0,w1⟩:GW).pt _) (ycE H1.o.cy (Mod.pt (Mod.refl (fun _=>False) _) _) zG)).mono ?_;rintro e w2 ⟨rfl,own2,m2,d2⟩;have P2:=(Mod.pt (Mod.refl _ (⟨own0,w1⟩:GW)) _).trans m2;have H2:=zH (H1.o.put P2 d2);have T2:=zH (T1.o.keep P2 (fun hx=>by unfold cyT at hx;omega));have X2:=zH (X1.o.keep P2 (fun hx=>by unfold cyT at hx;omega));have M2:=zH (M1.o.trans (P2.mono (S:=hpT) (fun x hx=>Or.inl (Or.inr hx))));clear P2 m2 d2 H1 T1 X1 M1 p0 p1 p2 p3 pl HYY;(try go_simp);refine hK _ _ ?_;clear hK K Q';refine wpAny_done zQ ?_ _;obtain ⟨t0,t1,t2,t3,t4,t5,t6,tl⟩:=T2.o.k7;have tf0:=T2.o.liv 0;have tf1:=T2.o.liv 1;have tf2:=T2.o.liv 2;have tf3:=T2.o.liv 3;have tf4:=T2.o.liv 4;have tf5:=T2.o.liv 5;have tf6:=T2.o.liv 6;obtain ⟨x0,x1,x2,x3,x4,x5,x6,xl⟩:=X2.o.k7;go_wp2_with fail;obtain ⟨Mf,mf,Rf⟩:=ycf M2.o T2.o (Nat.le_refl _) (0) (false) (0) (0) (0) (LVal.zero.ref) (LVal.zero.z.1) (LVal.zero.z.2)
 generalize ((((((w2.setCell ⟨g.w.heap.size,0,none⟩ (zI z6 (0))).setCell ⟨g.w.heap.size,1,none⟩ (zb (false))).setCell ⟨g.w.heap.size,2,none⟩ (zI z6 (0))).setCell ⟨g.w.heap.size,3,none⟩ (zI z6 (0))).setCell ⟨g.w.heap.size,4,none⟩ (zI z6 (0))).setCell ⟨g.w.heap.size,5,none⟩ (zb (LVal.zero.ref))).setCell ⟨g.w.heap.size,6,none⟩ (zc z4 (LVal.zero.z.1) (LVal.zero.z.2))=wf at *;obtain ⟨f0,f1,f2,f3,f4,f5,f6,fl⟩:=Rf.k7;refine bodyPost_ret (v:=.agg #[zI z6 (0),zb (false),zI z6 (0),zI z6 (0),zI z6 (0),zb (LVal.zero.ref),zc z4 (LVal.zero.z.1) (LVal.zero.z.2)]) (by simp [results,Tryz.results26,go_sem,f0,f1,f2,f3,f4,f5,f6]) rfl ?_;exact Does.of ⟨own2,wf⟩ rfl rfl Mf (H2.o.keepS mf (fun x hx=>hx))
end
end Go.Proofs.YtdhjjpnajjingaaGreat
namespace Go.Proofs.YtdhjjpnajjingaaGreat
open Go Go.RowKit
theorem ygR (g:GW) (t b bt bp:Nat) (n:Int) (h:Blk g t b 57 [zp (some ⟨bt,0,none⟩),zp (some ⟨bp,0,none⟩),zI z6 n]):
 Calls prog 185 #[zp (some ⟨b,0,none⟩)] g.w (fun e w'=>e=.returned (zI z6 n)∧g.w=w'):=by
 have c2:=h.cell (i:=2) rfl;clear h;go_enter func185,ntmps185;go_wp2_with fail;go_ret;exact ⟨rfl,rfl⟩
def CoreS.count (K:CoreS):Int:=K.mem.count+K.n+K.sp.count+K.hand.count
theorem yhz (g:GW) (B b:Nat) (K:CoreS) (h:CoreAt g B b K) (h1:0≤K.mem.count∧K.mem.count≤1099511627776) (h2:0≤K.n∧K.n≤1099511627776) (h3:0≤K.sp.count∧K.sp.count≤1099511627776) (h4:0≤K.hand.count∧K.hand.count≤1099511627776):
 Calls prog 110 #[zp (some ⟨b,0,none⟩)] g.w (Gives (zI z6 (CoreS.count K)) g.w):=by
 obtain ⟨bm,bs,bt,bp,bsp,bh,cm,h⟩:=h;obtain ⟨_,_⟩:=h1;obtain ⟨_,_⟩:=h2;obtain ⟨_,_⟩:=h3;obtain ⟨_,_⟩:=h4;have H:=zH h;have HV:=zH (show CoreS.count K=K.mem.count+K.n+K.sp.count+K.hand.count from rfl);have HM:=zH (fun X=>yau (yjO (g.pt X) (B+62) bm K.mem (H.o.mem.pt X)));have HS:=zH (fun X=>yau (ygR (g.pt X) (B+60) bs bt bp K.n (H.o.sh.pt X)));have HP:=zH (fun X=>yau (ygV (g.pt X) B bsp bt K.sp (H.o.sp.keep (Mod.pt (Mod.refl (fun _=>False) _) X) zG)));have HH:=zH (fun X=>yau (yhV (g.pt X) (B+63) bh K.hand (H.o.hand.keep (Mod.pt (Mod.refl (fun _=>False) _) X) id)));obtain ⟨a0,a1,a2,a3,a4,a5,a6,a7,a8,a9,a10,a11,a12,al⟩:=h.blk.k13;clear h;generalize CoreS.count K=v at *;generalize K.mem.count=x1 at *;generalize K.n=x2 at *;generalize K.sp.count=x3 at *;generalize K.hand.count=x4 at *;go_enter func110,ntmps110;go_wp2_with fail;refine yab [zT,zT,zT,zT,zT,zT,zT,zT,zT,zT,zT,zT,zT,zT,zT,zT,zT,zT,zT,zT,zT,zT,zT,zT] 0 24 ?_;intro X00;simp only [pickOps]
 repeat (go_big_quiet_step (first|(go_at_call 184;exact Calls.added (HM.o _))|(go_at_call 185;exact Calls.added (HS.o _))|(go_at_call 186;exact Calls.added (HP.o _))|(go_at_call 187;exact Calls.added (HH.o _))))
 refine wpQuiet_nil (fun X0=>?_);clear X00;refine yaa zQ (fun X0'=>?_) _;go_wp2_with fail;go_ret;exact Gives.int (by rw [HV.o]) zE
section
variable {g:GW} {hb c k:Nat} {st:Int} {W E:CyW}
theorem yc6 (h:HpNo g hb st c k W):Calls prog 56 #[zp (some ⟨hb,0,none⟩)] g.w (fun e w'=>e=.returned (zI z6 st)∧g.w=w'):=by
 obtain ⟨a0,a1,a2,a3,al⟩:=h.blk.k4;clear h;go_enter func56,ntmps56;go_wp2_with fail;go_ret;exact ⟨rfl,rfl⟩
theorem yeb (h:HpNo g hb st c k W) (h1:W.K.mem.count=0) (h2:W.K.n=0) (h3:W.K.sp.count=0) (h4:W.K.hand.count=0):Calls prog 57 #[zp (some ⟨hb,0,none⟩)] g.w (Gives (zI z6 0) g.w):=by
 obtain ⟨tp,hp,bm,bs,bt,bp,bsp,bh,cm,hy,hk⟩:=h.cy
 have HC:=zH (show Calls prog 110 #[zp (some ⟨k,0,none⟩)] g.w (Gives (zI z6 0) g.w) from by
  have h:=yhz g 100 k W.K ⟨bm,bs,bt,bp,bsp,bh,cm,hk⟩ (by rw [h1];decide) (by rw [h2];decide) (by rw [h3];decide) (by rw [h4];decide);rw [show CoreS.count W.K=0 by unfold CoreS.count;rw [h1,h2,h3,h4];rfl] at h;exact h)
 obtain ⟨a0,a1,a2,a3,al⟩:=h.blk.k4;clear h hy hk h1 h2 h3 h4;go_enter func57,ntmps57;go_wp2_with fail;refine HC.o.mono ?_;rintro e w1 ⟨rfl,hX⟩;have HX:=zH (show Ext g.w w1 from hX);clear hX;go_wp2_with fail;go_ret;exact Gives.mk rfl HX.o
theorem yfe (h:HpNo g hb st c k W):Calls prog 26 #[zp (some ⟨hb,0,none⟩),zI z6 1] g.w (Does (tickV 1 false ⟨0,0,0,LVal.zero⟩) g hpT (fun g'=>HpNo g' hb st c k W)):=by
 have HH:=zH h;clear h;obtain ⟨p0,p1,p2,p3,pl⟩:=HH.o.blk.k4;go_enter func26,ntmps26;go_upto_region 3 with fail
 obtain ⟨own2,m0,t0,x0⟩:=yaq g 78 78 (tickL 0 false ⟨0,0,0,LVal.zero⟩) (tickL 1 false ⟨0,0,0,LVal.zero⟩);unfold tickL at m0 t0 x0;change Mod _ _ ⟨own2,(g.w.alloc (.cells #[zI z6 0,zb false,zI z6 0,zI z6 0,zI z6 0,zb false,zc z4 0 0] 78)).alloc (.cells #[zI z6 1,zb false,zI z6 0,zI z6 0,zI z6 0,zb false,zc z4 0 0] 78)⟩ at m0;change Blk ⟨own2,(g.w.alloc (.cells #[zI z6 0,zb false,zI z6 0,zI z6 0,zI z6 0,zb false,zc z4 0 0] 78)).alloc (.cells #[zI z6 1,zb false,zI z6 0,zI z6 0,zI z6 0,zb false,zc z4 0 0] 78)⟩ _ _ _ _ at t0;change Blk ⟨own2,(g.w.alloc (.cells #[zI z6 0,zb false,zI z6 0,zI z6 0,zI z6 0,zb false,zc z4 0 0] 78)).alloc (.cells #[zI z6 1,zb false,zI z6 0,zI z6 0,zI z6 0,zb false,zc z4 0 0] 78)⟩ _ _ _ _ at x0;have M0:=zH (m0.mono (S:=hpT) zG);have T0:=zH t0;have X0:=zH x0;have H0:=zH (HH.o.keepS m0 zG);clear m0 t0 x0 p0 p1 p2 p3 pl
 generalize hw0:(g.w.alloc (.cells #[zI z6 0,zb false,zI z6 0,zI z6 0,zI z6 0,zb false,zc z4 0 0] 78)).alloc (.cells #[zI z6 1,zb false,zI z6 0,zI z6 0,zI z6 0,zb false,zc z4 0 0] 78)=w0 at *;clear hw0;obtain ⟨t0,t1,t2,t3,t4,t5,t6,tl⟩:=T0.o.k7;have tf0:=T0.o.liv 0;have tf1:=T0.o.liv 1;have tf2:=T0.o.liv 2;have tf3:=T0.o.liv 3;have tf4:=T0.o.liv 4;have tf5:=T0.o.liv 5;have tf6:=T0.o.liv 6;obtain ⟨x0,x1,x2,x3,x4,x5,x6,xl⟩:=X0.o.k7;go_wp2_with fail;obtain ⟨Mf,mf,Rf⟩:=ycf M0.o T0.o (Nat.le_refl _) (1) (false) (0) (0) (0) (LVal.zero.ref) (LVal.zero.z.1) (LVal.zero.z.2);generalize ((((((w0.setCell ⟨g.w.heap.size,0,none⟩ (zI z6 (1))).setCell ⟨g.w.heap.size,1,none⟩ (zb (false))).setCell ⟨g.w.heap.size,2,none⟩ (zI z6 (0))).setCell ⟨g.w.heap.size,3,none⟩ (zI z6 (0))).setCell ⟨g.w.heap.size,4,none⟩ (zI z6 (0))).setCell ⟨g.w.heap.size,5,none⟩ (zb (LVal.zero.ref))).setCell ⟨g.w.heap.size,6,none⟩ (zc z4 (LVal.zero.z.1) (LVal.zero.z.2))=wf at *;obtain ⟨f0,f1,f2,f3,f4,f5,f6,fl⟩:=Rf.k7
 refine bodyPost_ret (v:=.agg #[zI z6 (1),zb (false),zI z6 (0),zI z6 (0),zI z6 (0),zb (LVal.zero.ref),zc z4 (LVal.zero.z.1) (LVal.zero.z.2)]) (by simp [results,Tryz.results26,go_sem,f0,f1,f2,f3,f4,f5,f6]) rfl ?_;exact Does.of ⟨own2,wf⟩ rfl rfl Mf (H0.o.keepS mf (fun x hx=>hx))
end
theorem yg1 (x0 x2 x3 x4:Int) (x1 x5:Bool) (x6 x7:Nat) (w:World):(Instr.field 78 (.agg #[zI z6 x0,zb x1,zI z6 x2,zI z6 x3,zI z6 x4,zb x5,zc z4 x6 x7]) 0).run prog w=.ok (zI z6 x0) w:=zQ
theorem ygA (w:World):Calls prog 23 #[] w (Gives (zb true) w):=by
 have q1:=World.row_alloc_new w (o:=.cells #[zb false,.slice none 0 0] 94)
 have hok:(c23 (some ⟨w.heap.size,0,none⟩)).Ok (w.alloc (.cells #[zb false,.slice none 0 0] 94)):=
  ⟨CellsAt.mk (Array.getElem?_eq_some_iff.1 q1).1 (fun i v hi=>by rw [Nat.zero_add];exact ycg (l:=[zb false,.slice none 0 0]) q1 hi),fun s hs=>by rw [List.mem_singleton.1 hs];exact ⟨CellsAt.nil _ _,by simp,by simp⟩,Nat.le_refl _,(show 1≤140737488355328 by decide)⟩
 have HE:=zH (show Ext w (w.alloc (.cells #[zb false,.slice none 0 0] 94)) from zE);have HM:=zH (yjw (c23 (some ⟨w.heap.size,0,none⟩)) _ rfl (show (0:Int)≤1 by decide) (yi0 _) hok);unfold Cnf.val at HM;clear q1 hok;go_enter func23,ntmps23;go_wp2_with fail;refine HM.o.mono ?_;rintro e w1 ⟨w0,own1,h,y,k,rfl,hE,m1,h1⟩;generalize (some ⟨w.heap.size,0,none⟩:Option Addr)=A at *;have E0:=zH (HE.o.trans hE);have M1:=zH m1;have H1:=zH h1;have HS:=zH (yfe h1);clear hE m1 h1 HE HM;go_wp2_with fail;refine HS.o.mono ?_;rintro e w2 ⟨rfl,own2,m2,h2⟩;have M2:=zH (M1.o.trans m2);have H2:=zH h2;clear m2 h2 M1 H1 HS;unfold tickV tickL;go_upto_region 5 with fail
 obtain ⟨own3,m3,t3⟩:=yam ⟨own2,w2⟩ 78 [zI z6 1,zb false,zI z6 0,zI z6 0,zI z6 0,zb LVal.zero.ref,zc z4 LVal.zero.z.1 LVal.zero.z.2];change Mod _ _ ⟨own3,w2.alloc (.cells #[zI z6 1,zb false,zI z6 0,zI z6 0,zI z6 0,zb LVal.zero.ref,zc z4 LVal.zero.z.1 LVal.zero.z.2] 78)⟩ at m3;change Blk ⟨own3,w2.alloc (.cells #[zI z6 1,zb false,zI z6 0,zI z6 0,zI z6 0,zb LVal.zero.ref,zc z4 LVal.zero.z.1 LVal.zero.z.2] 78)⟩ 9 w2.heap.size _ _ at t3;have M3:=zH (M2.o.trans (m3.mono (S:=hpT) zG));have H3:=zH (H2.o.keepS m3 zG);have T3:=zH t3;clear m3 t3 M2 H2;generalize hw3:w2.alloc (.cells #[zI z6 1,zb false,zI z6 0,zI z6 0,zI z6 0,zb LVal.zero.ref,zc z4 LVal.zero.z.1 LVal.zero.z.2] 78)=w3 at *;clear hw3;generalize w2.heap.size=tb at *;have HST:=zH (yc6 H3.o);have HAC:=zH (yeb H3.o rfl rfl rfl rfl);obtain ⟨t0,t1,t2,t3,t4,t5,t6,tl⟩:=T3.o.k7;go_wp2_with fail;refine HST.o.mono ?_;rintro e w' ⟨rfl,rfl⟩;clear HST;go_wp2_with fail;refine HAC.o.mono ?_;rintro e w4 ⟨rfl,hX⟩
 obtain ⟨own4,m4⟩:=Mod.ofExt (show Ext w3 w4 from hX) own3;have M4:=zH (M3.o.trans (m4.mono (S:=hpT) zG));have H4:=zH (H3.o.keepS m4 zG);clear hX m4 M3 H3 T3 HAC t0 t1 t2 t3 t4 t5 t6 tl;have HSP:=zH (ygG (E:=CyW.idles (CyW.tick1 ⟨CyS.fresh,none,none,CoreS.fresh (c23 A)⟩)) H4.o zd (fun g1 h1=>ycD yiQ (CyW.bdB_of rfl) rfl rfl h1));go_wp2_with fail;refine HSP.o.mono ?_;rintro e w5 ⟨rfl,own5,m5,h5⟩;have M5:=zH (M4.o.trans m5);have HST:=zH (yc6 h5);clear m5 h5 M4 H4 HSP;have htf:=yg1 0 0 0 0 false LVal.zero.ref LVal.zero.z.1 LVal.zero.z.2;unfold tickV tickL;go_wp2_with fail;refine HST.o.mono ?_;rintro e w' ⟨rfl,rfl⟩;go_wp2_with fail;go_ret;exact Gives.mk rfl (E0.o.trans (M5.o.nothing (fun j _ (hj:hpT 0)=>by simp only [hpT,duT,acT,cyT] at hj;omega)).toExt)
end Go.Proofs.YtdhjjpnajjingaaGreat
namespace Go.Proofs.YtdhjjpnajjingaaGreat
open Go Go.RowKit
theorem yfQ (n:Int):bits .and .i64 n 1=n%2:=by
 have h7:(BitVec.ofInt 64 1).toNat=2 ^ 1-1:=zd
 have key:(BitVec.ofInt 64 n&&& BitVec.ofInt 64 1).toNat=(n%((2 ^ 64:Nat):Int)).toNat%2 ^ 1:=by
  rw [BitVec.toNat_and,BitVec.toNat_ofInt,h7,Nat.and_two_pow_sub_one_eq_mod]
 show IntKind.i64.wrap ((BitVec.ofInt 64 n&&& BitVec.ofInt 64 1).toNat:Nat)=n%2;rw [key,IntKind.wrap_i64];omega
theorem ydM (l:List Opr): ∀u∈l.flatMap Opr.cells,u.oneCell'=true:=by
 intro u hu;obtain ⟨o, -,ho⟩:=List.mem_flatMap.1 hu;simp only [Opr.cells,List.mem_cons,List.not_mem_nil,or_false] at ho;rcases ho with rfl|rfl|rfl|rfl|rfl|rfl<;>rfl
structure QIn (made j:Nat) (D:DuW) (r:Nat × DuW) (p:Nat):Prop where
 q:DuW.qOk made D=true
 m:made≤j
 f:D.Fit
 r:DuW.qRun (p-j) j made D=some r
theorem HpIs.ext {w0:World} {own:Nat→Nat} {w w':World} {hb a c k:Nat} {st:Int} {D:DuW} (h:HpIs w0 ⟨own,w⟩ hb st a c k D) (he:Ext w w'): ∃own',HpIs w0 ⟨own',w'⟩ hb st a c k D:=by
 obtain ⟨own',m⟩:=Mod.ofExt he own;exact ⟨own',h.keep m⟩
theorem ygr (A A0 A1 A2:Option Addr):(cTwo 9 0 A A0 A1 A2).check=0:=by rfl
theorem yjj {n:Nat} (h:n≤8) (A A0 A1 A2:Option Addr):(fullD n A A0 A1 A2).Fit:=⟨(by show (fullOps n).length≤_;rw [yc5];omega),fun S hS=>by cases hS⟩
theorem loc2 {l:List LVal} (h:l.length=3) (hr:(l.getD 2 LVal.zero).ref=false):(l.flatMap LVal.cells)[4]?=some (zb false):=by
 match l,h with
 |[a,b,c],_=>exact congrArg some (congrArg zb hr)
theorem yjk (H: ∀n:Nat,2≤n∧n≤8→fullChk n=fun _ _ _ _=>true) (n:Int) (w:World):Calls prog 6 #[zI z6 n] w (Gives (zb true) w):=by
 have HF:=zH (fun w=>ygA w);have HALL:=zH H;clear H;go_enter func6,ntmps6;go_wp2_with fail;refine (HF.o _).mono ?_;rintro e w1 ⟨rfl,hX⟩;have E1:=zH (show Ext w w1 from hX);clear hX;by_cases hn1:n<2
 · have d0:decide (n<2)=true:=decide_eq_true hn1;clear hn1;go_wp2_with fail;refine (HF.o _).mono ?_;rintro e w9 ⟨rfl,hX⟩;have E9:=zH (show Ext w1 w9 from hX);clear hX;go_wp2_with fail;go_ret;exact Gives.bool rfl (E1.o.trans E9.o)
 have d0:decide (n<2)=false:=decide_eq_false hn1;by_cases hn2:8<n
 · have d1:decide (8<n)=true:=decide_eq_true hn2;clear hn1 hn2;go_wp2_with fail;refine (HF.o _).mono ?_;rintro e w9 ⟨rfl,hX⟩;have E9:=zH (show Ext w1 w9 from hX);clear hX;go_wp2_with fail;go_ret;exact Gives.bool rfl (E1.o.trans E9.o)
 have d1:decide (8<n)=false:=decide_eq_false hn2;obtain ⟨m,rfl⟩:=Int.eq_ofNat_of_zero_le (show 0≤n by omega);have hm:2≤m∧m≤8:=zo;clear hn1 hn2;obtain ⟨i0,hi,hz0,hz1,hz2⟩:=info_parts yjB;go_wp2_with fail;clear d0 d1;go_loopw [3,4] (fun v i wr=> ∃k:Nat,k≤m∧i=zI z6 k∧Hid (wr.ownsRow w1.heap.size 26 6 v (4*k) ((itsOps k).flatMap Opr.cells))∧Hid (Ext w1 wr)) (fun _ i _=>m-(intOf i).toNat)
 case atStart=>exact ⟨0,Nat.zero_le _,rfl,zH (World.ownsRow_nil _ _ _ _),zH (Ext.refl _)⟩
 case round=>
  obtain ⟨k,hk,rfl,HR,HE⟩:=hrel;obtain ⟨Av,cv,rfl⟩:=yak HR.o;by_cases hlt:k<m
  · have hlt':(k:Int)<(m:Int):=zo;have hsz:=HE.o.size;go_wp2_with (at_builtin;refine wpList_append_own _ rfl _ _ 23 rfl w1.heap.size 26 i0 (.agg #[zI z6 0,zI z6 0,zI z6 0,zI z6 0,zI z6 0,zc z4 0 0]) 6 56 Tryz.underlying23 hi hz0 hz1 hz2 rfl zd _ _ _ rfl (HR.o.alloc _) ⟨wr.heap.size,0,none⟩ 4 4 (itOps.flatMap Opr.cells) rfl rfl (ybk _ (itOps.flatMap Opr.cells) 26) (ydM _) (by unfold maxLen;omega) zo (by rw [World.size_alloc];omega) ?_;intro v' w2 hown' hgrow _);have HE2:=zH (yaC (w:=w1) (HE.o.alloc _) hgrow (fun j hj=>(HR.o.lt j hj).1));have HN':=zH hown';clear hown' hgrow;go_roundw
    case rel=>exact ⟨k+1,zo,by go_num,zH (by rw [show itsOps (k+1)=itsOps k++itOps from rfl,List.flatMap_append,show 4*(k+1)=4*k+4 by omega];exact HN'.o),HE2⟩
    case measure=>simp [intOf];omega
  · obtain rfl:k=m:=zo;clear hk hlt;have hsz:=HE.o.size;obtain ⟨w2,rfl⟩: ∃w2:World,w2=wr:=⟨_,rfl⟩;go_wp2_with (at_builtin;refine wpList_append_own _ rfl _ _ 23 rfl w1.heap.size 26 i0 (.agg #[zI z6 0,zI z6 0,zI z6 0,zI z6 0,zI z6 0,zc z4 0 0]) 6 56 Tryz.underlying23 hi hz0 hz1 hz2 rfl zd _ _ _ rfl (HR.o.alloc _) ⟨w2.heap.size,0,none⟩ 5 5 ((fullEnd k).flatMap Opr.cells) rfl rfl (ybk _ ((fullEnd k).flatMap Opr.cells) 26) (ydM _) (by unfold maxLen;omega) zo (by rw [World.size_alloc];omega) ?_;intro v' w3 hown' hgrow _);have E3:=zH (E1.o.trans (yaC (w:=w1) (HE.o.alloc _) hgrow (fun j hj=>(HR.o.lt j hj).1)));obtain ⟨Al,cl,rfl⟩:=yak hown';have HL:=zH (show CellsAt w3 Al ((fullOps k).flatMap Opr.cells) from by rw [show fullOps k=itsOps k++fullEnd k from rfl,List.flatMap_append];exact ybh hown');clear HR HE hsz hown' hgrow;obtain ⟨ln,hln⟩: ∃ln,4*k+5=ln:=⟨_,rfl⟩;rw [hln];have HLN:=zH hln;clear hln;have HT:=zH (ylR 9 0 w3);go_wp2_with fail;refine HT.o.mono ?_;rintro e w4 ⟨A,A0,A1,A2,rfl,hE,hOK⟩;have hA3:Ext w4 (w4.alloc (.cells #[.slice Al ln cl] 23)):=zE
    have HNW:=zH (yjx (cTwo 9 0 A A0 A1 A2) w4.heap.size Al cl (fullOps k) (w4.alloc (.cells #[.slice Al ln cl] 23)) ln rfl (show (1:Int)≤2 by decide) (ygr A A0 A1 A2) (hOK.ext hA3) ((yc5 k).trans HLN.o) (by have:=HLN.o;omega) ((HL.o.ext hE).ext hA3) (by rw [World.cell?,heap_alloc_new];rfl) (by rw [World.size_alloc];omega));have E4:=zH ((E3.o.trans hE).trans hA3);have HG0:=zH (ykS (HALL.o k hm) A A0 A1 A2);have FT0:=zH (yjj hm.2 A A0 A1 A2);clear hE hOK HT HL E3 E1 hA3;generalize (cTwo 9 0 A A0 A1 A2).val=cvv at *;go_wp2_with fail;refine HNW.o.mono ?_;rintro e w5 ⟨w0,own5,hb,a,y,kk,rfl,hE0,hD0⟩;have E5:=zH (E4.o.trans hE0);have S5:=zH (show HpIs w0 ⟨own5,w5⟩ hb ((0:Nat):Int) a y kk (fullD k A A0 A1 A2) from hD0);generalize fullD k A A0 A1 A2=D0 at *;clear hE0 hD0 HNW E4 HALL HLN;go_wp2_with fail;go_loopw [8,9,10,11,12,13,14,15,16,17,18] (fun i x1 x2 x3 x4 x5 x6 x7 x8 x9 x10 wr=> ∃(j:Nat) (own:Nat→Nat) (X:DuW),j≤60000∧i=zI z6 j∧Hid (HpIs w0 ⟨own,wr⟩ hb j a y kk X)∧Hid X.Fit∧Hid (DuW.fGo k (60000-j) j X=true)) (fun i _ _ _ _ _ _ _ _ _ _ _=>60000-(intOf i).toNat)
    case atStart=>exact ⟨0,own5,D0,Nat.zero_le _,rfl,S5,FT0,HG0⟩
    case round=>
     clear S5 FT0 HG0;obtain ⟨j,own6,X,hj,rfl,S6,FT6,HG6⟩:=hrel;obtain ⟨w6,rfl⟩: ∃w6:World,w6=wr:=⟨_,rfl⟩;by_cases hlt:j<60000
     · have hlt':(j:Int)<60000:=zo;obtain ⟨f,hff⟩: ∃f,60000-j=f+1:=⟨60000-j-1,zo⟩;have hg:=HG6.o;rw [hff] at hg;rcases Nat.mod_two_eq_zero_or_one j with he|he
       · obtain ⟨V,hV,hn⟩:=DuW.fGo_even hg he;have HN:=zH hn;have FT:=zH (FT6.o.stepC hV);have hand:bits .and .i64 (j:Int) 1=0:=by rw [yfQ];omega
         have HS:=zH (show Calls prog 26 #[zp (some ⟨hb,0,none⟩),zI z6 0] w6 (Does (.agg #[zI z6 0,zb false,zI z6 0,zI z6 0,zI z6 0,zb false,zc z4 0 0]) ⟨own6,w6⟩ hpT (fun g'=>HpIs w0 g' hb ((j:Int)+1) a y kk (X.putC V)∧(X.putC V).Fit)) from ykW S6.o ⟨zo,zo⟩ FT6.o V hV);clear hg hn hV HG6 S6 FT6 he;generalize DuW.putC X V=Y at *;go_wp2_with fail;refine HS.o.mono ?_;rintro e w7 ⟨rfl,own7,m7,s7, -⟩;have S7:=zH (show HpIs w0 ⟨own7,w7⟩ hb ((j+1:Nat):Int) a y kk Y from s7);clear m7 s7 HS hand;go_upto_region 19 with fail
         obtain ⟨own8,m8,t8⟩:=yam ⟨own7,w7⟩ 78 [zI z6 0,zb false,zI z6 0,zI z6 0,zI z6 0,zb false,zc z4 0 0];have m8':Mod (fun _=>False) (⟨own7,w7⟩:GW) ⟨own8,w7.alloc (.cells #[zI z6 0,zb false,zI z6 0,zI z6 0,zI z6 0,zb false,zc z4 0 0] 78)⟩:=m8;have t8':Blk ⟨own8,w7.alloc (.cells #[zI z6 0,zb false,zI z6 0,zI z6 0,zI z6 0,zb false,zc z4 0 0] 78)⟩ 9 w7.heap.size 78 [zI z6 0,zb false,zI z6 0,zI z6 0,zI z6 0,zb false,zc z4 0 0]:=t8;have S8:=zH (S7.o.keep m8');have T8:=zH t8';clear m8 t8 m8' t8' S7;generalize w7.alloc (.cells #[zI z6 0,zb false,zI z6 0,zI z6 0,zI z6 0,zb false,zc z4 0 0] 78)=w8 at *;generalize w7.heap.size=tb at *;obtain ⟨t0,t1,t2,t3,t4,t5,t6,tl⟩:=T8.o.k7;go_wp2_with fail;go_roundw
         case rel=>exact ⟨j+1,own8,Y,zo,by go_num,S8,FT,zH (by rw [show 60000-(j+1)=f by omega];exact HN.o)⟩
         case measure=>simp [intOf];omega
       · obtain ⟨x,hx,hcs⟩:=DuW.fGo_odd hg he;have FT:=zH (FT6.o.stepX hx);have hand:bits .and .i64 (j:Int) 1=1:=by rw [yfQ];omega
         have HS0:=zH (ykX S6.o ⟨zo,zo⟩ FT6.o x hx);obtain ⟨⟨⟨ro,rw_,re,⟨rf,rz1,rz2⟩⟩,xb⟩,xW⟩:=x;have HS:=zH (show Calls prog 26 #[zp (some ⟨hb,0,none⟩),zI z6 1] w6 (Does (.agg #[zI z6 1,zb xb,zI z6 ro,zI z6 rw_,zI z6 re,zb rf,zc z4 rz1 rz2]) ⟨own6,w6⟩ hpT (fun g'=>HpIs w0 g' hb ((j:Int)+1) a y kk (X.putA xW)∧(X.putA xW).Fit)) from HS0.o);unfold DuW.FCase at hcs;simp only at hcs FT;clear hg hx HG6 S6 FT6 he HS0;generalize DuW.putA X xW=Y at *;go_wp2_with fail;refine HS.o.mono ?_;rintro e w7 ⟨rfl,own7,m7,s7, -⟩;have S7:=zH (show HpIs w0 ⟨own7,w7⟩ hb ((j+1:Nat):Int) a y kk Y from s7);clear m7 s7 HS hand;go_upto_region 19 with fail
         rcases hcs with ⟨rfl,hn⟩|⟨rfl,rfl,rfl,h1,h2,h3,h4,hn⟩|⟨rfl,ho,rfl,ho4,hn⟩|⟨rfl,rfl,rfl,hn⟩
         · have HN:=zH hn;clear hn;obtain ⟨own8,m8,t8⟩:=yam ⟨own7,w7⟩ 78 [zI z6 1,zb false,zI z6 ro,zI z6 rw_,zI z6 re,zb rf,zc z4 rz1 rz2];have m8':Mod (fun _=>False) (⟨own7,w7⟩:GW) ⟨own8,w7.alloc (.cells #[zI z6 1,zb false,zI z6 ro,zI z6 rw_,zI z6 re,zb rf,zc z4 rz1 rz2] 78)⟩:=m8;have t8':Blk ⟨own8,w7.alloc (.cells #[zI z6 1,zb false,zI z6 ro,zI z6 rw_,zI z6 re,zb rf,zc z4 rz1 rz2] 78)⟩ 9 w7.heap.size 78 [zI z6 1,zb false,zI z6 ro,zI z6 rw_,zI z6 re,zb rf,zc z4 rz1 rz2]:=t8;have S8:=zH (S7.o.keep m8');have T8:=zH t8';clear m8 t8 m8' t8' S7;generalize w7.alloc (.cells #[zI z6 1,zb false,zI z6 ro,zI z6 rw_,zI z6 re,zb rf,zc z4 rz1 rz2] 78)=w8 at *;generalize w7.heap.size=tb at *;obtain ⟨t0,t1,t2,t3,t4,t5,t6,tl⟩:=T8.o.k7;go_wp2_with fail;go_roundw
           case rel=>exact ⟨j+1,own8,Y,zo,by go_num,S8,FT,zH (by rw [show 60000-(j+1)=f by omega];exact HN.o)⟩
           case measure=>simp [intOf];omega
         · have HN:=zH hn;have HL3:=zH h3;have HR2:=zH (show (Y.a.locals.getD 2 LVal.zero).ref=false from h4);clear hn h3 h4;obtain ⟨own8,m8,t8⟩:=yam ⟨own7,w7⟩ 78 [zI z6 1,zb true,zI z6 (4*(k:Int)),zI z6 rw_,zI z6 6,zb rf,zc z4 rz1 rz2];have m8':Mod (fun _=>False) (⟨own7,w7⟩:GW) ⟨own8,w7.alloc (.cells #[zI z6 1,zb true,zI z6 (4*(k:Int)),zI z6 rw_,zI z6 6,zb rf,zc z4 rz1 rz2] 78)⟩:=m8;have t8':Blk ⟨own8,w7.alloc (.cells #[zI z6 1,zb true,zI z6 (4*(k:Int)),zI z6 rw_,zI z6 6,zb rf,zc z4 rz1 rz2] 78)⟩ 9 w7.heap.size 78 [zI z6 1,zb true,zI z6 (4*(k:Int)),zI z6 rw_,zI z6 6,zb rf,zc z4 rz1 rz2]:=t8;have S8:=zH (S7.o.keep m8');have T8:=zH t8';clear m8 t8 m8' t8' S7;generalize w7.alloc (.cells #[zI z6 1,zb true,zI z6 (4*(k:Int)),zI z6 rw_,zI z6 6,zb rf,zc z4 rz1 rz2] 78)=w8 at *;generalize w7.heap.size=tb at *;obtain ⟨t0,t1,t2,t3,t4,t5,t6,tl⟩:=T8.o.k7;go_upto_region 21 with fail
           obtain ⟨own9,m9,t9⟩:=yam ⟨own8,w8⟩ 40 [zI z6 (4*(k:Int)),zI z6 rw_,zI z6 6,zb rf,zc z4 rz1 rz2];have m9':Mod (fun _=>False) (⟨own8,w8⟩:GW) ⟨own9,w8.alloc (.cells #[zI z6 (4*(k:Int)),zI z6 rw_,zI z6 6,zb rf,zc z4 rz1 rz2] 40)⟩:=m9;have t9':Blk ⟨own9,w8.alloc (.cells #[zI z6 (4*(k:Int)),zI z6 rw_,zI z6 6,zb rf,zc z4 rz1 rz2] 40)⟩ 9 w8.heap.size 40 [zI z6 (4*(k:Int)),zI z6 rw_,zI z6 6,zb rf,zc z4 rz1 rz2]:=t9;have S9:=zH (S8.o.keep m9');have T9:=zH t9';clear m9 t9 m9' t9' S8 T8 t0 t1 t2 t3 t4 t5 t6 tl;generalize w8.alloc (.cells #[zI z6 (4*(k:Int)),zI z6 rw_,zI z6 6,zb rf,zc z4 rz1 rz2] 40)=w9 at *;generalize w8.heap.size=rb at *;obtain ⟨r0,r1,r2,r3,r4,rl⟩:=T9.o.k5;obtain ⟨lv20,hh20⟩:=S9.o.h;have HCY:=zH (ygF hh20.du);have g1:decide (Y.y.started<2)=false:=decide_eq_false zo;have g2:decide (Y.y.finished<1)=false:=decide_eq_false zo;generalize Y.y.started=ys at *;generalize Y.y.finished=yf at *;obtain ⟨b0,b1,b2,b3,bl⟩:=hh20.blk.k4;clear hh20 h1 h2;go_wp2_with fail;refine HCY.o.mono ?_;rintro e w10 ⟨rfl,hX⟩
           obtain ⟨own10,m10⟩:=Mod.ofExt (show Ext w9 w10 from hX) own9;have S10:=zH (S9.o.keep m10);have T10:=zH (T9.o.keep m10 id);obtain ⟨lv21,hh21⟩:=S10.o.h;have HTH:=zH (yfP hh21 3 HL3.o zd);clear hX m10 S9 T9 HCY hh21 b0 b1 b2 b3 bl r0 r1 r2 r3 r4 rl;go_wp2_with fail;refine HTH.o.mono ?_;rintro e w11 ⟨A',c',own11,rfl,m11,q11⟩;have S11:=zH (S10.o.keep m11);have T11:=zH (T10.o.keep m11 id);obtain ⟨q,hA,hq, -,hcell, -⟩:=q11.block zd;subst hA;have k4:=hcell 4 _ (loc2 HL3.o HR2.o);generalize Y.a.phase=yp at *;generalize Y.a.status=yt at *;clear m11 q11 S10 T10 HTH hcell;obtain ⟨r0,r1,r2,r3,r4,rl⟩:=T11.o.k5;go_wp2_with fail;go_roundw
           case rel=>exact ⟨j+1,own11,Y,zo,by go_num,S11,FT,zH (by rw [show 60000-(j+1)=f by omega];exact HN.o)⟩
           case measure=>simp [intOf];omega
         · have HN:=zH hn;have g1:(ro==4*(k:Int))=false:=beq_eq_false_iff_ne.2 ho;have g2:(ro==4*(k:Int)+4)=false:=beq_eq_false_iff_ne.2 ho4;clear hn ho ho4;obtain ⟨own8,m8,t8⟩:=yam ⟨own7,w7⟩ 78 [zI z6 1,zb true,zI z6 ro,zI z6 rw_,zI z6 0,zb rf,zc z4 rz1 rz2];have m8':Mod (fun _=>False) (⟨own7,w7⟩:GW) ⟨own8,w7.alloc (.cells #[zI z6 1,zb true,zI z6 ro,zI z6 rw_,zI z6 0,zb rf,zc z4 rz1 rz2] 78)⟩:=m8;have t8':Blk ⟨own8,w7.alloc (.cells #[zI z6 1,zb true,zI z6 ro,zI z6 rw_,zI z6 0,zb rf,zc z4 rz1 rz2] 78)⟩ 9 w7.heap.size 78 [zI z6 1,zb true,zI z6 ro,zI z6 rw_,zI z6 0,zb rf,zc z4 rz1 rz2]:=t8;have S8:=zH (S7.o.keep m8');have T8:=zH t8';clear m8 t8 m8' t8' S7;generalize w7.alloc (.cells #[zI z6 1,zb true,zI z6 ro,zI z6 rw_,zI z6 0,zb rf,zc z4 rz1 rz2] 78)=w8 at *;generalize w7.heap.size=tb at *;obtain ⟨t0,t1,t2,t3,t4,t5,t6,tl⟩:=T8.o.k7;go_upto_region 21 with fail
           obtain ⟨own9,m9,t9⟩:=yam ⟨own8,w8⟩ 40 [zI z6 ro,zI z6 rw_,zI z6 0,zb rf,zc z4 rz1 rz2];have m9':Mod (fun _=>False) (⟨own8,w8⟩:GW) ⟨own9,w8.alloc (.cells #[zI z6 ro,zI z6 rw_,zI z6 0,zb rf,zc z4 rz1 rz2] 40)⟩:=m9;have t9':Blk ⟨own9,w8.alloc (.cells #[zI z6 ro,zI z6 rw_,zI z6 0,zb rf,zc z4 rz1 rz2] 40)⟩ 9 w8.heap.size 40 [zI z6 ro,zI z6 rw_,zI z6 0,zb rf,zc z4 rz1 rz2]:=t9;have S9:=zH (S8.o.keep m9');have T9:=zH t9';clear m9 t9 m9' t9' S8 T8 t0 t1 t2 t3 t4 t5 t6 tl;generalize w8.alloc (.cells #[zI z6 ro,zI z6 rw_,zI z6 0,zb rf,zc z4 rz1 rz2] 40)=w9 at *;generalize w8.heap.size=rb at *;obtain ⟨r0,r1,r2,r3,r4,rl⟩:=T9.o.k5;go_wp2_with fail;go_roundw
           case rel=>exact ⟨j+1,own9,Y,zo,by go_num,S9,FT,zH (by rw [show 60000-(j+1)=f by omega];exact HN.o)⟩
           case measure=>simp [intOf];omega
         · have HN:=zH hn;have g1:(4*(k:Int)+4==4*(k:Int))=false:=beq_eq_false_iff_ne.2 zo;clear hn;obtain ⟨own8,m8,t8⟩:=yam ⟨own7,w7⟩ 78 [zI z6 1,zb true,zI z6 (4*(k:Int)+4),zI z6 rw_,zI z6 0,zb rf,zc z4 rz1 rz2];have m8':Mod (fun _=>False) (⟨own7,w7⟩:GW) ⟨own8,w7.alloc (.cells #[zI z6 1,zb true,zI z6 (4*(k:Int)+4),zI z6 rw_,zI z6 0,zb rf,zc z4 rz1 rz2] 78)⟩:=m8;have t8':Blk ⟨own8,w7.alloc (.cells #[zI z6 1,zb true,zI z6 (4*(k:Int)+4),zI z6 rw_,zI z6 0,zb rf,zc z4 rz1 rz2] 78)⟩ 9 w7.heap.size 78 [zI z6 1,zb true,zI z6 (4*(k:Int)+4),zI z6 rw_,zI z6 0,zb rf,zc z4 rz1 rz2]:=t8;have S8:=zH (S7.o.keep m8');have T8:=zH t8';clear m8 t8 m8' t8' S7;generalize w7.alloc (.cells #[zI z6 1,zb true,zI z6 (4*(k:Int)+4),zI z6 rw_,zI z6 0,zb rf,zc z4 rz1 rz2] 78)=w8 at *;generalize w7.heap.size=tb at *;obtain ⟨t0,t1,t2,t3,t4,t5,t6,tl⟩:=T8.o.k7;go_upto_region 21 with fail
           obtain ⟨own9,m9,t9⟩:=yam ⟨own8,w8⟩ 40 [zI z6 (4*(k:Int)+4),zI z6 rw_,zI z6 0,zb rf,zc z4 rz1 rz2];have m9':Mod (fun _=>False) (⟨own8,w8⟩:GW) ⟨own9,w8.alloc (.cells #[zI z6 (4*(k:Int)+4),zI z6 rw_,zI z6 0,zb rf,zc z4 rz1 rz2] 40)⟩:=m9;have t9':Blk ⟨own9,w8.alloc (.cells #[zI z6 (4*(k:Int)+4),zI z6 rw_,zI z6 0,zb rf,zc z4 rz1 rz2] 40)⟩ 9 w8.heap.size 40 [zI z6 (4*(k:Int)+4),zI z6 rw_,zI z6 0,zb rf,zc z4 rz1 rz2]:=t9;have S9:=zH (S8.o.keep m9');have T9:=zH t9';clear m9 t9 m9' t9' S8 T8 t0 t1 t2 t3 t4 t5 t6 tl;generalize w8.alloc (.cells #[zI z6 (4*(k:Int)+4),zI z6 rw_,zI z6 0,zb rf,zc z4 rz1 rz2] 40)=w9 at *;generalize w8.heap.size=rb at *;obtain ⟨r0,r1,r2,r3,r4,rl⟩:=T9.o.k5;obtain ⟨lv20,hh20⟩:=S9.o.h;have hcn:=yfO hh20;generalize Y.K.sp.tab.cnt 0=q0 at *;generalize Y.K.sp.tab.cnt 1=q1 at *;rw [show ((Y.K.sp.tab.cnt 2:Nat):Int)=10-(k:Int) from by have:=HN.o;omega] at hcn;have HCN:=zH hcn;clear hcn hh20;go_wp2_with fail;refine HCN.o.mono ?_;rintro e w10 ⟨rfl,hX⟩;obtain ⟨own10,s10⟩:=S9.o.ext (show Ext w9 w10 from hX);have S10:=zH s10
           clear hX s10 S9 HCN;go_wp2_with fail;refine (HF.o _).mono ?_;rintro e w11 ⟨rfl,hX⟩;have E11:=zH ((E5.o.trans S10.o.fin).trans (show Ext w10 w11 from hX));clear hX;go_wp2_with fail;go_ret;exact Gives.bool rfl E11.o
     · obtain rfl:j=60000:=zo;exact absurd HG6.o (by rw [Nat.sub_self];unfold DuW.fGo;simp)
end Go.Proofs.YtdhjjpnajjingaaGreat
