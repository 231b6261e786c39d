import Derived.Test.YtdhjjpnajjingaaGreatKF06
import Derived.Deep.DeepCutAuto
set_option linter.unusedVariables false
set_option linter.unnecessarySimpa false
set_option linter.unusedSimpArgs false
open Bool renaming true→zT,false→zU
open Go.Value renaming int→zI,complex→zc,pointer→zp,bool→zb
open Go.IntKind renaming i64→z6
open Go.FloatKind renaming f64→z4
set_option maxHeartbeats 8000000
set_option maxRecDepth 100000
open Go.Proofs.Tryz
open Go.Lib renaming hid→zH
open Go.Ext renaming alloc→zA,patch→zP,drew→zD,drewN→zN,more→zM,refl→zR,setCell→zS
open Nat renaming le_refl→zL,le_add_right→zK
namespace Go.Proofs.YtdhjjpnajjingaaGreat
open Go Go.RowKit
structure FindS where
 c:Cnf
 head:Int
 k:Int
 array:Bool
 pc:Int
 frag:Int
 ahead:Int
 word:Int
 n:Int
 mode:Int
 slot:Int
 at_:Int
 ref:Bool
 e:Int
 steps:Int
namespace FindS
def cells (S:FindS):List Value:=[zI z6 S.c.frags,zI z6 S.c.spine,zI z6 S.c.globals,zI z6 S.c.threads,zI z6 S.c.locals,zI z6 S.c.cache,zI z6 S.c.stack,zI z6 S.c.low,.slice S.c.A S.c.shapes.length S.c.cap,
 zI z6 S.head,zI z6 S.k,zb S.array,zI z6 S.pc,zI z6 S.frag,zI z6 S.ahead,zI z6 S.word,zI z6 S.n,zI z6 S.mode,zI z6 S.slot,zI z6 S.at_,zb S.ref,zI z6 S.e,zI z6 S.steps]
def fresh (c:Cnf) (head k:Int) (array:Bool) (frag:Int):FindS:=⟨c,head,k,array,0,frag,0,0,0,0,0, -1,false,0,0⟩
def ends (S:FindS) (e:Int):FindS:={ S with pc:=6,e:=e,at_:= -1,ref:=false }
def okAt (S:FindS) (frag k:Int):Bool:=decide (S.c.check=0∧0≤frag∧frag<S.c.frags∧0≤k∧k<8)
def stands (S:FindS) (frag k:Int):FindS:=if S.okAt frag k then { S with pc:=6,at_:=frag*8+k } else S.ends 10
end FindS
structure FindAt (g:GW) (t b:Nat) (S:FindS):Prop where
 blk:Blk g t b 250 S.cells
 cnf:CnfAt g (t+1) S.c
theorem FindAt.keep {T:Nat→Prop} {g g':GW} {t b:Nat} {S:FindS} (h:FindAt g t b S) (m:Mod T g g') (h1: ¬T t) (h2: ¬T (t+1)):FindAt g' t b S:=⟨h.blk.keep m h1,h.cnf.keep m h2⟩
theorem FindAt.st {g:GW} {t b:Nat} {S:FindS} (h:FindAt g t b S) (i:Nat) (v:Value) (S':FindS) (hc:S'.cells=S.cells.set i v) (hcc:S'.c=S.c):FindAt ⟨g.own,g.w.setCell ⟨b,i,none⟩ v⟩ t b S':=by
 refine ⟨by rw [hc];exact h.blk.set i v,?_⟩;rw [hcc];exact h.cnf.keep (Mod.set (T:=fun x=>x=t) h.blk.own) zo
theorem ylu (g:GW) (t b:Nat) (S:FindS) (h:FindAt g t b S):Calls prog 144 #[zp (some ⟨b,0,none⟩)] g.w (fun e w'=>e=.returned (zI z6 S.at_)∧g.w=w'):=by
 have c0:=h.blk.cell (i:=19) rfl;have hl:=h.blk.lt;clear h;go_enter func144,ntmps144;go_wp2_with fail;go_ret;exact ⟨rfl,rfl⟩
theorem yhK (g:GW) (t b:Nat) (S:FindS) (h:FindAt g t b S):Calls prog 143 #[zp (some ⟨b,0,none⟩)] g.w (fun e w'=>e=.returned (zI z6 S.e)∧g.w=w'):=by
 have c0:=h.blk.cell (i:=21) rfl;have hl:=h.blk.lt;clear h;go_enter func143,ntmps143;go_wp2_with fail;go_ret;exact ⟨rfl,rfl⟩
theorem ykP (g:GW) (t b:Nat) (S:FindS) (h:FindAt g t b S):Calls prog 145 #[zp (some ⟨b,0,none⟩)] g.w (fun e w'=>e=.returned (zb (decide (0≤S.at_)&&S.ref))∧g.w=w'):=by
 have c0:=h.blk.cell (i:=19) rfl;have c1:=h.blk.cell (i:=20) rfl;have hl:=h.blk.lt;clear h;by_cases hp:0≤S.at_
 · have hd:decide (0≤S.at_)=true:=decide_eq_true hp;go_enter func145,ntmps145;go_wp2_with fail;go_ret;exact ⟨by first|rfl|(rw [hd];rfl),rfl⟩
 · have hd:decide (0≤S.at_)=false:=decide_eq_false hp;go_enter func145,ntmps145;go_wp2_with fail;go_ret;exact ⟨by first|rfl|(rw [hd];rfl),rfl⟩
theorem yjf (g:GW) (t b:Nat) (S:FindS) (x:Int) (h:FindAt g t b S):Calls prog 252 #[zp (some ⟨b,0,none⟩),zI z6 x] g.w (Does (zb true) g (fun x=>x=t) (fun g'=>FindAt g' t b (S.ends x))):=by
 have c0:=h.blk.cell (i:=12) rfl;have c1:=h.blk.cell (i:=21) rfl;have c2:=h.blk.cell (i:=19) rfl;have c3:=h.blk.cell (i:=20) rfl;have f0:=h.blk.live 12;have f1:=h.blk.live 21;have f2:=h.blk.live 19;have f3:=h.blk.live 20;have hl:=h.blk.lt;have HO:=zH h.blk.own;have H:=zH ((((h.st 12 (zI z6 6) { S with pc:=6 } rfl rfl).st 21 (zI z6 x) { S with pc:=6,e:=x } rfl rfl).st 19 (zI z6 (-1)) { S with pc:=6,e:=x,at_:= -1 } rfl rfl).st 20 (zb false) (S.ends x) rfl rfl);clear h;go_enter func252,ntmps252;go_wp2_with fail;go_ret;exact Does.of ⟨g.own,_⟩ rfl rfl (Mod.st (Mod.st (Mod.st (Mod.st Mod.self HO.o) HO.o) HO.o) HO.o) H.o
theorem yey {S:FindS} {frag k:Int} (h:S.okAt frag k=true):cFrag S.c frag k=.tuple #[zI z6 (frag*8+k),zI z6 0]:=by
 have h':S.c.check=0∧0≤frag∧frag<S.c.frags∧0≤k∧k<8:=by simpa [FindS.okAt] using h
 unfold cFrag;rw [if_pos h']
theorem yfB {S:FindS} {frag k:Int} (h:S.okAt frag k=false):cFrag S.c frag k=.tuple #[zI z6 0,zI z6 1]:=by
 have h': ¬(S.c.check=0∧0≤frag∧frag<S.c.frags∧0≤k∧k<8):=by intro hh;rw [show S.okAt frag k=true from by simpa [FindS.okAt] using hh] at h;cases h
 unfold cFrag;rw [if_neg h']
theorem ygx (g:GW) (t b:Nat) (S:FindS) (frag k:Int) (h:FindAt g t b S):Calls prog 251 #[zp (some ⟨b,0,none⟩),zI z6 frag,zI z6 k] g.w (Does (zb true) g (fun x=>x=t) (fun g'=>FindAt g' t b (S.stands frag k))):=by
 have k0:=h.blk.cell (i:=0) rfl;have k1:=h.blk.cell (i:=1) rfl;have k2:=h.blk.cell (i:=2) rfl;have k3:=h.blk.cell (i:=3) rfl;have k4:=h.blk.cell (i:=4) rfl;have k5:=h.blk.cell (i:=5) rfl;have k6:=h.blk.cell (i:=6) rfl;have k7:=h.blk.cell (i:=7) rfl;have k8:=h.blk.cell (i:=8) rfl;have hl:=h.blk.lt;have HF:=zH (ybL S.c frag k g.w h.cnf.ok);have H:=zH h;have HO:=zH h.blk.own;unfold Cnf.val at HF;clear h;cases hok:S.okAt frag k
 · have HV:=zH (show S.stands frag k=S.ends 10 by unfold FindS.stands;rw [if_neg (by rw [hok];simp)]);rw [yfB hok] at HF;clear hok;go_enter func251,ntmps251;go_wp2_with fail;refine HF.o.mono ?_;rintro e w1 ⟨rfl,hE⟩;have HE:=zH (Mod.ext (T:=fun _=>False) (g:=g) (show Ext g.w w1 from hE) 0);have HX:=zH (show (g.to 0 w1).w=w1 from rfl);have H1:=zH (H.o.keep HE.o id id);clear hE;go_wp2_with fail;refine (yjf (g.to 0 w1) t b S 10 H1.o).mono ?_;rintro e w2 ⟨rfl,own2,m2,r2⟩;have M2:=zH m2;have R2:=zH r2;clear m2 r2;go_wp2_with fail;go_ret;exact ⟨rfl,own2,(HE.o.mono zG).trans M2.o,by rw [HV.o];exact R2.o⟩
 · have HV:=zH (show S.stands frag k={ S with pc:=6,at_:=frag*8+k } by unfold FindS.stands;rw [if_pos hok]);rw [yey hok] at HF;clear hok;go_enter func251,ntmps251;go_wp2_with fail;refine HF.o.mono ?_;rintro e w1 ⟨rfl,hE⟩;have HE:=zH (Mod.ext (T:=fun _=>False) (g:=g) (show Ext g.w w1 from hE) 0);have H1:=zH (H.o.keep HE.o id id);have f0:=H1.o.blk.live 12;have f1:=H1.o.blk.live 19;have c0:=H1.o.blk.cell (i:=12) rfl;have c1:=H1.o.blk.cell (i:=19) rfl;have hl1:=H1.o.blk.lt;simp only [GW.to] at f0 f1 c0 c1 hl1;clear hE k0 k1 k2 k3 k4 k5 k6 k7 k8 hl;go_wp2_with fail;go_ret;refine ⟨rfl,(g.to 0 w1).own,?_,?_⟩
   · exact (HE.o.mono zG).trans (Mod.st (Mod.st Mod.self H1.o.blk.own) H1.o.blk.own)
   · rw [HV.o];exact (H1.o.st 12 (zI z6 6) { S with pc:=6 } rfl rfl).st 19 (zI z6 (frag*8+k)) { S with pc:=6,at_:=frag*8+k } rfl rfl
def rdV (S:FindS) (m:MemS) (frag k:Int):Value:=if S.okAt frag k then .tuple #[zc z4 (m.peek (frag*8+k)).1 (m.peek (frag*8+k)).2,zb (inB (frag*8+k) m.l.length)] else .tuple #[zc z4 0 0,zb false]
def rdM (S:FindS) (m:MemS) (frag k:Int):MemS:=if S.okAt frag k then m.tick else m
theorem yjg (g:GW) (t b tm bm:Nat) (S:FindS) (m:MemS) (frag k:Int) (h:FindAt g t b S) (hm:MemAt g tm bm m) (hc:0≤m.count∧m.count≤1099511627776):
 Calls prog 249 #[zp (some ⟨b,0,none⟩),zp (some ⟨bm,0,none⟩),zI z6 frag,zI z6 k] g.w (Does (rdV S m frag k) g (fun x=>x=tm) (fun g'=>MemAt g' tm bm (rdM S m frag k))):=by
 have k0:=h.blk.cell (i:=0) rfl;have k1:=h.blk.cell (i:=1) rfl;have k2:=h.blk.cell (i:=2) rfl;have k3:=h.blk.cell (i:=3) rfl;have k4:=h.blk.cell (i:=4) rfl;have k5:=h.blk.cell (i:=5) rfl;have k6:=h.blk.cell (i:=6) rfl;have k7:=h.blk.cell (i:=7) rfl;have k8:=h.blk.cell (i:=8) rfl;have hl:=h.blk.lt;have HF:=zH (ybL S.c frag k g.w h.cnf.ok);have HM:=zH hm;unfold Cnf.val at HF;clear h hm;cases hok:S.okAt frag k
 · have HV:=zH (show rdV S m frag k=.tuple #[zc z4 0 0,zb false] by unfold rdV;rw [if_neg (by rw [hok];simp)]);have HV2:=zH (show rdM S m frag k=m by unfold rdM;rw [if_neg (by rw [hok];simp)]);rw [yfB hok] at HF;clear hok;go_enter func249,ntmps249;go_wp2_with fail;refine HF.o.mono ?_;rintro e w1 ⟨rfl,hE⟩;have HE:=zH (Mod.ext (T:=fun _=>False) (g:=g) (show Ext g.w w1 from hE) 0);clear hE;go_wp2_with fail;go_ret2;exact ⟨by rw [HV.o];rfl,(g.to 0 w1).own,HE.o.mono zG,by rw [HV2.o];exact HM.o.keep HE.o id⟩
 · have HV:=zH (show rdV S m frag k=.tuple #[zc z4 (m.peek (frag*8+k)).1 (m.peek (frag*8+k)).2,zb (inB (frag*8+k) m.l.length)] by unfold rdV;rw [if_pos hok]);have HV2:=zH (show rdM S m frag k=m.tick by unfold rdM;rw [if_pos hok]);rw [yey hok] at HF;clear hok;go_enter func249,ntmps249;go_wp2_with fail;refine HF.o.mono ?_;rintro e w1 ⟨rfl,hE⟩;have HE:=zH (Mod.ext (T:=fun _=>False) (g:=g) (show Ext g.w w1 from hE) 0);have HM1:=zH (HM.o.keep HE.o id);clear hE;go_wp2_with fail;refine (ybP (g.to 0 w1) tm bm (frag*8+k) m HM1.o hc).mono ?_;rintro e w2 ⟨rfl,own2,m2,r2⟩;have M2:=zH m2;have R2:=zH r2;clear m2 r2;cases hb:inB (frag*8+k) m.l.length
   · rw [hb] at HV;clear hb;go_wp2_with fail;go_ret2;exact ⟨by rw [HV.o];rfl,own2,(HE.o.mono zG).trans M2.o,by rw [HV2.o];exact R2.o⟩
   · rw [hb] at HV;clear hb;go_wp2_with fail;go_ret2;exact ⟨by rw [HV.o];rfl,own2,(HE.o.mono zG).trans M2.o,by rw [HV2.o];exact R2.o⟩
def FindMade (c:Cnf) (head k:Int) (array:Bool) (frag:Int) (t:Nat) (g:GW) (e:Ending) (w':World):Prop:= ∃own' b cm,e=.returned (zp (some ⟨b,0,none⟩))∧Mod (fun _=>False) g ⟨own',w'⟩∧FindAt ⟨own',w'⟩ t b (FindS.fresh cm head k array frag)∧cm.Same c
theorem yhL (c:Cnf) (head k:Int) (t:Nat) (g:GW) (hc:c.Ok g.w) (hmax:c.shapes.length≤1000000):Calls prog 207 #[c.val,zI z6 head,zI z6 k] g.w (FindMade c head k false head t g):=by
 have HC:=zH (ybG c (t+1) (g.to 9 (g.w.alloc (.cells #[zI z6 c.frags,zI z6 c.spine,zI z6 c.globals,zI z6 c.threads,zI z6 c.locals,zI z6 c.cache,zI z6 c.stack,zI z6 c.low,.slice c.A c.shapes.length c.cap] 34))) (hc.ext zE) hmax);have HE0:=zH (Mod.ext (T:=fun _=>False) (g:=g) (show Ext g.w (g.w.alloc (.cells #[zI z6 c.frags,zI z6 c.spine,zI z6 c.globals,zI z6 c.threads,zI z6 c.locals,zI z6 c.cache,zI z6 c.stack,zI z6 c.low,.slice c.A c.shapes.length c.cap] 34)) from zE) 9);unfold Cnf.val at HC ⊢;clear hc;go_enter func207,ntmps207;go_wp2_with fail;refine HC.o.mono ?_;rintro e w1 ⟨cm,rfl,hs,hm,hE⟩;have HS:=zH hs;have HM:=zH hm;have HE1:=zH (Mod.ext (T:=fun _=>False) (g:=g.to 9 (g.w.alloc (.cells #[zI z6 c.frags,zI z6 c.spine,zI z6 c.globals,zI z6 c.threads,zI z6 c.locals,zI z6 c.cache,zI z6 c.stack,zI z6 c.low,.slice c.A c.shapes.length c.cap] 34))) hE (t+1));clear hs hm hE;unfold Cnf.val;go_wp2_with fail;go_ret
 have m2:Mod (fun _=>False) ((g.to 9 (g.w.alloc (.cells #[zI z6 c.frags,zI z6 c.spine,zI z6 c.globals,zI z6 c.threads,zI z6 c.locals,zI z6 c.cache,zI z6 c.stack,zI z6 c.low,.slice c.A c.shapes.length c.cap] 34))).to (t+1) w1) _:=Mod.ext (T:=fun _=>False) (show Ext w1 (w1.alloc (.cells (FindS.fresh cm head k false head).cells.toArray 250)) from zE) t;exact ⟨_,w1.heap.size,cm,rfl,(HE0.o.trans HE1.o).trans m2,⟨Blk.new ((g.to 9 (g.w.alloc (.cells #[zI z6 c.frags,zI z6 c.spine,zI z6 c.globals,zI z6 c.threads,zI z6 c.locals,zI z6 c.cache,zI z6 c.stack,zI z6 c.low,.slice c.A c.shapes.length c.cap] 34))).to (t+1) w1) t 250 (FindS.fresh cm head k false head).cells,HM.o.keep m2 id⟩,HS.o⟩
theorem yfI (g:GW) (t b tm bm:Nat) (S:FindS) (m:MemS) (frag k:Int) (h:FindAt g t b S) (hm:MemAt g tm bm m) (hc:0≤m.count∧m.count≤1099511627776) (hok:S.okAt frag k=true) (hin:inB (frag*8+k) m.l.length=true) (p q:Nat) (hw:m.peek (frag*8+k)=(p,q)) (ht:t≠tm) (ht1:t+1≠tm):
 Calls prog 249 #[zp (some ⟨b,0,none⟩),zp (some ⟨bm,0,none⟩),zI z6 frag,zI z6 k] g.w (Does (.tuple #[zc z4 p q,zb true]) g (fun x=>x=tm) (fun g'=>MemAt g' tm bm m.tick∧FindAt g' t b S)):=by
 refine (yjg g t b tm bm S m frag k h hm hc).mono ?_;rintro e w' ⟨rfl,own,md,r⟩;refine ⟨?_,own,md,?_,h.keep md (fun e=>ht e) (fun e=>ht1 e)⟩
 · unfold rdV;rw [if_pos hok,hw,hin]
 · unfold rdM at r;rw [if_pos hok] at r;exact r
theorem ydg (g:GW) (t b tm bm:Nat) (S S':FindS) (m:MemS) (r:Bool) (p q:Nat) (h:FindAt g t b S) (hm:MemAt g tm bm m) (hc:0≤m.count∧m.count≤1099511627776) (hpc:S.pc=0) (hok:S.okAt S.head 1=true) (hin:inB (S.head*8+1) m.l.length=true) (hw:m.peek (S.head*8+1)=(p,q)) (ht:t≠tm) (ht1:t+1≠tm)
 (hF: ∀g',FindAt g' t b S→Calls prog 250 #[zp (some ⟨b,0,none⟩),zc z4 p q] g'.w (Does (zb r) g' (fun x=>x=t) (fun g''=>FindAt g'' t b S'))):
 Calls prog 211 #[zp (some ⟨b,0,none⟩),zp (some ⟨bm,0,none⟩)] g.w (Does (zb (!r)) g (fun x=>x=t∨x=tm) (fun g'=>FindAt g' t b S'∧MemAt g' tm bm m.tick)):=by
 have c0:=h.blk.cell (i:=12) rfl;have c1:=h.blk.cell (i:=9) rfl;have hl:=h.blk.lt;rw [hpc] at c0;have HR:=zH (yfI g t b tm bm S m S.head 1 h hm hc hok hin p q hw ht ht1);have HF:=zH hF;have HT:=zH ht;clear h hm hpc hok hin hw hF ht ht1;go_enter func211,ntmps211;go_wp2_with fail;go_step3
 go_wp2_with fail;refine HR.o.mono ?_;rintro e w1 ⟨rfl,own1,m1,r1,r2⟩;have M1:=zH m1;have R1:=zH r1;have R2:=zH r2;clear m1 r1 r2 c0 c1 hl;go_wp2_with fail;refine (HF.o ⟨own1,w1⟩ R2.o).mono ?_;rintro e w2 ⟨rfl,own2,m2,r3⟩;have M2:=zH m2;have R3:=zH r3;clear m2 r3;go_wp2_with fail;(try rw [Exit.noGoto_ret]);go_ret;exact ⟨rfl,own2,(M1.o.mono (fun x hx=>Or.inr hx)).trans (M2.o.mono (fun x hx=>Or.inl hx)),R3.o,R1.o.keep M2.o (fun e=>HT.o e.symm)⟩
theorem yfd (g:GW) (t b:Nat) (v:Value) (S:FindS) (h:FindAt g t b S) (hpc:S.pc=6):Calls prog 142 #[zp (some ⟨b,0,none⟩),v] g.w (fun e w'=>e=.returned (zb true)∧g.w=w'):=by
 have c0:=h.blk.cell (i:=12) rfl;have hl:=h.blk.lt;rw [hpc] at c0;clear h hpc;go_enter func142,ntmps142;go_wp2_with fail;go_ret;exact ⟨rfl,rfl⟩
theorem ygy (g:GW) (t b bm:Nat) (S:FindS) (r:Bool) (T:Nat→Prop) (R:GW→Prop) (h:FindAt g t b S) (hpc:S.pc=0∨S.pc=1) (hs:0≤S.steps∧S.steps≤1099511627776) (hT:T t)
 (hB: ∀g',Mod (fun x=>x=t) g g'→FindAt g' t b { S with steps:=S.steps+1 }→Calls prog 211 #[zp (some ⟨b,0,none⟩),zp (some ⟨bm,0,none⟩)] g'.w (Does (zb r) g' T R)):
 Calls prog 142 #[zp (some ⟨b,0,none⟩),zp (some ⟨bm,0,none⟩)] g.w (Does (zb r) g T R):=by
 have c0:=h.blk.cell (i:=12) rfl;rcases hpc with hpc|hpc
 · rw [hpc] at c0;clear hpc;have c1:=h.blk.cell (i:=22) rfl;have f1:=h.blk.live 22;have hl:=h.blk.lt;have HO:=zH h.blk.own;have M1:=zH (show Mod (fun x=>x=t) g ⟨g.own,g.w.setCell ⟨b,22,none⟩ (zI z6 (S.steps+1))⟩ from Mod.st Mod.self HO.o);have HB:=zH (hB ⟨g.own,g.w.setCell ⟨b,22,none⟩ (zI z6 (S.steps+1))⟩ M1.o (h.st 22 (zI z6 (S.steps+1)) { S with steps:=S.steps+1 } rfl rfl));have HT:=zH hT;clear h hB hT;go_enter func142,ntmps142;go_wp2_with fail;refine HB.o.mono ?_;rintro e w1 ⟨rfl,own1,m1,r1⟩;have M2:=zH m1;have R1:=zH r1;clear m1 r1;go_wp2_with fail;go_ret;exact ⟨rfl,own1,(M1.o.mono (fun x hx=>hx▸HT.o)).trans M2.o,R1.o⟩
 · rw [hpc] at c0;clear hpc;have c1:=h.blk.cell (i:=22) rfl;have f1:=h.blk.live 22;have hl:=h.blk.lt;have HO:=zH h.blk.own;have M1:=zH (show Mod (fun x=>x=t) g ⟨g.own,g.w.setCell ⟨b,22,none⟩ (zI z6 (S.steps+1))⟩ from Mod.st Mod.self HO.o);have HB:=zH (hB ⟨g.own,g.w.setCell ⟨b,22,none⟩ (zI z6 (S.steps+1))⟩ M1.o (h.st 22 (zI z6 (S.steps+1)) { S with steps:=S.steps+1 } rfl rfl));have HT:=zH hT;clear h hB hT;go_enter func142,ntmps142;go_wp2_with fail;refine HB.o.mono ?_;rintro e w1 ⟨rfl,own1,m1,r1⟩;have M2:=zH m1;have R1:=zH r1;clear m1 r1;go_wp2_with fail;go_ret;exact ⟨rfl,own1,(M1.o.mono (fun x hx=>hx▸HT.o)).trans M2.o,R1.o⟩
theorem ydE (g:GW) (t b:Nat) (S:FindS) (p q:Nat) (kd md:Int) (refs:List Bool) (k:Nat) (h:FindAt g t b S) (ht: ∀w,Calls prog 248 #[zc z4 p q] w (Gives (.tuple #[zI z6 kd,zI z6 md,zb true]) w)) (hat:S.c.shapeAt kd=some (false,refs)) (ha:S.array=false) (hk:S.k=k) (hlt:k<refs.length)
 (hfd: ∀A cap,Shp.hasField ⟨false,A,cap,refs⟩ k=true) (hmd:md=1∨md=0∧Shp.placeF k=0) (hh:0≤S.head∧S.head≤100000):
 Calls prog 250 #[zp (some ⟨b,0,none⟩),zc z4 p q] g.w (Does (zb false) g (fun x=>x=t) (fun g'=>FindAt g' t b (FindS.stands { S with ref:=refs.getD k false } (S.head+Shp.placeF k) (Shp.placeW k)))):=by
 have HA:=zH ha;have HK:=zH hk;have HMD:=zH hmd;have HHH:=zH hh;clear ha hk hmd hh;have HSH:=zH (fun w' (he:Ext g.w w')=>yaA S.c kd w' (h.cnf.ok.ext he));unfold Cnf.val at HSH;have H:=zH h;have HT:=zH (ht g.w);clear h ht;go_enter func250,ntmps250;go_wp2_with fail;refine HT.o.mono ?_;rintro e w1 ⟨rfl,hE⟩;have HE1:=zH (Mod.ext (T:=fun _=>False) (g:=g) (show Ext g.w w1 from hE) 0);have H1:=zH (H.o.keep HE1.o id id);have HX1:=zH (show Ext g.w w1 from hE);clear hE HT;have k0:=H1.o.blk.cell (i:=0) rfl;have k1:=H1.o.blk.cell (i:=1) rfl;have k2:=H1.o.blk.cell (i:=2) rfl;have k3:=H1.o.blk.cell (i:=3) rfl;have k4:=H1.o.blk.cell (i:=4) rfl;have k5:=H1.o.blk.cell (i:=5) rfl;have k6:=H1.o.blk.cell (i:=6) rfl;have k7:=H1.o.blk.cell (i:=7) rfl;have k8:=H1.o.blk.cell (i:=8) rfl;have hl:=H1.o.blk.lt;simp only [GW.to] at k0 k1 k2 k3 k4 k5 k6 k7 k8 hl;go_wp2_with fail;refine (HSH.o _ HX1.o).mono ?_;rintro e w2 ⟨s',rfl,hs,hfr,hok,hE⟩;have HS:=zH (hs.trans (by rw [hat];rfl:_=(false,refs)));have HI:=zH (show (S.c.shapeAt kd).isSome=true by rw [hat];rfl);have HOK:=zH hok;clear hs hfr hok HSH k0 k1 k2 k3 k4 k5 k6 k7 k8 hl hat;rw [HI.o];obtain ⟨arr',A',cap',refs'⟩:=s'
 have ha:arr'=false:=congrArg Prod.fst HS.o;have hr:refs'=refs:=congrArg Prod.snd HS.o;subst ha hr;clear HS HI;unfold Shp.val;have HE2:=zH (Mod.ext (T:=fun _=>False) (g:=g.to 0 w1) (show Ext w1 (w2.alloc (.cells #[zb false,.slice A' refs'.length cap'] 94)) from (show Ext w1 w2 from hE).trans zE) 0);have HE:=zH (HE1.o.trans HE2.o);have H2:=zH (H1.o.keep HE2.o id id);have HB:=zH (show (w2.alloc (.cells #[zb false,.slice A' refs'.length cap'] 94)).heap[w2.heap.size]?=some (.cells #[zb false,.slice A' refs'.length cap'] 94) from World.row_alloc_new _);have HOK2:=zH (HOK.o.ext (show Ext w2 (w2.alloc (.cells #[zb false,.slice A' refs'.length cap'] 94)) from zE));clear hE H1 HX1 HE1 HE2 H HOK;go_upto_region 3 with fail
 generalize w2.heap.size=bs at *;generalize w2.alloc (.cells #[zb false,.slice A' refs'.length cap'] 94)=wb at *;have c1:=H2.o.blk.cell (i:=11) rfl;have c2:=H2.o.blk.cell (i:=12) rfl;have c3:=H2.o.blk.cell (i:=20) rfl;have c4:=H2.o.blk.cell (i:=10) rfl;have c5:=H2.o.blk.cell (i:=9) rfl;have f2:=H2.o.blk.live 12;have f3:=H2.o.blk.live 20;have f4:=H2.o.blk.live 14;have f5:=H2.o.blk.live 15;have hl:=H2.o.blk.lt;have s0:wb.cell? ⟨bs,0,none⟩=some (zb false):=by simp only [World.cell?,HB.o];rfl
 have s1:wb.cell? ⟨bs,1,none⟩=some (.slice A' refs'.length cap'):=by simp only [World.cell?,HB.o];rfl
 have hbs:bs<wb.heap.size:=(Array.getElem?_eq_some_iff.1 HB.o).1;simp only [GW.to] at c1 c2 c3 c4 c5 f2 f3 f4 f5 hl;have HO:=zH H2.o.blk.own;rw [HA.o] at c1;rw [HK.o] at c4;have hlen:refs'.length≤140737488355328:=HOK2.o.max
 have HPL:=zH (fun X=>(show Calls prog 257 #[.agg #[zb false,.slice A' refs'.length cap'],zI z6 k] (wb.patch X) (Gives (.tuple #[zI z6 (Shp.placeF k),zI z6 (Shp.placeW k),zb true]) (wb.patch X)) from by
  have h1:=ycN ⟨false,A',cap',refs'⟩ k (wb.patch X) (HOK2.o.ext ⟨X,rfl⟩) zo zo;unfold Shp.place at h1;rw [if_pos (hfd A' cap')] at h1;exact h1))
 obtain ⟨bq,oq,hA,hbq,hcq⟩:=HOK2.o.refs.cases (by simpa using Nat.lt_of_le_of_lt (Nat.zero_le _) hlt);have z0:=hcq k (zb (refs'.getD k false)) (by rw [List.getElem?_map,List.getElem?_eq_getElem hlt,List.getD_eq_getElem?_getD,List.getElem?_eq_getElem hlt];rfl);simp only at hA;subst hA;generalize hrf:refs'.getD k false=rf at *;have HRF:=zH hrf;have HEX:=zH (H2.o.st 20 (zb rf) { S with ref:=rf } rfl rfl);have hpb:0≤Shp.placeF k∧Shp.placeF k≤140737488355328:=by unfold Shp.placeF;split<;>omega
 generalize hpf:Shp.placeF (k:Int)=pf at *;generalize hpw:Shp.placeW (k:Int)=pw at *;have HPF:=zH (And.intro hpf hpw);obtain ⟨hh0,hh1⟩:=HHH.o;obtain ⟨hp0,hp1⟩:=hpb;have hik:(k:Int)<refs'.length:=zo;clear hcq hrf hpf hpw hfd;have HSTD:=zH (fun X=>ygx (GW.pt ⟨((g.to 0 w1).to 0 wb).own,wb.setCell ⟨b,20,none⟩ (zb rf)⟩ X) t b { S with ref:=rf } (S.head+pf) pw (HEX.o.keep (Mod.pt (Mod.refl (fun _=>False) _) X) id id))
 have HEND:=zH (fun own3 (w3:World) (M:Mod (fun x=>x=t) ⟨((g.to 0 w1).to 0 wb).own,wb.setCell ⟨b,20,none⟩ (zb rf)⟩ ⟨own3,w3⟩) (r:FindAt ⟨own3,w3⟩ t b (FindS.stands { S with ref:=rf } (S.head+pf) pw))=>show Does (zb false) g (fun x=>x=t) (fun g'=>FindAt g' t b (FindS.stands { S with ref:=refs'.getD k false } (S.head+Shp.placeF k) (Shp.placeW k))) (.returned (zb false)) w3 from by
  refine ⟨rfl,own3,(HE.o.mono zG).trans ((Mod.st Mod.self HO.o).trans M),?_⟩;rw [HRF.o,HPF.o.1,HPF.o.2];exact r)
 rcases HMD.o with rfl|⟨rfl,h0⟩
 · clear HMD;go_wp2_with fail;refine yab [zT,zT,zT,zT,zT,zT,zT,zT] 0 8 ?_;intro X00;simp only [pickOps];repeat (go_big_quiet_step (fail))
   refine wpQuiet_nil (fun X0=>?_);clear X00;refine yaa zQ (fun X0'=>?_) _;go_wp2_with fail;refine ycV (base:=wb) zE (fun Z=>?_);refine yab [zT,zT,zT,zT,zT,zT,zT,zT,zT,zT,zT,zT,zT] 0 13 ?_;intro X00;simp only [pickOps];repeat (go_big_quiet_step ((go_at_call 257;exact Calls.added2 (HPL.o _))))
   refine wpQuiet_nil (fun X0=>?_);clear X00;refine yaa zQ (fun X0'=>?_) _;go_wp2_with fail;refine yab [zT,zT,zT,zT,zT,zT,zT,zT,zT,zT,zT,zU] 1 11 ?_;intro X00;simp only [pickOps];repeat (go_big_quiet_step (fail))
   refine wpQuiet_nil (fun X0=>?_);clear X00;refine yaf rfl zQ (fun X2=>?_);simp only [List.drop_succ_cons,List.drop_zero];go_wp2_with fail;refine (HSTD.o _).mono ?_;rintro e w3 ⟨rfl,own3,m3,r3⟩;have M3:=zH m3;have R3:=zH r3;clear m3 r3;go_wp2_with fail;go_ret;exact HEND.o own3 w3 ((Mod.pt (Mod.refl _ _) _).trans M3.o) R3.o
 · have hpz:(pf==0)=true:=beq_iff_eq.2 h0;clear h0 HMD;go_wp2_with fail;refine yab [zT,zT,zT,zT,zT,zT,zT,zT] 0 8 ?_;intro X00;simp only [pickOps];repeat (go_big_quiet_step (fail))
   refine wpQuiet_nil (fun X0=>?_);clear X00;refine yaa zQ (fun X0'=>?_) _;go_wp2_with fail;refine ycV (base:=wb) zE (fun Z=>?_);refine yab [zT,zT,zT,zT,zT,zT,zT,zT,zT,zT,zT,zT,zT] 0 13 ?_;intro X00;simp only [pickOps];repeat (go_big_quiet_step ((go_at_call 257;exact Calls.added2 (HPL.o _))))
   refine wpQuiet_nil (fun X0=>?_);clear X00;refine yaa zQ (fun X0'=>?_) _;go_wp2_with fail;refine yab [zT,zT,zT,zT,zT,zT,zT,zT,zT,zT,zT,zU] 1 11 ?_;intro X00;simp only [pickOps];repeat (go_big_quiet_step (fail))
   refine wpQuiet_nil (fun X0=>?_);clear X00;refine yaf rfl zQ (fun X2=>?_);simp only [List.drop_succ_cons,List.drop_zero];go_wp2_with fail;refine (HSTD.o _).mono ?_;rintro e w3 ⟨rfl,own3,m3,r3⟩;have M3:=zH m3;have R3:=zH r3;clear m3 r3;go_wp2_with fail;go_ret;exact HEND.o own3 w3 ((Mod.pt (Mod.refl _ _) _).trans M3.o) R3.o
theorem yaz {c d:Cnf} (h:c.Same d) (k:Int):c.shapeAt k=d.shapeAt k:=by
 have e: ∀l:List Shp, ∀n:Nat,(l[n]?).map (fun s=>(s.arr,s.refs))=(l.map Shp.data)[n]?:=fun l n=>by rw [List.getElem?_map];rfl
 unfold Cnf.shapeAt;rw [e,e,h.shapes]
namespace FindS
def okRd (S:FindS) (m:MemS) (frag k:Int):Bool:=S.okAt frag k&&inB (frag*8+k) m.l.length
def rdTell (S:FindS) (m:MemS):Option (Int × Int):=if S.okRd m S.head 1 then wTell (m.peek (S.head*8+1)) else none
def withRef (S:FindS) (r:Bool):FindS:={ S with ref:=r }
def up (S:FindS):FindS:={ S with steps:=S.steps+1 }
abbrev R:=Option (Bool × FindS × MemS)
def firstO (S:FindS) (m:MemS) (kd md:Int) (arr:Bool) (refs:List Bool):R:=
 if arr≠S.array then none
 else if arr=true then none
 else if S.k<0∨(refs.length:Int)≤S.k then none
 else if 40<refs.length then none
 else if md=1∨md=0∧Shp.placeF S.k=0 then (if 0≤S.head∧S.head≤100000 then some (true,(S.withRef (refs.getD S.k.toNat false)).stands (S.head+Shp.placeF S.k) (Shp.placeW S.k),m.tick) else none)
 else none
def headO (S:FindS) (m:MemS):R:=match S.rdTell m with
 |none=>none
 |some (kd,md)=>match S.c.shapeAt kd with
  |none=>none
  |some (arr,refs)=>S.firstO m kd md arr refs
def stepO (S:FindS) (m:MemS):R:=
 if S.pc=6 then some (true,S,m) else if S.pc=0 then S.up.headO m else none
def withC (S:FindS) (cm:Cnf):FindS:={ S with c:=cm }
def mapC (cm:Cnf) (r:R):R:=r.map fun x=>(x.1,x.2.1.withC cm,x.2.2)
section
variable {S:FindS} {cm:Cnf}
theorem okAt_same (h:cm.Same S.c) (frag k:Int):(S.withC cm).okAt frag k=S.okAt frag k:=by unfold okAt withC;simp only;rw [h.check,h.frags]
theorem yjW (h:cm.Same S.c) (m:MemS) (frag k:Int):(S.withC cm).okRd m frag k=S.okRd m frag k:=by unfold okRd;rw [okAt_same h]
theorem ygZ (h:cm.Same S.c) (frag k:Int):(S.withC cm).stands frag k=(S.stands frag k).withC cm:=by
 unfold stands;rw [okAt_same h];split<;>rfl
theorem ygB (h:cm.Same S.c) (m:MemS) (kd md:Int) (arr:Bool) (refs:List Bool):(S.withC cm).firstO m kd md arr refs=mapC cm (S.firstO m kd md arr refs):=by
 unfold firstO;have e: ∀(r:Bool) (a b:Int),((S.withC cm).withRef r).stands a b=((S.withRef r).stands a b).withC cm:=fun r a b=>ygZ (S:=S.withRef r) h a b;rw [show (S.withC cm).array=S.array from rfl,show (S.withC cm).k=S.k from rfl,show (S.withC cm).head=S.head from rfl,e];repeat (first|rfl|split)
theorem yhZ (h:cm.Same S.c) (m:MemS):(S.withC cm).headO m=mapC cm (S.headO m):=by
 unfold headO;have e:(S.withC cm).rdTell m=S.rdTell m:=by unfold rdTell;rw [show (S.withC cm).head=S.head from rfl,yjW h]
 rw [e];cases hx:S.rdTell m with
 |none=>rfl
 |some x=>
  obtain ⟨kd,md⟩:=x;simp only;rw [show (S.withC cm).c=cm from rfl,yaz h];cases hy:S.c.shapeAt kd with
  |none=>rfl
  |some y=>
   obtain ⟨arr,refs⟩:=y;exact ygB h m kd md arr refs
theorem stepO_same (h:cm.Same S.c) (m:MemS):(S.withC cm).stepO m=mapC cm (S.stepO m):=by
 unfold stepO;rw [show (S.withC cm).pc=S.pc from rfl,show (S.withC cm).up=S.up.withC cm from rfl,yhZ (S:=S.up) h];repeat (first|rfl|split)
end
end FindS
theorem yjs {refs:List Bool} {k:Nat} (hl:refs.length≤40) (hk:k<refs.length) (A:Option Addr) (cap:Nat):Shp.hasField ⟨false,A,cap,refs⟩ k=true:=by
 unfold Shp.hasField Shp.may Shp.len;simp only [Bool.not_false,Bool.and_true,Bool.and_eq_true,decide_eq_true_eq];exact ⟨⟨hl,fun h=>by cases h⟩,zo,zo⟩
theorem FindS.okRd_of {S:FindS} {m:MemS} {f k:Int} (h:S.okRd m f k=true):S.okAt f k=true∧inB (f*8+k) m.l.length=true:=by
 unfold FindS.okRd at h;exact Bool.and_eq_true_iff.1 h
theorem FindS.rdTell_of {S:FindS} {m:MemS} {kd md:Int} (h:S.rdTell m=some (kd,md)):S.okAt S.head 1=true∧inB (S.head*8+1) m.l.length=true∧wTell (m.peek (S.head*8+1))=some (kd,md):=by
 unfold FindS.rdTell at h;split at h
 · rename_i h1;exact ⟨(okRd_of h1).1,(okRd_of h1).2,h⟩
 · cases h
section
variable {t b tm bm:Nat}
theorem yfH (S:FindS) (m:MemS) (kd md:Int) (arr:Bool) (refs:List Bool) (p:Nat × Nat) (x:Bool × FindS × MemS) (htl:wTell p=some (kd,md)) (hsa:S.c.shapeAt kd=some (arr,refs)) (hkb: -9223372036854775808≤S.k∧S.k≤9223372036854775807) (ho:S.firstO m kd md arr refs=some x):
 x.2.2=m.tick∧ ∀g',FindAt g' t b S→Calls prog 250 #[zp (some ⟨b,0,none⟩),zc z4 p.1 p.2] g'.w (Does (zb (!x.1)) g' (fun x=>x=t) (fun g''=>FindAt g'' t b x.2.1)):=by
 have htell: ∀w,Calls prog 248 #[zc z4 p.1 p.2] w (Gives (.tuple #[zI z6 kd,zI z6 md,zb true]) w):=fun w=>by
  have h1:=ya0 p w;rw [htl] at h1;exact h1
 unfold FindS.firstO at ho;by_cases ha:arr≠S.array
 · rw [if_pos ha] at ho;cases ho
 rw [if_neg ha] at ho;have ha':arr=S.array:=by simpa using ha
 by_cases har:arr=true
 · rw [if_pos har] at ho;cases ho
 rw [if_neg har] at ho;have haf:arr=false:=by simpa using har
 rw [haf] at hsa;by_cases h1:S.k<0∨(refs.length:Int)≤S.k
 · rw [if_pos h1] at ho;cases ho
 rw [if_neg h1] at ho;by_cases h2:40<refs.length
 · rw [if_pos h2] at ho;cases ho
 rw [if_neg h2] at ho;obtain ⟨k,hk⟩: ∃k:Nat,S.k=k:=⟨S.k.toNat,zo⟩;have hkl:k<refs.length:=zo;obtain ⟨c0,hd0,k0,ar0,pc0,fr0,ah0,wo0,n0,mo0,sl0,at0,re0,e0,st0⟩:=S;simp only at hk hsa ha' ho;subst hk;rw [Int.toNat_natCast] at ho;by_cases h3:md=1∨md=0∧Shp.placeF k=0
 · rw [if_pos h3] at ho;by_cases h4:0≤hd0∧hd0≤100000
   · rw [if_pos h4] at ho;injection ho with ho;subst ho;exact ⟨rfl,fun g' hf=>ydE g' t b _ _ _ kd md refs k hf htell hsa (by rw [←haf,ha']) rfl hkl (yjs zo hkl) h3 h4⟩
   · rw [if_neg h4] at ho;cases ho
 rw [if_neg h3] at ho;cases ho
theorem yfc (g:GW) (S:FindS) (m:MemS) (x:Bool × FindS × MemS) (h:FindAt g t b S) (hm:MemAt g tm bm m) (hc:0≤m.count∧m.count≤1099511627776) (ht:t≠tm) (ht1:t+1≠tm) (hkb: -9223372036854775808≤S.k∧S.k≤9223372036854775807) (ho:S.pc=0∧S.headO m=some x):
 Calls prog 211 #[zp (some ⟨b,0,none⟩),zp (some ⟨bm,0,none⟩)] g.w (Does (zb x.1) g (fun x=>x=t∨x=tm) (fun g'=>FindAt g' t b x.2.1∧MemAt g' tm bm x.2.2)):=by
 obtain ⟨hpc,ho⟩:=ho
 · unfold FindS.headO at ho;cases ht0:S.rdTell m with
   |none=>rw [ht0] at ho;cases ho
   |some y=>
    obtain ⟨kd,md⟩:=y;rw [ht0] at ho;simp only at ho;obtain ⟨ok1,in1,tl⟩:=FindS.rdTell_of ht0;cases hsa:S.c.shapeAt kd with
    |none=>rw [hsa] at ho;cases ho
    |some z=>
     obtain ⟨arr,refs⟩:=z;rw [hsa] at ho;simp only at ho;obtain ⟨hx,hF⟩:=yfH (t:=t) (b:=b) S m kd md arr refs _ x tl hsa hkb ho;have:=ydg g t b tm bm S x.2.1 m (!x.1) _ _ h hm hc hpc ok1 in1 (by rfl) ht ht1 hF;rw [Bool.not_not] at this;rw [hx];exact this
theorem ygz (g:GW) (S:FindS) (m:MemS) (x:Bool × FindS × MemS) (h:FindAt g t b S) (hm:MemAt g tm bm m) (hs:0≤S.steps∧S.steps≤1099511627776) (hc:0≤m.count∧m.count≤1099511627776) (ht:t≠tm) (ht1:t+1≠tm) (hkb: -9223372036854775808≤S.k∧S.k≤9223372036854775807) (ho:S.stepO m=some x):
 Calls prog 142 #[zp (some ⟨b,0,none⟩),zp (some ⟨bm,0,none⟩)] g.w (Does (zb x.1) g (fun x=>x=t∨x=tm) (fun g'=>FindAt g' t b x.2.1∧MemAt g' tm bm x.2.2)):=by
 have keepM: ∀g',Mod (fun x=>x=t) g g'→MemAt g' tm bm m:=fun g' m=>hm.keep m (fun e=>ht e.symm);unfold FindS.stepO at ho;split at ho
 · rename_i h6
   injection ho with ho;subst ho;refine (yfd g t b _ S h h6).mono ?_;rintro e w' ⟨rfl,rfl⟩;exact Does.of g rfl rfl (Mod.refl _ _) ⟨h,hm⟩
 split at ho
 · rename_i hp
   exact ygy g t b bm S x.1 _ _ h (Or.inl hp) hs (Or.inl rfl) (fun g' m' h'=>yfc g' S.up m x h' (keepM g' m') hc ht ht1 hkb ⟨hp,ho⟩)
 · cases ho
end
end Go.Proofs.YtdhjjpnajjingaaGreat
namespace Go.Proofs.YtdhjjpnajjingaaGreat
open Go Go.RowKit Go.Maps
theorem ykv (c:Cnf) (got:List Int):wFrags c got=.tuple #[zb (!got.all (fragOk c)),zb (got.all (fragOk c)&&twiceIn got)]:=by
 unfold wFrags;cases got.all (fragOk c)<;>rfl
def wrongE (c:Cnf) (is:Bool) (s:Shp) (n:Int) (array:Bool) (got:List Int):Int:=
 if c.check≠0∨got.all (fragOk c)=false then 1
 else if is=false∨s.arr≠array then 4
 else if s.size n<0 then 5
 else if (got.length:Int)≠s.size n∨twiceIn got=true then 2 else 0
def WrongGot (c:Cnf) (kind n:Int) (array:Bool) (got:List Int) (w:World) (e:Ending) (w':World):Prop:=
 ∃s':Shp,e=.returned (.tuple #[s'.val,zI z6 (wrongE c (c.shapeAt kind).isSome s' n array got)])∧(s'.arr,s'.refs)=(c.shapeAt kind).getD (false,[])∧s'.Ok w'∧Ext w w'
theorem yeY (c:Cnf) (kind n:Int) (array:Bool) (A:Option Addr) (cap:Nat) (got:List Int) (w:World) (hc:c.Ok w) (hg:CellsAt w A (got.map (zI z6))) (hl:got.length≤140737488355328) (hw: ∀x∈got, -9223372036854775808≤x∧x≤9223372036854775807):
 Calls prog 218 #[c.val,zI z6 kind,zI z6 n,zb array,.slice A got.length cap] w (WrongGot c kind n array got w):=by
 have HF:=zH (fun w' (he:Ext w w')=>ykv c got▸yji c A cap got w' (hc.ext he) (hg.ext he) hl hw);have HS:=zH (fun w' (he:Ext w w')=>yaA c kind w' (hc.ext he));have HC:=zH (fun w' (he:Ext w w')=>yaw c w' (hc.ext he));unfold Cnf.val at HF HS HC ⊢;generalize hA:got.all (fragOk c)=al at HF;generalize hT:twiceIn got=tw at HF;have HA:=zH hA;have HT:=zH hT;clear hA hT;go_enter func218,ntmps218;go_wp2_with fail;refine yar 0 rfl ?_;go_wp2_with fail;refine (HF.o _ zE).mono ?_;rintro e w1 ⟨rfl,X1,rfl⟩;go_wp2_with fail;refine (HS.o _ zE).mono ?_;rintro e w1 ⟨s',rfl,hs',hfr,hok,X2,rfl⟩;obtain ⟨arr,A',cap',refs⟩:=s';unfold Shp.val;rw [World.patch_patch] at hok;have HX:=zH hs'
 have HF':=zH (show∀a,A'=some a→w.heap.size+1≠a.block from fun a ha e=>by
  have:=hfr a ha;simp only [World.size_patch,World.size_alloc] at this;omega)
 clear hfr;have HO:=zH hok;generalize hI:(c.shapeAt kind).isSome=is;have HI:=zH hI;clear hs' hok hI;go_wp2_with fail;refine (HC.o _ zE).mono ?_;rintro e w1 ⟨rfl,X3,rfl⟩;generalize hK:c.check=ck;have HK:=zH hK;clear hK;have HZ:=zH (fun w' (he:Ext ((w.alloc (.cells #[zI z6 c.frags,zI z6 c.spine,zI z6 c.globals,zI z6 c.threads,zI z6 c.locals,zI z6 c.cache,zI z6 c.stack,zI z6 c.low,.slice c.A c.shapes.length c.cap] 34)).alloc (.cells #[zb false,.slice none 0 0] 94) |>.patch ⟨X1.blocks++X2.blocks,X2.drawn⟩) w')=>yck ⟨arr,A',cap',refs⟩ n w' (HO.o.ext he));unfold Shp.val at HZ;simp only at HZ;cases al
 · have HE:=zH (show wrongE c is ⟨arr,A',cap',refs⟩ n array got=1 from if_pos (Or.inr HA.o));go_wp2_with fail
   all_goals
    go_step3
    refine ⟨rfl,?_⟩;go_wp2_with fail;(try rw [Exit.noGoto_ret]);refine bodyPost_ret (v:=.tuple #[.agg #[zb arr,.slice A' refs.length cap'],zI z6 1]) (by simp [results,Tryz.results218,go_sem]) rfl ?_;exact ⟨⟨arr,A',cap',refs⟩,by rw [HI.o,HE.o];rfl,HX.o,((HO.o.ext zE).setCell HF'.o).setCell HF'.o,zE⟩
 by_cases h0:ck≠0
 · have HE:=zH (show wrongE c is ⟨arr,A',cap',refs⟩ n array got=1 from if_pos (Or.inl (by rw [HK.o];exact h0)));go_wp2_with fail;go_step3
   refine ⟨rfl,?_⟩;go_wp2_with fail;(try rw [Exit.noGoto_ret]);refine bodyPost_ret (v:=.tuple #[.agg #[zb arr,.slice A' refs.length cap'],zI z6 1]) (by simp [results,Tryz.results218,go_sem]) rfl ?_;exact ⟨⟨arr,A',cap',refs⟩,by rw [HI.o,HE.o];rfl,HX.o,((HO.o.ext zE).setCell HF'.o).setCell HF'.o,zE⟩
 obtain rfl:ck=0:=zo;have HN:=zH (show¬(c.check≠0∨got.all (fragOk c)=false) by rw [HK.o,HA.o];simp);clear h0;by_cases hq:is=false∨arr≠array
 · have HE:=zH (show wrongE c is ⟨arr,A',cap',refs⟩ n array got=4 from (if_neg HN.o).trans (if_pos hq));cases is
   · clear hq;go_wp2_with fail;go_step3
     refine ⟨rfl,?_⟩;go_wp2_with fail;(try rw [Exit.noGoto_ret]);refine bodyPost_ret (v:=.tuple #[.agg #[zb arr,.slice A' refs.length cap'],zI z6 4]) (by simp [results,Tryz.results218,go_sem]) rfl ?_;exact ⟨⟨arr,A',cap',refs⟩,by rw [HI.o,HE.o];rfl,HX.o,((HO.o.ext zE).setCell HF'.o).setCell HF'.o,zE⟩
   · rcases (show (arr=true∧array=false)∨(arr=false∧array=true) by cases arr<;>cases array<;>simp_all) with ⟨rfl,rfl⟩|⟨rfl,rfl⟩
     · clear hq;go_wp2_with fail;go_step3
       refine ⟨rfl,?_⟩;go_wp2_with fail;(try rw [Exit.noGoto_ret]);refine bodyPost_ret (v:=.tuple #[.agg #[zb true,.slice A' refs.length cap'],zI z6 4]) (by simp [results,Tryz.results218,go_sem]) rfl ?_;exact ⟨⟨true,A',cap',refs⟩,by rw [HI.o,HE.o];rfl,HX.o,((HO.o.ext zE).setCell HF'.o).setCell HF'.o,zE⟩
     · clear hq;go_wp2_with fail;go_step3
       refine ⟨rfl,?_⟩;go_wp2_with fail;(try rw [Exit.noGoto_ret]);refine bodyPost_ret (v:=.tuple #[.agg #[zb false,.slice A' refs.length cap'],zI z6 4]) (by simp [results,Tryz.results218,go_sem]) rfl ?_;exact ⟨⟨false,A',cap',refs⟩,by rw [HI.o,HE.o];rfl,HX.o,((HO.o.ext zE).setCell HF'.o).setCell HF'.o,zE⟩
 obtain ⟨rfl,rfl⟩:is=true∧array=arr:=by
  constructor
  · cases is
    · exact absurd (Or.inl rfl) hq
    · rfl
  · cases arr<;>cases array<;>simp_all
 have HN2:=zH hq;clear hq;generalize hS:Shp.size ⟨array,A',cap',refs⟩ n=sz at HZ;have HS':=zH hS;clear hS;by_cases h5:sz<0
 · have HE:=zH (show wrongE c true ⟨array,A',cap',refs⟩ n array got=5 from (if_neg HN.o).trans ((if_neg HN2.o).trans (if_pos (by rw [HS'.o];exact h5))));cases array
   · go_wp2_with fail;refine (HZ.o _ zE).mono ?_;rintro e w1 ⟨rfl,X4,rfl⟩;go_wp2_with fail;go_step3
     refine ⟨rfl,?_⟩;go_wp2_with fail;(try rw [Exit.noGoto_ret]);refine bodyPost_ret (v:=.tuple #[.agg #[zb false,.slice A' refs.length cap'],zI z6 5]) (by simp [results,Tryz.results218,go_sem]) rfl ?_;exact ⟨⟨false,A',cap',refs⟩,by rw [HI.o,HE.o];rfl,HX.o,((HO.o.ext zE).setCell HF'.o).setCell HF'.o,zE⟩
   · go_wp2_with fail;refine (HZ.o _ zE).mono ?_;rintro e w1 ⟨rfl,X4,rfl⟩;go_wp2_with fail;go_step3
     refine ⟨rfl,?_⟩;go_wp2_with fail;(try rw [Exit.noGoto_ret]);refine bodyPost_ret (v:=.tuple #[.agg #[zb true,.slice A' refs.length cap'],zI z6 5]) (by simp [results,Tryz.results218,go_sem]) rfl ?_;exact ⟨⟨true,A',cap',refs⟩,by rw [HI.o,HE.o];rfl,HX.o,((HO.o.ext zE).setCell HF'.o).setCell HF'.o,zE⟩
 by_cases h6:(got.length:Int)=sz
 · subst h6;clear h5;cases tw
   · have HE:=zH (show wrongE c true ⟨array,A',cap',refs⟩ n array got=0 from (if_neg HN.o).trans ((if_neg HN2.o).trans ((if_neg (by rw [HS'.o];omega)).trans (if_neg (by rw [HS'.o,HT.o];simp)))));cases array
     · go_wp2_with fail;refine (HZ.o _ zE).mono ?_;rintro e w1 ⟨rfl,X4,rfl⟩;go_wp2_with fail;refine (HZ.o _ zE).mono ?_;rintro e w1 ⟨rfl,X5,rfl⟩;go_wp2_with fail;go_step3
       go_wp2_with fail;rw [Exit.jump_ret];refine bodyPost_ret (v:=.tuple #[.agg #[zb false,.slice A' refs.length cap'],zI z6 0]) (by simp [results,Tryz.results218,go_sem]) rfl ?_;exact ⟨⟨false,A',cap',refs⟩,by rw [HI.o,HE.o];rfl,HX.o,((HO.o.ext zE).setCell HF'.o).setCell HF'.o,zE⟩
     · go_wp2_with fail;refine (HZ.o _ zE).mono ?_;rintro e w1 ⟨rfl,X4,rfl⟩;go_wp2_with fail;refine (HZ.o _ zE).mono ?_;rintro e w1 ⟨rfl,X5,rfl⟩;go_wp2_with fail;go_step3
       go_wp2_with fail;rw [Exit.jump_ret];refine bodyPost_ret (v:=.tuple #[.agg #[zb true,.slice A' refs.length cap'],zI z6 0]) (by simp [results,Tryz.results218,go_sem]) rfl ?_;exact ⟨⟨true,A',cap',refs⟩,by rw [HI.o,HE.o];rfl,HX.o,((HO.o.ext zE).setCell HF'.o).setCell HF'.o,zE⟩
   · have HE:=zH (show wrongE c true ⟨array,A',cap',refs⟩ n array got=2 from (if_neg HN.o).trans ((if_neg HN2.o).trans ((if_neg (by rw [HS'.o];omega)).trans (if_pos (Or.inr HT.o)))));cases array
     · go_wp2_with fail;refine (HZ.o _ zE).mono ?_;rintro e w1 ⟨rfl,X4,rfl⟩;go_wp2_with fail;refine (HZ.o _ zE).mono ?_;rintro e w1 ⟨rfl,X5,rfl⟩;go_wp2_with fail;go_step3
       go_wp2_with fail;rw [Exit.jump_ret];refine bodyPost_ret (v:=.tuple #[.agg #[zb false,.slice A' refs.length cap'],zI z6 2]) (by simp [results,Tryz.results218,go_sem]) rfl ?_;exact ⟨⟨false,A',cap',refs⟩,by rw [HI.o,HE.o];rfl,HX.o,((HO.o.ext zE).setCell HF'.o).setCell HF'.o,zE⟩
     · go_wp2_with fail;refine (HZ.o _ zE).mono ?_;rintro e w1 ⟨rfl,X4,rfl⟩;go_wp2_with fail;refine (HZ.o _ zE).mono ?_;rintro e w1 ⟨rfl,X5,rfl⟩;go_wp2_with fail;go_step3
       go_wp2_with fail;rw [Exit.jump_ret];refine bodyPost_ret (v:=.tuple #[.agg #[zb true,.slice A' refs.length cap'],zI z6 2]) (by simp [results,Tryz.results218,go_sem]) rfl ?_;exact ⟨⟨true,A',cap',refs⟩,by rw [HI.o,HE.o];rfl,HX.o,((HO.o.ext zE).setCell HF'.o).setCell HF'.o,zE⟩
 · have HE:=zH (show wrongE c true ⟨array,A',cap',refs⟩ n array got=2 from (if_neg HN.o).trans ((if_neg HN2.o).trans ((if_neg (by rw [HS'.o];exact h5)).trans (if_pos (Or.inl (by rw [HS'.o];exact h6))))));cases array
   · go_wp2_with fail;refine (HZ.o _ zE).mono ?_;rintro e w1 ⟨rfl,X4,rfl⟩;go_wp2_with fail;refine (HZ.o _ zE).mono ?_;rintro e w1 ⟨rfl,X5,rfl⟩;go_wp2_with fail;go_step3
     go_wp2_with fail;rw [Exit.jump_ret];refine bodyPost_ret (v:=.tuple #[.agg #[zb false,.slice A' refs.length cap'],zI z6 2]) (by simp [results,Tryz.results218,go_sem]) rfl ?_;exact ⟨⟨false,A',cap',refs⟩,by rw [HI.o,HE.o];rfl,HX.o,((HO.o.ext zE).setCell HF'.o).setCell HF'.o,zE⟩
   · go_wp2_with fail;refine (HZ.o _ zE).mono ?_;rintro e w1 ⟨rfl,X4,rfl⟩;go_wp2_with fail;refine (HZ.o _ zE).mono ?_;rintro e w1 ⟨rfl,X5,rfl⟩;go_wp2_with fail;go_step3
     go_wp2_with fail;rw [Exit.jump_ret];refine bodyPost_ret (v:=.tuple #[.agg #[zb true,.slice A' refs.length cap'],zI z6 2]) (by simp [results,Tryz.results218,go_sem]) rfl ?_;exact ⟨⟨true,A',cap',refs⟩,by rw [HI.o,HE.o];rfl,HX.o,((HO.o.ext zE).setCell HF'.o).setCell HF'.o,zE⟩
open Go Go.RowKit
theorem yhJ (s:Shp) (frag:Int) (b:Nat) (t:TypeId) (vs:List Value) (w:World) (hs:s.Ok w) (hb:w.heap[b]?=some (.cells vs.toArray t)) (hv:vs.length=8) (hn: ∀a,s.A=some a→0<s.refs.length→b≠a.block):
 Calls prog 221 #[s.val,zI z6 frag,zp (some ⟨b,0,none⟩)] w (fun e w'=>e=.returned (.tuple #[])∧ ∃X,w'=(w.putBlk b (.cells (putFields s frag vs s.refs.length).toArray t)).patch X):=by
 have hl:s.refs.length≤140737488355328:=hs.max;have hbs:=(Array.getElem?_eq_some_iff.1 hb).1;obtain ⟨arr,A,cap,refs⟩:=s;unfold Shp.val;simp only at hl hn ⊢;go_enter func221,ntmps221;go_wp2_with fail;go_loopw [14] (fun i wr=> ∃k:Nat,k≤refs.length∧i=zI z6 k∧ ∃w1,w1=w.putBlk b (.cells (putFields ⟨arr,A,cap,refs⟩ frag vs k).toArray t)∧Ext (w1.alloc (.cells #[zb arr,.slice A refs.length cap] 94)) wr) (fun i _=>refs.length-(intOf i).toNat)
 case atStart=>exact ⟨0,Nat.zero_le _,rfl,w,(World.putBlk_self _ hb).symm,zE⟩
 case round=>
  obtain ⟨k,hk,rfl,w1,hw1,X,rfl⟩:=hrel;have hs1:(⟨arr,A,cap,refs⟩:Shp).Ok w1:=by rw [hw1];exact hs.putBlk hn
  have HW:=zH hw1;have hsz:w.heap.size=w1.heap.size:=by rw [hw1,World.size_putBlk]
  rw [hsz];have HZ:=zH hsz;by_cases hlt:k<refs.length
  · have HP:=zH (fun w' (he:Ext w1 w')=>ycN ⟨arr,A,cap,refs⟩ k w' (hs1.ext he) zo zo);have HR:=zH (show w1.heap[b]?=some (.cells (putFields ⟨arr,A,cap,refs⟩ frag vs k).toArray t) by rw [hw1,World.row_put _ hbs]);have HB:=zH (show b<w1.heap.size by rw [hw1,World.size_putBlk];exact hbs);have HL:=zH (yaN ⟨arr,A,cap,refs⟩ frag vs k);have HN:=zH (@yga ⟨arr,A,cap,refs⟩ frag vs k);have HY:=zH (@yfi ⟨arr,A,cap,refs⟩ frag vs k);obtain ⟨q,o,hA,hq,hcell⟩:=hs1.refs.cases (by simp;omega);have g0:=hcell k (zb (refs.getD k false)) (by simp [List.getD,List.getElem?_eq_getElem hlt]);have HX:=zH hn;simp only at hA;unfold Shp.val Shp.place at HP;subst hA;simp only at HP;generalize refs.getD k false=x at *;clear hw1 hb hs hs1 hcell hn hbs hsz;go_wp2_with fail;refine (HP.o _ zE).mono ?_;cases hf:Shp.hasField ⟨arr,some ⟨q,o,none⟩,cap,refs⟩ k
    · rintro e w2 ⟨rfl,X2,rfl⟩;have HT2:=zH (HN.o (by rw [hf];simp));clear hf;go_wp2_with fail;go_roundw
      case rel=>exact ⟨k+1,zo,by go_num,w1,by rw [HW.o,HT2.o],zE⟩
      case measure=>simp [intOf];omega
    · rintro e w2 ⟨rfl,X2,rfl⟩;by_cases hp:Shp.placeF k=frag
      · have HT2:=zH (HY.o ⟨hf,hp⟩);clear hf;rw [hp];clear hp;obtain ⟨m,hm,hm8⟩: ∃m:Nat,Shp.placeW k=m∧m<8:=⟨(Shp.placeW k).toNat,by have:=Shp.placeW_bd k zo;omega,by have:=Shp.placeW_bd k zo;omega⟩;rw [hm];have HM:=zH hm;clear hm;go_wp2_with fail;have hb1:=HB.o;have hc1:w1.cell? ⟨b,m,none⟩=some ((putFields ⟨arr,some ⟨q,o,none⟩,cap,refs⟩ frag vs k)[m]'(by rw [HL.o];omega)):=ycg HR.o (List.getElem?_eq_getElem _);have hf1:w1.frozen? ⟨b,m,none⟩=false:=ydo HR.o;generalize (putFields ⟨arr,some ⟨q,o,none⟩,cap,refs⟩ frag vs k)[m]'(by rw [HL.o];omega)=z at hc1;refine ycV (base:=w1.alloc (.cells #[zb arr,.slice (some ⟨q,o,none⟩) refs.length cap] 94)) zE (fun Z=>?_);clear HP HN HY X X2;obtain ⟨r1,r2,hbl⟩: ∃r1 r2,wBlank x=zc z4 r1 r2:=by cases x<;>exact ⟨_,_,rfl⟩
        have HBL:=zH hbl;clear hbl;refine yab [zT,zT,zT,zT,zT,zT,zU] 1 6 ?_;intro X00;simp only [pickOps];repeat (go_big_quiet_step ((go_at_call 227;exact Calls.added2 (yex _ _))))
        refine wpQuiet_nil (fun X0=>?_);clear X00;refine yaj 6 _ zQ zQ rfl rfl (fun X1 K Q' hK=>?_);go_simp;rw [HBL.o];go_simp;refine hK _ _ (fun X2=>?_);clear hK K Q';go_wp2_with fail;go_roundw
        case rel=>exact ⟨k+1,zo,by go_num,w1.setCell ⟨b,m,none⟩ (zc z4 r1 r2),by rw [World.setCell_row _ HR.o,HT2.o,HM.o,HBL.o,List.setIfInBounds_toArray,Int.toNat_natCast,HW.o,World.putBlk_putBlk],zE⟩
        case measure=>simp [intOf];omega
      · have HT2:=zH (HN.o (fun h=>hp h.2));clear hf;go_wp2_with fail;go_roundw
        case rel=>exact ⟨k+1,zo,by go_num,w1,by rw [HW.o,HT2.o],zE⟩
        case measure=>simp [intOf];omega
  · obtain rfl:k=refs.length:=zo;go_wp2_with fail;refine bodyPost_end (results_none rfl _ _ _) rfl ⟨rfl,?_⟩;have he:Ext w1 ((w1.alloc (.cells #[zb arr,.slice A refs.length cap] 94)).patch X):=zE;exact HW.o▸he
end Go.Proofs.YtdhjjpnajjingaaGreat
namespace Go
open Go.RowKit
def cxOf:Value→Nat × Nat
 |.complex _ a b=>(a,b)
 |_=>(0,0)
def IsCx (v:Value):Prop:= ∃a b,v=zc z4 a b
theorem IsCx.cx {v:Value} (h:IsCx v):Go.cx (cxOf v)=v:=by
 obtain ⟨a,b,rfl⟩:=h;rfl
theorem yeI:IsCx wNone:=⟨_,_,rfl⟩
theorem ya8:IsCx wZero:=⟨_,_,rfl⟩
theorem ybN (i:Int):IsCx (wRef i):=by unfold wRef;split<;>exact ⟨_,_,rfl⟩
theorem ybY (k m:Int):IsCx (wHead k m):=by unfold wHead;split<;>exact ⟨_,_,rfl⟩
theorem yby (n:Int):IsCx (wWhole n):=by unfold wWhole;split<;>exact ⟨_,_,rfl⟩
theorem yca (b:Bool):IsCx (wBlank b):=by cases b<;>exact ⟨_,_,rfl⟩
theorem ydh (s:Shp) (frag:Int) (vs:List Value) (h: ∀v∈vs,IsCx v): ∀k, ∀v∈putFields s frag vs k,IsCx v
 |0=>h
 |k+1=>fun v hv=>by
  unfold putFields at hv;split at hv
  · rcases List.mem_or_eq_of_mem_set hv with hv|rfl
    · exact ydh s frag vs h k v hv
    · exact yca _
  · exact ydh s frag vs h k v hv
def rowF (l:List Value) (k:Nat):Nat × Nat:=cxOf (l.getD k wZero)
theorem yfE {l:List Value} (hl:l.length=8) (h: ∀v∈l,IsCx v):cxs (rowF l)=l:=by
 apply List.ext_getElem?;intro k;unfold cxs;rw [List.getElem?_map];by_cases hk:k<8
 · rw [List.getElem?_range hk,List.getElem?_eq_getElem zo];simp only [Option.map_some,Option.some.injEq,rowF,List.getD,List.getElem?_eq_getElem (show k<l.length by omega),Option.getD_some];exact (h _ (List.getElem_mem _)).cx
 · rw [List.getElem?_eq_none (by simp;omega),List.getElem?_eq_none zo];rfl
def objInit (kind:Int) (got:List Int) (side:Bool) (j:Nat):List Value:=
 [if j+1<got.length then wRef (got.getD (j+1) 0) else wNone,if j=0 then wHead kind (if side then 1 else 0) else wZero,wZero,wZero,wZero,wZero,wZero,wZero]
def objRow (s:Shp) (kind:Int) (got:List Int) (side:Bool) (j:Nat):List Value:=putFields s j (objInit kind got side j) s.refs.length
theorem yfg (s:Shp) (kind:Int) (got:List Int) (side:Bool) (j:Nat):(objRow s kind got side j).length=8:=yaN _ _ _ _
theorem yjU (s:Shp) (kind:Int) (got:List Int) (side:Bool) (j:Nat): ∀v∈objRow s kind got side j,IsCx v:=by
 refine ydh _ _ _ (fun v hv=>?_) _;simp only [objInit,List.mem_cons,List.not_mem_nil,or_false] at hv;rcases hv with rfl|rfl|rfl|rfl|rfl|rfl|rfl|rfl
 · split
   · exact ybN _
   · exact yeI
 · split
   · exact ybY _ _
   · exact ya8
 all_goals exact ya8
def objWrites (s:Shp) (kind:Int) (got:List Int) (side:Bool):Nat→List Value
 |0=>[]
 |j+1=>objWrites s kind got side j++writes (got.getD j 0) (rowF (objRow s kind got side j)) 8
end Go
namespace Go.Proofs.YtdhjjpnajjingaaGreat
open Go Go.RowKit
def ObjGot (c:Cnf) (kind:Int) (got:List Int) (w:World) (e:Ending) (w':World):Prop:=
 ∃(s':Shp) (l:Value) (n:Nat),e=.returned (.tuple #[l,zI z6 (wrongE c (c.shapeAt kind).isSome s' 0 false got)])∧(s'.arr,s'.refs)=(c.shapeAt kind).getD (false,[])∧
  w'.ownsRow w.heap.size 194 2 l n (if wrongE c (c.shapeAt kind).isSome s' 0 false got=0 then objWrites s' kind got (isSide got) got.length else [])∧Ext w w'
theorem yaK {c:Cnf} {is:Bool} {s:Shp} {n:Int} {array:Bool} {got:List Int} (h:wrongE c is s n array got=0):
 c.check=0∧got.all (fragOk c)=true∧is=true∧s.arr=array∧(got.length:Int)=s.size n∧1≤s.size n∧twiceIn got=false:=by
 unfold wrongE at h;split at h
 · omega
 split at h
 · omega
 split at h
 · omega
 split at h
 · omega
 rename_i h1 h2 h3 h4
 have h5:1≤s.size n:=by
  have hd:=yaW n;unfold Shp.size at h3 ⊢;split
  · rw [if_pos (by assumption)] at h3;omega
  · split
    · omega
    · split
      · omega
      · have:0≤s.len:=by unfold Shp.len;omega
        omega
 refine ⟨?_,?_,?_,?_,?_,h5,?_⟩
 · exact Decidable.byContradiction fun h=>h1 (Or.inl h)
 · cases hg:got.all (fragOk c)
   · exact absurd (Or.inr hg) h1
   · rfl
 · cases is
   · exact absurd (Or.inl rfl) h2
   · rfl
 · exact Decidable.byContradiction fun h=>h2 (Or.inr h)
 · exact Decidable.byContradiction fun h=>h4 (Or.inl h)
 · cases ht:twiceIn got
   · rfl
   · exact absurd (Or.inr ht) h4
structure ObjSt (c:Cnf) (kind:Int) (got:List Int) (w:World) (j:Nat) (l:Value) (s:Shp) (bs bw:Nat) (vs:List Value) (wr:World):Prop where
 lt:j<got.length
 box:wr.heap[w.heap.size]?=some (.cells #[zI z6 c.frags,zI z6 c.spine,zI z6 c.globals,zI z6 c.threads,zI z6 c.locals,zI z6 c.cache,zI z6 c.stack,zI z6 c.low,.slice c.A c.shapes.length c.cap] 34)
 sblk:wr.heap[bs]?=some (.cells #[zb s.arr,.slice s.A s.refs.length s.cap] 94)
 wblk:wr.heap[bw]?=some (.cells vs.toArray 254)
 vlen:vs.length=8
 sok:s.Ok wr
 sne: ∀a,s.A=some a→0<s.refs.length→a.block<bw
 ext:Ext w wr
 own:wr.ownsRow (bw+1) 194 2 l (8*j) (objWrites s kind got (isSide got) j)
 lt1:w.heap.size<bs
 lt2:bs<bw
 what:(s.arr,s.refs)=(c.shapeAt kind).getD (false,[])
 fine:wrongE c (c.shapeAt kind).isSome s 0 false got=0
theorem ObjSt.put {c:Cnf} {kind:Int} {got:List Int} {w:World} {j:Nat} {l:Value} {s:Shp} {bs bw:Nat} {vs:List Value} {wr:World} (h:ObjSt c kind got w j l s bs bw vs wr) (L:List Value) (hL:L.length=8):
 ObjSt c kind got w j l s bs bw L (wr.putBlk bw (.cells L.toArray 254)):=by
 have hb:=(Array.getElem?_eq_some_iff.1 h.wblk).1;have h1:=h.lt1;have h2:=h.lt2;refine { lt:=h.lt,box:=?_,sblk:=?_,wblk:=World.row_put _ hb,vlen:=hL,sok:=h.sok.putBlk (fun a ha hr=>by have:=h.sne a ha hr;omega),sne:=h.sne,ext:=?_,own:=?_,lt1:=h1,lt2:=h2,what:=h.what,fine:=h.fine }
 · rw [World.row_put_other _ zo];exact h.box
 · rw [World.row_put_other _ zo];exact h.sblk
 · obtain ⟨b1,b2,b3,_,_⟩:=h.ext.below;exact yaE ⟨b1,b2,b3,by rw [World.size_putBlk];exact h.ext.size,fun k hk=>by rw [World.row_put_other _ zo];exact h.ext.heap k hk⟩
 · obtain ⟨o1,o2⟩:=h.own;refine ⟨o1,?_⟩;rcases o2 with ⟨hv,hn⟩|⟨g,cap,cur,hv,hbg,hh,r⟩
   · exact Or.inl ⟨hv,hn⟩
   · exact Or.inr ⟨g,cap,cur,hv,hbg,by rw [World.row_put_other _ zo];exact hh,r⟩
theorem ObjSt.patch {c:Cnf} {kind:Int} {got:List Int} {w:World} {j:Nat} {l:Value} {s:Shp} {bs bw:Nat} {vs:List Value} {wr:World} (h:ObjSt c kind got w j l s bs bw vs wr) (X:Extra):ObjSt c kind got w j l s bs bw vs (wr.patch X):=by
 have hb:=(Array.getElem?_eq_some_iff.1 h.wblk).1;have hb1:=(Array.getElem?_eq_some_iff.1 h.box).1;have hb2:=(Array.getElem?_eq_some_iff.1 h.sblk).1;exact { lt:=h.lt,box:=by rw [World.heap_patch _ _ _ hb1];exact h.box,sblk:=by rw [World.heap_patch _ _ _ hb2];exact h.sblk,wblk:=by rw [World.heap_patch _ _ _ hb];exact h.wblk,vlen:=h.vlen,sok:=h.sok.ext ⟨X,rfl⟩,sne:=h.sne,ext:=h.ext.patch X,own:=yaQ h.own ⟨X,rfl⟩,lt1:=h.lt1,lt2:=h.lt2,what:=h.what,fine:=h.fine }
theorem ObjSt.lay {c:Cnf} {kind:Int} {got:List Int} {w:World} {j:Nat} {l:Value} {s:Shp} {bs bw:Nat} {vs:List Value} {wr:World} (h:ObjSt c kind got w j l s bs bw vs wr) {l':Value} {w':World} (he:Ext (wr.upTo (bw+1)) w') (ho:w'.ownsRow (bw+1) 194 2 l' (8*(j+1)) (objWrites s kind got (isSide got) (j+1))) (hj:j+1<got.length):
 ObjSt c kind got w (j+1) l' s bs bw vs w':=by
 have hb:=(Array.getElem?_eq_some_iff.1 h.wblk).1;have h1:=h.lt1;have h2:=h.lt2;have hz:=World.size_upTo wr (n:=bw+1) zo
 exact { lt:=hj,box:=by rw [he.heap _ zo,World.heap_upTo _ zo];exact h.box,sblk:=by rw [he.heap _ zo,World.heap_upTo _ zo];exact h.sblk,
         wblk:=by rw [he.heap _ zo,World.heap_upTo _ zo];exact h.wblk,vlen:=h.vlen,sok:=(h.sok.upTo zo (fun a ha hr=>Nat.lt_succ_of_lt (h.sne a ha hr))).ext he,sne:=h.sne,ext:=(h.ext.upTo zo zo).trans he,own:=ho,lt1:=h1,lt2:=h2,what:=h.what,fine:=h.fine }
theorem yjD:(prog.info? 254).map (·.size)=some 8:=zQ
def objHead (kind:Int) (got:List Int) (j:Nat):List Value:=[wNone,if j=0 then wHead kind (if isSide got then 1 else 0) else wZero,wZero,wZero,wZero,wZero,wZero,wZero]
theorem yid {kind:Int} {got:List Int} {j:Nat} (h: ¬j=0):objHead kind got j=[zc z4 0 4607182418800017408,zc z4 0 0,zc z4 0 0,zc z4 0 0,zc z4 0 0,zc z4 0 0,zc z4 0 0,zc z4 0 0]:=by unfold objHead;rw [if_neg h];rfl
theorem yc8 {kind:Int} {got:List Int} {p q:Nat} (h:wHead kind (if isSide got then 1 else 0)=zc z4 p q):objHead kind got 0=List.set [zc z4 0 4607182418800017408,zc z4 0 0,zc z4 0 0,zc z4 0 0,zc z4 0 0,zc z4 0 0,zc z4 0 0,zc z4 0 0] 1 (zc z4 p q):=by unfold objHead;rw [if_pos rfl,h];rfl
theorem yie {kind:Int} {got:List Int} {j:Nat} (h: ¬j+1<got.length):objInit kind got (isSide got) j=objHead kind got j:=by unfold objInit objHead;rw [if_neg h]
theorem ygM {kind:Int} {got:List Int} {j:Nat} {y:Int} {p q:Nat} (h:j+1<got.length) (hy:got.getD (j+1) 0=y) (hp:wRef y=zc z4 p q):objInit kind got (isSide got) j=(objHead kind got j).set 0 (zc z4 p q):=by unfold objInit objHead;rw [if_pos h,hy,hp];rfl
theorem yei (kind:Int) (got:List Int) (side:Bool) (j:Nat):(objInit kind got side j).length=8:=rfl
def ObjAt (c:Cnf) (kind:Int) (A:Option Addr) (cap:Nat) (got:List Int) (w:World) (a:Act) (wr:World):Prop:=
 ∃(j:Nat) (l:Value) (s:Shp) (bs bw:Nat) (vs:List Value) (u4 u5 u6 u7 u9 u13 u14 u15 u16 u17 u18 u19 u20 u21 u22 u23 u24 u25 u26 u27 u28 u29 u30 u31 u32 u33 u34 u35 u36 u37 u38 u39 u40 u41 u42 u43 u44 u45 u46 u47 u48 u49 u50 u51 u52 u53 u54 u55 u56 u57 u58 u59 u60 u61 u62 u63 u64:Value),a={ tmps:=#[(.agg #[zI z6 c.frags,zI z6 c.spine,zI z6 c.globals,zI z6 c.threads,zI z6 c.locals,zI z6 c.cache,zI z6 c.stack,zI z6 c.low,.slice c.A c.shapes.length c.cap]),zI z6 kind,.slice A got.length cap,zp (some ⟨w.heap.size,0,none⟩),u4,u5,u6,u7,zp (some ⟨bs,0,none⟩),u9,l,zp (some ⟨bw,0,none⟩),zI z6 j,u13,u14,u15,u16,u17,u18,u19,u20,u21,u22,u23,u24,u25,u26,u27,u28,u29,u30,u31,u32,u33,u34,u35,u36,u37,u38,u39,u40,u41,u42,u43,u44,u45,u46,u47,u48,u49,u50,u51,u52,u53,u54,u55,u56,u57,u58,u59,u60,u61,u62,u63,u64],defers:=[] }∧ObjSt c kind got w j l s bs bw vs wr
theorem yif (c:Cnf) (kind:Int) (A:Option Addr) (cap:Nat) (got:List Int) (w:World) (hc:c.Ok w) (hg:CellsAt w A (got.map (zI z6))) (hl:got.length≤1000) (hw: ∀x∈got, -9223372036854775808≤x∧x≤9223372036854775807):
 Calls prog 157 #[c.val,zI z6 kind,.slice A got.length cap] w (ObjGot c kind got w):=by
 have HW:=zH (fun w' (he:Ext w w')=>yeY c kind 0 false A cap got w' (hc.ext he) (hg.ext he) zo hw);unfold Cnf.val at HW ⊢;go_enter func157,ntmps157;go_wp2_with fail;refine yfn 0 (ObjAt c kind A cap got w) (fun a _=>got.length-(intOf (a.tmps.getD 12 undef)).toNat) rfl ?_ ?_
 · rintro a wr ⟨j,l,s,bs,bw,vs,u4,u5,u6,u7,u9,u13,u14,u15,u16,u17,u18,u19,u20,u21,u22,u23,u24,u25,u26,u27,u28,u29,u30,u31,u32,u33,u34,u35,u36,u37,u38,u39,u40,u41,u42,u43,u44,u45,u46,u47,u48,u49,u50,u51,u52,u53,u54,u55,u56,u57,u58,u59,u60,u61,u62,u63,u64,rfl,hst⟩;obtain ⟨arr,A',cap',refs⟩:=s;have HST:=zH hst;have hj:=hst.lt;have HG:=zH hg;have HSD:=zH (fun w' (he:Ext w w')=>ydt A cap got w' (hg.ext he) zo hw);have HCO:=zH hc;clear hg hw hc;clear hst;go_wp2_with fail;refine (yas _).mono ?_;rintro e w1 ⟨rfl,X1,rfl⟩;unfold wNone;go_upto_if 26 with (refine ydy rfl 254 (.tmp 11) (.tmp 24) rfl bw [zc z4 0 4607182418800017408,zc z4 0 0,zc z4 0 0,zc z4 0 0,zc z4 0 0,zc z4 0 0,zc z4 0 0,zc z4 0 0] rfl rfl _ _ HST.o.wblk yjD HST.o.vlen (by intro v hv;simp at hv;rcases hv with rfl|rfl<;>rfl) ?_)
   have HS1:=zH ((HST.o.put [zc z4 0 4607182418800017408,zc z4 0 0,zc z4 0 0,zc z4 0 0,zc z4 0 0,zc z4 0 0,zc z4 0 0,zc z4 0 0] rfl).patch X1);generalize (wr.putBlk bw (.cells (List.toArray [zc z4 0 4607182418800017408,zc z4 0 0,zc z4 0 0,zc z4 0 0,zc z4 0 0,zc z4 0 0,zc z4 0 0,zc z4 0 0]) 254)).patch X1=wr1 at *;clear HST;go_cut [] (fun wx=>ObjSt c kind got w j l ⟨arr,A',cap',refs⟩ bs bw (objHead kind got j) wx)
   case first=>
    by_cases h0:j=0
    · subst h0;go_wp2_with fail;refine (ybM _ _ _).mono ?_;obtain ⟨p1,p2,hp⟩:=ybY kind 0;rw [hp];have HP:=zH hp;clear hp;rintro e w2 ⟨rfl,X2,rfl⟩;go_wp2_with (refine yaO rfl 24 (.tmp 29) (.tmp 28) rfl bw 1 (zc z4 p1 p2) rfl rfl _ _ HS1.o.wblk zQ zd ⟨_,_,rfl⟩ ?_);have HS2:=zH ((HS1.o.put [zc z4 0 4607182418800017408,zc z4 p1 p2,zc z4 0 0,zc z4 0 0,zc z4 0 0,zc z4 0 0,zc z4 0 0,zc z4 0 0] rfl).patch X2);generalize (wr1.putBlk bw (.cells (List.toArray [zc z4 0 4607182418800017408,zc z4 p1 p2,zc z4 0 0,zc z4 0 0,zc z4 0 0,zc z4 0 0,zc z4 0 0,zc z4 0 0]) 254)).patch X2=wr2 at *;go_wp2_with fail;refine (HSD.o _ HS2.o.ext).mono ?_;rintro e w3 ⟨rfl,X3,rfl⟩;have HS3:=zH (HS2.o.patch X3);generalize wr2.patch X3=wr3 at *;cases hsd:isSide got
      · have HQ:=zH hsd;clear hsd;go_wp2_with fail;go_meet
        rw [yc8 (by rw [HQ.o];exact HP.o)];exact HS3.o
      · have HQ:=zH hsd;clear hsd;go_wp2_with fail;refine (ybM _ _ _).mono ?_;obtain ⟨q1,q2,hq⟩:=ybY kind 1;rw [hq];have HP1:=zH hq;clear hq;rintro e w4 ⟨rfl,X4,rfl⟩;go_wp2_with (refine yaO rfl 24 (.tmp 34) (.tmp 33) rfl bw 1 (zc z4 q1 q2) rfl rfl _ _ HS3.o.wblk zQ (show 1<List.length (_::_::_::_::_::_::_::_::[]) from (by decide:1<8)) ⟨_,_,rfl⟩ ?_);go_meet
        rw [yc8 (by rw [HQ.o];exact HP1.o)];exact (HS3.o.put _ rfl).patch X4
    · go_wp2_with fail;go_meet
      rw [yid h0];exact HS1.o
   case rest=>
    have HS2:=zH hcut;clear hcut HS1;go_upto_if 39 with fail
    go_cut [] (fun wx=>ObjSt c kind got w j l ⟨arr,A',cap',refs⟩ bs bw (objInit kind got (isSide got) j) wx)
    case first=>
     by_cases h1:j+1<got.length
     · obtain ⟨q,o,rfl,hq,hcell⟩:=yaD (HG.o.ext HS2.o.ext) hj;have k1:=hcell (j+1) h1;generalize hy:got.getD (j+1) 0=y at k1;have HY:=zH hy;clear hy hcell;go_wp2_with fail;refine (yaR _ _).mono ?_;obtain ⟨p1,p2,hp⟩:=ybN y;rw [hp];have HP:=zH hp;clear hp;rintro e w1 ⟨rfl,X2,rfl⟩;go_wp2_with (refine yaO rfl 24 (.tmp 46) (.tmp 45) rfl bw 0 (zc z4 p1 p2) rfl rfl _ _ HS2.o.wblk zQ (show 0<(objHead kind got j).length from (by decide:0<8)) ⟨_,_,rfl⟩ ?_);go_meet
       rw [ygM h1 HY.o HP.o];exact (HS2.o.put _ rfl).patch X2
     · go_wp2_with fail;go_meet
       rw [yie h1];exact HS2.o
    case rest=>
     have HS3:=zH hcut;clear hcut HS2;have s0:wc.cell? ⟨bs,0,none⟩=some (zb arr):=(by simp only [World.cell?,HS3.o.sblk];rfl);have s1:wc.cell? ⟨bs,1,none⟩=some (.slice A' refs.length cap'):=(by simp only [World.cell?,HS3.o.sblk];rfl);have hbs:bs<wc.heap.size:=(Array.getElem?_eq_some_iff.1 HS3.o.sblk).1;have HFL:=zH (yhJ ⟨arr,A',cap',refs⟩ j bw _ _ wc HS3.o.sok HS3.o.wblk (yei _ _ _ _) (fun a ha hr=>by have:=HS3.o.sne a ha hr;omega));unfold Shp.val at HFL;go_wp2_with fail;refine HFL.o.mono ?_;rintro e w4 ⟨rfl,X4,rfl⟩;have HS4:=zH ((HS3.o.put (putFields ⟨arr,A',cap',refs⟩ j (objInit kind got (isSide got) j) refs.length) (yaN _ _ _ _)).patch X4);generalize (wc.putBlk bw (.cells (putFields ⟨arr,A',cap',refs⟩ j (objInit kind got (isSide got) j) refs.length).toArray 254)).patch X4=wf at *;clear s0 s1 hbs HFL HS3;have hrow:=yjU ⟨arr,A',cap',refs⟩ kind got (isSide got) j;have hrl:=yfg ⟨arr,A',cap',refs⟩ kind got (isSide got) j
     have hwr:objWrites ⟨arr,A',cap',refs⟩ kind got (isSide got) (j+1)=objWrites ⟨arr,A',cap',refs⟩ kind got (isSide got) j++writes (got.getD j 0) (rowF (objRow ⟨arr,A',cap',refs⟩ kind got (isSide got) j)) 8:=rfl;have hre:=yfE hrl hrow;rw [show putFields ⟨arr,A',cap',refs⟩ j (objInit kind got (isSide got) j) refs.length=objRow ⟨arr,A',cap',refs⟩ kind got (isSide got) j from rfl, ←hre] at HS4;generalize rowF (objRow ⟨arr,A',cap',refs⟩ kind got (isSide got) j)=f at *;have HWR:=zH hwr;clear hrow hrl hwr hre;obtain ⟨q,o,rfl,hq,hcell⟩:=yaD (HG.o.ext HS4.o.ext) hj;have k0:=hcell j hj;have hfj:fragOk c (got.getD j 0)=true:=List.all_eq_true.1 (yaK HS4.o.fine).2.1 _ (by rw [List.getD_eq_getElem?_getD,List.getElem?_eq_getElem hj];exact List.getElem_mem hj);generalize got.getD j 0=y at *;have g0:wf.cell? ⟨w.heap.size,0,none⟩=some (zI z6 c.frags):=(by simp only [World.cell?,HS4.o.box];rfl);have g1:wf.cell? ⟨w.heap.size,1,none⟩=some (zI z6 c.spine):=(by simp only [World.cell?,HS4.o.box];rfl);have g2:wf.cell? ⟨w.heap.size,2,none⟩=some (zI z6 c.globals):=(by simp only [World.cell?,HS4.o.box];rfl)
     have g3:wf.cell? ⟨w.heap.size,3,none⟩=some (zI z6 c.threads):=(by simp only [World.cell?,HS4.o.box];rfl);have g4:wf.cell? ⟨w.heap.size,4,none⟩=some (zI z6 c.locals):=(by simp only [World.cell?,HS4.o.box];rfl);have g5:wf.cell? ⟨w.heap.size,5,none⟩=some (zI z6 c.cache):=(by simp only [World.cell?,HS4.o.box];rfl);have g6:wf.cell? ⟨w.heap.size,6,none⟩=some (zI z6 c.stack):=(by simp only [World.cell?,HS4.o.box];rfl);have g7:wf.cell? ⟨w.heap.size,7,none⟩=some (zI z6 c.low):=(by simp only [World.cell?,HS4.o.box];rfl);have g8:wf.cell? ⟨w.heap.size,8,none⟩=some (.slice c.A c.shapes.length c.cap):=(by simp only [World.cell?,HS4.o.box];rfl);have v0:wf.cell? ⟨bw,0,none⟩=some (zc z4 (f 0).1 (f 0).2):=(by simp only [World.cell?,HS4.o.wblk];rfl);have v1:wf.cell? ⟨bw,1,none⟩=some (zc z4 (f 1).1 (f 1).2):=(by simp only [World.cell?,HS4.o.wblk];rfl);have v2:wf.cell? ⟨bw,2,none⟩=some (zc z4 (f 2).1 (f 2).2):=(by simp only [World.cell?,HS4.o.wblk];rfl);have v3:wf.cell? ⟨bw,3,none⟩=some (zc z4 (f 3).1 (f 3).2):=(by simp only [World.cell?,HS4.o.wblk];rfl)
     have v4:wf.cell? ⟨bw,4,none⟩=some (zc z4 (f 4).1 (f 4).2):=(by simp only [World.cell?,HS4.o.wblk];rfl);have v5:wf.cell? ⟨bw,5,none⟩=some (zc z4 (f 5).1 (f 5).2):=(by simp only [World.cell?,HS4.o.wblk];rfl);have v6:wf.cell? ⟨bw,6,none⟩=some (zc z4 (f 6).1 (f 6).2):=(by simp only [World.cell?,HS4.o.wblk];rfl);have v7:wf.cell? ⟨bw,7,none⟩=some (zc z4 (f 7).1 (f 7).2):=(by simp only [World.cell?,HS4.o.wblk];rfl);have hbw:bw<wf.heap.size:=(Array.getElem?_eq_some_iff.1 HS4.o.wblk).1;have hbx:w.heap.size<wf.heap.size:=(Array.getElem?_eq_some_iff.1 HS4.o.box).1;have hb1:=HS4.o.lt1;have hb2:=HS4.o.lt2;have hsz:=World.size_upTo wf (n:=bw+1) zo;have hfr:c.frags≤1099511627776:=by have:=(Cnf.ranged (Cnf.check_zero (yaK HS4.o.fine).1).1).1.2;omega
     have HLY:=zH (fun X=>yee c l (8*j) (objWrites ⟨arr,A',cap',refs⟩ kind got (isSide got) j) y f (wf.patch X) (wf.upTo (bw+1)) (bw+1) (HCO.o.ext (HS4.o.ext.upTo zo zo)) hfj ((ydf wf zo).patch X) zo (by rw [World.size_patch];omega) (yaQ HS4.o.own ⟨X,rfl⟩) zo hfr);unfold Cnf.val at HLY;clear hb1 hb2 hsz hfr hfj hcell;go_wp2_with fail;refine yab [zT,zT,zT,zT,zT,zT,zT,zU,zU] 2 7 ?_;intro X00;simp only [pickOps];repeat (go_big_quiet_step (fail))
     refine wpQuiet_nil (fun X0=>?_);clear X00;refine yaf rfl zQ (fun X2=>?_);simp only [List.drop_succ_cons,List.drop_zero];go_wp2_with fail;refine (HLY.o _).mono ?_;rintro e w6 ⟨v',rfl,hown,hE6,hz6⟩;rw [←HWR.o] at hown;have HOW:=zH (show w6.ownsRow (bw+1) 194 2 v' (8*(j+1)) (objWrites ⟨arr,A',cap',refs⟩ kind got (isSide got) (j+1)) from hown);have HX6:=zH (show Ext (wf.upTo (bw+1)) w6 from hE6);clear hown hE6 hz6 g0 g1 g2 g3 g4 g5 g6 g7 g8 v0 v1 v2 v3 v4 v5 v6 v7;by_cases h1:j+1<got.length
     · go_wp2_with fail;go_step3
       refine ⟨rfl,⟨j+1,v',⟨arr,A',cap',refs⟩,bs,bw,cxs f,_,_,_,_,_,_,_,_,_,_,_,_,_,_,_,_,_,_,_,_,_,_,_,_,_,_,_,_,_,_,_,_,_,_,_,_,_,_,_,_,_,_,_,_,_,_,_,_,_,_,_,_,_,_,_,_,_,rfl,HS4.o.lay HX6.o HOW.o h1⟩,?_⟩;simp [intOf];omega
     · have hb1:=HS4.o.lt1;have hb2:=HS4.o.lt2;have hlen:got.length=j+1:=zo;have HLN:=zH hlen;clear hlen;go_wp2_with fail;rw [Exit.jump_ret];go_ret2;exact ⟨⟨arr,A',cap',refs⟩,v',8*(j+1),by rw [HS4.o.fine];rfl,HS4.o.what,by rw [if_pos HS4.o.fine,HLN.o];exact ya9 HOW.o zo,(HS4.o.ext.upTo zo zo).trans HX6.o⟩
 · intro H;go_wp2_with fail;refine (HW.o _ zE).mono ?_;rintro e w1 ⟨s,rfl,hs,hok,X1,rfl⟩;have HS:=zH hs;have HO:=zH hok;clear hs hok;by_cases hE:wrongE c (c.shapeAt kind).isSome s 0 false got=0
   · rw [hE];have HE:=zH hE;have HH:=zH H;clear hE H;obtain ⟨arr,A',cap',refs⟩:=s;unfold Shp.val;simp only;go_wp2_with fail;go_step3
     have hf:=yaK HE.o;have hz:(w.alloc (.cells #[zI z6 c.frags,zI z6 c.spine,zI z6 c.globals,zI z6 c.threads,zI z6 c.locals,zI z6 c.cache,zI z6 c.stack,zI z6 c.low,.slice c.A c.shapes.length c.cap] 34)).heap.size=w.heap.size+1:=World.size_alloc _ _;have hp:=World.size_patch (w.alloc (.cells #[zI z6 c.frags,zI z6 c.spine,zI z6 c.globals,zI z6 c.threads,zI z6 c.locals,zI z6 c.cache,zI z6 c.stack,zI z6 c.low,.slice c.A c.shapes.length c.cap] 34)) X1;refine (show∀(a:Act) (w:World),Code.wp _ _ _ a w→_ from by assumption) _ _ (HH.o _ _ ⟨0,.slice none 0 0,⟨arr,A',cap',refs⟩,_,_,[zc z4 0 0,zc z4 0 0,zc z4 0 0,zc z4 0 0,zc z4 0 0,zc z4 0 0,zc z4 0 0,zc z4 0 0],_,_,_,_,_,_,_,_,_,_,_,_,_,_,_,_,_,_,_,_,_,_,_,_,_,_,_,_,_,_,_,_,_,_,_,_,_,_,_,_,_,_,_,_,_,_,_,_,_,_,_,_,_,_,_,_,_,rfl,?_⟩);generalize hq:(w.alloc (.cells #[zI z6 c.frags,zI z6 c.spine,zI z6 c.globals,zI z6 c.threads,zI z6 c.locals,zI z6 c.cache,zI z6 c.stack,zI z6 c.low,.slice c.A c.shapes.length c.cap] 34)).patch X1=wq at *;have ha1:=fun o=>World.size_alloc wq o
     refine { lt:=by omega,box:=?_,sblk:=?_,wblk:=?_,vlen:=rfl,sok:=HO.o.ext zE,sne:=fun a ha hr=>?_,ext:=?_,own:=?_,lt1:=by omega,lt2:=Nat.lt_succ_self _,what:=HS.o,fine:=HE.o }
     · rw [World.row_alloc_past _ (by rw [World.size_alloc];omega),World.row_alloc_past _ zo, ←hq,World.heap_patch _ _ _ zo,World.row_alloc_new]
     · rw [World.row_alloc_past _ (by rw [World.size_alloc];omega),World.row_alloc_new]
     · rw [←World.size_alloc wq,World.row_alloc_new]
     · obtain ⟨b,o,hA,hb,_⟩:=HO.o.refs.cases (by simpa using hr);rw [ha] at hA;cases hA
       exact Nat.lt_succ_of_lt hb
     · rw [←hq];exact zE
     · exact ⟨rfl,Or.inl ⟨rfl,rfl⟩⟩
   · have HE:=zH hE;obtain ⟨arr,A',cap',refs⟩:=s;unfold Shp.val;simp only;generalize hv:wrongE c (c.shapeAt kind).isSome ⟨arr,A',cap',refs⟩ 0 false got=ev at hE ⊢;have HV:=zH hv;clear hv H;go_wp2_with fail;rw [Exit.jump_ret];go_ret2;exact ⟨⟨arr,A',cap',refs⟩,.slice none 0 0,0,by rw [HV.o];rfl,HS.o,by rw [if_neg HE.o];exact ⟨rfl,Or.inl ⟨rfl,rfl⟩⟩,zE⟩
def sentIn (got:List Int) (j:Nat):Value:=if j+1<got.length then wRef (got.getD (j+1) 0) else wNone
def sentWords (kind n m:Int) (got:List Int) (at_:Int):List Value:=[wNone,wHead kind 0,wWhole n,wWhole m]++
 (if m=0 then [sentIn got 0,sentIn got 1,sentIn got 2,sentIn got 3] else if m=1 then [wWhole at_,wZero,wZero,wZero] else [wRef (got.getD 1 0),wZero,wZero,wZero])
theorem yaV {w w':World} (h:Ext w w') (own:Nat→Nat): ∃own',Mod (fun _=>False) ⟨own,w⟩ ⟨own',w'⟩:=⟨_,Mod.ext (g:=⟨own,w⟩) h 0⟩
theorem Blk.past {own1:Nat→Nat} {w1 w2:World} {t b:Nat} {T:TypeId} {vs:List Value} (h:Blk ⟨own1,w1⟩ t b T vs) (he:Ext w1 w2): ∃own2,Mod (fun _=>False) ⟨own1,w1⟩ ⟨own2,w2⟩∧Blk ⟨own2,w2⟩ t b T vs:=by
 obtain ⟨own2,m⟩:=yaV he own1;exact ⟨own2,m,h.keep m id⟩
theorem yaY (n:Int): ∃p q,wWhole n=zc z4 p q:=by unfold wWhole;split<;>exact ⟨_,_,rfl⟩
theorem ydx (k m:Int): ∃p q,wHead k m=zc z4 p q:=by unfold wHead;split<;>exact ⟨_,_,rfl⟩
theorem ybC (i:Int): ∃p q,wRef i=zc z4 p q:=by unfold wRef;split<;>exact ⟨_,_,rfl⟩
theorem ydQ (kind n at_:Int) (A:Option Addr) (cap gn:Nat) (w:World):
 Calls prog 226 #[zI z6 kind,zI z6 n,zI z6 1,.slice A gn cap,zI z6 at_] w (Gives (.agg #[wNone,wHead kind 0,wWhole n,wWhole 1,wWhole at_,wZero,wZero,wZero]) w):=by
 obtain ⟨p1,q1,e1⟩:=ydx kind 0;obtain ⟨p2,q2,e2⟩:=yaY n;obtain ⟨p3,q3,e3⟩:=yaY 1;obtain ⟨p4,q4,e4⟩:=yaY at_;have HNO:=zH (fun w=>(show Calls prog 68 #[] w (Gives (zc z4 0 4607182418800017408) w) from yas w));have HHD:=zH (fun w=>e1▸ybM kind 0 w);have HN:=zH (fun w=>e2▸yaB n w);have HM:=zH (fun w=>e3▸yaB 1 w);have HA:=zH (fun w=>e4▸yaB at_ w);rw [e1,e2,e3,e4];clear e1 e2 e3 e4;unfold wNone wZero;go_enter func226,ntmps226;go_wp2_with fail;refine (HNO.o _).mono ?_;rintro e w1 ⟨rfl,hX1⟩;have E1:=zH (show Ext _ w1 from hX1);have B0:=zH (Blk.new ⟨fun _=>0,w⟩ 9 254 [wZero,wZero,wZero,wZero,wZero,wZero,wZero,wZero]);clear hX1;go_wp2_with fail;refine (HHD.o _).mono ?_;rintro e w2 ⟨rfl,hX2⟩;have E2:=zH (E1.o.trans (show Ext _ w2 from hX2));clear hX2;go_wp2_with fail;refine (HN.o _).mono ?_;rintro e w3 ⟨rfl,hX3⟩;have E3:=zH (E2.o.trans (show Ext _ w3 from hX3));clear hX3;go_wp2_with fail;refine (HM.o _).mono ?_;rintro e w4 ⟨rfl,hX4⟩;have E4:=zH (E3.o.trans (show Ext _ w4 from hX4));clear hX4
 obtain ⟨own4,m4,b4⟩:=Blk.past (own1:=((⟨fun _=>0,w⟩:GW).to 9 (w.alloc (.cells #[wZero,wZero,wZero,wZero,wZero,wZero,wZero,wZero] 254))).own) B0.o E4.o;obtain ⟨own5,m5,q5⟩: ∃own5,Mod (fun _=>False) ⟨own4,w4⟩ ⟨own5,w4.alloc (.cells #[zc z4 0 4607182418800017408,zc z4 p1 q1,zc z4 p2 q2,zc z4 p3 q3,zc z4 0 0,zc z4 0 0,zc z4 0 0,zc z4 0 0] 254)⟩∧Blk ⟨own5,w4.alloc (.cells #[zc z4 0 4607182418800017408,zc z4 p1 q1,zc z4 p2 q2,zc z4 p3 q3,zc z4 0 0,zc z4 0 0,zc z4 0 0,zc z4 0 0] 254)⟩ 8 w4.heap.size 254 [zc z4 0 4607182418800017408,zc z4 p1 q1,zc z4 p2 q2,zc z4 p3 q3,zc z4 0 0,zc z4 0 0,zc z4 0 0,zc z4 0 0]:=⟨_,Mod.ext (g:=⟨own4,w4⟩) zE 8,Blk.new ⟨own4,w4⟩ 8 254 [zc z4 0 4607182418800017408,zc z4 p1 q1,zc z4 p2 q2,zc z4 p3 q3,zc z4 0 0,zc z4 0 0,zc z4 0 0,zc z4 0 0]⟩;have B5:=zH (b4.keep m5 id);have Q5:=zH q5;have EE:=zH (show Ext w w4 from (show Ext w _ by exact zE).trans E4.o);clear m4 b4 m5 q5;go_wp2_with fail
 generalize hpw:w4.heap.size=pw at *;have HP4:=zH (show w.heap.size≤pw by rw [←hpw];exact EE.o.size);have EW:=zH (EE.o.trans (show Ext w4 (w4.alloc (.cells #[zc z4 0 4607182418800017408,zc z4 p1 q1,zc z4 p2 q2,zc z4 p3 q3,zc z4 0 0,zc z4 0 0,zc z4 0 0,zc z4 0 0] 254)) from zE));clear hpw;generalize w4.alloc (.cells #[zc z4 0 4607182418800017408,zc z4 p1 q1,zc z4 p2 q2,zc z4 p3 q3,zc z4 0 0,zc z4 0 0,zc z4 0 0,zc z4 0 0] 254)=w5 at *;refine (HA.o _).mono ?_;rintro e w6 ⟨rfl,hX⟩;obtain ⟨own6,m6⟩:=yaV (show Ext w5 w6 from hX) own5;have B6:=zH (B5.o.keep m6 id);have Q6:=zH (Q5.o.keep m6 id);have E6:=zH (EW.o.trans (show Ext w5 w6 from hX));have hne:pw≠w.heap.size:=Q6.o.ne B6.o zd;have hne2: ¬w.heap.size=pw:=fun e=>hne e.symm;clear hX m6 B5 Q5 EW EE;obtain ⟨x0,x1,x2,x3,x4,x5,x6,x7,xl⟩:=B6.o.k8;have xf0:=B6.o.liv 0;have xf1:=B6.o.liv 1;have xf2:=B6.o.liv 2;have xf3:=B6.o.liv 3;have xf4:=B6.o.liv 4;have xf5:=B6.o.liv 5;have xf6:=B6.o.liv 6;have xf7:=B6.o.liv 7;obtain ⟨y0,y1,y2,y3,y4,y5,y6,y7,yl⟩:=Q6.o.k8
 have yf4:=Q6.o.liv 4;go_wp2_with fail;refine bodyPost_ret (v:=.agg #[zc z4 0 4607182418800017408,zc z4 p1 q1,zc z4 p2 q2,zc z4 p3 q3,zc z4 p4 q4,zc z4 0 0,zc z4 0 0,zc z4 0 0]) (by simp [results,Tryz.results226,go_sem,x0,x1,x2,x3,x4,x5,x6,x7]) rfl ?_;have hp:=HP4.o;have he6:=E6.o;exact Gives.of_ext zF
theorem ydO (kind n at_:Int) (A:Option Addr) (cap gn:Nat) (got:List Int) (w:World) (hg:CellsAt w A (got.map (zI z6))) (hgl:got.length=gn) (h2:1<gn):
 Calls prog 226 #[zI z6 kind,zI z6 n,zI z6 2,.slice A gn cap,zI z6 at_] w (Gives (.agg #[wNone,wHead kind 0,wWhole n,wWhole 2,wRef (got.getD 1 0),wZero,wZero,wZero]) w):=by
 obtain ⟨p1,q1,e1⟩:=ydx kind 0;obtain ⟨p2,q2,e2⟩:=yaY n;obtain ⟨p3,q3,e3⟩:=yaY 2;obtain ⟨gq,go,rfl,hgq,hgc⟩:=yaD hg (k:=1) (by rw [hgl];exact h2);have HGC:=zH (And.intro hgq (hgc 1 (by rw [hgl];exact h2)));generalize got.getD 1 0=y at *;obtain ⟨p4,q4,e4⟩:=ybC y;have HNO:=zH (fun w=>(show Calls prog 68 #[] w (Gives (zc z4 0 4607182418800017408) w) from yas w));have HHD:=zH (fun w=>e1▸ybM kind 0 w);have HN:=zH (fun w=>e2▸yaB n w);have HM:=zH (fun w=>e3▸yaB 2 w);have HA:=zH (fun w=>e4▸yaR y w);rw [e1,e2,e3,e4];have hi2:(1:Int)<gn:=zo;clear e1 e2 e3 e4 hg hgc hgl hgq;unfold wNone wZero;go_enter func226,ntmps226;go_wp2_with fail;refine (HNO.o _).mono ?_;rintro e w1 ⟨rfl,hX1⟩;have E1:=zH (show Ext _ w1 from hX1);have B0:=zH (Blk.new ⟨fun _=>0,w⟩ 9 254 [wZero,wZero,wZero,wZero,wZero,wZero,wZero,wZero]);clear hX1;go_wp2_with fail;refine (HHD.o _).mono ?_;rintro e w2 ⟨rfl,hX2⟩;have E2:=zH (E1.o.trans (show Ext _ w2 from hX2));clear hX2;go_wp2_with fail;refine (HN.o _).mono ?_;rintro e w3 ⟨rfl,hX3⟩;have E3:=zH (E2.o.trans (show Ext _ w3 from hX3));clear hX3;go_wp2_with fail;refine (HM.o _).mono ?_;rintro e w4 ⟨rfl,hX4⟩
 have E4:=zH (E3.o.trans (show Ext _ w4 from hX4));clear hX4;have gcl:=Nat.lt_of_lt_of_le HGC.o.1 (show Ext w w4 from (show Ext w _ by exact zE).trans E4.o).size;have gc1:=((show Ext w w4 from (show Ext w _ by exact zE).trans E4.o).cell HGC.o.1).trans HGC.o.2;obtain ⟨own4,m4,b4⟩:=Blk.past (own1:=((⟨fun _=>0,w⟩:GW).to 9 (w.alloc (.cells #[wZero,wZero,wZero,wZero,wZero,wZero,wZero,wZero] 254))).own) B0.o E4.o
 obtain ⟨own5,m5,q5⟩: ∃own5,Mod (fun _=>False) ⟨own4,w4⟩ ⟨own5,w4.alloc (.cells #[zc z4 0 4607182418800017408,zc z4 p1 q1,zc z4 p2 q2,zc z4 p3 q3,zc z4 0 0,zc z4 0 0,zc z4 0 0,zc z4 0 0] 254)⟩∧Blk ⟨own5,w4.alloc (.cells #[zc z4 0 4607182418800017408,zc z4 p1 q1,zc z4 p2 q2,zc z4 p3 q3,zc z4 0 0,zc z4 0 0,zc z4 0 0,zc z4 0 0] 254)⟩ 8 w4.heap.size 254 [zc z4 0 4607182418800017408,zc z4 p1 q1,zc z4 p2 q2,zc z4 p3 q3,zc z4 0 0,zc z4 0 0,zc z4 0 0,zc z4 0 0]:=⟨_,Mod.ext (g:=⟨own4,w4⟩) zE 8,Blk.new ⟨own4,w4⟩ 8 254 [zc z4 0 4607182418800017408,zc z4 p1 q1,zc z4 p2 q2,zc z4 p3 q3,zc z4 0 0,zc z4 0 0,zc z4 0 0,zc z4 0 0]⟩;have B5:=zH (b4.keep m5 id);have Q5:=zH q5;have EE:=zH (show Ext w w4 from (show Ext w _ by exact zE).trans E4.o);clear m4 b4 m5 q5;go_wp2_with fail;generalize hpw:w4.heap.size=pw at *;have HP4:=zH (show w.heap.size≤pw by rw [←hpw];exact EE.o.size)
 have EW:=zH (EE.o.trans (show Ext w4 (w4.alloc (.cells #[zc z4 0 4607182418800017408,zc z4 p1 q1,zc z4 p2 q2,zc z4 p3 q3,zc z4 0 0,zc z4 0 0,zc z4 0 0,zc z4 0 0] 254)) from zE));clear hpw;generalize w4.alloc (.cells #[zc z4 0 4607182418800017408,zc z4 p1 q1,zc z4 p2 q2,zc z4 p3 q3,zc z4 0 0,zc z4 0 0,zc z4 0 0,zc z4 0 0] 254)=w5 at *;refine (HA.o _).mono ?_;rintro e w6 ⟨rfl,hX⟩;obtain ⟨own6,m6⟩:=yaV (show Ext w5 w6 from hX) own5;have B6:=zH (B5.o.keep m6 id);have Q6:=zH (Q5.o.keep m6 id);have E6:=zH (EW.o.trans (show Ext w5 w6 from hX));have hne:pw≠w.heap.size:=Q6.o.ne B6.o zd;have hne2: ¬w.heap.size=pw:=fun e=>hne e.symm;clear hX m6 B5 Q5 EW EE;obtain ⟨x0,x1,x2,x3,x4,x5,x6,x7,xl⟩:=B6.o.k8;have xf0:=B6.o.liv 0;have xf1:=B6.o.liv 1;have xf2:=B6.o.liv 2;have xf3:=B6.o.liv 3;have xf4:=B6.o.liv 4;have xf5:=B6.o.liv 5;have xf6:=B6.o.liv 6;have xf7:=B6.o.liv 7;obtain ⟨y0,y1,y2,y3,y4,y5,y6,y7,yl⟩:=Q6.o.k8;have yf4:=Q6.o.liv 4;go_wp2_with fail
 refine bodyPost_ret (v:=.agg #[zc z4 0 4607182418800017408,zc z4 p1 q1,zc z4 p2 q2,zc z4 p3 q3,zc z4 p4 q4,zc z4 0 0,zc z4 0 0,zc z4 0 0]) (by simp [results,Tryz.results226,go_sem,x0,x1,x2,x3,x4,x5,x6,x7]) rfl ?_;have hp:=HP4.o;have he6:=E6.o;exact Gives.of_ext zF
def sentTo (p1 q1 p2 q2 p3 q3:Nat) (got:List Int):Nat→List Value
 |0=>[zc z4 0 4607182418800017408,zc z4 p1 q1,zc z4 p2 q2,zc z4 p3 q3,zc z4 0 0,zc z4 0 0,zc z4 0 0,zc z4 0 0]
 |1=>[zc z4 0 4607182418800017408,zc z4 p1 q1,zc z4 p2 q2,zc z4 p3 q3,sentIn got 0,zc z4 0 0,zc z4 0 0,zc z4 0 0]
 |2=>[zc z4 0 4607182418800017408,zc z4 p1 q1,zc z4 p2 q2,zc z4 p3 q3,sentIn got 0,sentIn got 1,zc z4 0 0,zc z4 0 0]
 |3=>[zc z4 0 4607182418800017408,zc z4 p1 q1,zc z4 p2 q2,zc z4 p3 q3,sentIn got 0,sentIn got 1,sentIn got 2,zc z4 0 0]
 |_=>[zc z4 0 4607182418800017408,zc z4 p1 q1,zc z4 p2 q2,zc z4 p3 q3,sentIn got 0,sentIn got 1,sentIn got 2,sentIn got 3]
theorem ybt (got:List Int) (j:Nat): ∃p q,sentIn got j=zc z4 p q:=by
 unfold sentIn;split
 · exact ybC _
 · exact ⟨_,_,rfl⟩
theorem ydP (kind n at_:Int) (A:Option Addr) (cap gn:Nat) (got:List Int) (w:World) (hg:CellsAt w A (got.map (zI z6))) (hgl:got.length=gn) (hgm:gn≤9223372036854775807):
 Calls prog 226 #[zI z6 kind,zI z6 n,zI z6 0,.slice A gn cap,zI z6 at_] w (Gives (.agg #[wNone,wHead kind 0,wWhole n,wWhole 0,sentIn got 0,sentIn got 1,sentIn got 2,sentIn got 3]) w):=by
 obtain ⟨p1,q1,e1⟩:=ydx kind 0;obtain ⟨p2,q2,e2⟩:=yaY n;obtain ⟨p3,q3,e3⟩:=yaY 0;have HNO:=zH (fun w=>(show Calls prog 68 #[] w (Gives (zc z4 0 4607182418800017408) w) from yas w));have HHD:=zH (fun w=>e1▸ybM kind 0 w);have HN:=zH (fun w=>e2▸yaB n w);have HM:=zH (fun w=>e3▸yaB 0 w);have HG:=zH hg;have HGL:=zH hgl;rw [e1,e2,e3];clear e1 e2 e3 hg hgl;unfold wNone;go_enter func226,ntmps226;go_wp2_with fail;refine (HNO.o _).mono ?_;rintro e w1 ⟨rfl,hX1⟩;have E1:=zH (show Ext _ w1 from hX1);have B0:=zH (Blk.new ⟨fun _=>0,w⟩ 9 254 [wZero,wZero,wZero,wZero,wZero,wZero,wZero,wZero]);clear hX1;go_wp2_with fail;refine (HHD.o _).mono ?_;rintro e w2 ⟨rfl,hX2⟩;have E2:=zH (E1.o.trans (show Ext _ w2 from hX2));clear hX2;go_wp2_with fail;refine (HN.o _).mono ?_;rintro e w3 ⟨rfl,hX3⟩;have E3:=zH (E2.o.trans (show Ext _ w3 from hX3));clear hX3;go_wp2_with fail;refine (HM.o _).mono ?_;rintro e w4 ⟨rfl,hX4⟩;have E4:=zH (E3.o.trans (show Ext _ w4 from hX4));clear hX4;obtain ⟨own4,m4,b4⟩:=Blk.past (own1:=((⟨fun _=>0,w⟩:GW).to 9 (w.alloc (.cells #[wZero,wZero,wZero,wZero,wZero,wZero,wZero,wZero] 254))).own) B0.o E4.o
 obtain ⟨own5,m5,q5⟩: ∃own5,Mod (fun _=>False) ⟨own4,w4⟩ ⟨own5,w4.alloc (.cells #[zc z4 0 4607182418800017408,zc z4 p1 q1,zc z4 p2 q2,zc z4 p3 q3,zc z4 0 0,zc z4 0 0,zc z4 0 0,zc z4 0 0] 254)⟩∧Blk ⟨own5,w4.alloc (.cells #[zc z4 0 4607182418800017408,zc z4 p1 q1,zc z4 p2 q2,zc z4 p3 q3,zc z4 0 0,zc z4 0 0,zc z4 0 0,zc z4 0 0] 254)⟩ 8 w4.heap.size 254 [zc z4 0 4607182418800017408,zc z4 p1 q1,zc z4 p2 q2,zc z4 p3 q3,zc z4 0 0,zc z4 0 0,zc z4 0 0,zc z4 0 0]:=⟨_,Mod.ext (g:=⟨own4,w4⟩) zE 8,Blk.new ⟨own4,w4⟩ 8 254 [zc z4 0 4607182418800017408,zc z4 p1 q1,zc z4 p2 q2,zc z4 p3 q3,zc z4 0 0,zc z4 0 0,zc z4 0 0,zc z4 0 0]⟩;have B5:=zH (b4.keep m5 id);have Q5:=zH q5;have EE:=zH (show Ext w w4 from (show Ext w _ by exact zE).trans E4.o);clear m4 b4 m5 q5;go_wp2_with fail;generalize hpw:w4.heap.size=pw at *;have HP4:=zH (show w.heap.size≤pw by rw [←hpw];exact EE.o.size)
 have EW:=zH (EE.o.trans (show Ext w4 (w4.alloc (.cells #[zc z4 0 4607182418800017408,zc z4 p1 q1,zc z4 p2 q2,zc z4 p3 q3,zc z4 0 0,zc z4 0 0,zc z4 0 0,zc z4 0 0] 254)) from zE));clear hpw;generalize w4.alloc (.cells #[zc z4 0 4607182418800017408,zc z4 p1 q1,zc z4 p2 q2,zc z4 p3 q3,zc z4 0 0,zc z4 0 0,zc z4 0 0,zc z4 0 0] 254)=w5 at *;have B6:=zH B5.o;have hne:pw≠w.heap.size:=Q5.o.ne B6.o zd;have hne2: ¬w.heap.size=pw:=fun e=>hne e.symm;go_loopw [24] (fun i wr=> ∃(j:Nat) (own:Nat→Nat),j≤4∧i=zI z6 j∧Hid (Blk ⟨own,wr⟩ 9 w.heap.size 254 [wZero,wZero,wZero,wZero,wZero,wZero,wZero,wZero])∧Hid (Blk ⟨own,wr⟩ 8 pw 254 (sentTo p1 q1 p2 q2 p3 q3 got j))∧Hid (Ext w wr)) (fun i _=>4-(intOf i).toNat)
 case atStart=>exact ⟨0,own5,Nat.zero_le _,rfl,B5,Q5,EW⟩
 case round=>
  obtain ⟨j,own7,hj,rfl,B7,Q7,E7⟩:=hrel;obtain ⟨w7,rfl⟩: ∃w7:World,w7=wr:=⟨_,rfl⟩;clear B5 Q5 EW B6 EE;by_cases hlj:j<4
  · rcases (show j=0∨j=1∨j=2∨j=3 by omega) with rfl|rfl|rfl|rfl
    · rw [show ((0:Nat):Int)=0 from rfl];obtain ⟨y0,y1,y2,y3,y4,y5,y6,y7,yl⟩:=Q7.o.k8;have yf4:=Q7.o.liv 4;have HNX:=zH (fun w=>(show Calls prog 68 #[] w (Gives (zc z4 0 4607182418800017408) w) from yas w));go_wp2_with fail;refine (HNX.o _).mono ?_;rintro e w8 ⟨rfl,hX⟩;obtain ⟨own8,m8⟩:=yaV (show Ext w7 w8 from hX) own7;have B8:=zH (B7.o.keep m8 id);have Q8:=zH (Q7.o.keep m8 id);have E8:=zH (E7.o.trans (show Ext w7 w8 from hX));clear hX m8 y0 y1 y2 y3 y4 y5 y6 y7 yf4 yl B7 Q7 E7;obtain ⟨y0,y1,y2,y3,y4,y5,y6,y7,yl⟩:=Q8.o.k8;have yf4:=Q8.o.liv 4;by_cases hg1:1<gn
      · obtain ⟨r1,r2,re⟩:=ybC (got.getD 1 0);have HRF:=zH (fun w=>re▸yaR (got.getD 1 0) w);have HV:=zH (show sentIn got 0=zc z4 r1 r2 by unfold sentIn;rw [if_pos (by rw [HGL.o];exact hg1),re]);obtain ⟨gq,go,hA,hgq,hgc⟩:=yaD HG.o (k:=1) (by rw [HGL.o];exact hg1);have hgx:=(E8.o.cell hgq).trans (hgc 1 (by rw [HGL.o];exact hg1));have hgl2:=Nat.lt_of_lt_of_le hgq E8.o.size;have hi1:(1:Int)<gn:=zo;have hgp:gq≠pw:=by have:=HP4.o;omega
        have hgp2: ¬pw=gq:=fun e=>hgp e.symm;subst hA;generalize got.getD 1 0=yv at *;clear hgq hgc re;go_wp2_with fail;refine (HRF.o _).mono ?_;rintro e w9 ⟨rfl,hX⟩;obtain ⟨own9,m9⟩:=yaV (show Ext (w8.setCell ⟨pw,4,none⟩ (zc z4 0 4607182418800017408)) w9 from hX) own8;have B9:=zH ((B8.o.setOther 4 (zc z4 0 4607182418800017408) hne).keep m9 id);have Q9:=zH ((Q8.o.set 4 (zc z4 0 4607182418800017408)).keep m9 id);have E9:=zH ((Ext.setCell E8.o HP4.o _).trans (show Ext (w8.setCell ⟨pw,4,none⟩ (zc z4 0 4607182418800017408)) w9 from hX));clear hX m9 y0 y1 y2 y3 y4 y5 y6 y7 yf4 yl;obtain ⟨y0,y1,y2,y3,y4,y5,y6,y7,yl⟩:=Q9.o.k8;have yf4:=Q9.o.liv 4;go_wp2_with fail;go_roundw
        case rel=>exact ⟨1,own9,zo,rfl,zH (B9.o.setOther 4 (zc z4 r1 r2) hne),zH (by have:=Q9.o.set 4 (zc z4 r1 r2);rw [←HV.o] at this ⊢;exact this),zH (Ext.setCell E9.o HP4.o _)⟩
        case measure=>simp [intOf]
      · have HV:=zH (show sentIn got 0=zc z4 0 4607182418800017408 by unfold sentIn;rw [if_neg (by rw [HGL.o];exact hg1)];rfl);have hi1: ¬(1:Int)<gn:=zo;clear hg1;go_wp2_with fail;go_roundw
        case rel=>exact ⟨1,own8,zo,rfl,zH (B8.o.setOther 4 (zc z4 0 4607182418800017408) hne),zH (by have:=Q8.o.set 4 (zc z4 0 4607182418800017408);rw [←HV.o] at this ⊢;exact this),zH (Ext.setCell E8.o HP4.o _)⟩
        case measure=>simp [intOf]
    · rw [show ((1:Nat):Int)=1 from rfl];obtain ⟨y0,y1,y2,y3,y4,y5,y6,y7,yl⟩:=Q7.o.k8;have yf5:=Q7.o.liv 5;have HNX:=zH (fun w=>(show Calls prog 68 #[] w (Gives (zc z4 0 4607182418800017408) w) from yas w));go_wp2_with fail;refine (HNX.o _).mono ?_;rintro e w8 ⟨rfl,hX⟩;obtain ⟨own8,m8⟩:=yaV (show Ext w7 w8 from hX) own7;have B8:=zH (B7.o.keep m8 id);have Q8:=zH (Q7.o.keep m8 id);have E8:=zH (E7.o.trans (show Ext w7 w8 from hX));clear hX m8 y0 y1 y2 y3 y4 y5 y6 y7 yf5 yl B7 Q7 E7;obtain ⟨y0,y1,y2,y3,y4,y5,y6,y7,yl⟩:=Q8.o.k8;have yf5:=Q8.o.liv 5;by_cases hg1:2<gn
      · obtain ⟨r1,r2,re⟩:=ybC (got.getD 2 0);have HRF:=zH (fun w=>re▸yaR (got.getD 2 0) w);have HV:=zH (show sentIn got 1=zc z4 r1 r2 by unfold sentIn;rw [if_pos (by rw [HGL.o];exact hg1),re]);obtain ⟨gq,go,hA,hgq,hgc⟩:=yaD HG.o (k:=2) (by rw [HGL.o];exact hg1);have hgx:=(E8.o.cell hgq).trans (hgc 2 (by rw [HGL.o];exact hg1));have hgl2:=Nat.lt_of_lt_of_le hgq E8.o.size;have hi1:(2:Int)<gn:=zo;have hgp:gq≠pw:=by have:=HP4.o;omega
        have hgp2: ¬pw=gq:=fun e=>hgp e.symm;subst hA;generalize got.getD 2 0=yv at *;clear hgq hgc re;go_wp2_with fail;refine (HRF.o _).mono ?_;rintro e w9 ⟨rfl,hX⟩;obtain ⟨own9,m9⟩:=yaV (show Ext (w8.setCell ⟨pw,5,none⟩ (zc z4 0 4607182418800017408)) w9 from hX) own8;have B9:=zH ((B8.o.setOther 5 (zc z4 0 4607182418800017408) hne).keep m9 id);have Q9:=zH ((Q8.o.set 5 (zc z4 0 4607182418800017408)).keep m9 id);have E9:=zH ((Ext.setCell E8.o HP4.o _).trans (show Ext (w8.setCell ⟨pw,5,none⟩ (zc z4 0 4607182418800017408)) w9 from hX));clear hX m9 y0 y1 y2 y3 y4 y5 y6 y7 yf5 yl;obtain ⟨y0,y1,y2,y3,y4,y5,y6,y7,yl⟩:=Q9.o.k8;have yf5:=Q9.o.liv 5;go_wp2_with fail;go_roundw
        case rel=>exact ⟨2,own9,zo,rfl,zH (B9.o.setOther 5 (zc z4 r1 r2) hne),zH (by have:=Q9.o.set 5 (zc z4 r1 r2);rw [←HV.o] at this ⊢;exact this),zH (Ext.setCell E9.o HP4.o _)⟩
        case measure=>simp [intOf]
      · have HV:=zH (show sentIn got 1=zc z4 0 4607182418800017408 by unfold sentIn;rw [if_neg (by rw [HGL.o];exact hg1)];rfl);have hi1: ¬(2:Int)<gn:=zo;clear hg1;go_wp2_with fail;go_roundw
        case rel=>exact ⟨2,own8,zo,rfl,zH (B8.o.setOther 5 (zc z4 0 4607182418800017408) hne),zH (by have:=Q8.o.set 5 (zc z4 0 4607182418800017408);rw [←HV.o] at this ⊢;exact this),zH (Ext.setCell E8.o HP4.o _)⟩
        case measure=>simp [intOf]
    · rw [show ((2:Nat):Int)=2 from rfl];obtain ⟨y0,y1,y2,y3,y4,y5,y6,y7,yl⟩:=Q7.o.k8;have yf6:=Q7.o.liv 6;have HNX:=zH (fun w=>(show Calls prog 68 #[] w (Gives (zc z4 0 4607182418800017408) w) from yas w));go_wp2_with fail;refine (HNX.o _).mono ?_;rintro e w8 ⟨rfl,hX⟩;obtain ⟨own8,m8⟩:=yaV (show Ext w7 w8 from hX) own7;have B8:=zH (B7.o.keep m8 id);have Q8:=zH (Q7.o.keep m8 id);have E8:=zH (E7.o.trans (show Ext w7 w8 from hX));clear hX m8 y0 y1 y2 y3 y4 y5 y6 y7 yf6 yl B7 Q7 E7;obtain ⟨y0,y1,y2,y3,y4,y5,y6,y7,yl⟩:=Q8.o.k8;have yf6:=Q8.o.liv 6;by_cases hg1:3<gn
      · obtain ⟨r1,r2,re⟩:=ybC (got.getD 3 0);have HRF:=zH (fun w=>re▸yaR (got.getD 3 0) w);have HV:=zH (show sentIn got 2=zc z4 r1 r2 by unfold sentIn;rw [if_pos (by rw [HGL.o];exact hg1),re]);obtain ⟨gq,go,hA,hgq,hgc⟩:=yaD HG.o (k:=3) (by rw [HGL.o];exact hg1);have hgx:=(E8.o.cell hgq).trans (hgc 3 (by rw [HGL.o];exact hg1));have hgl2:=Nat.lt_of_lt_of_le hgq E8.o.size;have hi1:(3:Int)<gn:=zo;have hgp:gq≠pw:=by have:=HP4.o;omega
        have hgp2: ¬pw=gq:=fun e=>hgp e.symm;subst hA;generalize got.getD 3 0=yv at *;clear hgq hgc re;go_wp2_with fail;refine (HRF.o _).mono ?_;rintro e w9 ⟨rfl,hX⟩;obtain ⟨own9,m9⟩:=yaV (show Ext (w8.setCell ⟨pw,6,none⟩ (zc z4 0 4607182418800017408)) w9 from hX) own8;have B9:=zH ((B8.o.setOther 6 (zc z4 0 4607182418800017408) hne).keep m9 id);have Q9:=zH ((Q8.o.set 6 (zc z4 0 4607182418800017408)).keep m9 id);have E9:=zH ((Ext.setCell E8.o HP4.o _).trans (show Ext (w8.setCell ⟨pw,6,none⟩ (zc z4 0 4607182418800017408)) w9 from hX));clear hX m9 y0 y1 y2 y3 y4 y5 y6 y7 yf6 yl;obtain ⟨y0,y1,y2,y3,y4,y5,y6,y7,yl⟩:=Q9.o.k8;have yf6:=Q9.o.liv 6;go_wp2_with fail;go_roundw
        case rel=>exact ⟨3,own9,zo,rfl,zH (B9.o.setOther 6 (zc z4 r1 r2) hne),zH (by have:=Q9.o.set 6 (zc z4 r1 r2);rw [←HV.o] at this ⊢;exact this),zH (Ext.setCell E9.o HP4.o _)⟩
        case measure=>simp [intOf]
      · have HV:=zH (show sentIn got 2=zc z4 0 4607182418800017408 by unfold sentIn;rw [if_neg (by rw [HGL.o];exact hg1)];rfl);have hi1: ¬(3:Int)<gn:=zo;clear hg1;go_wp2_with fail;go_roundw
        case rel=>exact ⟨3,own8,zo,rfl,zH (B8.o.setOther 6 (zc z4 0 4607182418800017408) hne),zH (by have:=Q8.o.set 6 (zc z4 0 4607182418800017408);rw [←HV.o] at this ⊢;exact this),zH (Ext.setCell E8.o HP4.o _)⟩
        case measure=>simp [intOf]
    · rw [show ((3:Nat):Int)=3 from rfl];obtain ⟨y0,y1,y2,y3,y4,y5,y6,y7,yl⟩:=Q7.o.k8;have yf7:=Q7.o.liv 7;have HNX:=zH (fun w=>(show Calls prog 68 #[] w (Gives (zc z4 0 4607182418800017408) w) from yas w));go_wp2_with fail;refine (HNX.o _).mono ?_;rintro e w8 ⟨rfl,hX⟩;obtain ⟨own8,m8⟩:=yaV (show Ext w7 w8 from hX) own7;have B8:=zH (B7.o.keep m8 id);have Q8:=zH (Q7.o.keep m8 id);have E8:=zH (E7.o.trans (show Ext w7 w8 from hX));clear hX m8 y0 y1 y2 y3 y4 y5 y6 y7 yf7 yl B7 Q7 E7;obtain ⟨y0,y1,y2,y3,y4,y5,y6,y7,yl⟩:=Q8.o.k8;have yf7:=Q8.o.liv 7;by_cases hg1:4<gn
      · obtain ⟨r1,r2,re⟩:=ybC (got.getD 4 0);have HRF:=zH (fun w=>re▸yaR (got.getD 4 0) w);have HV:=zH (show sentIn got 3=zc z4 r1 r2 by unfold sentIn;rw [if_pos (by rw [HGL.o];exact hg1),re]);obtain ⟨gq,go,hA,hgq,hgc⟩:=yaD HG.o (k:=4) (by rw [HGL.o];exact hg1);have hgx:=(E8.o.cell hgq).trans (hgc 4 (by rw [HGL.o];exact hg1));have hgl2:=Nat.lt_of_lt_of_le hgq E8.o.size;have hi1:(4:Int)<gn:=zo;have hgp:gq≠pw:=by have:=HP4.o;omega
        have hgp2: ¬pw=gq:=fun e=>hgp e.symm;subst hA;generalize got.getD 4 0=yv at *;clear hgq hgc re;go_wp2_with fail;refine (HRF.o _).mono ?_;rintro e w9 ⟨rfl,hX⟩;obtain ⟨own9,m9⟩:=yaV (show Ext (w8.setCell ⟨pw,7,none⟩ (zc z4 0 4607182418800017408)) w9 from hX) own8;have B9:=zH ((B8.o.setOther 7 (zc z4 0 4607182418800017408) hne).keep m9 id);have Q9:=zH ((Q8.o.set 7 (zc z4 0 4607182418800017408)).keep m9 id);have E9:=zH ((Ext.setCell E8.o HP4.o _).trans (show Ext (w8.setCell ⟨pw,7,none⟩ (zc z4 0 4607182418800017408)) w9 from hX));clear hX m9 y0 y1 y2 y3 y4 y5 y6 y7 yf7 yl;obtain ⟨y0,y1,y2,y3,y4,y5,y6,y7,yl⟩:=Q9.o.k8;have yf7:=Q9.o.liv 7;go_wp2_with fail;go_roundw
        case rel=>exact ⟨4,own9,zo,rfl,zH (B9.o.setOther 7 (zc z4 r1 r2) hne),zH (by have:=Q9.o.set 7 (zc z4 r1 r2);rw [←HV.o] at this ⊢;exact this),zH (Ext.setCell E9.o HP4.o _)⟩
        case measure=>simp [intOf]
      · have HV:=zH (show sentIn got 3=zc z4 0 4607182418800017408 by unfold sentIn;rw [if_neg (by rw [HGL.o];exact hg1)];rfl);have hi1: ¬(4:Int)<gn:=zo;clear hg1;go_wp2_with fail;go_roundw
        case rel=>exact ⟨4,own8,zo,rfl,zH (B8.o.setOther 7 (zc z4 0 4607182418800017408) hne),zH (by have:=Q8.o.set 7 (zc z4 0 4607182418800017408);rw [←HV.o] at this ⊢;exact this),zH (Ext.setCell E8.o HP4.o _)⟩
        case measure=>simp [intOf]
  · obtain rfl:j=4:=zo;rw [show ((4:Nat):Int)=4 from rfl];obtain ⟨u0,v0,i0⟩:=ybt got 0;obtain ⟨u1,v1,i1⟩:=ybt got 1;obtain ⟨u2,v2,i2⟩:=ybt got 2;obtain ⟨u3,v3,i3⟩:=ybt got 3;have Q8:=zH (show Blk ⟨own7,w7⟩ 8 pw 254 [zc z4 0 4607182418800017408,zc z4 p1 q1,zc z4 p2 q2,zc z4 p3 q3,zc z4 u0 v0,zc z4 u1 v1,zc z4 u2 v2,zc z4 u3 v3] from by rw [←i0, ←i1, ←i2, ←i3];exact Q7.o);have I0:=zH (And.intro i0 (And.intro i1 (And.intro i2 i3)));have E6:=E7;clear i0 i1 i2 i3 Q7 hlj hj;obtain ⟨x0,x1,x2,x3,x4,x5,x6,x7,xl⟩:=B7.o.k8;have xf0:=B7.o.liv 0;have xf1:=B7.o.liv 1;have xf2:=B7.o.liv 2;have xf3:=B7.o.liv 3;have xf4:=B7.o.liv 4;have xf5:=B7.o.liv 5;have xf6:=B7.o.liv 6;have xf7:=B7.o.liv 7;obtain ⟨y0,y1,y2,y3,y4,y5,y6,y7,yl⟩:=Q8.o.k8;go_wp2_with fail;refine bodyPost_ret (v:=.agg #[zc z4 0 4607182418800017408,zc z4 p1 q1,zc z4 p2 q2,zc z4 p3 q3,zc z4 u0 v0,zc z4 u1 v1,zc z4 u2 v2,zc z4 u3 v3]) (by simp [results,Tryz.results226,go_sem,x0,x1,x2,x3,x4,x5,x6,x7]) rfl ?_;have hp:=HP4.o;have he6:=E6.o
    exact Gives.mk (by rw [I0.o.1,I0.o.2.1,I0.o.2.2.1,I0.o.2.2.2]) zF
theorem ygd (kind n m at_:Int) (A:Option Addr) (cap gn:Nat) (got:List Int) (w:World) (hg:CellsAt w A (got.map (zI z6))) (hgl:got.length=gn) (hgm:gn≤9223372036854775807) (hm:m=0∨m=1∨(m=2∧1<gn)):
 Calls prog 226 #[zI z6 kind,zI z6 n,zI z6 m,.slice A gn cap,zI z6 at_] w (Gives (.agg (sentWords kind n m got at_).toArray) w):=by
 rcases hm with rfl|rfl|⟨rfl,h2⟩
 · exact ydP kind n at_ A cap gn got w hg hgl hgm
 · exact ydQ kind n at_ A cap gn w
 · exact ydO kind n at_ A cap gn got w hg hgl h2
def cOf (c:Cnf) (a:Int):Int × Int × Int:=
 if a<0∨ ¬c.check=0 then (0,0,0)
 else if a<c.frags*8 then (1,a/8,a%8)
 else if a<c.frags*8+c.spine then (2,0,a-c.frags*8)
 else if a<c.frags*8+c.spine+c.spine then (3,0,a-c.frags*8-c.spine)
 else if a<c.frags*8+c.spine+c.spine+c.globals then (4,0,a-c.frags*8-c.spine-c.spine)
 else (0,0,0)
def tri (p:Int × Int × Int):Value:=.tuple #[zI z6 p.1,zI z6 p.2.1,zI z6 p.2.2]
theorem ydF (x0 x1 x2 x3:Value) (w:World):
 (Instr.index 165 (.agg #[x0,x1,x2,x3]) (zI z6 0)).run prog w=.ok x0 w∧
 (Instr.index 165 (.agg #[x0,x1,x2,x3]) (zI z6 1)).run prog w=.ok x1 w∧
 (Instr.index 165 (.agg #[x0,x1,x2,x3]) (zI z6 2)).run prog w=.ok x2 w∧
 (Instr.index 165 (.agg #[x0,x1,x2,x3]) (zI z6 3)).run prog w=.ok x3 w:=
 ⟨zQ,zQ,zQ,zQ⟩
def ofIn (a0 a1 a2 a3 a:Int):Int × Int × Int:=
 if a<0 then (0,0,0) else if a<a0 then (1,a/8,a%8) else if a<a0+a1 then (2,0,a-a0) else if a<a0+a1+a2 then (3,0,a-a0-a1)
 else if a<a0+a1+a2+a3 then (4,0,a-a0-a1-a2) else (0,0,0)
theorem yme (c:Cnf) (a:Int) (w:World) (hc:c.Ok w) (ha0: -9223372036854775808≤a) (ha1:a≤9223372036854775807):
 Calls prog 259 #[c.val,zI z6 a] w (Gives (tri (cOf c a)) w):=by
 have HC:=zH (fun w' (he:Ext w w')=>ycQ c w' (hc.ext he))
 obtain ⟨a0,a1,a2,a3,hS,hz,h0,h1,h2,h3⟩: ∃a0 a1 a2 a3:Int,cSizes c=.agg #[zI z6 a0,zI z6 a1,zI z6 a2,zI z6 a3]∧cOf c a=ofIn a0 a1 a2 a3 a∧(0≤a0∧a0≤8192)∧(0≤a1∧a1≤2048)∧(0≤a2∧a2≤2048)∧(0≤a3∧a3≤8):=by
  by_cases h0:c.check=0
  · obtain ⟨⟨_,_⟩,⟨_,_⟩,⟨_,_⟩,_⟩:=Cnf.ranged (Cnf.check_zero h0).1;refine ⟨_,_,_,_,by unfold cSizes;rw [if_pos h0],?_,zo,zo,zo,zo⟩;unfold cOf ofIn;by_cases hn:a<0
    · rw [if_pos (Or.inl hn),if_pos hn]
    · rw [if_neg zo,if_neg hn]
  · refine ⟨0,0,0,0,by unfold cSizes;rw [if_neg h0],?_,zo,zo,zo,zo⟩;unfold cOf ofIn;rw [if_pos (Or.inr h0)];by_cases hn:a<0
    · rw [if_pos hn]
    · rw [if_neg hn,if_neg hn,if_neg zo,if_neg zo,if_neg zo]
 rw [hS] at HC;rw [hz];clear hS hz;unfold Cnf.val at HC ⊢;by_cases hn:a<0
 · have HV:=zH (show ofIn a0 a1 a2 a3 a=(0,0,0) by unfold ofIn;rw [if_pos hn]);go_enter func259,ntmps259;go_wp2_with fail;go_ret3
   rw [HV.o];exact Gives.mk rfl zE
 have q0:=fun w=>(ydF (zI z6 a0) (zI z6 a1) (zI z6 a2) (zI z6 a3) w).1;have q1:=fun w=>(ydF (zI z6 a0) (zI z6 a1) (zI z6 a2) (zI z6 a3) w).2.1;have q2:=fun w=>(ydF (zI z6 a0) (zI z6 a1) (zI z6 a2) (zI z6 a3) w).2.2.1;have q3:=fun w=>(ydF (zI z6 a0) (zI z6 a1) (zI z6 a2) (zI z6 a3) w).2.2.2;by_cases g0:a<a0
 · have HV:=zH (show ofIn a0 a1 a2 a3 a=(1,a/8,a%8) by unfold ofIn;rw [if_neg hn,if_pos g0]);go_enter func259,ntmps259;go_wp2_with fail;refine (HC.o _ zE).mono ?_;rintro e w1 ⟨rfl,X1,rfl⟩;go_wp2_with fail;refine wp_loop_rounds 1 ?_;rw [rounds_succ];go_wp2_with fail;go_ret3
   rw [HV.o];exact Gives.mk rfl zE
 by_cases g1:a<a0+a1
 · have HV:=zH (show ofIn a0 a1 a2 a3 a=(2,0,a-a0) by unfold ofIn;rw [if_neg hn,if_neg g0,if_pos g1]);go_enter func259,ntmps259;go_wp2_with fail;refine (HC.o _ zE).mono ?_;rintro e w1 ⟨rfl,X1,rfl⟩;go_wp2_with fail;refine wp_loop_rounds 2 ?_;rw [rounds_succ];go_wp2_with fail;rw [rounds_succ];go_wp2_with fail;go_ret3
   rw [HV.o];exact Gives.mk rfl zE
 by_cases g2:a<a0+a1+a2
 · have HV:=zH (show ofIn a0 a1 a2 a3 a=(3,0,a-a0-a1) by unfold ofIn;rw [if_neg hn,if_neg g0,if_neg g1,if_pos g2]);go_enter func259,ntmps259;go_wp2_with fail;refine (HC.o _ zE).mono ?_;rintro e w1 ⟨rfl,X1,rfl⟩;go_wp2_with fail;refine wp_loop_rounds 3 ?_;rw [rounds_succ];go_wp2_with fail;rw [rounds_succ];go_wp2_with fail;rw [rounds_succ];go_wp2_with fail;go_ret3
   rw [HV.o];exact Gives.mk rfl zE
 by_cases g3:a<a0+a1+a2+a3
 · have HV:=zH (show ofIn a0 a1 a2 a3 a=(4,0,a-a0-a1-a2) by unfold ofIn;rw [if_neg hn,if_neg g0,if_neg g1,if_neg g2,if_pos g3]);go_enter func259,ntmps259;go_wp2_with fail;refine (HC.o _ zE).mono ?_;rintro e w1 ⟨rfl,X1,rfl⟩;go_wp2_with fail;refine wp_loop_rounds 4 ?_;rw [rounds_succ];go_wp2_with fail;rw [rounds_succ];go_wp2_with fail;rw [rounds_succ];go_wp2_with fail;rw [rounds_succ];go_wp2_with fail;go_ret3
   rw [HV.o];exact Gives.mk rfl zE
 · have HV:=zH (show ofIn a0 a1 a2 a3 a=(0,0,0) by unfold ofIn;rw [if_neg hn,if_neg g0,if_neg g1,if_neg g2,if_neg g3]);go_enter func259,ntmps259;go_wp2_with fail;refine (HC.o _ zE).mono ?_;rintro e w1 ⟨rfl,X1,rfl⟩;go_wp2_with fail;refine wp_loop_rounds 5 ?_;rw [rounds_succ];go_wp2_with fail;rw [rounds_succ];go_wp2_with fail;rw [rounds_succ];go_wp2_with fail;rw [rounds_succ];go_wp2_with fail;rw [rounds_succ];go_wp2_with fail;go_ret3
   rw [HV.o];exact Gives.mk rfl zE
theorem ybe (s:Shp) (n:Int) (w:World) (hs:s.Ok w):Calls prog 197 #[s.val,zI z6 n] w (Gives (zI z6 (s.spine n)) w):=by
 have hl:s.refs.length≤140737488355328:=hs.max;have hc:=fun w' (he:Ext w w')=>ycY s w' (hs.ext he);obtain ⟨arr,A,cap,refs⟩:=s;unfold Shp.val at hc ⊢;simp only at hl hc ⊢;cases hm:Shp.may ⟨arr,A,cap,refs⟩
 · rw [hm] at hc;have HC:=zH hc;clear hc;have HV:=zH (show Shp.spine ⟨arr,A,cap,refs⟩ n=0 by simp [Shp.spine,hm]);clear hm;go_enter func197,ntmps197;go_wp2_with (go_at_call 116;refine (HC.o _ zE).mono ?_;rintro e w1 ⟨rfl,X1,rfl⟩);go_ret;exact Gives.int HV.o.symm zE
 · rw [hm] at hc;have HC:=zH hc;have HM:=zH hm;clear hc hm;cases arr
   · have HV:=zH (show Shp.spine ⟨false,A,cap,refs⟩ n=0 by simp [Shp.spine]);go_enter func197,ntmps197;go_wp2_with (go_at_call 116;refine (HC.o _ zE).mono ?_;rintro e w1 ⟨rfl,X1,rfl⟩);go_ret;exact Gives.int HV.o.symm zE
   · have hb:=yaW n;by_cases h4:sData n≤4
     · have HV:=zH (show Shp.spine ⟨true,A,cap,refs⟩ n=0 by unfold Shp.spine;rw [if_pos (by simp [h4])]);go_enter func197,ntmps197;go_wp2_with (first|(go_at_call 116;refine (HC.o _ zE).mono ?_;rintro e w1 ⟨rfl,X1,rfl⟩)|(go_at_call 224;refine (ybI _ _).mono ?_;rintro e w1 ⟨rfl,X1,rfl⟩));go_ret;exact Gives.int HV.o.symm zE
     · have HV:=zH (show Shp.spine ⟨true,A,cap,refs⟩ n=sData n+2 by unfold Shp.spine;rw [if_neg (by simp [h4,HM.o])]);go_enter func197,ntmps197;go_wp2_with (first|(go_at_call 116;refine (HC.o _ zE).mono ?_;rintro e w1 ⟨rfl,X1,rfl⟩)|(go_at_call 224;refine (ybI _ _).mono ?_;rintro e w1 ⟨rfl,X1,rfl⟩));go_ret;exact Gives.int HV.o.symm zE
theorem yfX (s:Shp) (a b d n:Int) (x y:Nat) (w:World) (hs:s.Ok w):Calls prog 196 #[s.val,.agg #[zI z6 1,zI z6 a,zI z6 b,zI z6 d,zI z6 n,zc z4 x y]] w (Gives (zI z6 (s.size 0)) w):=by
 have HC:=zH (fun w' (he:Ext w w')=>yck s 0 w' (hs.ext he));obtain ⟨arr,A,cap,refs⟩:=s;unfold Shp.val at HC ⊢;simp only at HC ⊢;go_enter func196,ntmps196;go_wp2_with (go_at_call 240;refine (HC.o _ zE).mono ?_;rintro e w1 ⟨rfl,X1,rfl⟩);go_ret;exact Gives.mk rfl zE
theorem yfY (s:Shp) (a b d n:Int) (x y:Nat) (w:World) (hs:s.Ok w):Calls prog 196 #[s.val,.agg #[zI z6 2,zI z6 a,zI z6 b,zI z6 d,zI z6 n,zc z4 x y]] w (Gives (zI z6 (s.size n)) w):=by
 have HC:=zH (fun w' (he:Ext w w')=>yck s n w' (hs.ext he));obtain ⟨arr,A,cap,refs⟩:=s;unfold Shp.val at HC ⊢;simp only at HC ⊢;go_enter func196,ntmps196;go_wp2_with (go_at_call 240;refine (HC.o _ zE).mono ?_;rintro e w1 ⟨rfl,X1,rfl⟩);go_ret;exact Gives.mk rfl zE
def modeOf (d:Int) (got:List Int):Int:=if d≤4 then 0 else if isSide got=true then 2 else 1
theorem yk5 (d:Int) (A:Option Addr) (cap:Nat) (got:List Int) (w:World) (hg:CellsAt w A (got.map (zI z6))) (hl:got.length≤140737488355328) (hw: ∀x∈got, -9223372036854775808≤x∧x≤9223372036854775807):
 Calls prog 223 #[zI z6 d,.slice A got.length cap] w (Gives (zI z6 (modeOf d got)) w):=by
 have HSD:=zH (fun w' (he:Ext w w')=>ydt A cap got w' (hg.ext he) hl hw);clear hg hw;by_cases h4:d≤4
 · have HV:=zH (show modeOf d got=0 by unfold modeOf;rw [if_pos h4]);go_enter func223,ntmps223;go_wp2_with fail;go_ret;exact Gives.int HV.o.symm zE
 · cases hs:isSide got
   · have HV:=zH (show modeOf d got=1 by unfold modeOf;rw [if_neg h4,hs];rfl);rw [hs] at HSD;clear hs;go_enter func223,ntmps223;go_wp2_with fail;refine (HSD.o _ zE).mono ?_;rintro e w1 ⟨rfl,X1,rfl⟩;go_wp2_with fail;go_ret;exact Gives.int HV.o.symm zE
   · have HV:=zH (show modeOf d got=2 by unfold modeOf;rw [if_neg h4,hs];rfl);rw [hs] at HSD;clear hs;go_enter func223,ntmps223;go_wp2_with fail;refine (HSD.o _ zE).mono ?_;rintro e w1 ⟨rfl,X1,rfl⟩;go_wp2_with fail;go_ret;exact Gives.int HV.o.symm zE
def beginsAt (c:Cnf) (at_ n:Int):Bool:=((cOf c at_).1==2 || (cOf c at_).1==3)&&decide ((cOf c at_).2.2+n≤c.spine)
theorem ylY (c:Cnf) (a:Int):0≤(cOf c a).2.2∧(cOf c a).2.2≤8192∧0≤(cOf c a).1∧(cOf c a).1≤4:=by
 unfold cOf;split
 · simp
 · rename_i h
   obtain ⟨⟨_,_⟩,⟨_,_⟩,⟨_,_⟩,_⟩:=Cnf.ranged (Cnf.check_zero (show c.check=0 by omega)).1;split
   · simp only;omega
   · split
     · simp only;omega
     · split
       · simp only;omega
       · split
         · simp only;omega
         · simp
theorem yhu (c:Cnf) (a n:Int) (w:World) (hc:c.Ok w) (ha0: -9223372036854775808≤a) (ha1:a≤9223372036854775807) (hn:0≤n∧n≤1000):
 Calls prog 225 #[c.val,zI z6 a,zI z6 n] w (Gives (zb (beginsAt c a n)) w):=by
 have HO:=zH (fun w' (he:Ext w w')=>yme c a w' (hc.ext he) ha0 ha1);have hb:=ylY c a;have HV:=zH (show beginsAt c a n=(((cOf c a).1==2 || (cOf c a).1==3)&&decide ((cOf c a).2.2+n≤c.spine)) from rfl);unfold tri at HO;generalize cOf c a=p at *;obtain ⟨r,i,k⟩:=p;simp only at HO HV hb;unfold Cnf.val at HO ⊢;have hw:=IntWalk.i64_in (k+n) zo;by_cases h2:r=2
 · subst h2;go_enter func225,ntmps225;go_wp2_with fail;refine (HO.o _ zE).mono ?_;rintro e w1 ⟨rfl,X1,rfl⟩;go_wp2_with fail;go_ret;exact Gives.bool (by rw [HV.o];simp) zE
 · have hb2:(r==2)=false:=by simp [h2]
   by_cases h3:r=3
   · subst h3;go_enter func225,ntmps225;go_wp2_with fail;refine (HO.o _ zE).mono ?_;rintro e w1 ⟨rfl,X1,rfl⟩;go_wp2_with fail;go_ret;exact Gives.bool (by rw [HV.o];simp) zE
   · have hb3:(r==3)=false:=by simp [h3]
     go_enter func225,ntmps225;go_wp2_with fail;refine (HO.o _ zE).mono ?_;rintro e w1 ⟨rfl,X1,rfl⟩;go_wp2_with fail;go_ret;exact Gives.bool (by rw [HV.o,hb2,hb3];simp) zE
end Go.Proofs.YtdhjjpnajjingaaGreat
namespace Go
open Go.RowKit
end Go
