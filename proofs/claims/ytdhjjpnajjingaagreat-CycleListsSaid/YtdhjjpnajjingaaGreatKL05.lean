import Derived.Test.YtdhjjpnajjingaaGreatKL04
set_option linter.unusedVariables false
set_option linter.unnecessarySimpa false
set_option linter.unusedSimpArgs false
open Bool renaming true→zT,false→zU
open Go.Value renaming int→zI
open Go.IntKind renaming i64→z6
set_option maxHeartbeats 8000000
set_option maxRecDepth 100000
open Go.Proofs.Tryz
open Go.Lib renaming hid→zH
open Go.Ext renaming alloc→zA,patch→zP,drew→zD,drewN→zN,more→zM,refl→zR,setCell→zS
open Nat renaming le_refl→zL,le_add_right→zK
namespace Go
def TabS.setAll (t:TabS) (l:List Int) (s:Int) (sense:Bool):TabS:=l.foldl (fun t i=>t.set i s false sense) t
def SpaceS.fits (S:SpaceS) (fr sp:Int):Bool:=decide (fr≤(S.pool.free:Int))&&(sp==0 || (S.pool.run fr).isSome || decide (sp≤S.coil.room))
end Go
namespace Go.Proofs.YtdhjjpnajjingaaGreat
open Go Go.RowKit
theorem yc7 (t:Int) {g:GW} {B b bt bp bk bl cs:Nat} {S:SpaceS} {A:Option Addr} {cm:Cnf} {bs:List Nat} (h:SpaceIn g B b bt S bp bk bl A cs cm bs):
 Calls prog 129 #[.pointer (some ⟨b,0,none⟩),.int .i64 t] g.w (fun e w'=>e=.returned (.pointer (if inB t S.stocks.length then some ⟨bs.getD t.toNat 0,0,none⟩ else none))∧g.w=w'):=by
 have c1:=h.blk.cell (i:=1) rfl;have hlen:=h.few;cases hin:inB t S.stocks.length
 · have hc:=ybS hin;have HI:=zH hin;clear h hin;by_cases h0:t<0
   · clear hc;go_enter func129,ntmps129;go_wp2_with fail;go_ret;exact ⟨rfl,rfl⟩
   · have h1:(S.stocks.length:Int)≤t:=zo;clear hc;go_enter func129,ntmps129;go_wp2_with fail;go_ret;exact ⟨rfl,rfl⟩
 · obtain ⟨k,rfl,hk⟩:=yam hin;obtain ⟨r,rfl,hrl,ho,hcell,hfr⟩:=h.row.block zo;have hbl:=h.blen;have k0:=hcell k (.pointer (some ⟨bs.getD k 0,0,none⟩)) (by rw [List.getElem?_map,List.getElem?_eq_getElem (by omega:k<bs.length)];simp [List.getD_eq_getElem?_getD,(by omega:k<bs.length)]);rw [Int.toNat_natCast];generalize bs.getD k 0=x at *;generalize S.stocks.length=n at *;clear h hcell hfr hin ho hbl;go_enter func129,ntmps129;go_wp2_with fail;go_ret;exact ⟨rfl,rfl⟩
theorem yap (st:Int) (w:World):Calls prog 155 #[.int .i64 st] w (Gives (.agg #[.int .i64 st,.slice none 0 0,.int .i64 (-1)]) w):=by
 go_enter func155,ntmps155;go_wp2_with fail;refine bodyPost_ret (v:=.agg #[.int .i64 st,.slice none 0 0,.int .i64 (-1)]) (by simp [results,Tryz.results155,go_sem]) rfl (Gives.of_ext zE)
def shelves (cm:Cnf) (bp bk bl:Nat):Value:=.agg #[.int .i64 cm.frags,.int .i64 cm.spine,.int .i64 cm.globals,.int .i64 cm.threads,.int .i64 cm.locals,.int .i64 cm.cache,.int .i64 cm.stack,.int .i64 cm.low,.slice cm.A cm.shapes.length cm.cap,.pointer (some ⟨bp,0,none⟩),.pointer (some ⟨bk,0,none⟩),.pointer (some ⟨bl,0,none⟩)]
theorem ydk (g:GW) (t:Nat) (cm:Cnf) (bp bk bl:Nat) (L:List Ent) (h:LineAt g t bl L):Calls prog 58 #[shelves cm bp bk bl] g.w (Gives (zI z6 (Ent.wait L)) g.w):=by
 have H:=zH (fun w' (he:Ext g.w w')=>yhz (g.to 9 w') t bl L (h.keep (Mod.ext (T:=fun _=>False) he 9) id id));unfold shelves;clear h;go_enter func58,ntmps58;go_wp2_with fail;refine (H.out _ zE).mono ?_;rintro e w1 ⟨rfl,hX⟩;have HE:=zH ((show Ext g.w _ from zE).trans (show Ext _ w1 from hX));clear hX;go_wp2_with fail;go_ret;exact Gives.int rfl HE.out
theorem yd2 (g:GW) (t:Nat) (cm:Cnf) (bp bk bl:Nat) (p:PoolS) (h:PoolAt g t bp p):Calls prog 16 #[shelves cm bp bk bl] g.w (Gives (zI z6 p.free) g.w):=by
 have H:=zH (fun w' (he:Ext g.w w')=>yeu (g.to 9 w') t bp p (h.keep (Mod.ext (T:=fun _=>False) he 9) id));unfold shelves;clear h;go_enter func16,ntmps16;go_wp2_with fail;refine (H.out _ zE).mono ?_;rintro e w1 ⟨rfl,rfl⟩;go_wp2_with fail;go_ret;exact Gives.int rfl (by simp only [GW.to];exact zE)
theorem ylo (w:World) (cm:Cnf) (bp bk bl:Nat):Calls prog 99 #[shelves cm bp bk bl] w (Gives (.pointer (some ⟨bk,0,none⟩)) w):=by
 unfold shelves;go_enter func99,ntmps99;go_wp2_with fail;go_ret;exact Gives.of_ext zE
theorem ya2 (s:Int) (sense:Bool) (Al:Option Addr) (cl:Nat) (l:List Int) {g:GW} {B b bt bp bk bl cs:Nat} {S:SpaceS} {A:Option Addr} {cm:Cnf} {bs:List Nat} (h:SpaceIn g B b bt S bp bk bl A cs cm bs) (hl:Seg g 0 Al (l.map (Value.int .i64))) (hB:100≤B) (hn:l.length≤1000000):
 Calls prog 181 #[.pointer (some ⟨b,0,none⟩),.slice Al l.length cl,.int .i64 s,.bool sense] g.w (Does (.tuple #[]) g (fun x=>x=B+50) (fun g'=>SpaceIn g' B b bt { S with tab:=S.tab.setAll l s sense } bp bk bl A cs cm bs)):=by
 have H:=zH h;have HL:=zH hl;clear h hl;go_enter func181,ntmps181;go_wp2_with fail;go_loopw [12] (fun i wr=> ∃(k:Nat) (own:Nat→Nat),k≤l.length∧i=.int .i64 k∧Hid (Mod (fun x=>x=B+50) g ⟨own,wr⟩)∧Hid (TabAt ⟨own,wr⟩ (B+50) bt (S.tab.setAll (l.take k) s sense))) (fun i _=>l.length-(intOf i).toNat)
 case atStart=>exact ⟨0,g.own,Nat.zero_le _,rfl,zH (Mod.refl _ _),zH H.out.tab⟩
 case round=>
  obtain ⟨k,own,hk,rfl,M,T⟩:=hrel;have H1:=zH (H.out.withTab M.out T.out);have c0:=H1.out.blk.cell (i:=0) rfl;simp only at c0;by_cases hlt:k<l.length
  · obtain ⟨q,o,hA,hq,hcell⟩:=yfL (HL.out.keep M.out zo).cells hlt;have k0:=hcell k hlt;simp only at k0 hq
    have HS:=zH (show S.tab.setAll (l.take (k+1)) s sense=(S.tab.setAll (l.take k) s sense).set (l.getD k 0) s false sense by
     unfold TabS.setAll;rw [List.take_add_one,List.getElem?_eq_getElem hlt,List.getD_eq_getElem?_getD,List.getElem?_eq_getElem hlt,List.foldl_append];rfl)
    generalize l.getD k 0=x at *;subst hA;clear hcell;go_wp2_with fail;refine (ygK ⟨own,wr⟩ (B+50) bt x s false sense _ T.out).mono ?_;rintro e w1 ⟨rfl,own1,m1,t1⟩;have M1:=zH (Mod.trans M.out m1);have T1:=zH t1;clear m1 t1;go_wp2_with fail;go_roundw
    case rel=>exact ⟨k+1,own1,zo,by go_num,M1,by rw [HS.out];exact T1⟩
    case measure=>simp [intOf];omega
  · obtain rfl:k=l.length:=zo;have HS:=zH (show l.take l.length=l from List.take_of_length_le (Nat.le_refl _));go_wp2_with fail;refine bodyPost_end (results_none rfl _ _ _) rfl (Does.of ⟨own,_⟩ rfl rfl M.out ?_);rw [HS.out] at H1;exact H1.out
theorem yc6 (i:Int) {g:GW} {B b bt bp bk bl cs:Nat} {S:SpaceS} {A:Option Addr} {cm:Cnf} {bs:List Nat} (h:SpaceIn g B b bt S bp bk bl A cs cm bs) (hB:100≤B):
 Calls prog 131 #[.pointer (some ⟨b,0,none⟩),.int .i64 i] g.w (Does (.tuple #[]) g (fun x=>x=B+50∨x=B+1) (fun g'=>SpaceIn g' B b bt { S with tab:=S.tab.set i 0 false false,pool:=S.pool.give i } bp bk bl A cs cm bs)):=by
 have c0:=h.blk.cell (i:=0) rfl;have H:=zH h;clear h;go_enter func131,ntmps131;go_wp2_with fail;refine (ygK g (B+50) bt i 0 false false _ H.out.tab).mono ?_;rintro e w1 ⟨rfl,own1,m1,t1⟩;have M1:=zH m1;have H1:=zH (H.out.withTab m1 t1);have c13:=H1.out.blk.cell (i:=13) rfl;simp only at c13;clear m1 t1 c0;go_wp2_with fail;refine (yjv ⟨own1,w1⟩ (B+1) bp i _ H1.out.pool).mono ?_;rintro e w2 ⟨rfl,own2,m2,t2⟩;have M2:=zH m2;have H2:=zH (H1.out.withPool m2 t2);clear m2 t2 c13;go_wp2_with fail;refine bodyPost_end (results_none rfl _ _ _) rfl (Does.of ⟨own2,_⟩ rfl rfl ((M1.out.mono (fun x hx=>Or.inl hx)).trans (M2.out.mono (fun x hx=>Or.inr hx))) H2.out)
end Go.Proofs.YtdhjjpnajjingaaGreat
namespace Go
theorem yaO {P:Program} {f:FuncId} {args:Array Value} {w:World} {v:Value} (h:Calls P f args w fun e w'=>e=.returned v∧w=w'):Calls P f args w (Gives v w):=
 h.mono fun e w' ⟨he,hw⟩=>⟨he,by subst hw;exact Ext.refl _⟩
theorem PoolS.low_bd {l:List Bool}: ∀(f k i:Nat), ∀x∈PoolS.lowGo l k f i, ∃j:Nat,x=j∧j<i+f
 |0,k,i,x,h=>by simp [PoolS.lowGo] at h
 |f+1,k,i,x,h=>by
  unfold PoolS.lowGo at h;split at h
  · simp at h
  · split at h
    · rcases List.mem_cons.1 h with rfl|h
      · exact ⟨i,rfl,zo⟩
      · obtain ⟨j,hj,hl⟩:=low_bd f (k-1) (i+1) x h;exact ⟨j,hj,zo⟩
    · obtain ⟨j,hj,hl⟩:=low_bd f k (i+1) x h;exact ⟨j,hj,zo⟩
theorem PoolS.lowOnes_bd {p:PoolS} {k x:Int} (h:x∈p.lowOnes k): ∃j:Nat,x=j∧j<p.l.length:=by
 obtain ⟨j,hj,hl⟩:=PoolS.low_bd _ _ _ x h;exact ⟨j,hj,zo⟩
theorem PoolS.taken_bd {p:PoolS} {k:Int} {l:List Int} (h:p.taken k=some l) {x:Int} (hx:x∈l): ∃j:Nat,x=j∧j<p.l.length:=by
 unfold taken at h;split at h
 · cases h
 · cases hr:p.run k with
   |none=>rw [hr] at h;injection h with h;subst h;exact lowOnes_bd hx
   |some a=>
    rw [hr] at h;injection h with h;subst h;obtain ⟨-,ha, -⟩:=run_spec hr;obtain ⟨j,hj,rfl⟩:=span_mem (a:=a) (k:=k.toNat) hx;exact ⟨a+j,rfl,zo⟩
theorem PoolS.lowGo_len {l:List Bool}: ∀(f k i:Nat),(PoolS.lowGo l k f i).length≤k∧(PoolS.lowGo l k f i).length≤f
 |0,k,i=>by simp [PoolS.lowGo]
 |f+1,k,i=>by
  unfold PoolS.lowGo;split
  · simp
  · split
    · have:=lowGo_len (l:=l) f (k-1) (i+1);simp only [List.length_cons];omega
    · have:=lowGo_len (l:=l) f k (i+1);omega
theorem PoolS.taken_len {p:PoolS} {k:Int} {l:List Int} (h:p.taken k=some l):l.length≤p.l.length:=by
 unfold taken at h;split at h
 · cases h
 · cases hr:p.run k with
   |none=>rw [hr] at h;injection h with h;subst h;exact (lowGo_len _ _ _).2
   |some a=>
    rw [hr] at h;injection h with h;subst h;obtain ⟨-,ha, -⟩:=run_spec hr;simp;omega
end Go
namespace Go.Proofs.YtdhjjpnajjingaaGreat
open Go Go.RowKit
theorem yd1 (fr sp:Int) {g:GW} {B b bt bp bk bl cs:Nat} {S:SpaceS} {A:Option Addr} {cm:Cnf} {bs:List Nat} (h:SpaceIn g B b bt S bp bk bl A cs cm bs):
 Calls prog 179 #[shelves cm bp bk bl,.int .i64 fr,.int .i64 sp] g.w (Gives (.bool (S.fits fr sp)) g.w):=by
 have HF:=zH (fun w' (he:Ext g.w w')=>yeu (g.to 9 w') (B+1) bp S.pool (h.pool.keep (Mod.ext (T:=fun _=>False) he 9) id))
 have hfb:fr≤(S.pool.free:Int)→fr≤1099511627776:=fun hle=>by
  have h1:=h.pool.len;have h2:S.pool.free≤S.pool.l.length:=List.countP_le_length;omega
 have HR0:=zH (fun (hle:fr≤(S.pool.free:Int)) w' (he:Ext g.w w')=>yfA (g.to 9 w') (B+1) bp fr S.pool (h.pool.keep (Mod.ext (T:=fun _=>False) he 9) id) (hfb hle));clear hfb;have HK:=zH (fun w' (he:Ext g.w w')=>yeb (g.to 9 w') (B+2) bk S.coil (h.coil.keep (Mod.ext (T:=fun _=>False) he 9) id));have HV:=zH (show S.fits fr sp=(decide (fr≤(S.pool.free:Int))&&(sp==0 || (S.pool.run fr).isSome || decide (sp≤S.coil.room))) from rfl);unfold shelves;generalize S.pool.free=f at *;generalize S.coil.room=rm at *;generalize S.pool.run fr=o at *;clear h;by_cases h0:(f:Int)<fr
 · have HW:=zH (HV.out.trans (show _=false by rw [decide_eq_false zo];rfl));go_enter func179,ntmps179;go_wp2_with fail;refine (HF.out _ zE).mono ?_;rintro e w1 ⟨rfl,rfl⟩;simp only [GW.to];go_wp2_with fail;go_ret;exact Gives.bool (by rw [HW.out];try rfl) zE
 · have hd:decide (fr≤(f:Int))=true:=decide_eq_true zo;rw [hd] at HV;clear hd;have h1:fr≤(f:Int):=zo;have HR:=zH (HR0.out h1);clear HR0;cases o with
   |some a=>
    have HW:=zH (HV.out.trans (show _=true by simp));unfold runVal at HR;cases hz:(sp==0)
    · go_enter func179,ntmps179;go_wp2_with fail;refine (HF.out _ zE).mono ?_;rintro e w1 ⟨rfl,rfl⟩;simp only [GW.to];go_wp2_with fail;refine (HR.out _ zE).mono ?_;rintro e w1 ⟨rfl,rfl⟩;simp only [GW.to];go_wp2_with fail;go_ret;exact Gives.bool (by rw [HW.out];try rfl) zE
    · go_enter func179,ntmps179;go_wp2_with fail;refine (HF.out _ zE).mono ?_;rintro e w1 ⟨rfl,rfl⟩;simp only [GW.to];go_wp2_with fail;refine (HR.out _ zE).mono ?_;rintro e w1 ⟨rfl,rfl⟩;simp only [GW.to];go_wp2_with fail;go_ret;exact Gives.bool (by rw [HW.out];try rfl) zE
   |none=>
    unfold runVal at HR;cases hz:(sp==0)
    · have HW:=zH (HV.out.trans (show _=decide (sp≤rm) by rw [hz];simp));go_enter func179,ntmps179;go_wp2_with fail;refine (HF.out _ zE).mono ?_;rintro e w1 ⟨rfl,rfl⟩;simp only [GW.to];go_wp2_with fail;refine (HR.out _ zE).mono ?_;rintro e w1 ⟨rfl,rfl⟩;simp only [GW.to];go_wp2_with fail;refine (HK.out _ zE).mono ?_;rintro e w2 ⟨rfl,hX⟩;have HE:=zH ((show Ext g.w _ from zE).trans (show Ext _ w2 from hX));clear hX;go_wp2_with fail;go_ret;exact Gives.bool (by rw [HW.out];try rfl) HE.out
    · have HW:=zH (HV.out.trans (show _=true by rw [hz];simp));go_enter func179,ntmps179;go_wp2_with fail;refine (HF.out _ zE).mono ?_;rintro e w1 ⟨rfl,rfl⟩;simp only [GW.to];go_wp2_with fail;refine (HR.out _ zE).mono ?_;rintro e w1 ⟨rfl,rfl⟩;simp only [GW.to];go_wp2_with fail;go_ret;exact Gives.bool (by rw [HW.out];try rfl) zE
def cAtV (c:Cnf) (r:Nat) (k:Int):Int:=if 0≤k∧k<cSize c r then k+cAhead c r else 0
theorem ycT (c:Cnf) (r:Nat) (k:Int): ∃e:Int,cAt c r k=.tuple #[.int .i64 (cAtV c r k),.int .i64 e]:=by
 unfold cAt cAtV;split
 · exact ⟨_,rfl⟩
 · exact ⟨_,rfl⟩
theorem ybM {c d:Cnf} (h:c.Same d) (r:Nat) (k:Int):cAtV c r k=cAtV d r k:=by
 have hc:=h.check;obtain ⟨h1,h2,h3,h4,h5,h6,h7,h8,_⟩:=h;unfold cAtV cSize cAhead;rw [hc,h1,h2,h3]
theorem yjH (a k:Nat) (h:a+k≤1000000):isSide ((List.range k).map fun j=>((a+j:Nat):Int))=true:=by
 unfold isSide sideTo;rw [List.all_eq_true];intro j hj;have hj:=List.mem_range.1 hj;simp only [List.length_map,List.length_range] at hj
 have g0:(((List.range k).map fun j=>((a+j:Nat):Int)).getD j 0)=((a+j:Nat):Int):=by
  rw [List.getD_eq_getElem?_getD,List.getElem?_map,List.getElem?_range zo];rfl
 have g1:(((List.range k).map fun j=>((a+j:Nat):Int)).getD (j+1) 0)=((a+(j+1):Nat):Int):=by
  rw [List.getD_eq_getElem?_getD,List.getElem?_map,List.getElem?_range zo];rfl
 rw [g0,g1];exact decide_eq_true ⟨zo,zo⟩
theorem ycy {S:SpaceS} {fr sp:Int} {got:List Int} (hfit:S.fits fr sp=true) (hg:S.pool.taken fr=some got) (hl:S.pool.l.length≤1024) (hk:S.coil.Ok):sp≤1099511627776∨isSide got=true:=by
 unfold SpaceS.fits at hfit;simp only [Bool.and_eq_true,Bool.or_eq_true,decide_eq_true_eq,beq_iff_eq] at hfit;rcases hfit.2 with (h|h)|h
 · exact Or.inl zo
 · refine Or.inr ?_;obtain ⟨a,ha⟩:=Option.isSome_iff_exists.1 h;unfold PoolS.taken at hg;split at hg
   · cases hg
   · rw [ha] at hg;injection hg with hg;have:=PoolS.run_spec ha;rw [←hg];exact yjH _ _ zo
 · refine Or.inl ?_
   have h1:0≤S.coil.used S.coil.cur:=by
    unfold CoilS.used;split
    · exact hk.b0.1
    · exact hk.b1.1
   have h2:=hk.s0;have h3:=hk.bk;unfold CoilS.room at h;omega
def takesAt (S:SpaceS) (got:List Int) (sp:Int):Int:=if sp=0∨isSide got=true then-1 else cAtV S.c (S.coil.cur+1) (S.coil.takenAt sp)
def takesS (S:SpaceS) (got:List Int) (sp:Int):SpaceS:={ S with pool:=S.pool.takes got,coil:=if sp=0∨isSide got=true then S.coil else S.coil.take sp }
theorem CoilS.take_cur (c:CoilS) (n:Int):(c.take n).cur=c.cur:=by
 unfold CoilS.take CoilS.lays;split
 · split<;>rfl
 · rfl
theorem ydj (fr sp:Int) (got:List Int) {g:GW} {B b bt bp bk bl cs:Nat} {S:SpaceS} {A:Option Addr} {cm:Cnf} {bs:List Nat} (h:SpaceIn g B b bt S bp bk bl A cs cm bs) (hB:100≤B) (hf:S.pool.taken fr=some got) (hsp:0≤sp∧(sp≤1099511627776∨isSide got=true)):
 Calls prog 180 #[shelves cm bp bk bl,.int .i64 fr,.int .i64 sp] g.w (Makes g (fun x=>x=B+1∨x=B+2) (fun v g'=> ∃s c,v=.tuple #[.slice s got.length c,.int .i64 (takesAt S got sp)]∧Row g' 0 3 1 (.slice s got.length c) got.length (got.map (Value.int .i64))∧SpaceIn g' B b bt (takesS S got sp) bp bk bl A cs cm bs)):=by
 obtain ⟨hs0,hs1⟩:=hsp;have HP:=zH (fun g' (m:Mod (fun _=>False) g g')=>yeW g' (B+1) bp fr got S.pool (h.pool.keep m id) zo hf)
 have HBD:=zH (show∀x∈got, -9223372036854775808≤x∧x≤9223372036854775807 from fun x hx=>by
  obtain ⟨j,rfl,hj⟩:=PoolS.taken_bd hf hx;have:=h.pool.len;omega)
 have HGL:=zH (show got.length≤1024 from Nat.le_trans (PoolS.taken_len hf) h.pool.len);have H:=zH h;clear h hf;have hE0:Ext g.w (g.w.alloc (.cells #[.int .i64 cm.frags,.int .i64 cm.spine,.int .i64 cm.globals,.int .i64 cm.threads,.int .i64 cm.locals,.int .i64 cm.cache,.int .i64 cm.stack,.int .i64 cm.low,.slice cm.A cm.shapes.length cm.cap,.pointer (some ⟨bp,0,none⟩),.pointer (some ⟨bk,0,none⟩),.pointer (some ⟨bl,0,none⟩)] 65)):=zE;have B0:=zH (Blk.new g 9 65 [.int .i64 cm.frags,.int .i64 cm.spine,.int .i64 cm.globals,.int .i64 cm.threads,.int .i64 cm.locals,.int .i64 cm.cache,.int .i64 cm.stack,.int .i64 cm.low,.slice cm.A cm.shapes.length cm.cap,.pointer (some ⟨bp,0,none⟩),.pointer (some ⟨bk,0,none⟩),.pointer (some ⟨bl,0,none⟩)]);have M0:=zH (Mod.ext (T:=fun _=>False) hE0 9);clear hE0;unfold shelves;go_enter func180,ntmps180;go_wp2_with fail;refine (HP.out (g.to 9 (g.w.alloc (.cells #[.int .i64 cm.frags,.int .i64 cm.spine,.int .i64 cm.globals,.int .i64 cm.threads,.int .i64 cm.locals,.int .i64 cm.cache,.int .i64 cm.stack,.int .i64 cm.low,.slice cm.A cm.shapes.length cm.cap,.pointer (some ⟨bp,0,none⟩),.pointer (some ⟨bk,0,none⟩),.pointer (some ⟨bl,0,none⟩)] 65))) M0.out).mono ?_
 rintro e w1 ⟨v,own1,rfl,m1,s,rfl,r1,p1⟩;obtain ⟨sA,sc,rfl⟩:=yak r1.row;have M1:=zH ((M0.out.mono (fun x hx=>hx.elim)).trans m1);have R1:=zH r1;have B1:=zH (B0.out.keep m1 zo);have H1:=zH ((H.out.keep M0.out (fun x hx=>hx.elim)).withPool m1 p1);have HSD:=zH (fun w' (he:Ext w1 w')=>yfF sA sc got w' (r1.cells.ext he) (by have:=HGL.out;omega) HBD.out);clear m1 r1 p1;obtain ⟨d0,d1,d2,d3,d4,d5,d6,d7,d8,d9,d10,d11,dl⟩:=B1.out.k12;by_cases hz:sp=0
 · subst hz;have HT:=zH (show takesAt S got 0= -1 from if_pos (Or.inl rfl));have HS:=zH (show takesS S got 0={ S with pool:=S.pool.takes got } by unfold takesS;rw [if_pos (Or.inl rfl)]);go_wp2_with fail;go_ret2;exact ⟨_,own1,rfl,M1.out.mono (fun x hx=>Or.inl hx),sA,sc,by rw [HT.out];try rfl,R1.out,by rw [HS.out];exact H1.out⟩
 · have hz0:(sp==0)=false:=by simp [hz]
   cases hsd:isSide got
   · have hs1:sp≤1099511627776:=hs1.elim id (fun e=>by rw [hsd] at e;cases e);have HT:=zH (show takesAt S got sp=cAtV S.c (S.coil.cur+1) (S.coil.takenAt sp) from if_neg (by rw [hsd];simp [hz]));have HS:=zH (show takesS S got sp={ S with pool:=S.pool.takes got,coil:=S.coil.take sp } by unfold takesS;rw [if_neg (by rw [hsd];simp [hz])]);rw [hsd] at HSD;clear hsd hz;go_wp2_with fail;refine (HSD.out _ zE).mono ?_;rintro e w2 ⟨rfl,hX⟩;obtain ⟨own2,m2,hw2⟩: ∃own2,Mod (fun _=>False) ⟨own1,w1⟩ ⟨own2,w2⟩∧Ext w1 w2:=⟨_,Mod.ext (g:=⟨own1,w1⟩) (show Ext w1 w2 from hX) 0,hX⟩;have M2:=zH (M1.out.trans (m2.mono (fun x hx=>hx.elim)));have R2:=zH (R1.out.keep m2 id);have B2:=zH (B1.out.keep m2 id);have H2:=zH (H1.out.keep m2 (fun x hx=>hx.elim));clear m2 hw2 hX d0 d1 d2 d3 d4 d5 d6 d7 d8 d9 d10 d11 dl;obtain ⟨d0,d1,d2,d3,d4,d5,d6,d7,d8,d9,d10,d11,dl⟩:=B2.out.k12;go_wp2_with fail;refine (yiu ⟨own2,w2⟩ (B+2) bk sp _ H2.out.coil hs1).mono ?_;rintro e w3 ⟨rfl,own3,m3,k3⟩;have M3:=zH ((M2.out.mono (fun x (hx:x=B+1)=>(Or.inl hx:x=B+1∨x=B+2))).trans (m3.mono (fun x hx=>Or.inr hx)));have R3:=zH (R2.out.keep m3 zo);have B3:=zH (B2.out.keep m3 zo);have H3:=zH (H2.out.withCoil m3 k3)
     clear m3 k3 d0 d1 d2 d3 d4 d5 d6 d7 d8 d9 d10 d11 dl;obtain ⟨d0,d1,d2,d3,d4,d5,d6,d7,d8,d9,d10,d11,dl⟩:=B3.out.k12;go_wp2_with fail;have hcur:(S.coil.take sp).cur<2:=H3.out.coil.ok.cur;have HCU:=zH (fun X=>yaO (ycu ((⟨own3,w3⟩:GW).pt X) (B+2) bk _ (H3.out.coil.pt X)));simp only at HCU;obtain ⟨ev,hev⟩:=ycT cm ((S.coil.take sp).cur+1) (S.coil.takenAt sp);have HSP:=zH (fun X=>yjN cm (S.coil.take sp).cur (S.coil.takenAt sp) (w3.patch X) (H3.out.cnf.ok.ext ⟨X,rfl⟩) hcur);rw [hev] at HSP;have HEV:=zH (show cAtV cm ((S.coil.take sp).cur+1) (S.coil.takenAt sp)=takesAt S got sp by rw [HT.out,ybM H3.out.same,CoilS.take_cur]);unfold Cnf.val at HSP;rw [HEV.out] at HSP;clear hev;generalize S.coil.takenAt sp=tk at *;generalize (S.coil.take sp).cur=cu at *;refine yab [zT,zT,zT,zT,zT,zT,zT,zT,zT,zT,zT,zT] 0 12 ?_;intro X00;simp only [pickOps];repeat (go_big_quiet_step (first|(go_at_call 100;exact Calls.added (HCU.out _))|(go_at_call 238;exact Calls.added (HSP.out _))))
     refine wpQuiet_nil (fun X0=>?_);clear X00;refine yaa zQ (fun X0'=>?_) _;go_wp2_with fail;go_ret2;exact Makes.ext ⟨own3,w3⟩ zE M3.out (fun g2 m=>⟨sA,sc,rfl,R3.out.keep m id,by rw [HS.out];exact H3.out.keep m (fun x hx=>hx.elim)⟩)
   · have HT:=zH (show takesAt S got sp= -1 from if_pos (Or.inr hsd));have HS:=zH (show takesS S got sp={ S with pool:=S.pool.takes got } by unfold takesS;rw [if_pos (Or.inr hsd)]);rw [hsd] at HSD;clear hsd hz;go_wp2_with fail;refine (HSD.out _ zE).mono ?_;rintro e w2 ⟨rfl,hX⟩;obtain ⟨own2,m2⟩: ∃own2,Mod (fun _=>False) ⟨own1,w1⟩ ⟨own2,w2⟩:=⟨_,Mod.ext (g:=⟨own1,w1⟩) (show Ext w1 w2 from hX) 0⟩;have M2:=zH (M1.out.trans (m2.mono (fun x hx=>hx.elim)));have R2:=zH (R1.out.keep m2 id);have H2:=zH (H1.out.keep m2 (fun x hx=>hx.elim));clear m2 hX;go_wp2_with fail;go_ret2;exact ⟨_,own2,rfl,M2.out.mono (fun x hx=>Or.inl hx),sA,sc,by rw [HT.out];try rfl,R2.out,by rw [HS.out];exact H2.out⟩
end Go.Proofs.YtdhjjpnajjingaaGreat
namespace Go
open Go.RowKit
theorem PoolS.taken_some {p:PoolS} {k:Int} (h1:1≤k) (h2:k≤(p.free:Int)): ∃l,p.taken k=some l:=by
 unfold taken;rw [if_neg zo];cases p.run k with
 |none=>exact ⟨_,rfl⟩
 |some a=>exact ⟨_,rfl⟩
def SpaceS.tick (S:SpaceS):SpaceS:={ S with count:=S.count+1 }
theorem Mod.ofExt {w w':World} (h:Ext w w') (own:Nat→Nat): ∃own',Mod (fun _=>False) ⟨own,w⟩ ⟨own',w'⟩:=⟨_,Mod.ext (g:=⟨own,w⟩) h 0⟩
theorem put3 {T:Nat→Prop} {g:GW} {o:Nat→Nat} {w:World} {X:Nat} {v0 v1 v2:Value} (M:Mod T g ⟨o,w⟩) (hX:g.w.heap.size≤X) (h9:o X=9):
 Mod T g ⟨o,((w.setCell ⟨X,0,none⟩ v0).setCell ⟨X,1,none⟩ v1).setCell ⟨X,2,none⟩ v2⟩∧Mod (fun x=>x=9) ⟨o,w⟩ ⟨o,((w.setCell ⟨X,0,none⟩ v0).setCell ⟨X,1,none⟩ v1).setCell ⟨X,2,none⟩ v2⟩:=
 ⟨Mod.stn (Mod.stn (Mod.stn M hX) hX) hX,Mod.st (Mod.st (Mod.st (Mod.refl _ _) h9) h9) h9⟩
theorem Row.none {g:GW} {t:Nat} {E:TypeId} {size n c:Nat} {xs:List Value} (h:Row g t E size (.slice none n c) n xs):n=0∧c=0:=by
 rcases h.row.2 with ⟨hv,hn⟩|⟨b,cap,cur,hv,_⟩
 · injection hv with _ h1 h2;exact ⟨h1,h2⟩
 · injection hv with h1;cases h1
end Go
namespace Go.Proofs.YtdhjjpnajjingaaGreat
open Go Go.RowKit
abbrev AskR:=(Int × List Int × Int) × SpaceS
def noStock:StockS:=⟨[],0⟩
def stockOf (S:SpaceS) (t:Int):StockS:=S.stocks.getD t.toNat noStock
def askOwn (S:SpaceS) (t fr:Int) (sense:Bool):SpaceS:=
 { S with stocks:=S.stocks.set t.toNat ⟨(stockOf S t).l.drop fr.toNat,(stockOf S t).most⟩,tab:=S.tab.setAll ((stockOf S t).l.take fr.toNat) 2 sense }
def askGot (S:SpaceS) (fr:Int):List Int:=(S.pool.taken fr).getD []
def askMore (S:SpaceS) (t fr sp:Int):List Int:=(takesS S (askGot S fr) sp).pool.lowOnes ((stockOf S t).most-(stockOf S t).l.length)
def askAll (S:SpaceS) (t fr sp:Int) (sense:Bool):SpaceS:=
 { takesS S (askGot S fr) sp with
   pool:=(takesS S (askGot S fr) sp).pool.takes (askMore S t fr sp)
   tab:=((takesS S (askGot S fr) sp).tab.setAll (askGot S fr) 2 sense).setAll (askMore S t fr sp) 1 sense
   stocks:=S.stocks.set t.toNat ⟨(stockOf S t).l++askMore S t fr sp,(stockOf S t).most⟩ }
def askNo (S:SpaceS) (t fr sp:Int):Bool:= !inB t S.stocks.length || decide (fr<1) || decide (sp<0) || decide (0≤placeOf (ofB t) S.line)
def ask (S:SpaceS) (t fr sp:Int) (sense:Bool):AskR:=
 if askNo S t fr sp then ((3,[], -1),S.tick)
 else if sp=0∧fr≤(stockOf S t).l.length then ((1,(stockOf S t).l.take fr.toNat, -1),askOwn S.tick t fr sense)
 else if 0<Ent.wait S.line∨S.fits fr sp=false then ((0,[], -1),{ S.tick with line:=S.line++[Ent.asked t fr sp] })
 else ((1,askGot S fr,takesAt S (askGot S fr) sp),askAll S.tick t fr sp sense)
def GrantIs (r:Int × List Int × Int) (v:Value) (g':GW):Prop:= ∃A c,v=.agg #[.int .i64 r.1,.slice A r.2.1.length c,.int .i64 r.2.2]∧Row g' 0 3 1 (.slice A r.2.1.length c) r.2.1.length (r.2.1.map (Value.int .i64))
theorem yeZ (t fr sp:Int) (sense:Bool) (g:GW) (B b bt:Nat) (S:SpaceS) (h:SpaceAt g B b bt S) (hB:100≤B) (hc:0≤S.count∧S.count≤1099511627776) (hL:S.line.length<1000000):
 Calls prog 205 #[.pointer (some ⟨b,0,none⟩),.int .i64 t,.int .i64 fr,.int .i64 sp,.bool sense] g.w (Makes g (inst B) (fun v g'=>GrantIs (ask S t fr sp sense).1 v g'∧SpaceAt g' B b bt (ask S t fr sp sense).2)):=by
 obtain ⟨bp,bk,bl,A,cs,cm,bs,h⟩:=h;obtain ⟨hc0,hc1⟩:=hc;have H:=zH h;obtain ⟨a0,a1,a2,a3,a4,a5,a6,a7,a8,a9,a10,a11,a12,a13,a14,a15,al⟩:=h.blk.k16;have af3:=h.blk.liv 3;clear h;go_enter func205,ntmps205;go_wp2_with fail
 obtain ⟨own0,m0,b0,h0⟩: ∃own0,Mod (inst B) g ⟨own0,(g.w.setCell ⟨b,3,none⟩ (zI z6 (S.count+1))).alloc (.cells #[.int .i64 0,.slice none 0 0,.int .i64 0] 143)⟩∧Blk ⟨own0,(g.w.setCell ⟨b,3,none⟩ (zI z6 (S.count+1))).alloc (.cells #[.int .i64 0,.slice none 0 0,.int .i64 0] 143)⟩ 9 g.w.heap.size 143 [.int .i64 0,.slice none 0 0,.int .i64 0]∧SpaceIn ⟨own0,(g.w.setCell ⟨b,3,none⟩ (zI z6 (S.count+1))).alloc (.cells #[.int .i64 0,.slice none 0 0,.int .i64 0] 143)⟩ B b bt S.tick bp bk bl A cs cm bs:=by
  have m1:Mod (inst B) g ⟨g.own,g.w.setCell ⟨b,3,none⟩ (zI z6 (S.count+1))⟩:=Mod.set (by rw [H.out.blk.own];exact ⟨zo,zo⟩);have hE:Ext (g.w.setCell ⟨b,3,none⟩ (zI z6 (S.count+1))) ((g.w.setCell ⟨b,3,none⟩ (zI z6 (S.count+1))).alloc (.cells #[.int .i64 0,.slice none 0 0,.int .i64 0] 143)):=zE;have b1:=Blk.new (⟨g.own,g.w.setCell ⟨b,3,none⟩ (zI z6 (S.count+1))⟩:GW) 9 143 [.int .i64 0,.slice none 0 0,.int .i64 0];simp only [World.size_setCell] at b1;exact ⟨_,m1.trans (Mod.ext hE 9),b1,H.out.tick.keep (Mod.ext (T:=fun _=>False) hE 9) (fun x hx=>hx.elim)⟩
 generalize (g.w.setCell ⟨b,3,none⟩ (zI z6 (S.count+1))).alloc (.cells #[.int .i64 0,.slice none 0 0,.int .i64 0] 143)=W0 at *;have M0:=zH m0;have B0:=zH b0;have H0:=zH h0;have hBX:=zH (Nat.le_refl g.w.heap.size);have HI:=zH (show inB t S.tick.stocks.length=inB t S.stocks.length from rfl);have hAsk:=zH (show ask S t fr sp sense=ask S t fr sp sense from rfl);clear m0 b0 h0 a0 a1 a2 a3 a4 a5 a6 a7 a8 a9 a10 a11 a12 a13 a14 a15 af3 al;have HST:=zH (yc7 t H0.out);rw [HI.out] at HST;cases hin:inB t S.stocks.length
 · have hno:askNo S t fr sp=true:=by unfold askNo;rw [hin];rfl
   have HK:=zH (show ask S t fr sp sense=((3,[], -1),S.tick) by unfold ask;rw [hno];rfl);rw [hin] at HST;clear hin hno;refine HST.out.mono ?_;rintro e w' ⟨rfl,rfl⟩;obtain ⟨a0,a1,a2,a3,a4,a5,a6,a7,a8,a9,a10,a11,a12,a13,a14,a15,al⟩:=H0.out.blk.k16;go_wp2_with fail;refine (ygD ⟨own0,W0⟩ (B+3) bl _ S.line H0.out.line).mono ?_;rintro e w1 ⟨v,own1,rfl,m1,r,ok,rfl,hn,hp⟩;have M1:=zH (M0.out.trans (m1.mono (fun x hx=>hx.elim)));have B1:=zH (B0.out.keep m1 id);have H1:=zH (H0.out.keep m1 (fun x hx=>hx.elim));clear m1 a0 a1 a2 a3 a4 a5 a6 a7 a8 a9 a10 a11 a12 a13 a14 a15 al;by_cases hi:placeOf (ofB t) S.line<0
   · obtain ⟨rfl,rfl⟩:=hn hi;clear hn hp hi;go_wp2_with fail;refine (yap 3 _).mono ?_;rintro e wz ⟨rfl,hX⟩;obtain ⟨ownz,mz⟩:=Mod.ofExt ((show Ext w1 _ from zE).trans (show Ext _ wz from hX)) own1;have Mz:=zH (M1.out.trans (mz.mono (fun x hx=>hx.elim)));have Bz:=zH (B1.out.keep mz id);have Hz:=zH (H1.out.keep mz (fun x hx=>hx.elim));clear mz hX;obtain ⟨y0,y1,y2,yl⟩:=Bz.out.k3;have yf0:=Bz.out.liv 0;have yf1:=Bz.out.liv 1;have yf2:=Bz.out.liv 2;go_wp2_with fail;refine bodyPost_ret (v:=.agg #[.int .i64 3,.slice none 0 0,.int .i64 (-1)]) (by simp [results,Tryz.results205,go_sem,y0,y1,y2]) rfl ?_;obtain ⟨p1,p2⟩:=put3 (v0:=.int .i64 3) (v1:=.slice none 0 0) (v2:=.int .i64 (-1)) Mz.out (Nat.le_refl _) Bz.out.own;refine ⟨_,ownz,rfl,p1,?_,?_⟩
     · rw [HK.out];exact ⟨none,0,rfl,Row.nil _ _ _ _⟩
     · rw [HK.out];exact ⟨_,_,_,_,_,_,_,Hz.out.keep p2 (fun x (hx:x=9)=>by omega)⟩
   · obtain ⟨rfl,ee,A',c',hL',rfl,hr⟩:=hp (by show 0≤placeOf (ofB t) S.line;omega);clear hn hi hL' hr;go_wp2_with fail;refine (yap 3 _).mono ?_;rintro e wz ⟨rfl,hX⟩;obtain ⟨ownz,mz⟩:=Mod.ofExt ((show Ext w1 _ from zE).trans (show Ext _ wz from hX)) own1;have Mz:=zH (M1.out.trans (mz.mono (fun x hx=>hx.elim)));have Bz:=zH (B1.out.keep mz id);have Hz:=zH (H1.out.keep mz (fun x hx=>hx.elim));clear mz hX;obtain ⟨y0,y1,y2,yl⟩:=Bz.out.k3;have yf0:=Bz.out.liv 0;have yf1:=Bz.out.liv 1;have yf2:=Bz.out.liv 2;go_wp2_with fail;refine bodyPost_ret (v:=.agg #[.int .i64 3,.slice none 0 0,.int .i64 (-1)]) (by simp [results,Tryz.results205,go_sem,y0,y1,y2]) rfl ?_;obtain ⟨p1,p2⟩:=put3 (v0:=.int .i64 3) (v1:=.slice none 0 0) (v2:=.int .i64 (-1)) Mz.out (Nat.le_refl _) Bz.out.own;refine ⟨_,ownz,rfl,p1,?_,?_⟩
     · rw [HK.out];exact ⟨none,0,rfl,Row.nil _ _ _ _⟩
     · rw [HK.out];exact ⟨_,_,_,_,_,_,_,Hz.out.keep p2 (fun x (hx:x=9)=>by omega)⟩
 · obtain ⟨kt,rfl,hkt⟩:=yam hin;obtain ⟨x,hbx⟩: ∃x,bs[kt]?=some x:=⟨_,List.getElem?_eq_getElem (by rw [H0.out.blen];exact hkt)⟩;rw [hin,Int.toNat_natCast,if_pos rfl,show bs.getD kt 0=x by rw [List.getD_eq_getElem?_getD,hbx];rfl] at HST;have hk16:kt<16:=by have:=H0.out.few;have h2:S.tick.stocks.length=S.stocks.length:=rfl;omega
   refine HST.out.mono ?_;rintro e w' ⟨rfl,rfl⟩;obtain ⟨a0,a1,a2,a3,a4,a5,a6,a7,a8,a9,a10,a11,a12,a13,a14,a15,al⟩:=H0.out.blk.k16;go_wp2_with fail;refine (ygD ⟨own0,W0⟩ (B+3) bl _ S.line H0.out.line).mono ?_;rintro e w1 ⟨v,own1,rfl,m1,r,ok,rfl,hn,hp⟩;have M1:=zH (M0.out.trans (m1.mono (fun x hx=>hx.elim)));have B1:=zH (B0.out.keep m1 id);have H1:=zH (H0.out.keep m1 (fun x hx=>hx.elim));clear m1 a0 a1 a2 a3 a4 a5 a6 a7 a8 a9 a10 a11 a12 a13 a14 a15 al;by_cases hi:placeOf (ofB kt) S.line<0
   case neg=>
    obtain ⟨rfl,ee,A',c',hL',rfl,hr⟩:=hp (by show 0≤placeOf (ofB kt) S.line;omega);have hno:askNo S kt fr sp=true:=by unfold askNo;rw [decide_eq_true (show 0≤placeOf (ofB kt) S.line by omega)];simp
    have HK:=zH (show ask S kt fr sp sense=((3,[], -1),S.tick) by unfold ask;rw [hno];rfl);clear hn hi hL' hr hno hin;by_cases h1:fr<1
    · go_wp2_with fail;refine (yap 3 _).mono ?_;rintro e wz ⟨rfl,hX⟩;obtain ⟨ownz,mz⟩:=Mod.ofExt ((show Ext w1 _ from zE).trans (show Ext _ wz from hX)) own1;have Mz:=zH (M1.out.trans (mz.mono (fun x hx=>hx.elim)));have Bz:=zH (B1.out.keep mz id);have Hz:=zH (H1.out.keep mz (fun x hx=>hx.elim));clear mz hX;obtain ⟨y0,y1,y2,yl⟩:=Bz.out.k3;have yf0:=Bz.out.liv 0;have yf1:=Bz.out.liv 1;have yf2:=Bz.out.liv 2;go_wp2_with fail;refine bodyPost_ret (v:=.agg #[.int .i64 3,.slice none 0 0,.int .i64 (-1)]) (by simp [results,Tryz.results205,go_sem,y0,y1,y2]) rfl ?_;obtain ⟨p1,p2⟩:=put3 (v0:=.int .i64 3) (v1:=.slice none 0 0) (v2:=.int .i64 (-1)) Mz.out (Nat.le_refl _) Bz.out.own;refine ⟨_,ownz,rfl,p1,?_,?_⟩
      · rw [HK.out];exact ⟨none,0,rfl,Row.nil _ _ _ _⟩
      · rw [HK.out];exact ⟨_,_,_,_,_,_,_,Hz.out.keep p2 (fun x (hx:x=9)=>by omega)⟩
    · by_cases h2:sp<0
      · go_wp2_with fail;refine (yap 3 _).mono ?_;rintro e wz ⟨rfl,hX⟩;obtain ⟨ownz,mz⟩:=Mod.ofExt ((show Ext w1 _ from zE).trans (show Ext _ wz from hX)) own1;have Mz:=zH (M1.out.trans (mz.mono (fun x hx=>hx.elim)));have Bz:=zH (B1.out.keep mz id);have Hz:=zH (H1.out.keep mz (fun x hx=>hx.elim));clear mz hX;obtain ⟨y0,y1,y2,yl⟩:=Bz.out.k3;have yf0:=Bz.out.liv 0;have yf1:=Bz.out.liv 1;have yf2:=Bz.out.liv 2;go_wp2_with fail;refine bodyPost_ret (v:=.agg #[.int .i64 3,.slice none 0 0,.int .i64 (-1)]) (by simp [results,Tryz.results205,go_sem,y0,y1,y2]) rfl ?_;obtain ⟨p1,p2⟩:=put3 (v0:=.int .i64 3) (v1:=.slice none 0 0) (v2:=.int .i64 (-1)) Mz.out (Nat.le_refl _) Bz.out.own;refine ⟨_,ownz,rfl,p1,?_,?_⟩
        · rw [HK.out];exact ⟨none,0,rfl,Row.nil _ _ _ _⟩
        · rw [HK.out];exact ⟨_,_,_,_,_,_,_,Hz.out.keep p2 (fun x (hx:x=9)=>by omega)⟩
      · go_wp2_with fail;refine (yap 3 _).mono ?_;rintro e wz ⟨rfl,hX⟩;obtain ⟨ownz,mz⟩:=Mod.ofExt ((show Ext w1 _ from zE).trans (show Ext _ wz from hX)) own1;have Mz:=zH (M1.out.trans (mz.mono (fun x hx=>hx.elim)));have Bz:=zH (B1.out.keep mz id);have Hz:=zH (H1.out.keep mz (fun x hx=>hx.elim));clear mz hX;obtain ⟨y0,y1,y2,yl⟩:=Bz.out.k3;have yf0:=Bz.out.liv 0;have yf1:=Bz.out.liv 1;have yf2:=Bz.out.liv 2;go_wp2_with fail;refine bodyPost_ret (v:=.agg #[.int .i64 3,.slice none 0 0,.int .i64 (-1)]) (by simp [results,Tryz.results205,go_sem,y0,y1,y2]) rfl ?_;obtain ⟨p1,p2⟩:=put3 (v0:=.int .i64 3) (v1:=.slice none 0 0) (v2:=.int .i64 (-1)) Mz.out (Nat.le_refl _) Bz.out.own;refine ⟨_,ownz,rfl,p1,?_,?_⟩
        · rw [HK.out];exact ⟨none,0,rfl,Row.nil _ _ _ _⟩
        · rw [HK.out];exact ⟨_,_,_,_,_,_,_,Hz.out.keep p2 (fun x (hx:x=9)=>by omega)⟩
   case pos=>
    obtain ⟨rfl,rfl⟩:=hn hi;clear hn hp;by_cases h1:fr<1
    · have hno:askNo S kt fr sp=true:=by unfold askNo;rw [decide_eq_true h1];simp
      have HK:=zH (show ask S kt fr sp sense=((3,[], -1),S.tick) by unfold ask;rw [hno];rfl);clear hno hin hi;go_wp2_with fail;refine (yap 3 _).mono ?_;rintro e wz ⟨rfl,hX⟩;obtain ⟨ownz,mz⟩:=Mod.ofExt ((show Ext w1 _ from zE).trans (show Ext _ wz from hX)) own1;have Mz:=zH (M1.out.trans (mz.mono (fun x hx=>hx.elim)));have Bz:=zH (B1.out.keep mz id);have Hz:=zH (H1.out.keep mz (fun x hx=>hx.elim));clear mz hX;obtain ⟨y0,y1,y2,yl⟩:=Bz.out.k3;have yf0:=Bz.out.liv 0;have yf1:=Bz.out.liv 1;have yf2:=Bz.out.liv 2;go_wp2_with fail;refine bodyPost_ret (v:=.agg #[.int .i64 3,.slice none 0 0,.int .i64 (-1)]) (by simp [results,Tryz.results205,go_sem,y0,y1,y2]) rfl ?_;obtain ⟨p1,p2⟩:=put3 (v0:=.int .i64 3) (v1:=.slice none 0 0) (v2:=.int .i64 (-1)) Mz.out (Nat.le_refl _) Bz.out.own;refine ⟨_,ownz,rfl,p1,?_,?_⟩
      · rw [HK.out];exact ⟨none,0,rfl,Row.nil _ _ _ _⟩
      · rw [HK.out];exact ⟨_,_,_,_,_,_,_,Hz.out.keep p2 (fun x (hx:x=9)=>by omega)⟩
    · by_cases h2:sp<0
      · have hno:askNo S kt fr sp=true:=by unfold askNo;rw [decide_eq_true h2];simp
        have HK:=zH (show ask S kt fr sp sense=((3,[], -1),S.tick) by unfold ask;rw [hno];rfl);clear hno hin hi;go_wp2_with fail;refine (yap 3 _).mono ?_;rintro e wz ⟨rfl,hX⟩;obtain ⟨ownz,mz⟩:=Mod.ofExt ((show Ext w1 _ from zE).trans (show Ext _ wz from hX)) own1;have Mz:=zH (M1.out.trans (mz.mono (fun x hx=>hx.elim)));have Bz:=zH (B1.out.keep mz id);have Hz:=zH (H1.out.keep mz (fun x hx=>hx.elim));clear mz hX;obtain ⟨y0,y1,y2,yl⟩:=Bz.out.k3;have yf0:=Bz.out.liv 0;have yf1:=Bz.out.liv 1;have yf2:=Bz.out.liv 2;go_wp2_with fail;refine bodyPost_ret (v:=.agg #[.int .i64 3,.slice none 0 0,.int .i64 (-1)]) (by simp [results,Tryz.results205,go_sem,y0,y1,y2]) rfl ?_;obtain ⟨p1,p2⟩:=put3 (v0:=.int .i64 3) (v1:=.slice none 0 0) (v2:=.int .i64 (-1)) Mz.out (Nat.le_refl _) Bz.out.own;refine ⟨_,ownz,rfl,p1,?_,?_⟩
        · rw [HK.out];exact ⟨none,0,rfl,Row.nil _ _ _ _⟩
        · rw [HK.out];exact ⟨_,_,_,_,_,_,_,Hz.out.keep p2 (fun x (hx:x=9)=>by omega)⟩
      · have hno:askNo S kt fr sp=false:=by unfold askNo;rw [hin,decide_eq_false h1,decide_eq_false h2,decide_eq_false zo];rfl
        obtain ⟨s,hsk⟩: ∃s,S.stocks[kt]?=some s:=⟨_,List.getElem?_eq_getElem hkt⟩;have HSO:=zH (show stockOf S kt=s by unfold stockOf;rw [Int.toNat_natCast,List.getD_eq_getElem?_getD,hsk];rfl);obtain ⟨own2,m2⟩:=Mod.ofExt (show Ext w1 (w1.alloc (.cells #[.int .i64 0,.int .i64 0,.int .i64 0,.int .i64 0,.int .i64 0,.int .i64 0,.slice none 0 0] 199)) from zE) own1;have M2:=zH (M1.out.trans (m2.mono (fun x hx=>hx.elim)));have B2:=zH (B1.out.keep m2 id);have H2:=zH (H1.out.keep m2 (fun x hx=>hx.elim));clear m2 hin;obtain ⟨a0,a1,a2,a3,a4,a5,a6,a7,a8,a9,a10,a11,a12,a13,a14,a15,al⟩:=H2.out.blk.k16;by_cases hz:sp=0
        · have hz0:(sp==0)=true:=by simp [hz]
          by_cases hle:fr≤(s.l.length:Int)
          · obtain ⟨k,rfl⟩:=Int.eq_ofNat_of_zero_le (show 0≤fr by omega);have HK:=zH (show ask S kt k sp sense=((1,s.l.take k, -1),askOwn S.tick kt k sense) by unfold ask;rw [hno,if_neg (by simp),if_pos ⟨hz,by rw [HSO.out];exact hle⟩,HSO.out,Int.toNat_natCast])
            have HKS:=zH (show askOwn S.tick kt k sense={ S.tick with stocks:=S.stocks.set kt ⟨s.l.drop k,s.most⟩,tab:=S.tab.setAll (s.l.take k) 2 sense } by
             unfold askOwn;rw [show stockOf S.tick kt=s from HSO.out,Int.toNat_natCast,Int.toNat_natCast];rfl)
            have HTY:=zH (fun g' (hh:StockAt g' (B+10+kt) x s)=>yd4 g' (B+10+kt) x k s hh zo zo zo);have hkl:k≤s.l.length:=zo;clear hno hz hle;go_wp2_with fail;generalize w1.alloc (.cells #[.int .i64 0,.int .i64 0,.int .i64 0,.int .i64 0,.int .i64 0,.int .i64 0,.slice none 0 0] 199)=w2 at *;refine (HTY.out ⟨own2,w2⟩ (H2.out.stock kt x s hbx hsk)).mono ?_;rintro e w5 ⟨v,own5,rfl,m5,s5,rfl,k5,r5⟩;obtain ⟨s5A,c5,rfl⟩:=yak r5.row;have M5:=zH (M2.out.trans (m5.mono (fun y (hy:y=B+10+kt)=>(⟨zo,zo⟩:inst B y))));have B5:=zH (B2.out.keep m5 zo);have R5:=zH r5;have H5:=zH (H2.out.withStock hkt hbx m5 k5);have HLk:=zH (show (s.l.take k).length=k by simp;omega);have hk8:=H2.out.stock kt x s hbx hsk;have hk9:=hk8.most;have hk10:=hk8.len;clear m5 r5 k5 hk8 a0 a1 a2 a3 a4 a5 a6 a7 a8 a9 a10 a11 a12 a13 a14 a15 al;go_wp2_with fail;have HSET:=zH (ya2 2 sense s5A c5 (s.l.take k) H5.out R5.out.seg hB (by rw [HLk.out];omega));rw [HLk.out] at HSET;refine HSET.out.mono ?_;rintro e w6 ⟨rfl,own6,m6,h6⟩;have M6:=zH (M5.out.trans (m6.mono (fun y (hy:y=B+50)=>(⟨zo,zo⟩:inst B y))));have B6:=zH (B5.out.keep m6 zo);have R6:=zH (R5.out.keep m6 zo);have H6:=zH h6;clear m6 h6
            obtain ⟨y0,y1,y2,yl⟩:=B6.out.k3;have yf0:=B6.out.liv 0;have yf1:=B6.out.liv 1;have yf2:=B6.out.liv 2;go_wp2_with fail;refine bodyPost_ret (v:=.agg #[.int .i64 1,.slice s5A k c5,.int .i64 (-1)]) (by simp [results,Tryz.results205,go_sem,y0,y1,y2]) rfl ?_;obtain ⟨p1,p2⟩:=put3 (v0:=.int .i64 1) (v1:=.slice s5A k c5) (v2:=.int .i64 (-1)) M6.out (Nat.le_refl _) B6.out.own;refine ⟨_,own6,rfl,p1,?_,?_⟩
            · rw [HK.out];exact ⟨s5A,c5,by simp only [HLk.out],by simp only [HLk.out];exact R6.out.keep p2 zo⟩
            · rw [HK.out,HKS.out];exact ⟨_,_,_,_,_,_,_,H6.out.keep p2 (fun x (hx:x=9)=>by omega)⟩
          · have hown: ¬(sp=0∧fr≤((stockOf S kt).l.length:Int)):=by rw [HSO.out];omega
            have HTN:=zH (fun g' (hh:StockAt g' (B+10+kt) x s)=>ye0 g' (B+10+kt) x fr s hh zo);clear hz hle;go_wp2_with fail;generalize w1.alloc (.cells #[.int .i64 0,.int .i64 0,.int .i64 0,.int .i64 0,.int .i64 0,.int .i64 0,.slice none 0 0] 199)=w2 at *;refine (HTN.out ⟨own2,w2⟩ (H2.out.stock kt x s hbx hsk)).mono ?_;rintro e w' ⟨rfl,rfl⟩;go_wp2_with fail;refine (ydk ⟨own2,w2⟩ (B+3) cm bp bk bl S.line H2.out.line).mono ?_;rintro e w3 ⟨rfl,hX⟩;obtain ⟨own3,m3⟩:=Mod.ofExt (show Ext w2 w3 from hX) own2;have M3:=zH (M2.out.trans (m3.mono (fun x hx=>hx.elim)));have B3:=zH (B2.out.keep m3 id);have H3:=zH (H2.out.keep m3 (fun x hx=>hx.elim));clear m3 hX a0 a1 a2 a3 a4 a5 a6 a7 a8 a9 a10 a11 a12 a13 a14 a15 al;by_cases hw:0<Ent.wait S.line
            · have hwd:decide ((0:Int)<(Ent.wait S.line:Nat))=true:=decide_eq_true zo;have HK:=zH (show ask S kt fr sp sense=((0,[], -1),{ S.tick with line:=S.line++[Ent.asked kt fr sp] }) by unfold ask;rw [hno,if_neg (by simp),if_neg hown,if_pos (Or.inl hw)]);have hwd2:decide (0<Ent.wait S.line)=true:=decide_eq_true hw;clear hno hown;obtain ⟨a0,a1,a2,a3,a4,a5,a6,a7,a8,a9,a10,a11,a12,a13,a14,a15,al⟩:=H3.out.blk.k16;go_wp2_with fail;refine (yb6 ⟨own3,w3⟩ (B+3) bl kt fr sp S.line H3.out.line hi hL zo).mono ?_;rintro e w7 ⟨rfl,own7,m7,l7⟩;have M7:=zH (M3.out.trans (m7.mono (fun x (hx:x=B+3)=>(⟨zo,zo⟩:inst B x))));have B7:=zH (B3.out.keep m7 zo);have H7:=zH (H3.out.withLine (m7.mono (fun x hx=>Or.inl hx)) l7);clear m7 l7 a0 a1 a2 a3 a4 a5 a6 a7 a8 a9 a10 a11 a12 a13 a14 a15 al;go_wp2_with fail;refine (yap 0 _).mono ?_;rintro e wz ⟨rfl,hX⟩;obtain ⟨ownz,mz⟩:=Mod.ofExt ((show Ext w7 _ from zE).trans (show Ext _ wz from hX)) own7;have Mz:=zH (M7.out.trans (mz.mono (fun x hx=>hx.elim)));have Bz:=zH (B7.out.keep mz id);have Hz:=zH (H7.out.keep mz (fun x hx=>hx.elim));clear mz hX;obtain ⟨y0,y1,y2,yl⟩:=Bz.out.k3;have yf0:=Bz.out.liv 0;have yf1:=Bz.out.liv 1;have yf2:=Bz.out.liv 2
              go_wp2_with fail;refine bodyPost_ret (v:=.agg #[.int .i64 0,.slice none 0 0,.int .i64 (-1)]) (by simp [results,Tryz.results205,go_sem,y0,y1,y2]) rfl ?_;obtain ⟨p1,p2⟩:=put3 (v0:=.int .i64 0) (v1:=.slice none 0 0) (v2:=.int .i64 (-1)) Mz.out (Nat.le_refl _) Bz.out.own;refine ⟨_,ownz,rfl,p1,?_,?_⟩
              · rw [HK.out];exact ⟨none,0,rfl,Row.nil _ _ _ _⟩
              · rw [HK.out];exact ⟨_,_,_,_,_,_,_,Hz.out.keep p2 (fun x (hx:x=9)=>by omega)⟩
            · have hwd:decide ((0:Int)<(Ent.wait S.line:Nat))=false:=decide_eq_false zo;obtain ⟨a0,a1,a2,a3,a4,a5,a6,a7,a8,a9,a10,a11,a12,a13,a14,a15,al⟩:=H3.out.blk.k16;go_wp2_with fail;refine (yd1 fr sp H3.out).mono ?_;rw [show S.tick.fits fr sp=S.fits fr sp from rfl];rintro e w4 ⟨rfl,hX⟩;obtain ⟨own4,m4⟩:=Mod.ofExt (show Ext w3 w4 from hX) own3;have M4:=zH (M3.out.trans (m4.mono (fun x hx=>hx.elim)));have B4:=zH (B3.out.keep m4 id);have H4:=zH (H3.out.keep m4 (fun x hx=>hx.elim));clear m4 hX a0 a1 a2 a3 a4 a5 a6 a7 a8 a9 a10 a11 a12 a13 a14 a15 al;cases hft:S.fits fr sp
              · have HK:=zH (show ask S kt fr sp sense=((0,[], -1),{ S.tick with line:=S.line++[Ent.asked kt fr sp] }) by unfold ask;rw [hno,if_neg (by simp),if_neg hown,if_pos (Or.inr hft)]);clear hw hno hown hft;obtain ⟨a0,a1,a2,a3,a4,a5,a6,a7,a8,a9,a10,a11,a12,a13,a14,a15,al⟩:=H4.out.blk.k16;go_wp2_with fail;refine (yb6 ⟨own4,w4⟩ (B+3) bl kt fr sp S.line H4.out.line hi hL zo).mono ?_;rintro e w7 ⟨rfl,own7,m7,l7⟩;have M7:=zH (M4.out.trans (m7.mono (fun x (hx:x=B+3)=>(⟨zo,zo⟩:inst B x))));have B7:=zH (B4.out.keep m7 zo);have H7:=zH (H4.out.withLine (m7.mono (fun x hx=>Or.inl hx)) l7);clear m7 l7 a0 a1 a2 a3 a4 a5 a6 a7 a8 a9 a10 a11 a12 a13 a14 a15 al;go_wp2_with fail;refine (yap 0 _).mono ?_;rintro e wz ⟨rfl,hX⟩;obtain ⟨ownz,mz⟩:=Mod.ofExt ((show Ext w7 _ from zE).trans (show Ext _ wz from hX)) own7;have Mz:=zH (M7.out.trans (mz.mono (fun x hx=>hx.elim)));have Bz:=zH (B7.out.keep mz id);have Hz:=zH (H7.out.keep mz (fun x hx=>hx.elim));clear mz hX;obtain ⟨y0,y1,y2,yl⟩:=Bz.out.k3;have yf0:=Bz.out.liv 0;have yf1:=Bz.out.liv 1;have yf2:=Bz.out.liv 2;go_wp2_with fail
                refine bodyPost_ret (v:=.agg #[.int .i64 0,.slice none 0 0,.int .i64 (-1)]) (by simp [results,Tryz.results205,go_sem,y0,y1,y2]) rfl ?_;obtain ⟨p1,p2⟩:=put3 (v0:=.int .i64 0) (v1:=.slice none 0 0) (v2:=.int .i64 (-1)) Mz.out (Nat.le_refl _) Bz.out.own;refine ⟨_,ownz,rfl,p1,?_,?_⟩
                · rw [HK.out];exact ⟨none,0,rfl,Row.nil _ _ _ _⟩
                · rw [HK.out];exact ⟨_,_,_,_,_,_,_,Hz.out.keep p2 (fun x (hx:x=9)=>by omega)⟩
              · have HFT:=zH hft
                have hfree:fr≤(S.pool.free:Int):=by
                 unfold SpaceS.fits at hft;simp only [Bool.and_eq_true,decide_eq_true_eq] at hft;exact hft.1
                have hnw: ¬(0<Ent.wait S.line∨S.fits fr sp=false):=by rw [hft];simp [hw]
                clear hw hft;obtain ⟨got,hgot⟩:=PoolS.taken_some (p:=S.pool) (k:=fr) zo hfree;have HG1:=zH (show askGot S.tick fr=got by unfold askGot;show ((S.pool.taken fr).getD [])=got;rw [hgot];rfl);have HG2:=zH (show askGot S fr=got by unfold askGot;rw [hgot];rfl);have HGL:=zH (show got.length≤1024 from Nat.le_trans (PoolS.taken_len hgot) H4.out.pool.len);have HK:=zH (show ask S kt fr sp sense=((1,got,takesAt S got sp),askAll S.tick kt fr sp sense) by unfold ask;rw [hno,if_neg (by simp),if_neg hown,if_neg hnw,HG2.out])
                have HKS:=zH (show askAll S.tick kt fr sp sense={ takesS S.tick got sp with pool:=(takesS S.tick got sp).pool.takes ((takesS S.tick got sp).pool.lowOnes (s.most-s.l.length)),tab:=((takesS S.tick got sp).tab.setAll got 2 sense).setAll ((takesS S.tick got sp).pool.lowOnes (s.most-s.l.length)) 1 sense,stocks:=S.stocks.set kt ⟨s.l++(takesS S.tick got sp).pool.lowOnes (s.most-s.l.length),s.most⟩ } by
                 unfold askAll askMore;rw [HG1.out,show stockOf S.tick kt=s from HSO.out];rfl)
                have HSD:=zH (ycy HFT.out hgot H4.out.pool.len H4.out.coil.ok);have HTK:=zH (fun (hh:SpaceIn ⟨own4,w4⟩ B b bt S.tick bp bk bl A cs cm bs)=>ydj fr sp got hh hB hgot ⟨zo,HSD.out⟩);clear hgot hno hown hnw hfree HSD;obtain ⟨a0,a1,a2,a3,a4,a5,a6,a7,a8,a9,a10,a11,a12,a13,a14,a15,al⟩:=H4.out.blk.k16;go_wp2_with fail;refine (HTK.out H4.out).mono ?_;rintro e w5 ⟨v,own5,rfl,m5,s5,c5,rfl,r5,h5⟩;have M5:=zH (M4.out.trans (m5.mono (fun x (hx:x=B+1∨x=B+2)=>(⟨zo,zo⟩:inst B x))));have B5:=zH (B4.out.keep m5 zo);have R5:=zH r5;have H5:=zH h5;clear m5 r5 h5 a0 a1 a2 a3 a4 a5 a6 a7 a8 a9 a10 a11 a12 a13 a14 a15 al;go_wp2_with fail;refine (ya2 2 sense s5 c5 got H5.out R5.out.seg hB (by have:=HGL.out;omega)).mono ?_;rintro e w6 ⟨rfl,own6,m6,h6⟩;have M6:=zH (M5.out.trans (m6.mono (fun x (hx:x=B+50)=>(⟨zo,zo⟩:inst B x))));have B6:=zH (B5.out.keep m6 zo);have R6:=zH (R5.out.keep m6 zo);have H6:=zH h6;clear m6 h6;obtain ⟨a0,a1,a2,a3,a4,a5,a6,a7,a8,a9,a10,a11,a12,a13,a14,a15,al⟩:=H6.out.blk.k16;have HS6:=zH (show StockAt ⟨own6,w6⟩ (B+10+kt) x s from H6.out.stock kt x s hbx hsk);have hmo:=HS6.out.most;have hml:=HS6.out.len
                have HRM:=zH (fun X=>ych ((⟨own6,w6⟩:GW).pt X) (B+10+kt) x s (HS6.out.pt X));go_wp2_with fail;refine yab [zT,zT,zT,zT,zT,zT,zT,zU,zU] 2 7 ?_;intro X00;simp only [pickOps];repeat (go_big_quiet_step ((go_at_call 246;exact Calls.added (HRM.out _))))
                refine wpQuiet_nil (fun X0=>?_);clear X00;refine yae rfl zQ (fun X2=>?_);simp only [List.drop_succ_cons,List.drop_zero];go_wp2_with fail;refine (ydg ((⟨own6,w6⟩:GW).pt _) (B+1) bp (s.most-s.l.length) _ (H6.out.pool.pt _) zo zo).mono ?_;rintro e w7 ⟨v7,own7,rfl,m7,p7,r7⟩;obtain ⟨A7,c7,rfl⟩:=yak r7.row;have hlm:((takesS S.tick got sp).pool.lowOnes (s.most-s.l.length)).length≤(s.most-s.l.length).toNat:=(PoolS.lowGo_len _ _ _).1;have M7:=zH ((Mod.pt M6.out _).trans (m7.mono (fun x (hx:x=B+1)=>(⟨zo,zo⟩:inst B x))));have B7:=zH ((B6.out.pt _).keep m7 zo);have R7:=zH ((R6.out.ptx _).keep m7 zo);have H7:=zH ((H6.out.keep (Mod.pt (Mod.refl (fun _=>False) _) _) (fun x hx=>hx.elim)).withPool m7 p7);have Q7:=zH r7;clear m7 p7 r7 a0 a1 a2 a3 a4 a5 a6 a7 a8 a9 a10 a11 a12 a13 a14 a15 al;simp only at H7 Q7;generalize (takesS S.tick got sp).pool.lowOnes (s.most-s.l.length)=more at *;generalize hmn:more.length=nm at *;have HNM:=zH hmn;clear hmn;go_wp2_with fail;have HSET:=zH (ya2 1 sense A7 c7 more H7.out Q7.out.seg hB (by rw [HNM.out];omega));rw [HNM.out] at HSET;refine HSET.out.mono ?_;rintro e w8 ⟨rfl,own8,m8,h8⟩
                have M8:=zH (M7.out.trans (m8.mono (fun x (hx:x=B+50)=>(⟨zo,zo⟩:inst B x))));have B8:=zH (B7.out.keep m8 zo);have R8:=zH (R7.out.keep m8 zo);have Q8:=zH (Q7.out.keep m8 zo);have H8:=zH h8;have HS8:=zH (show StockAt ⟨own8,w8⟩ (B+10+kt) x s from H8.out.stock kt x s hbx hsk);clear m8 h8;go_wp2_with fail;have HPUT:=zH (yez ⟨own8,w8⟩ (B+10+kt) x A7 c7 more s HS8.out Q8.out.cells (fun e=>by subst e;have:=Q8.out.none;exact ⟨List.length_eq_zero_iff.1 (by rw [HNM.out];exact this.1),this.2⟩) (by rw [HNM.out];omega));rw [HNM.out] at HPUT;refine HPUT.out.mono ?_;rintro e w9 ⟨rfl,own9,m9,s9⟩;have M9:=zH (M8.out.trans (m9.mono (fun y (hy:y=B+10+kt)=>(⟨zo,zo⟩:inst B y))));have B9:=zH (B8.out.keep m9 zo);have R9:=zH (R8.out.keep m9 zo);have H9:=zH (H8.out.withStock hkt hbx m9 s9);clear m9 s9;obtain ⟨y0,y1,y2,yl⟩:=B9.out.k3;have yf0:=B9.out.liv 0;have yf1:=B9.out.liv 1;have yf2:=B9.out.liv 2;go_wp2_with fail;refine bodyPost_ret (v:=.agg #[.int .i64 1,.slice s5 got.length c5,.int .i64 (takesAt S.tick got sp)]) (by simp [results,Tryz.results205,go_sem,y0,y1,y2]) rfl ?_
                obtain ⟨p1,p2⟩:=put3 (v0:=.int .i64 1) (v1:=.slice s5 got.length c5) (v2:=.int .i64 (takesAt S.tick got sp)) M9.out (Nat.le_refl _) B9.out.own;refine ⟨_,own9,rfl,p1,?_,?_⟩
                · rw [HK.out];exact ⟨s5,c5,rfl,R9.out.keep p2 zo⟩
                · rw [HK.out,HKS.out];exact ⟨_,_,_,_,_,_,_,H9.out.keep p2 (fun x (hx:x=9)=>by omega)⟩
        · have hz0:(sp==0)=false:=by simp [hz]
          have hown: ¬(sp=0∧fr≤((stockOf S kt).l.length:Int)):=zo;clear hz;go_wp2_with fail;generalize w1.alloc (.cells #[.int .i64 0,.int .i64 0,.int .i64 0,.int .i64 0,.int .i64 0,.int .i64 0,.slice none 0 0] 199)=w2 at *;refine (ydk ⟨own2,w2⟩ (B+3) cm bp bk bl S.line H2.out.line).mono ?_;rintro e w3 ⟨rfl,hX⟩;obtain ⟨own3,m3⟩:=Mod.ofExt (show Ext w2 w3 from hX) own2;have M3:=zH (M2.out.trans (m3.mono (fun x hx=>hx.elim)));have B3:=zH (B2.out.keep m3 id);have H3:=zH (H2.out.keep m3 (fun x hx=>hx.elim));clear m3 hX a0 a1 a2 a3 a4 a5 a6 a7 a8 a9 a10 a11 a12 a13 a14 a15 al;by_cases hw:0<Ent.wait S.line
          · have hwd:decide ((0:Int)<(Ent.wait S.line:Nat))=true:=decide_eq_true zo;have HK:=zH (show ask S kt fr sp sense=((0,[], -1),{ S.tick with line:=S.line++[Ent.asked kt fr sp] }) by unfold ask;rw [hno,if_neg (by simp),if_neg hown,if_pos (Or.inl hw)]);have hwd2:decide (0<Ent.wait S.line)=true:=decide_eq_true hw;clear hno hown;obtain ⟨a0,a1,a2,a3,a4,a5,a6,a7,a8,a9,a10,a11,a12,a13,a14,a15,al⟩:=H3.out.blk.k16;go_wp2_with fail;refine (yb6 ⟨own3,w3⟩ (B+3) bl kt fr sp S.line H3.out.line hi hL zo).mono ?_;rintro e w7 ⟨rfl,own7,m7,l7⟩;have M7:=zH (M3.out.trans (m7.mono (fun x (hx:x=B+3)=>(⟨zo,zo⟩:inst B x))));have B7:=zH (B3.out.keep m7 zo);have H7:=zH (H3.out.withLine (m7.mono (fun x hx=>Or.inl hx)) l7);clear m7 l7 a0 a1 a2 a3 a4 a5 a6 a7 a8 a9 a10 a11 a12 a13 a14 a15 al;go_wp2_with fail;refine (yap 0 _).mono ?_;rintro e wz ⟨rfl,hX⟩;obtain ⟨ownz,mz⟩:=Mod.ofExt ((show Ext w7 _ from zE).trans (show Ext _ wz from hX)) own7;have Mz:=zH (M7.out.trans (mz.mono (fun x hx=>hx.elim)));have Bz:=zH (B7.out.keep mz id);have Hz:=zH (H7.out.keep mz (fun x hx=>hx.elim));clear mz hX;obtain ⟨y0,y1,y2,yl⟩:=Bz.out.k3;have yf0:=Bz.out.liv 0;have yf1:=Bz.out.liv 1;have yf2:=Bz.out.liv 2
            go_wp2_with fail;refine bodyPost_ret (v:=.agg #[.int .i64 0,.slice none 0 0,.int .i64 (-1)]) (by simp [results,Tryz.results205,go_sem,y0,y1,y2]) rfl ?_;obtain ⟨p1,p2⟩:=put3 (v0:=.int .i64 0) (v1:=.slice none 0 0) (v2:=.int .i64 (-1)) Mz.out (Nat.le_refl _) Bz.out.own;refine ⟨_,ownz,rfl,p1,?_,?_⟩
            · rw [HK.out];exact ⟨none,0,rfl,Row.nil _ _ _ _⟩
            · rw [HK.out];exact ⟨_,_,_,_,_,_,_,Hz.out.keep p2 (fun x (hx:x=9)=>by omega)⟩
          · have hwd:decide ((0:Int)<(Ent.wait S.line:Nat))=false:=decide_eq_false zo;obtain ⟨a0,a1,a2,a3,a4,a5,a6,a7,a8,a9,a10,a11,a12,a13,a14,a15,al⟩:=H3.out.blk.k16;go_wp2_with fail;refine (yd1 fr sp H3.out).mono ?_;rw [show S.tick.fits fr sp=S.fits fr sp from rfl];rintro e w4 ⟨rfl,hX⟩;obtain ⟨own4,m4⟩:=Mod.ofExt (show Ext w3 w4 from hX) own3;have M4:=zH (M3.out.trans (m4.mono (fun x hx=>hx.elim)));have B4:=zH (B3.out.keep m4 id);have H4:=zH (H3.out.keep m4 (fun x hx=>hx.elim));clear m4 hX a0 a1 a2 a3 a4 a5 a6 a7 a8 a9 a10 a11 a12 a13 a14 a15 al;cases hft:S.fits fr sp
            · have HK:=zH (show ask S kt fr sp sense=((0,[], -1),{ S.tick with line:=S.line++[Ent.asked kt fr sp] }) by unfold ask;rw [hno,if_neg (by simp),if_neg hown,if_pos (Or.inr hft)]);clear hw hno hown hft;obtain ⟨a0,a1,a2,a3,a4,a5,a6,a7,a8,a9,a10,a11,a12,a13,a14,a15,al⟩:=H4.out.blk.k16;go_wp2_with fail;refine (yb6 ⟨own4,w4⟩ (B+3) bl kt fr sp S.line H4.out.line hi hL zo).mono ?_;rintro e w7 ⟨rfl,own7,m7,l7⟩;have M7:=zH (M4.out.trans (m7.mono (fun x (hx:x=B+3)=>(⟨zo,zo⟩:inst B x))));have B7:=zH (B4.out.keep m7 zo);have H7:=zH (H4.out.withLine (m7.mono (fun x hx=>Or.inl hx)) l7);clear m7 l7 a0 a1 a2 a3 a4 a5 a6 a7 a8 a9 a10 a11 a12 a13 a14 a15 al;go_wp2_with fail;refine (yap 0 _).mono ?_;rintro e wz ⟨rfl,hX⟩;obtain ⟨ownz,mz⟩:=Mod.ofExt ((show Ext w7 _ from zE).trans (show Ext _ wz from hX)) own7;have Mz:=zH (M7.out.trans (mz.mono (fun x hx=>hx.elim)));have Bz:=zH (B7.out.keep mz id);have Hz:=zH (H7.out.keep mz (fun x hx=>hx.elim));clear mz hX;obtain ⟨y0,y1,y2,yl⟩:=Bz.out.k3;have yf0:=Bz.out.liv 0;have yf1:=Bz.out.liv 1;have yf2:=Bz.out.liv 2;go_wp2_with fail
              refine bodyPost_ret (v:=.agg #[.int .i64 0,.slice none 0 0,.int .i64 (-1)]) (by simp [results,Tryz.results205,go_sem,y0,y1,y2]) rfl ?_;obtain ⟨p1,p2⟩:=put3 (v0:=.int .i64 0) (v1:=.slice none 0 0) (v2:=.int .i64 (-1)) Mz.out (Nat.le_refl _) Bz.out.own;refine ⟨_,ownz,rfl,p1,?_,?_⟩
              · rw [HK.out];exact ⟨none,0,rfl,Row.nil _ _ _ _⟩
              · rw [HK.out];exact ⟨_,_,_,_,_,_,_,Hz.out.keep p2 (fun x (hx:x=9)=>by omega)⟩
            · have HFT:=zH hft
              have hfree:fr≤(S.pool.free:Int):=by
               unfold SpaceS.fits at hft;simp only [Bool.and_eq_true,decide_eq_true_eq] at hft;exact hft.1
              have hnw: ¬(0<Ent.wait S.line∨S.fits fr sp=false):=by rw [hft];simp [hw]
              clear hw hft;obtain ⟨got,hgot⟩:=PoolS.taken_some (p:=S.pool) (k:=fr) zo hfree;have HG1:=zH (show askGot S.tick fr=got by unfold askGot;show ((S.pool.taken fr).getD [])=got;rw [hgot];rfl);have HG2:=zH (show askGot S fr=got by unfold askGot;rw [hgot];rfl);have HGL:=zH (show got.length≤1024 from Nat.le_trans (PoolS.taken_len hgot) H4.out.pool.len);have HK:=zH (show ask S kt fr sp sense=((1,got,takesAt S got sp),askAll S.tick kt fr sp sense) by unfold ask;rw [hno,if_neg (by simp),if_neg hown,if_neg hnw,HG2.out])
              have HKS:=zH (show askAll S.tick kt fr sp sense={ takesS S.tick got sp with pool:=(takesS S.tick got sp).pool.takes ((takesS S.tick got sp).pool.lowOnes (s.most-s.l.length)),tab:=((takesS S.tick got sp).tab.setAll got 2 sense).setAll ((takesS S.tick got sp).pool.lowOnes (s.most-s.l.length)) 1 sense,stocks:=S.stocks.set kt ⟨s.l++(takesS S.tick got sp).pool.lowOnes (s.most-s.l.length),s.most⟩ } by
               unfold askAll askMore;rw [HG1.out,show stockOf S.tick kt=s from HSO.out];rfl)
              have HSD:=zH (ycy HFT.out hgot H4.out.pool.len H4.out.coil.ok);have HTK:=zH (fun (hh:SpaceIn ⟨own4,w4⟩ B b bt S.tick bp bk bl A cs cm bs)=>ydj fr sp got hh hB hgot ⟨zo,HSD.out⟩);clear hgot hno hown hnw hfree HSD;obtain ⟨a0,a1,a2,a3,a4,a5,a6,a7,a8,a9,a10,a11,a12,a13,a14,a15,al⟩:=H4.out.blk.k16;go_wp2_with fail;refine (HTK.out H4.out).mono ?_;rintro e w5 ⟨v,own5,rfl,m5,s5,c5,rfl,r5,h5⟩;have M5:=zH (M4.out.trans (m5.mono (fun x (hx:x=B+1∨x=B+2)=>(⟨zo,zo⟩:inst B x))));have B5:=zH (B4.out.keep m5 zo);have R5:=zH r5;have H5:=zH h5;clear m5 r5 h5 a0 a1 a2 a3 a4 a5 a6 a7 a8 a9 a10 a11 a12 a13 a14 a15 al;go_wp2_with fail;refine (ya2 2 sense s5 c5 got H5.out R5.out.seg hB (by have:=HGL.out;omega)).mono ?_;rintro e w6 ⟨rfl,own6,m6,h6⟩;have M6:=zH (M5.out.trans (m6.mono (fun x (hx:x=B+50)=>(⟨zo,zo⟩:inst B x))));have B6:=zH (B5.out.keep m6 zo);have R6:=zH (R5.out.keep m6 zo);have H6:=zH h6;clear m6 h6;obtain ⟨a0,a1,a2,a3,a4,a5,a6,a7,a8,a9,a10,a11,a12,a13,a14,a15,al⟩:=H6.out.blk.k16;have HS6:=zH (show StockAt ⟨own6,w6⟩ (B+10+kt) x s from H6.out.stock kt x s hbx hsk);have hmo:=HS6.out.most;have hml:=HS6.out.len
              have HRM:=zH (fun X=>ych ((⟨own6,w6⟩:GW).pt X) (B+10+kt) x s (HS6.out.pt X));go_wp2_with fail;refine yab [zT,zT,zT,zT,zT,zT,zT,zU,zU] 2 7 ?_;intro X00;simp only [pickOps];repeat (go_big_quiet_step ((go_at_call 246;exact Calls.added (HRM.out _))))
              refine wpQuiet_nil (fun X0=>?_);clear X00;refine yae rfl zQ (fun X2=>?_);simp only [List.drop_succ_cons,List.drop_zero];go_wp2_with fail;refine (ydg ((⟨own6,w6⟩:GW).pt _) (B+1) bp (s.most-s.l.length) _ (H6.out.pool.pt _) zo zo).mono ?_;rintro e w7 ⟨v7,own7,rfl,m7,p7,r7⟩;obtain ⟨A7,c7,rfl⟩:=yak r7.row;have hlm:((takesS S.tick got sp).pool.lowOnes (s.most-s.l.length)).length≤(s.most-s.l.length).toNat:=(PoolS.lowGo_len _ _ _).1;have M7:=zH ((Mod.pt M6.out _).trans (m7.mono (fun x (hx:x=B+1)=>(⟨zo,zo⟩:inst B x))));have B7:=zH ((B6.out.pt _).keep m7 zo);have R7:=zH ((R6.out.ptx _).keep m7 zo);have H7:=zH ((H6.out.keep (Mod.pt (Mod.refl (fun _=>False) _) _) (fun x hx=>hx.elim)).withPool m7 p7);have Q7:=zH r7;clear m7 p7 r7 a0 a1 a2 a3 a4 a5 a6 a7 a8 a9 a10 a11 a12 a13 a14 a15 al;simp only at H7 Q7;generalize (takesS S.tick got sp).pool.lowOnes (s.most-s.l.length)=more at *;generalize hmn:more.length=nm at *;have HNM:=zH hmn;clear hmn;go_wp2_with fail;have HSET:=zH (ya2 1 sense A7 c7 more H7.out Q7.out.seg hB (by rw [HNM.out];omega));rw [HNM.out] at HSET;refine HSET.out.mono ?_;rintro e w8 ⟨rfl,own8,m8,h8⟩
              have M8:=zH (M7.out.trans (m8.mono (fun x (hx:x=B+50)=>(⟨zo,zo⟩:inst B x))));have B8:=zH (B7.out.keep m8 zo);have R8:=zH (R7.out.keep m8 zo);have Q8:=zH (Q7.out.keep m8 zo);have H8:=zH h8;have HS8:=zH (show StockAt ⟨own8,w8⟩ (B+10+kt) x s from H8.out.stock kt x s hbx hsk);clear m8 h8;go_wp2_with fail;have HPUT:=zH (yez ⟨own8,w8⟩ (B+10+kt) x A7 c7 more s HS8.out Q8.out.cells (fun e=>by subst e;have:=Q8.out.none;exact ⟨List.length_eq_zero_iff.1 (by rw [HNM.out];exact this.1),this.2⟩) (by rw [HNM.out];omega));rw [HNM.out] at HPUT;refine HPUT.out.mono ?_;rintro e w9 ⟨rfl,own9,m9,s9⟩;have M9:=zH (M8.out.trans (m9.mono (fun y (hy:y=B+10+kt)=>(⟨zo,zo⟩:inst B y))));have B9:=zH (B8.out.keep m9 zo);have R9:=zH (R8.out.keep m9 zo);have H9:=zH (H8.out.withStock hkt hbx m9 s9);clear m9 s9;obtain ⟨y0,y1,y2,yl⟩:=B9.out.k3;have yf0:=B9.out.liv 0;have yf1:=B9.out.liv 1;have yf2:=B9.out.liv 2;go_wp2_with fail;refine bodyPost_ret (v:=.agg #[.int .i64 1,.slice s5 got.length c5,.int .i64 (takesAt S.tick got sp)]) (by simp [results,Tryz.results205,go_sem,y0,y1,y2]) rfl ?_
              obtain ⟨p1,p2⟩:=put3 (v0:=.int .i64 1) (v1:=.slice s5 got.length c5) (v2:=.int .i64 (takesAt S.tick got sp)) M9.out (Nat.le_refl _) B9.out.own;refine ⟨_,own9,rfl,p1,?_,?_⟩
              · rw [HK.out];exact ⟨s5,c5,rfl,R9.out.keep p2 zo⟩
              · rw [HK.out,HKS.out];exact ⟨_,_,_,_,_,_,_,H9.out.keep p2 (fun x (hx:x=9)=>by omega)⟩
end Go.Proofs.YtdhjjpnajjingaaGreat
