import Derived.Test.YtdhjjpnajjingaaGreatKL09
import Derived.Deep.DeepCutAuto
import Derived.Maps.OwnSet
import Derived.Maps.OwnOps
set_option linter.unusedVariables false
set_option linter.unnecessarySimpa false
set_option linter.unusedSimpArgs false
open Bool renaming true→zT,false→zU
open Go.Value renaming int→zI
open Go.IntKind renaming i64→z6
set_option maxHeartbeats 8000000
set_option maxRecDepth 100000
open Go.Proofs.Tryz
open Go.Lib renaming hid→zH
open Go.Ext renaming alloc→zA,patch→zP,drew→zD,drewN→zN,more→zM,refl→zR,setCell→zS
open Nat renaming le_refl→zL,le_add_right→zK
namespace Go.Proofs.YtdhjjpnajjingaaGreat
open Go Go.RowKit
def forceS (S:SpaceS):SpaceS:={ S.tick with forced:=true }
def turnS (S:SpaceS):SpaceS:={ S.tick with coil:=S.coil.turn }
def doneS (S:SpaceS):SpaceS:={ S.tick with coil:=S.coil.done }
def wantsS (S:SpaceS):Bool:=decide (0<Ent.wait S.line) || (decide ((S.pool.free:Int)<S.c.low) || S.forced)
theorem ygn (g:GW) (B b bt:Nat) (S:SpaceS) (h:SpaceAt g B b bt S) (hB:100≤B) (hc:0≤S.count∧S.count≤1099511627776):
 Calls prog 18 #[.pointer (some ⟨b,0,none⟩)] g.w (Does (.tuple #[]) g (inst B) (fun g'=>SpaceAt g' B b bt (forceS S))):=by
 obtain ⟨bp,bk,bl,A,cs,cm,bs,h⟩:=h;obtain ⟨hc0,hc1⟩:=hc;have H0:=zH (show SpaceIn ⟨g.own,(g.w.setCell ⟨b,3,none⟩ (zI z6 (S.count+1))).setCell ⟨b,2,none⟩ (.bool true)⟩ B b bt { S.tick with forced:=true } bp bk bl A cs cm bs from h.tick.force true);have M0:=zH (show Mod (inst B) g ⟨g.own,(g.w.setCell ⟨b,3,none⟩ (zI z6 (S.count+1))).setCell ⟨b,2,none⟩ (.bool true)⟩ from Mod.st (Mod.set (by rw [h.blk.own];exact ⟨zo,zo⟩)) (by rw [h.blk.own];exact ⟨zo,zo⟩));obtain ⟨a0,a1,a2,a3,a4,a5,a6,a7,a8,a9,a10,a11,a12,a13,a14,a15,al⟩:=h.blk.k16;have af2:=h.blk.liv 2;have af3:=h.blk.liv 3;clear h;go_enter func18,ntmps18;go_wp2_with fail;exact bodyPost_end (results_none rfl _ _ _) rfl (Does.of ⟨g.own,_⟩ rfl rfl M0.out ⟨_,_,_,_,_,_,_,H0.out⟩)
theorem yh0 (g:GW) (B b bt:Nat) (S:SpaceS) (h:SpaceAt g B b bt S) (hB:100≤B) (hc:0≤S.count∧S.count≤1099511627776):
 Calls prog 98 #[.pointer (some ⟨b,0,none⟩)] g.w (Does (.bool S.coil.turnable) g (inst B) (fun g'=>SpaceAt g' B b bt (turnS S))):=by
 obtain ⟨bp,bk,bl,A,cs,cm,bs,h⟩:=h;obtain ⟨hc0,hc1⟩:=hc;have M0:=zH (show Mod (inst B) g ⟨g.own,g.w.setCell ⟨b,3,none⟩ (zI z6 (S.count+1))⟩ from Mod.set (by rw [h.blk.own];exact ⟨zo,zo⟩));have H0:=zH (show SpaceIn ⟨g.own,g.w.setCell ⟨b,3,none⟩ (zI z6 (S.count+1))⟩ B b bt S.tick bp bk bl A cs cm bs from h.tick);obtain ⟨a0,a1,a2,a3,a4,a5,a6,a7,a8,a9,a10,a11,a12,a13,a14,a15,al⟩:=h.blk.k16;have af3:=h.blk.liv 3;clear h;go_enter func98,ntmps98;go_wp2_with fail;refine (yiv ⟨g.own,_⟩ (B+2) bk S.coil H0.out.coil).mono ?_;rintro e w1 ⟨rfl,own1,m1,l1⟩;have M1:=zH (M0.out.trans (m1.mono (fun x (hx:x=B+2)=>(⟨zo,zo⟩:inst B x))));have H1:=zH (H0.out.withCoil m1 l1);clear m1 l1;go_wp2_with fail;go_ret;exact Does.of ⟨own1,w1⟩ rfl rfl M1.out ⟨_,_,_,_,_,_,_,H1.out⟩
theorem yhZ (g:GW) (B b bt:Nat) (S:SpaceS) (h:SpaceAt g B b bt S) (hB:100≤B) (hc:0≤S.count∧S.count≤1099511627776) (hk:S.coil.kept≤0):
 Calls prog 106 #[.pointer (some ⟨b,0,none⟩)] g.w (Does (.bool true) g (inst B) (fun g'=>SpaceAt g' B b bt (doneS S))):=by
 obtain ⟨bp,bk,bl,A,cs,cm,bs,h⟩:=h;obtain ⟨hc0,hc1⟩:=hc;have M0:=zH (show Mod (inst B) g ⟨g.own,g.w.setCell ⟨b,3,none⟩ (zI z6 (S.count+1))⟩ from Mod.set (by rw [h.blk.own];exact ⟨zo,zo⟩));have H0:=zH (show SpaceIn ⟨g.own,g.w.setCell ⟨b,3,none⟩ (zI z6 (S.count+1))⟩ B b bt S.tick bp bk bl A cs cm bs from h.tick);have HK:=zH hk;obtain ⟨a0,a1,a2,a3,a4,a5,a6,a7,a8,a9,a10,a11,a12,a13,a14,a15,al⟩:=h.blk.k16;have af3:=h.blk.liv 3;clear h hk;go_enter func106,ntmps106;go_wp2_with fail;refine (yis ⟨g.own,_⟩ (B+2) bk S.coil H0.out.coil HK.out).mono ?_;rintro e w1 ⟨rfl,own1,m1,l1⟩;have M1:=zH (M0.out.trans (m1.mono (fun x (hx:x=B+2)=>(⟨zo,zo⟩:inst B x))));have H1:=zH (H0.out.withCoil m1 l1);clear m1 l1;go_wp2_with fail;go_ret;exact Does.of ⟨own1,w1⟩ rfl rfl M1.out ⟨_,_,_,_,_,_,_,H1.out⟩
theorem yc8 (g:GW) (B b bt:Nat) (S:SpaceS) (h:SpaceAt g B b bt S) (hB:100≤B) (hc:0≤S.count∧S.count≤1099511627776):
 Calls prog 44 #[.pointer (some ⟨b,0,none⟩)] g.w (Does (.bool (wantsS S)) g (inst B) (fun g'=>SpaceAt g' B b bt S.tick)):=by
 obtain ⟨bp,bk,bl,A,cs,cm,bs,h⟩:=h;obtain ⟨hc0,hc1⟩:=hc;have M0:=zH (show Mod (inst B) g ⟨g.own,g.w.setCell ⟨b,3,none⟩ (zI z6 (S.count+1))⟩ from Mod.set (by rw [h.blk.own];exact ⟨zo,zo⟩));have H0:=zH (show SpaceIn ⟨g.own,g.w.setCell ⟨b,3,none⟩ (zI z6 (S.count+1))⟩ B b bt S.tick bp bk bl A cs cm bs from h.tick);have HV:=zH (show wantsS S=(decide (0<Ent.wait S.line) || (decide ((S.pool.free:Int)<cm.low) || S.forced)) from by unfold wantsS;rw [h.same.low]);have HW:=zH (fun X=>ydk ((⟨g.own,g.w.setCell ⟨b,3,none⟩ (zI z6 (S.count+1))⟩:GW).pt X) (B+3) cm bp bk bl _ (H0.out.line.keep (Mod.pt (Mod.refl (fun _=>False) _) X) id id));have HR:=zH (fun X=>yd2 ((⟨g.own,g.w.setCell ⟨b,3,none⟩ (zI z6 (S.count+1))⟩:GW).pt X) (B+1) cm bp bk bl S.pool (H0.out.pool.keep (Mod.pt (Mod.refl (fun _=>False) _) X) id));rw [show S.tick.line=S.line from rfl] at HW;have c3:=h.blk.cell (i:=3) rfl;have f3:=h.blk.live 3;have hbl:=h.blk.lt;have HB0:=H0.out.blk;rw [show S.tick.forced=S.forced from rfl] at HB0;obtain ⟨a0,a1,a2,a3,a4,a5,a6,a7,a8,a9,a10,a11,a12,a13,a14,a15,al⟩:=HB0.k16;unfold shelves at HW HR;clear h HB0;generalize S.pool.free=fr at *;generalize Ent.wait S.line=wt at *
 generalize S.forced=fo at *;by_cases hw:0<wt
 · have d1:decide (0<wt)=true:=decide_eq_true hw;have HV2:=zH (show wantsS S=true from by rw [HV.out,decide_eq_true hw,Bool.true_or]);clear hw;go_enter func44,ntmps44;go_wp2_with fail;refine yab [zT,zT,zT,zT,zT,zT,zT,zT,zT,zT,zT,zT,zT,zT,zT,zT,zT,zT,zT,zT,zT,zT,zT,zT,zT,zT,zT] 0 27 ?_;intro X00;simp only [pickOps];repeat (go_big_quiet_step (first|(go_at_call 58;exact Calls.added (HW.out _))|(go_at_call 16;exact Calls.added (HR.out _))))
   refine wpQuiet_nil (fun X0=>?_);clear X00;refine yaa zQ (fun X0'=>?_) _;go_wp2_with fail;go_ret;exact Does.ext ⟨g.own,_⟩ zE (by rw [HV2.out];try rfl) M0.out (fun g2 m=>⟨_,_,_,_,_,_,_,H0.out.keep m (fun x hx=>hx.elim)⟩)
 · have d1:decide (0<wt)=false:=decide_eq_false hw;by_cases hl:(fr:Int)<cm.low
   · have d2:decide ((fr:Int)<cm.low)=true:=decide_eq_true hl;have HV2:=zH (show wantsS S=true from by rw [HV.out,decide_eq_true hl];simp);clear hw hl;go_enter func44,ntmps44;go_wp2_with fail;refine yab [zT,zT,zT,zT,zT,zT,zT,zT,zT,zT,zT,zT,zT,zT,zT,zT,zT,zT,zT,zT,zT,zT,zT,zT,zT,zT,zT] 0 27 ?_;intro X00;simp only [pickOps];repeat (go_big_quiet_step (first|(go_at_call 58;exact Calls.added (HW.out _))|(go_at_call 16;exact Calls.added (HR.out _))))
     refine wpQuiet_nil (fun X0=>?_);clear X00;refine yaa zQ (fun X0'=>?_) _;go_wp2_with fail;go_ret;exact Does.ext ⟨g.own,_⟩ zE (by rw [HV2.out];try rfl) M0.out (fun g2 m=>⟨_,_,_,_,_,_,_,H0.out.keep m (fun x hx=>hx.elim)⟩)
   · have d2:decide ((fr:Int)<cm.low)=false:=decide_eq_false hl;have HV2:=zH (show wantsS S=fo from by rw [HV.out,decide_eq_false hl,decide_eq_false hw];simp);clear hw hl;go_enter func44,ntmps44;go_wp2_with fail;refine yab [zT,zT,zT,zT,zT,zT,zT,zT,zT,zT,zT,zT,zT,zT,zT,zT,zT,zT,zT,zT,zT,zT,zT,zT,zT,zT,zT] 0 27 ?_;intro X00;simp only [pickOps];repeat (go_big_quiet_step (first|(go_at_call 58;exact Calls.added (HW.out _))|(go_at_call 16;exact Calls.added (HR.out _))))
     refine wpQuiet_nil (fun X0=>?_);clear X00;refine yaa zQ (fun X0'=>?_) _;go_wp2_with fail;go_ret;exact Does.ext ⟨g.own,_⟩ zE (by rw [HV2.out];try rfl) M0.out (fun g2 m=>⟨_,_,_,_,_,_,_,H0.out.keep m (fun x hx=>hx.elim)⟩)
end Go.Proofs.YtdhjjpnajjingaaGreat
namespace Go
section
variable {P:Program} {ops:Array Oper} {Q:Exit→Act→World→Prop} {md:Region.Mode} {w0:World}
def moveOf (ops:Array Oper) (i:Nat):Option (Option Tmp × Operand):=match ops[i]? with
 |some o=>match o.op,o.guard with
  |.move x,none=>some (o.dst,x)
  |_,_=>none
 |none=>none
def movesOk (md:Region.Mode) (ops:Array Oper):List Nat→Array Bool→Bool
 |[],_=>true
 |i::E,l=>(moveOf ops i).isSome&&(Region.ready md ops l).contains i&&Region.free md ops l i&&movesOk md ops E (l.setIfInBounds i true)
def movesAct (ops:Array Oper):List Nat→Act→Act
 |[],a=>a
 |i::E,a=>match moveOf ops i with
  |some (d,x)=>movesAct ops E (a.put d (a.eval x))
  |none=>movesAct ops E a
def movesList:List Nat→Array Bool→Array Bool
 |[],l=>l
 |i::E,l=>movesList E (l.setIfInBounds i true)
theorem ygb {i:Nat} {d:Option Tmp} {x:Operand} (h:moveOf ops i=some (d,x)): ∃o,ops[i]?=some o∧o.op=.move x∧o.guard=none∧o.dst=d:=by
 unfold moveOf at h;split at h
 · rename_i o ho
   split at h
   · rename_i y h1 h2
     simp only [Option.some.injEq,Prod.mk.injEq] at h;obtain ⟨rfl,rfl⟩:=h;exact ⟨o,ho,h1,h2,rfl⟩
   · cases h
 · cases h
theorem ygy {o:Oper} {x:Operand} {a:Act} (h1:o.op=.move x) (h2:o.guard=none):Yields P ops o (a.eval x) a:=by
 unfold Yields;refine Or.inl ⟨by simp [Region.wanted,h2],fun w=>?_⟩;unfold execOp;rw [h1];rfl
theorem ydb (hs:Region.noSelect ops=true) (hQ: ∀(c:List PanicEntry) (a:Act) (d:Option Tmp) (v:Value) (w:World),Q (.panic c) (a.put d v) w→Q (.panic c) a w): ∀(E:List Nat) (fuel:Nat) (listed:Array Bool) (a:Act) (w:World),movesOk md ops E listed=true→
 wpAny P md ops Q fuel (movesList E listed) (movesAct ops E a) w→wpAny P md ops Q (fuel+E.length) listed a w
 |[],_,_,_,_,_,h=>h
 |i::E,fuel,listed,a,w,hm,h=>by
  simp only [movesOk,Bool.and_eq_true] at hm;obtain ⟨⟨⟨h1,h2⟩,h3⟩,h4⟩:=hm;obtain ⟨⟨d,x⟩,hx⟩:=Option.isSome_iff_exists.1 h1;obtain ⟨o,ho,hop,hg,rfl⟩:=ygb hx;simp only [movesAct,hx,movesList] at h;exact wpAny_take (v:=a.eval x) ho hs h3 h2 (fun c a w h=>hQ c a _ _ w h) (ygy hop hg) (ydb hs hQ E fuel _ _ w h4 h)
def Region.sinkE (md:Region.Mode) (ops:Array Oper) (E:List Nat) (n:Nat):Bool:=
 (List.range n).all fun i=>E.contains i || (List.range (n+1)).any fun j=>decide (i<j)&&Region.waitsFor md ops j i
def Region.treeB (md:Region.Mode) (ops:Array Oper) (L:Nat):Bool:=(List.range ops.size).all fun t=>decide (t≤L) || (List.range t).any fun s=>decide (L≤s)&&Region.waitsFor md ops t s
def Region.lastE (md:Region.Mode) (ops:Array Oper) (E:List Nat) (L:Nat):Bool:=Region.sinkE md ops E L&&Region.treeB md ops L&&decide (L<ops.size)
theorem yf9 {L:Nat} {listed:Array Bool} (hc:Closed md ops listed) (hC:Region.treeB md ops L=true): ∀(d t:Nat),t-L=d→L≤t→listed.getD t false=true→listed.getD L false=true:=by
 intro d;induction d using Nat.strongRecOn with
 |_ d ih=>
  intro t hd hL hl;by_cases htL:t=L
  · rw [←htL];exact hl
  · have htlt:t<ops.size:=by
     rw [←hc.1];rcases Nat.lt_or_ge t listed.size with h|h
     · exact h
     · simp [Array.getElem?_eq_none h] at hl
    have h1:=List.all_eq_true.1 hC t (List.mem_range.2 htlt);simp only [Bool.or_eq_true,decide_eq_true_eq] at h1;rcases h1 with h1|h1
    · omega
    · obtain ⟨s,hs,hs2⟩:=List.any_eq_true.1 h1;simp only [Bool.and_eq_true,decide_eq_true_eq] at hs2;obtain ⟨oj,hoj,e,he,hb,hon⟩:=Region.waitsFor_spec hs2.2;have h2:=hc.2 t oj hoj hl e he hb;rw [hon] at h2;have h3:=List.mem_range.1 hs;exact ih (s-L) zo s rfl hs2.1 h2
theorem yip {L:Nat} {E:List Nat} {listed:Array Bool} (hc:Closed md ops listed) (hs:Region.sinkE md ops E L=true) (hE: ∀i,E.contains i=true→listed.getD i false=true) (hL: ∀oj,ops[L]?=some oj→ ∀e∈oj.after,Region.binds md e=true→listed.getD e.on false=true): ∀(d i:Nat),L-i=d→i<L→listed.getD i false=true:=by
 intro d;induction d using Nat.strongRecOn with
 |_ d ih=>
  intro i hd hi;have h1:=List.all_eq_true.1 hs i (List.mem_range.2 hi);rw [Bool.or_eq_true] at h1;rcases h1 with h1|h1
  · exact hE i h1
  · obtain ⟨j,hj,hj2⟩:=List.any_eq_true.1 h1;simp only [Bool.and_eq_true,decide_eq_true_eq] at hj2;obtain ⟨oj,hoj,e,he,hb,hon⟩:=Region.waitsFor_spec hj2.2;have hjle:j≤L:=by have:=List.mem_range.1 hj;omega
    rw [←hon];by_cases hjL:j=L
    · subst hjL;exact hL oj hoj e he hb
    · exact hc.2 j oj hoj (ih (L-j) zo j rfl zo) e he hb
theorem yf7 {L:Nat} {E:List Nat} (hL:Region.lastE md ops E L=true) {listed:Array Bool} (hc:Closed md ops listed) (hE: ∀i,E.contains i=true→listed.getD i false=true) {i:Nat} (hi:i∈Region.ready md ops listed) (hne:i<L): ∀j∈Region.ready md ops listed,j<L:=by
 intro j hr;simp only [Region.lastE,Bool.and_eq_true,decide_eq_true_eq] at hL;obtain ⟨⟨hs,hC⟩,hz⟩:=hL;obtain ⟨hun, -⟩:=mem_ready.1 hi;refine Nat.lt_of_not_le fun hLj=>?_;obtain ⟨hjun,oj,hoj,hall⟩:=mem_ready.1 hr
 have hbelow:listed.getD i false=true:=by
  by_cases hjL:j=L
  · subst hjL;exact yip hc hs hE (fun o ho e he hb=>by rw [hoj] at ho;injection ho with ho;subst ho;exact hall e he hb) _ i rfl hne
  · have h1:=List.all_eq_true.1 hC j (List.mem_range.2 (Array.getElem?_eq_some_iff.1 hoj).1);simp only [Bool.or_eq_true,decide_eq_true_eq] at h1;rcases h1 with h1|h1
    · omega
    · obtain ⟨s,hs',hs2⟩:=List.any_eq_true.1 h1;simp only [Bool.and_eq_true,decide_eq_true_eq] at hs2;obtain ⟨oj',hoj',e,he,hb,hon⟩:=Region.waitsFor_spec hs2.2;rw [hoj] at hoj';injection hoj' with hoj';subst hoj';have h2:=hall e he hb;rw [hon] at h2;have h3:=yf9 hc hC _ s rfl hs2.1 h2;exact yip hc hs hE (fun o ho e he hb=>hc.2 L o ho h3 e he hb) _ i rfl hne
 rw [getD_both hun] at hbelow;cases hbelow
theorem ye1 {L:Nat} {E:List Nat} {i:Nat} {oi:Oper} {v:Value} (hLast:Region.lastE md ops E L=true) (hiL:i<L) (hi:ops[i]?=some oi) (hsel: ∀(j:Nat) (o:Oper) cs b,ops[j]?=some o→o.op≠.select cs b)
 (hQ: ∀c a w,Q (.panic c) (a.put oi.dst v) w→Q (.panic c) a w):
 ∀(fuel:Nat) (listed:Array Bool) (a:Act) (w:World),Closed md ops listed→(∀i,E.contains i=true→listed.getD i false=true)→
  (∀j oj,ops[j]?=some oj→j≠i→listed.getD j true=false→(∀e∈oj.after,Region.binds md e=true→e.on≠i)→oi.apart ops oj=true)→
  i∈Region.ready md ops listed→YieldsE P ops w0 oi v a→Ext w0 w→
  wpAnyM P md ops Q w0 L fuel (listed.setIfInBounds i true) (a.put oi.dst v) w→wpAnyM P md ops Q w0 L (fuel+1) listed a w:=by
 intro fuel;induction fuel with
 |zero=>
  intro listed a w hcl _ _ hr hy hS H w1 hw1;refine ⟨fun h=>(by rw [h] at hr;cases hr),fun j hj=>?_⟩;by_cases hji:j=i
  · subst hji;exact ⟨fun _=>hy.wpOp hi (hS.trans hw1) (fun w' hw'=>⟨(hS.trans hw1).trans hw',H.ext (hw1.trans hw')⟩),fun h=>by omega⟩
  · have:=ready_mono hj hji;rw [H.1] at this;cases this
 |succ fuel ih=>
  intro listed a w hcl hEl hfree hr hy hS H w1 hw1;refine ⟨fun h=>(by rw [h] at hr;cases hr),fun j hj=>?_⟩;have hjL:j<L:=yf7 hLast hcl hEl hr hiL j hj;refine ⟨fun _=>?_,fun h=>by omega⟩;by_cases hji:j=i
  · subst hji;exact hy.wpOp hi (hS.trans hw1) (fun w' hw'=>⟨(hS.trans hw1).trans hw',H.ext (hw1.trans hw')⟩)
  · have h1:=((H w1 hw1).2 j (ready_mono hj hji)).1 hjL;obtain ⟨hjun,oj,hoj,hall⟩:=mem_ready.1 hj
    have hnot: ∀e∈oj.after,Region.binds md e=true→e.on≠i:=fun e he hb heq=>by
     have h1:=hall e he hb;have h0:=(mem_ready.1 hr).1;rw [heq] at h1;rcases Nat.lt_or_ge i listed.size with h'|h'
     · simp [h'] at h0 h1;rw [h0] at h1;cases h1
     · simp [Array.getElem?_eq_none h'] at h1
    have h2:=ycR hoj (hfree j oj hoj hji hjun hnot) (fun cs b=>hsel i oi cs b hi) (fun cs b=>hsel j oj cs b hoj) hQ hy h1
    have hfree': ∀k ok,ops[k]?=some ok→k≠i→(listed.setIfInBounds j true).getD k true=false→
     (∀e∈ok.after,Region.binds md e=true→e.on≠i)→oi.apart ops ok=true:=fun k ok hk hki hun hno=>by
     refine hfree k ok hk hki ?_ hno;by_cases hjk:j=k
     · subst hjk;exact hjun
     · rw [getD_set_ne true hjk] at hun;exact hun
    refine wpOp_mono (fun a' w' h3=>⟨h3.2.1,ih (listed.setIfInBounds j true) a' w' (hcl.set hj) (fun k hk=>getD_set_true (hEl k hk)) hfree' (ready_mono hr (Ne.symm hji)) h3.1 h3.2.1 ?_⟩) h2;rw [Array.setIfInBounds_comm _ _ hji];exact h3.2.2
theorem ybj {L:Nat} {E:List Nat} (hLast:Region.lastE md ops E L=true) (hs:Region.noSelect ops=true) (hQ: ∀(c:List PanicEntry) (a:Act) (d:Option Tmp) (v:Value) (w:World),Q (.panic c) (a.put d v) w→Q (.panic c) a w) (n:Nat): ∀(m:List Bool) (l:List Oper) (k:Nat) (listed:Array Bool) (a:Act),Closed md ops listed→(∀i,E.contains i=true→listed.getD i false=true)→(∀j,l[j]?=ops[k+j]?)→m.length≤l.length→
 lexMask md ops m k listed=true→maskBut L m k=true→wpCalm P ops w0 (fun a'=> ∀X,wpAnyM P md ops Q w0 L n (markOps m k listed) a' (w0.patch X)) (pickOps m l) a→
 ∀X,wpAnyM P md ops Q w0 L (n+countB m) listed a (w0.patch X)
 |[],_,_,_,_,_,_,_,_,_,_,h,X=>by
  simp only [pickOps,wpCalm,markOps] at h;exact h X
 |_::_,[],_,_,_,_,_,_,hlen,_,_,_,_=>by simp at hlen
 |false::m,o::l,k,listed,a,hcl,hEl,hl,hlen,hB,hM,h,X=>
  ybj hLast hs hQ n m l (k+1) listed a hcl hEl (fun j=>by have:=hl (j+1);simpa [Nat.add_assoc,Nat.add_comm 1 j] using this) (by simpa using hlen) (by simpa [lexMask] using hB) (by simpa [maskBut] using hM) (by simpa [pickOps,markOps] using h) X
 |true::m,o::l,k,listed,a,hcl,hEl,hl,hlen,hB,hM,h,X=>by
  have h0:ops[k]?=some o:=by simpa using (hl 0).symm
  simp only [lexMask,Bool.and_eq_true] at hB;obtain ⟨⟨hr,hf⟩,hB'⟩:=hB;simp only [maskBut,Bool.and_eq_true,decide_eq_true_eq] at hM;simp only [pickOps,markOps] at h;obtain ⟨v,hy,hK⟩:=yaS h;have hr':k∈Region.ready md ops listed:=by simpa using hr
  refine ye1 hLast hM.1 h0 (Region.noSelect_spec hs) (fun c a w h=>hQ c a _ _ w h) (n+countB m) listed a _ hcl hEl (Region.free_spec h0 hf) hr' hy ⟨X,rfl⟩ ?_;exact ybj hLast hs hQ n m l (k+1) _ _ (hcl.set hr') (fun k hk=>getD_set_true (hEl k hk)) (fun j=>by have:=hl (j+1);simpa [Nat.add_assoc,Nat.add_comm 1 j] using this) (by simpa using hlen) hB' hM.2 hK X
theorem ycr: ∀(E:List Nat) (listed:Array Bool),Closed md ops listed→movesOk md ops E listed=true→Closed md ops (movesList E listed)∧ ∀i,listed.getD i false=true∨E.contains i=true→(movesList E listed).getD i false=true
 |[],listed,hc,_=>⟨hc,fun i h=>by rcases h with h|h;exact h;simp at h⟩
 |i::E,listed,hc,hm=>by
  simp only [movesOk,Bool.and_eq_true] at hm;obtain ⟨⟨⟨h1,h2⟩,h3⟩,h4⟩:=hm;have hr:i∈Region.ready md ops listed:=by simpa using h2
  obtain ⟨c1,c2⟩:=ycr E _ (hc.set hr) h4;refine ⟨c1,fun k hk=>c2 k ?_⟩;rcases hk with hk|hk
  · exact Or.inl (getD_set_true hk)
  · by_cases hki:k=i
    · subst hki;refine Or.inl ?_;obtain ⟨_,o,ho,_⟩:=mem_ready.1 hr;have hlt:k<listed.size:=by rw [hc.1];exact (Array.getElem?_eq_some_iff.1 ho).1
      simp [hlt]
    · refine Or.inr ?_;simpa [hki] using hk
theorem yb2: ∀(m:List Bool) (k:Nat) (listed:Array Bool),Closed md ops listed→lexMask md ops m k listed=true→Closed md ops (markOps m k listed)
 |[],_,_,hc,_=>hc
 |false::m,k,listed,hc,h=>yb2 m (k+1) listed hc (by simpa [lexMask] using h)
 |true::m,k,listed,hc,h=>by
  simp only [lexMask,Bool.and_eq_true] at h;obtain ⟨⟨hr,hf⟩,hB'⟩:=h;exact yb2 m (k+1) _ (hc.set (by simpa using hr)) hB'
theorem ybX {L:Nat}: ∀(m:List Bool) (k:Nat),k+m.length≤L→maskBut L m k=true
 |[],_,_=>rfl
 |true::m,k,h=>by
  simp only [List.length_cons] at h;simp only [maskBut,Bool.and_eq_true,decide_eq_true_eq];exact ⟨zo,ybX m (k+1) zo⟩
 |false::m,k,h=>by
  simp only [List.length_cons] at h;simp only [maskBut];exact ybX m (k+1) zo
theorem yaJ {Q1 Q2:Act→Prop} (h: ∀a,Q1 a→Q2 a): ∀(l:List Oper) (a:Act),wpCalm P ops w0 Q1 l a→wpCalm P ops w0 Q2 l a
 |[],_,hh=>h _ hh
 |o::rest,a,hh=>by
  unfold wpCalm at hh ⊢;split
  · rename_i hw
    rw [if_pos hw] at hh;obtain ⟨v,h1,h2⟩:=hh;exact ⟨v,h1,yaJ h rest _ h2⟩
  · rename_i hw
    rw [if_neg hw] at hh;exact yaJ h rest _ hh
theorem yid {n:Nat} {listed:Array Bool} {a:Act} {w:World} {l:List Oper} (hc:Closed md l.toArray listed) (hs:Region.noSelect l.toArray=true) (hQ: ∀(c:List PanicEntry) (a:Act) (d:Option Tmp) (v:Value) (w:World),Q (.panic c) (a.put d v) w→Q (.panic c) a w) (m:List Bool) (hlen:m.length≤l.length) (hn:countB m=n) (hB:lexMask md l.toArray m 0 listed=true) (hr:Region.ready md l.toArray (markOps m 0 listed)=[])
 (h: ∀X00:Extra,wpQuiet P l.toArray (fun w'=> ∃X:Extra,w'=w.patch ⟨X00.blocks++X.blocks,X.drawn⟩) (fun a'=> ∀X,Q .normal a' (w.patch X)) (pickOps m l) a):wpAny P md l.toArray Q n listed a w:=by
 subst hn;refine yaR (w0:=w) (L:=l.toArray.size) _ _ _ _ ?_;obtain ⟨X,hX⟩:=Ext.refl w
 have h2:wpCalm P l.toArray w (fun a'=> ∀X,wpAnyM P md l.toArray Q w l.toArray.size 0 (markOps m 0 listed) a' (w.patch X)) (pickOps m l) a:=
  yaJ (fun a' h3 X=>yaa hr (fun Y=>by
   obtain ⟨Z,hZ⟩:=(show Ext w ((w.patch X).patch Y) from Ext.trans ⟨X,rfl⟩ ⟨Y,rfl⟩);rw [hZ];exact h3 Z) 0) _ _ (yaq _ _ h)
 have h4:=ybv (md:=md) (w0:=w) (L:=l.toArray.size) (by simp [Region.lastB]) hs hQ 0 m l 0 listed a hc (by simp) hlen hB (ybX m 0 (by simpa using hlen)) h2 X;rw [←hX] at h4;simpa using h4
theorem ydO {id:Nat} {a:Act} {w:World} {l:List Oper} (m:List Bool) (L:Nat) (o:Oper) (m2:List Bool) (hm:P.follows .mixedOrders=true) (hs:Region.noSelect l.toArray=true) (hLast:Region.lastE .any l.toArray [] L=true) (hQ: ∀(c:List PanicEntry) (a:Act) (d:Option Tmp) (v:Value) (w:World),Q (.panic c) (a.put d v) w→Q (.panic c) a w)
 (hlen:m.length≤l.length) (hlen2:m2.length≤l.length) (hn:countB m2+1+countB m=l.length) (hM:maskBut L m 0=true) (hB:lexMask .any l.toArray m 0 (Array.replicate l.length false)=true)
 (hr:Region.ready .any l.toArray (markOps m 0 (Array.replicate l.length false))=[L]) (ho:l[L]?=some o) (hg:o.guard=none)
 (hB2:lexMask .any l.toArray m2 0 ((markOps m 0 (Array.replicate l.length false)).setIfInBounds L true)=true) (hr2:Region.ready .any l.toArray (markOps m2 0 ((markOps m 0 (Array.replicate l.length false)).setIfInBounds L true))=[])
 (h: ∀X00:Extra,wpQuiet P l.toArray (fun w'=> ∃X:Extra,w'=w.patch ⟨X00.blocks++X.blocks,X.drawn⟩) (fun a'=> ∀X, ∀K:Act→World→Prop, ∀Q':Exit→Act→World→Prop,
  (∀a2 w2,(∀X02:Extra,wpQuiet P l.toArray (fun w'=> ∃X:Extra,w'=w2.patch ⟨X02.blocks++X.blocks,X.drawn⟩) (fun a3=> ∀Y,Q .normal a3 (w2.patch Y)) (pickOps m2 l) a2)→K a2 w2)→o.wp P a' (w.patch X) K Q') (pickOps m l) a):(Code.region id l.toArray true).wp P Q a w:=by
 have hcl:=yb2 (md:=.any) (ops:=l.toArray) m 0 _ (Closed.start l.length (by simp)) hB;have hcl2:=hcl.set (i:=L) (by rw [hr];exact List.mem_singleton.2 rfl);obtain ⟨X,hX⟩:=Ext.drew (Ext.refl w)
 have h2:wpCalm P l.toArray w (fun a'=> ∀X,wpAnyM P .any l.toArray Q w L (countB m2+1) (markOps m 0 (Array.replicate l.length false)) a' (w.patch X)) (pickOps m l) a:=by
  refine yaJ (fun a' h3 X=>?_) _ _ (yaq _ _ h);rintro w1 ⟨Y,rfl⟩;refine ⟨fun h0=>(by rw [hr] at h0;cases h0),fun j hj=>?_⟩;rw [hr] at hj;simp only [List.mem_singleton] at hj;subst hj;refine ⟨fun h0=>by omega,fun _=>?_⟩;obtain ⟨Z,hZ⟩:=(show Ext w ((w.patch X).patch Y) from Ext.trans ⟨X,rfl⟩ ⟨Y,rfl⟩);rw [hZ];have ho':l.toArray[j]?=some o:=by simpa using ho
  unfold wpOp;simp only [ho',Region.wanted,hg,if_true];exact .inl (h3 Z _ Q fun a2 w2 h4=>yid hcl2 hs hQ m2 hlen2 rfl hB2 hr2 h4)
 have h5:=ybj (md:=.any) hLast hs hQ (countB m2+1) m l 0 (Array.replicate l.length false) a (Closed.start _ (by simp)) (fun i hi=>by simp at hi) (by simp) hlen hB hM h2 X;rw [←hX] at h5;refine wp_region_any hm ?_;have h6:=yaR (w0:=w) (L:=L) _ _ _ _ h5;simpa [hn] using h6
theorem yaB {id:Nat} {a:Act} {w:World} {l:List Oper} (m:List Bool) (L:Nat) (m2:List Bool) {o:Oper}
 (h: ∀X00:Extra,wpQuiet P l.toArray (fun w'=> ∃X:Extra,w'=w.patch ⟨X00.blocks++X.blocks,X.drawn⟩) (fun a'=> ∀X, ∀K:Act→World→Prop, ∀Q':Exit→Act→World→Prop,
  (∀a2 w2,(∀X02:Extra,wpQuiet P l.toArray (fun w'=> ∃X:Extra,w'=w2.patch ⟨X02.blocks++X.blocks,X.drawn⟩) (fun a3=> ∀Y,Q .normal a3 (w2.patch Y)) (pickOps m2 l) a2)→K a2 w2)→o.wp P a' (w.patch X) K Q') (pickOps m l) a)
 (ho:l[L]?=some o:=by exact rfl) (hg:o.guard=none:=by exact rfl) (hm:P.follows .mixedOrders=true:=by kernel_rfl) (hs:Region.noSelect l.toArray=true:=by kernel_rfl) (hLast:Region.lastE .any l.toArray [] L=true:=by kernel_rfl)
 (hQ: ∀(c:List PanicEntry) (a:Act) (d:Option Tmp) (v:Value) (w:World),Q (.panic c) (a.put d v) w→Q (.panic c) a w:=by (intro c a d v w h;cases d<;>exact h))
 (hlen:m.length≤l.length:=by decide) (hlen2:m2.length≤l.length:=by decide) (hn:countB m2+1+countB m=l.length:=by decide) (hM:maskBut L m 0=true:=by decide) (hB:lexMask .any l.toArray m 0 (Array.replicate l.length false)=true:=by kernel_rfl)
 (hr:Region.ready .any l.toArray (markOps m 0 (Array.replicate l.length false))=[L]:=by kernel_rfl)
 (hB2:lexMask .any l.toArray m2 0 ((markOps m 0 (Array.replicate l.length false)).setIfInBounds L true)=true:=by kernel_rfl) (hr2:Region.ready .any l.toArray (markOps m2 0 ((markOps m 0 (Array.replicate l.length false)).setIfInBounds L true))=[]:=by kernel_rfl):(Code.region id l.toArray true).wp P Q a w:=
 ydO m L o m2 hm hs hLast hQ hlen hlen2 hn hM hB hr ho hg hB2 hr2 h
end
end Go
namespace Go.Proofs.YtdhjjpnajjingaaGreat
open Go Go.RowKit
structure HaulS where
 c:Cnf
 frm:Int
 fin:Int
 sense:Bool
 pc:Int
 k:Int
 dst:Int
 head:Int
 d:Int
 j:Int
 wp:Nat
 wq:Nat
 e:Int
 moved:Int
 steps:Int
namespace HaulS
def cells (S:HaulS):List Value:=[.int .i64 S.c.frags,.int .i64 S.c.spine,.int .i64 S.c.globals,.int .i64 S.c.threads,.int .i64 S.c.locals,.int .i64 S.c.cache,.int .i64 S.c.stack,.int .i64 S.c.low,.slice S.c.A S.c.shapes.length S.c.cap,
 .int .i64 S.frm,.int .i64 S.fin,.bool S.sense,.int .i64 S.pc,.int .i64 S.k,.int .i64 S.dst,.int .i64 S.head,.int .i64 S.d,.int .i64 S.j,.complex .f64 S.wp S.wq,.int .i64 S.e,.int .i64 S.moved,.int .i64 S.steps]
def fresh (c:Cnf) (frm fin:Int) (sense:Bool):HaulS:=⟨c,frm,fin,sense,0,0,0,0,0,0,0,0,0,0,0⟩
def next (S:HaulS):HaulS:={ S with k:=S.k+(S.d+2),pc:=if S.fin≤S.k+(S.d+2) then 11 else 0 }
end HaulS
structure HaulAt (g:GW) (t b:Nat) (S:HaulS):Prop where
 blk:Blk g t b 214 S.cells
 cnf:CnfAt g (t+1) S.c
theorem HaulAt.keep {T:Nat→Prop} {g g':GW} {t b:Nat} {S:HaulS} (h:HaulAt g t b S) (m:Mod T g g') (h1: ¬T t) (h2: ¬T (t+1)):HaulAt g' t b S:=⟨h.blk.keep m h1,h.cnf.keep m h2⟩
theorem HaulAt.st {g:GW} {t b:Nat} {S:HaulS} (h:HaulAt g t b S) (i:Nat) (v:Value) (S':HaulS) (hc:S'.cells=S.cells.set i v) (hcc:S'.c=S.c):HaulAt ⟨g.own,g.w.setCell ⟨b,i,none⟩ v⟩ t b S':=by
 refine ⟨by rw [hc];exact h.blk.set i v,?_⟩;rw [hcc];exact h.cnf.keep (Mod.set (T:=fun x=>x=t) h.blk.own) zo
theorem yhp (g:GW) (t b:Nat) (S:HaulS) (h:HaulAt g t b S):Calls prog 104 #[.pointer (some ⟨b,0,none⟩)] g.w (fun e w'=>e=.returned (zI z6 S.e)∧g.w=w'):=by
 have c0:=h.blk.cell (i:=19) rfl;have hl:=h.blk.lt;clear h;go_enter func104,ntmps104;go_wp2_with fail;go_ret;exact ⟨rfl,rfl⟩
theorem yhq (g:GW) (t b:Nat) (S:HaulS) (h:HaulAt g t b S):Calls prog 105 #[.pointer (some ⟨b,0,none⟩)] g.w (fun e w'=>e=.returned (zI z6 S.moved)∧g.w=w'):=by
 have c0:=h.blk.cell (i:=20) rfl;have hl:=h.blk.lt;clear h;go_enter func105,ntmps105;go_wp2_with fail;go_ret;exact ⟨rfl,rfl⟩
def HaulMade (c:Cnf) (frm fin:Int) (sense:Bool) (t:Nat) (g:GW) (e:Ending) (w':World):Prop:= ∃own' b cm,e=.returned (.pointer (some ⟨b,0,none⟩))∧Mod (fun _=>False) g ⟨own',w'⟩∧HaulAt ⟨own',w'⟩ t b (HaulS.fresh cm frm fin sense)∧cm.Same c
theorem ykp (c:Cnf) (frm fin:Int) (sense:Bool) (t:Nat) (g:GW) (hc:c.Ok g.w) (hmax:c.shapes.length≤1000000):Calls prog 101 #[c.val,.int .i64 frm,.int .i64 fin,.bool sense] g.w (HaulMade c frm fin sense t g):=by
 have HC:=zH (ybC c (t+1) (g.to 9 (g.w.alloc (.cells #[.int .i64 c.frags,.int .i64 c.spine,.int .i64 c.globals,.int .i64 c.threads,.int .i64 c.locals,.int .i64 c.cache,.int .i64 c.stack,.int .i64 c.low,.slice c.A c.shapes.length c.cap] 34))) (hc.ext zE) hmax);have HE0:=zH (Mod.ext (T:=fun _=>False) (g:=g) (show Ext g.w (g.w.alloc (.cells #[.int .i64 c.frags,.int .i64 c.spine,.int .i64 c.globals,.int .i64 c.threads,.int .i64 c.locals,.int .i64 c.cache,.int .i64 c.stack,.int .i64 c.low,.slice c.A c.shapes.length c.cap] 34)) from zE) 9);unfold Cnf.val at HC ⊢;clear hc;go_enter func101,ntmps101;go_wp2_with fail;refine HC.out.mono ?_;rintro e w1 ⟨cm,rfl,hs,hm,hE⟩;have HS:=zH hs;have HM:=zH hm;have HE1:=zH (Mod.ext (T:=fun _=>False) (g:=g.to 9 (g.w.alloc (.cells #[.int .i64 c.frags,.int .i64 c.spine,.int .i64 c.globals,.int .i64 c.threads,.int .i64 c.locals,.int .i64 c.cache,.int .i64 c.stack,.int .i64 c.low,.slice c.A c.shapes.length c.cap] 34))) hE (t+1));clear hs hm hE;unfold Cnf.val;go_wp2_with fail;go_ret
 have m2:Mod (fun _=>False) ((g.to 9 (g.w.alloc (.cells #[.int .i64 c.frags,.int .i64 c.spine,.int .i64 c.globals,.int .i64 c.threads,.int .i64 c.locals,.int .i64 c.cache,.int .i64 c.stack,.int .i64 c.low,.slice c.A c.shapes.length c.cap] 34))).to (t+1) w1) _:=Mod.ext (T:=fun _=>False) (show Ext w1 (w1.alloc (.cells (HaulS.fresh cm frm fin sense).cells.toArray 214)) from zE) t;exact ⟨_,w1.heap.size,cm,rfl,(HE0.out.trans HE1.out).trans m2,⟨Blk.new ((g.to 9 (g.w.alloc (.cells #[.int .i64 c.frags,.int .i64 c.spine,.int .i64 c.globals,.int .i64 c.threads,.int .i64 c.locals,.int .i64 c.cache,.int .i64 c.stack,.int .i64 c.low,.slice c.A c.shapes.length c.cap] 34))).to (t+1) w1) t 214 (HaulS.fresh cm frm fin sense).cells,HM.out.keep m2 id⟩,HS.out⟩
end Go.Proofs.YtdhjjpnajjingaaGreat
namespace Go
theorem ye2 {P:Program} {a:Act} {w:World} {Q:Exit→Act→World→Prop} {c R:Code} (l:Nat) (J:Act→World→Prop) (μ:Act→World→Nat) (hf:findLabel c l=some (Code.skip.seq R))
 (pass: ∀a w,J a w→R.wp P (Exit.jump l (fun a' w'=>J a' w'∧μ a' w'<μ a w) Q) a w)
 (first:(∀a w,J a w→R.wp P (Exit.jump l J Q) a w)→c.wp P (Exit.jump l J Q) a w):(Code.scope c).wp P Q a w:=by
 refine wp_scope_jumps l J μ hf (first fun a w h=>wp_mono (pass a w h) fun e _ _ hq=>?_) fun a w h=>?_
 · cases e<;>first|exact hq|exact ⟨hq.1,hq.2.1⟩
 · exact wp_seq (wp_skip (pass a w h))
section
variable {P:Program} {a:Act} {w:World} {Q:Exit→Act→World→Prop}
end
end Go
namespace Go
def Exit.via (P:Program) (Q:Exit→Act→World→Prop):List (Nat × Code)→Exit→Act→World→Prop
 |[],.goto _,_,_=>False
 |(l',r)::L,.goto l,a,w=>(l=l'∧r.wp P (Exit.via P Q L) a w)∨Exit.via P Q L (.goto l) a w
 |_,e,a,w=>Q e a w
section
variable {P:Program} {a:Act} {w:World} {Q:Exit→Act→World→Prop}
theorem Exit.via_ret {L:List (Nat × Code)}:Exit.via P Q L .ret a w=Q .ret a w:=by cases L<;>rfl
theorem Exit.via_normal {L:List (Nat × Code)}:Exit.via P Q L .normal a w=Q .normal a w:=by cases L<;>rfl
theorem yat {l:Nat} {r:Code} {L:List (Nat × Code)} (h:r.wp P (Exit.via P Q L) a w):Exit.via P Q ((l,r)::L) (.goto l) a w:=Or.inl ⟨rfl,h⟩
theorem ybh {l l':Nat} {r:Code} {L:List (Nat × Code)} (h:Exit.via P Q L (.goto l) a w):Exit.via P Q ((l',r)::L) (.goto l) a w:=Or.inr h
theorem yfK {l:Nat}: ∀{L:List (Nat × Code)},Exit.via P Q L (.goto l) a w→ ∃r L',(l,r)∈L∧L'.length<L.length∧(∀x∈L',x∈L)∧r.wp P (Exit.via P Q L') a w
 |[],h=>h.elim
 |(l',r)::L,h=>by
  rcases h with ⟨rfl,h⟩|h
  · exact ⟨r,L,List.mem_cons_self,Nat.lt_succ_self _,fun x hx=>List.mem_cons_of_mem _ hx,h⟩
  · obtain ⟨r2,L2,h1,h2,h3,h4⟩:=yfK h;exact ⟨r2,L2,List.mem_cons_of_mem _ h1,Nat.lt_succ_of_lt h2,fun x hx=>List.mem_cons_of_mem _ (h3 x hx),h4⟩
theorem ya9 {c:Code} (L:List (Nat × Code)) (hL: ∀p∈L,findLabel c p.1=some p.2) (first:c.wp P (Exit.via P Q L) a w):(Code.scope c).wp P Q a w:=by
 intro b k cs
 have key: ∀(n:Nat) (L:List (Nat × Code)),L.length=n→(∀p∈L,findLabel c p.1=some p.2)→ ∀(r:Code) (a:Act) (w:World),r.wp P (Exit.via P Q L) a w→ ∃e a' w',Q e a' w'∧Arrives P (lone (b.at a (.code r::.inScope c::k)) cs w) b k cs e a' w':=by
  intro n;induction n using Nat.strongRecOn with
  |_ n ih=>
   intro L hn hL r a w h;obtain ⟨e,a₁,w₁,hq,harr⟩:=h b (.inScope c::k) cs;cases e with
   |normal=>exact ⟨.normal,a₁,w₁,by cases L<;>exact hq,Steps.trans harr (.one step_inScope)⟩
   |exit id=>exact ⟨.exit id,a₁,w₁,by cases L<;>exact hq,fun k' hk=>harr k' (by simp [exitTo,hk])⟩
   |goto l'=>
    obtain ⟨r2,L2,h1,h2,h3,h4⟩:=yfK hq;have hg:gotoIn l' (.inScope c::k)=some (.code r2::.inScope c::k):=by simp [gotoIn,hL _ h1]
    obtain ⟨e₂,a₂,w₂,hq₂,harr₂⟩:=ih L2.length zo L2 rfl (fun p hp=>hL p (h3 p hp)) r2 a₁ w₁ h4;exact ⟨e₂,a₂,w₂,hq₂,.of_steps (harr _ hg) harr₂⟩
   |ret=>exact ⟨.ret,a₁,w₁,by cases L<;>exact hq,harr⟩
   |panic ch=>exact ⟨.panic ch,a₁,w₁,by cases L<;>exact hq,harr⟩
   |outgrown=>exact ⟨.outgrown,a₁,w₁,by cases L<;>exact hq,harr⟩
 exact let ⟨e,a',w',hq,harr⟩:=key L.length L rfl hL c a w first;⟨e,a',w',hq,.of_steps (.one step_scope) harr⟩
end
end Go
namespace Go
open Go.RowKit Go.Maps
theorem yfl {l:List Int} {k:Nat} (h:k<l.length):l.getD k 0∈l:=by
 rw [List.getD_eq_getElem?_getD,List.getElem?_eq_getElem h];exact List.getElem_mem h
theorem yiI {l:List Int} {k:Nat} (h:k<l.length):l.take (k+1)=l.take k++[l.getD k 0]:=by
 rw [List.take_add_one,List.getElem?_eq_getElem h,List.getD_eq_getElem?_getD,List.getElem?_eq_getElem h];rfl
def keyI (x:Int):Lit:=.int .i64 x
theorem yku (l:List Int): ∀x∈l.map keyI,WideAt.IsKeyLit x:=by
 intro x hx;obtain ⟨y,_,rfl⟩:=List.mem_map.1 hx;trivial
theorem yi4 (x y:Int):(keyI x).sameKey (keyI y)=decide (x=y):=by
 simp [keyI,Lit.sameKey]
def addI (acc:List Int) (x:Int):List Int:=if x∈acc then acc else acc++[x]
theorem yc1: ∀(l acc:List Int),(l.map keyI).foldl addKey (acc.map keyI)=(l.foldl addI acc).map keyI
 |[],_=>rfl
 |x::l,acc=>by
  simp only [List.map_cons,List.foldl_cons]
  have h:addKey (acc.map keyI) (keyI x)=(addI acc x).map keyI:=by
   unfold addKey addI
   have e:((acc.map keyI).any fun y=>y.sameKey (keyI x))=decide (x∈acc):=by
    rw [Bool.eq_iff_iff];simp only [List.any_map,List.any_eq_true,Function.comp,yi4,decide_eq_true_eq];exact ⟨fun ⟨y,hy,e⟩=>e▸hy,fun hx=>⟨x,hx,rfl⟩⟩
   rw [e];by_cases hx:x∈acc<;>simp [hx]
  rw [h,yc1 l]
theorem ybG: ∀(l acc:List Int),(l.foldl addI acc).length≤acc.length+l.length
 |[],_=>by simp
 |x::l,acc=>by
  have:=ybG l (addI acc x);have h2:(addI acc x).length≤acc.length+1:=by unfold addI;split<;>simp
  simp only [List.foldl_cons,List.length_cons];omega
theorem ycB: ∀(l acc:List Int),acc.Nodup→((l.foldl addI acc).length=acc.length+l.length↔(acc++l).Nodup)
 |[],acc,h=>by simp [h]
 |x::l,acc,h=>by
  simp only [List.foldl_cons,List.length_cons];by_cases hx:x∈acc
  · have:=ybG l acc;have e:addI acc x=acc:=by simp [addI,hx]
    rw [e];constructor
    · intro h';omega
    · intro h';rw [List.nodup_append] at h';exact absurd rfl (h'.2.2 x hx x (by simp))
  · have e:addI acc x=acc++[x]:=by simp [addI,hx]
    rw [e]
    have hn:(acc++[x]).Nodup:=by
     rw [List.nodup_append];refine ⟨h,by simp,fun a ha b hb=>?_⟩;simp at hb;subst hb;rintro rfl;exact hx ha
    have:=ycB l (acc++[x]) hn;simp only [List.length_append,List.length_cons,List.length_nil] at this;rw [show acc.length+(l.length+1)=acc.length+(0+1)+l.length by omega,this,List.append_assoc];rfl
def twiceIn (l:List Int):Bool:=decide (¬l.Nodup)
theorem yjI (u:DataW Unit) (l:List Int):decide (Maps.size (setOf u (l.map keyI))<l.length)=twiceIn l:=by
 rw [size_setOf u _ (yku l)];have h:=yc1 l [];simp only [List.map_nil] at h;rw [h,List.length_map,twiceIn];have h1:=ybG l [];have h2:=ycB l [] List.nodup_nil;simp only [List.length_nil,Nat.zero_add,List.nil_append] at h1 h2;rw [decide_eq_decide, ←h2];omega
theorem ylc {H:Type} {w w':World} {P:Program} {k:TypeId} {R:Value→Option (DataW H × List MemPlace)} {b n:Nat} {D:DataW H} (h:w.ownsMap P k R b n D) (he:Ext w w'):w'.ownsMap P k R b n D:=by
 obtain ⟨es,clock,hb,rest⟩:=h;exact ⟨es,clock,(he.heap b (Array.getElem?_eq_some_iff.1 hb).1).trans hb,rest⟩
end Go
namespace Go.Proofs.YtdhjjpnajjingaaGreat
open Go Go.RowKit Go.Maps
def fewTo (l:List Shp) (k:Nat):Bool:=(l.take k).all fun s=>decide (s.refs.length≤1000)
def Few (c:Cnf):Bool:=fewTo c.shapes 100&&decide (c.shapes.length≤100)
def fragOk (c:Cnf) (i:Int):Bool:=decide (c.check=0∧0≤i∧i<c.frags)
def wFrags (c:Cnf) (got:List Int):Value:=if got.all (fragOk c) then .tuple #[.bool false,.bool (twiceIn got)] else .tuple #[.bool true,.bool false]
theorem ymu:Keyed prog 3:=int_keyed Tryz.underlying3
theorem yiH (c:Cnf) (A:Option Addr) (cap:Nat) (got:List Int) (w:World) (hc:c.Ok w) (hg:CellsAt w A (got.map (Value.int .i64))) (hl:got.length≤140737488355328) (hw: ∀x∈got, -9223372036854775808≤x∧x≤9223372036854775807):
 Calls prog 256 #[c.val,.slice A got.length cap] w (Gives (wFrags c got) w):=by
 have hmm:= @run_makeMap prog;have HC:=zH (fun i w' (he:Ext w w')=>ybH c i 0 w' (hc.ext he));unfold Cnf.val at HC ⊢;go_enter func256,ntmps256;go_wp2_with fail;go_loopw [14] (fun i wr=> ∃k:Nat,k≤got.length∧i=.int .i64 k∧(got.take k).all (fragOk c)=true∧wr.ownsMap prog 3 (plainElem (H:=Unit) prog 4) (w.heap.size+1) k (setOf (.lit (.bool true)) ((got.take k).map keyI))∧Ext (w.alloc (.cells #[.int .i64 c.frags,.int .i64 c.spine,.int .i64 c.globals,.int .i64 c.threads,.int .i64 c.locals,.int .i64 c.cache,.int .i64 c.stack,.int .i64 c.low,.slice c.A c.shapes.length c.cap] 34)) wr) (fun i _=>got.length-(intOf i).toNat)
 case atStart=>exact ⟨0,Nat.zero_le _,rfl,rfl,by have:=World.ownsMap_made (H:=Unit) (w.alloc (.cells #[.int .i64 c.frags,.int .i64 c.spine,.int .i64 c.globals,.int .i64 c.threads,.int .i64 c.locals,.int .i64 c.cache,.int .i64 c.stack,.int .i64 c.low,.slice c.A c.shapes.length c.cap] 34)) prog 3 (plainElem (H:=Unit) prog 4);simpa [setOf] using this,zE⟩
 case round=>
  obtain ⟨k,hk,rfl,hs,hown,X,rfl⟩:=hrel;have HS:=zH hs;have HO:=zH hown;clear hs hown hmm;by_cases hlt:k<got.length
  · obtain ⟨b,o,hA,hb,hcell⟩:=ycV hg hlt;rw [hA];have g0:=hcell k hlt;have hwx:=hw _ (yfl hlt);have HT:=zH (yiI hlt);have HN:=zH (show fragOk c (got.getD k 0)=false→got.all (fragOk c)=false from fun h=>List.all_eq_false.2 ⟨got.getD k 0,yfl hlt,by rw [h];decide⟩);generalize got.getD k 0=x at *;clear hA hg hcell hw;cases hx:fragOk c x
    · have HX:=zH (show cFrag c x 0=.tuple #[.int .i64 0,.int .i64 1] from if_neg (fun h=>of_decide_eq_false hx ⟨h.1,h.2.1,h.2.2.1⟩));have HF:=zH (HN.out hx);clear hx;go_wp2_with (go_at_call 214;refine (HC.out _ _ zE).mono ?_;rw [HX.out];rintro e w1 ⟨rfl,X1,rfl⟩);go_ret2;unfold wFrags;rw [HF.out];exact Gives.mk rfl zE
    · have hx':c.check=0∧0≤x∧x<c.frags:=by simpa [fragOk] using hx
      have HX:=zH (show cFrag c x 0=.tuple #[.int .i64 (x*8+0),.int .i64 0] by unfold cFrag;rw [if_pos ⟨hx'.1,hx'.2.1,hx'.2.2,zo,zo⟩]);have HY:=zH (show (got.take (k+1)).all (fragOk c)=true by rw [HT.out,List.all_append,HS.out];simp [hx]);clear hx hx';obtain ⟨hw1,hw2⟩:=hwx
      go_wp2_with (first
       |(go_at_call 214;refine (HC.out _ _ zE).mono ?_;rw [HX.out];rintro e w1 ⟨rfl,X1,rfl⟩)
       |(at_mapUpdate;refine wpList_mapUpdate_own _ rfl _ _ _ 298 rfl 3 4 ymu Tryz.underlying298 _ (w.heap.size+1) k _ rfl (ylc HO.out zE) (by unfold maxLen;omega) _ _ (keyI x) rfl rfl (keyOf_int_mk Tryz.underlying3 (WalkArith.wf_i64 zo)) _ [] (plainElem_bool Tryz.underlying4 true) ?_;intro w1 hown1 hgrow1))
      have HR:=zH (yaK (w:=w.alloc (.cells #[.int .i64 c.frags,.int .i64 c.spine,.int .i64 c.globals,.int .i64 c.threads,.int .i64 c.locals,.int .i64 c.cache,.int .i64 c.stack,.int .i64 c.low,.slice c.A c.shapes.length c.cap] 34)) zE hgrow1 (fun j hj=>by cases hj;simp));go_roundw
      case rel=>exact ⟨k+1,zo,by go_num,HY.out,by rw [HT.out,List.map_append,List.map_cons,List.map_nil,setOf_snoc];exact hown1,HR.out⟩
      case measure=>simp [intOf];omega
  · obtain rfl:k=got.length:=zo;rw [List.take_of_length_le (Nat.le_refl _)] at HS HO;go_wp2_with (at_len;refine wpList_len_own _ rfl _ 298 rfl 3 4 Tryz.underlying298 _ (w.heap.size+1) got.length _ rfl HO.out ?_);go_ret2;unfold wFrags;rw [HS.out];exact Gives.bb rfl (by rw [←yjI (.lit (.bool true))]) zE
open Go Go.RowKit
theorem yiZ:(prog.info? 194).map (fun i=>(i.zero,i.size,i.bytes))=some (some (.agg #[.int .i64 0,.complex .f64 0 0]),2,24):=zQ
theorem yhs (x0 x1 x2 x3 x4 x5 x6 x7:Value) (w:World):
 (Instr.index 254 (.agg #[x0,x1,x2,x3,x4,x5,x6,x7]) (zI z6 ((0:Nat):Int))).run prog w=.ok x0 w∧
 (Instr.index 254 (.agg #[x0,x1,x2,x3,x4,x5,x6,x7]) (zI z6 ((1:Nat):Int))).run prog w=.ok x1 w∧
 (Instr.index 254 (.agg #[x0,x1,x2,x3,x4,x5,x6,x7]) (zI z6 ((2:Nat):Int))).run prog w=.ok x2 w∧
 (Instr.index 254 (.agg #[x0,x1,x2,x3,x4,x5,x6,x7]) (zI z6 ((3:Nat):Int))).run prog w=.ok x3 w∧
 (Instr.index 254 (.agg #[x0,x1,x2,x3,x4,x5,x6,x7]) (zI z6 ((4:Nat):Int))).run prog w=.ok x4 w∧
 (Instr.index 254 (.agg #[x0,x1,x2,x3,x4,x5,x6,x7]) (zI z6 ((5:Nat):Int))).run prog w=.ok x5 w∧
 (Instr.index 254 (.agg #[x0,x1,x2,x3,x4,x5,x6,x7]) (zI z6 ((6:Nat):Int))).run prog w=.ok x6 w∧
 (Instr.index 254 (.agg #[x0,x1,x2,x3,x4,x5,x6,x7]) (zI z6 ((7:Nat):Int))).run prog w=.ok x7 w:=
 ⟨zQ,zQ,zQ,zQ,zQ,zQ,zQ,zQ⟩
theorem ymr (f:Nat→Nat × Nat) (k:Nat) (hk:k<8) (w:World):(Instr.index 254 (.agg #[cx (f 0),cx (f 1),cx (f 2),cx (f 3),cx (f 4),cx (f 5),cx (f 6),cx (f 7)]) (zI z6 k)).run prog w=.ok (cx (f k)) w:=by
 obtain ⟨h0,h1,h2,h3,h4,h5,h6,h7⟩:=yhs (cx (f 0)) (cx (f 1)) (cx (f 2)) (cx (f 3)) (cx (f 4)) (cx (f 5)) (cx (f 6)) (cx (f 7)) w;rcases (show k=0∨k=1∨k=2∨k=3∨k=4∨k=5∨k=6∨k=7 by omega) with rfl|rfl|rfl|rfl|rfl|rfl|rfl|rfl
 · exact h0
 · exact h1
 · exact h2
 · exact h3
 · exact h4
 · exact h5
 · exact h6
 · exact h7
theorem yjC {w0 wr w1 w3:World} {l v':Value} {base m bb:Nat} {T:TypeId} {size:Nat} {xs:List Value} {o:Obj} (HR:wr.ownsRow base T size l m xs) (HX:Ext w0 wr) (HB:wr.heap[bb]?=some o) (HD:l.ownBlock≠some bb) (hg:w1.grownBy w3 l.ownBlock) (he:Ext wr w1) (hb0:w0.heap.size≤base) (hblk:v'.ownBlock=l.ownBlock∨v'.ownBlock=some w1.heap.size):
 Ext w0 w3∧w3.heap[bb]?=some o∧v'.ownBlock≠some bb∧wr.heap.size≤w3.heap.size:=by
 have h1:=he.size;have hb:bb<wr.heap.size:=(Array.getElem?_eq_some_iff.1 HB).1;refine ⟨yaK (HX.trans he) hg (fun k hk=>Nat.le_trans hb0 (HR.lt k hk).1),?_,?_,Nat.le_trans h1 hg.size⟩
 · rw [hg.block bb zo (fun e=>HD e.symm),he.heap bb hb,HB]
 · rcases hblk with h|h
   · rw [h];exact HD
   · rw [h];intro e;injection e with e;omega
def WholeGot (w0:World) (base:Nat) (n:Nat) (xs:List Value) (i:Int) (f:Nat→Nat × Nat) (w:World) (e:Ending) (w':World):Prop:=
 ∃v',e=.returned v'∧w'.ownsRow base 194 2 v' (n+8) (xs++writes i f 8)∧Ext w0 w'∧w.heap.size≤w'.heap.size
theorem ylb (c:Cnf) (v:Value) (n:Nat) (xs:List Value) (i:Int) (f:Nat→Nat × Nat) (w w0:World) (base:Nat) (hc:c.Ok w0) (hi:fragOk c i=true) (he:Ext w0 w) (hb0:w0.heap.size≤base) (hbase:base≤w.heap.size) (hown:w.ownsRow base 194 2 v n xs) (hn:n≤1000000) (hf:c.frags≤1099511627776):
 Calls prog 222 #[c.val,v,.int .i64 i,.agg (cxs f).toArray] w (WholeGot w0 base n xs i f w):=by
 obtain ⟨i0,hi0,hz0,hz1,hz2⟩:=info_parts yiZ;have hi':c.check=0∧0≤i∧i<c.frags:=by simpa [fragOk] using hi
 have HF:=zH (fun (k:Nat) (hk:k<8) w' (he':Ext w0 w')=>show Calls prog 214 #[c.val,.int .i64 i,.int .i64 k] w' (Gives (.tuple #[.int .i64 (i*8+k),.int .i64 0]) w') from (show cFrag c i k=Value.tuple #[.int .i64 (i*8+k),.int .i64 0] by unfold cFrag;rw [if_pos ⟨hi'.1,hi'.2.1,hi'.2.2,zo,zo⟩])▸ybH c i k w' (hc.ext he'));have HE:=zH he;have HO:=zH hown;have hi1:=hi'.2.1;have hi2:i≤1099511627776:=zo;clear hi hi' hown he hc hf;unfold Cnf.val at HF ⊢;rw [show (cxs f).toArray=#[cx (f 0),cx (f 1),cx (f 2),cx (f 3),cx (f 4),cx (f 5),cx (f 6),cx (f 7)] from rfl];unfold cx;go_enter func222,ntmps222;go_wp2_with fail;go_loopw [1,14] (fun l j wr=> ∃k:Nat,k≤8∧j=.int .i64 k∧wr.ownsRow base 194 2 l (n+k) (xs++writes i f k)∧Ext w0 wr∧wr.heap[w.heap.size]?=some (.cells #[.int .i64 c.frags,.int .i64 c.spine,.int .i64 c.globals,.int .i64 c.threads,.int .i64 c.locals,.int .i64 c.cache,.int .i64 c.stack,.int .i64 c.low,.slice c.A c.shapes.length c.cap] 34)∧l.ownBlock≠some w.heap.size∧w.heap.size≤wr.heap.size) (fun _ i _=>8-(intOf i).toNat)
 case atStart=>exact ⟨0,Nat.zero_le _,rfl,by simpa [writes] using ybx HO.out (show Ext w _ from zE),HE.out.trans zE,by rw [World.row_alloc_past _ (by rw [World.size_alloc];omega)];exact World.row_alloc_new _,fun h=>by have:=(HO.out.lt _ h).2;omega,Ext.size zE⟩
 case round=>
  obtain ⟨k,hk,rfl,hrow,hext,hbox,hdis,hsz⟩:=hrel;have HR:=zH hrow;have HX:=zH hext;have HB:=zH hbox;have HD:=zH hdis;by_cases hlt:k<8
  · have hbb:w.heap.size<wr.heap.size:=(Array.getElem?_eq_some_iff.1 hbox).1;have g0:wr.cell? ⟨w.heap.size,0,none⟩=some (zI z6 c.frags):=by simp only [World.cell?,hbox];rfl
    have g1:wr.cell? ⟨w.heap.size,1,none⟩=some (zI z6 c.spine):=by simp only [World.cell?,hbox];rfl
    have g2:wr.cell? ⟨w.heap.size,2,none⟩=some (zI z6 c.globals):=by simp only [World.cell?,hbox];rfl
    have g3:wr.cell? ⟨w.heap.size,3,none⟩=some (zI z6 c.threads):=by simp only [World.cell?,hbox];rfl
    have g4:wr.cell? ⟨w.heap.size,4,none⟩=some (zI z6 c.locals):=by simp only [World.cell?,hbox];rfl
    have g5:wr.cell? ⟨w.heap.size,5,none⟩=some (zI z6 c.cache):=by simp only [World.cell?,hbox];rfl
    have g6:wr.cell? ⟨w.heap.size,6,none⟩=some (zI z6 c.stack):=by simp only [World.cell?,hbox];rfl
    have g7:wr.cell? ⟨w.heap.size,7,none⟩=some (zI z6 c.low):=by simp only [World.cell?,hbox];rfl
    have g8:wr.cell? ⟨w.heap.size,8,none⟩=some (.slice c.A c.shapes.length c.cap):=by simp only [World.cell?,hbox];rfl
    have HS:=zH hsz;have HBA:=zH (Nat.le_trans hbase hsz);clear hbase;clear hrow hext hbox hdis hsz;generalize w.heap.size=bb at *;have hx:=fun w=>ymr f k hlt w;unfold cx at hx;generalize hfk:f k=fk at hx;have HK:=zH hfk;clear hfk;go_wp2_with fail;refine (HF.out k hlt _ HX.out).mono ?_;rintro e w1 ⟨rfl,X1,rfl⟩;go_wp2_with (at_builtin;refine wpList_append_own_at _ rfl (.tmp 25) (.tmp 29) 99 rfl base 194 i0 (.agg #[.int .i64 0,.complex .f64 0 0]) 2 24 Tryz.underlying99 hi0 hz0 hz1 hz2 rfl zd _ (n+k) _ rfl (ybx HR.out (show Ext wr _ from zE)) _ 1 1 [.int .i64 (i*8+k),.complex .f64 fk.1 fk.2] rfl rfl (yca _ _ _) (by intro u hu;simp at hu;rcases hu with rfl|rfl<;>rfl) (by unfold maxLen;omega) zo (Nat.le_trans (HBA.out) (Ext.size (show Ext wr _ from zE))) ?_;intro v' w3 hown3 hgrow3 _ hblk3);obtain ⟨r1,r2,r3,r4⟩:=yjC HR.out HX.out HB.out HD.out hgrow3 (show Ext wr _ from zE) hb0 hblk3;refine ⟨⟨k+1,zo,by go_num,?_,r1,r2,r3,Nat.le_trans HS.out r4⟩,by simp [intOf];omega⟩;rw [writes,HK.out, ←List.append_assoc];exact hown3
  · obtain rfl:k=8:=zo;go_wp2_with fail;go_ret;exact ⟨_,rfl,HR.out,HX.out,hsz⟩
structure ShAt (g:GW) (t b bt tt bp:Nat) (T:TabS) (n:Int):Prop where
 blk:Blk g t b 57 [.pointer (some ⟨bt,0,none⟩),.pointer (some ⟨bp,0,none⟩),.int .i64 n]
 tab:TabAt g tt bt T
theorem ShAt.keep {S:Nat→Prop} {g g':GW} {t b bt tt bp:Nat} {T:TabS} {n:Int} (h:ShAt g t b bt tt bp T n) (m:Mod S g g') (h1: ¬S t) (h2: ¬S tt):ShAt g' t b bt tt bp T n:=⟨h.blk.keep m h1,h.tab.keep m h2⟩
theorem ygi (g:GW) (t b bt tt bp:Nat) (T:TabS) (n i:Int) (s:Bool) (h:ShAt g t b bt tt bp T n) (hn:0≤n∧n≤1099511627776) (ht:t≠tt):
 Calls prog 97 #[.pointer (some ⟨b,0,none⟩),.int .i64 i,.bool s] g.w (Does (.bool (T.head i&&T.black i s)) g (fun x=>x=t) (fun g'=>ShAt g' t b bt tt bp T (n+1))):=by
 have c0:=h.blk.cell (i:=0) rfl;have c2:=h.blk.cell (i:=2) rfl;have f2:=h.blk.live 2;have hl:=h.blk.lt;have M1:=zH (show Mod (fun x=>x=t) g ⟨g.own,g.w.setCell ⟨b,2,none⟩ (zI z6 (n+1))⟩ from Mod.st Mod.self h.blk.own);have H1:=zH (show ShAt ⟨g.own,g.w.setCell ⟨b,2,none⟩ (zI z6 (n+1))⟩ t b bt tt bp T (n+1) from ⟨h.blk.set 2 (zI z6 (n+1)),h.tab.keep (Mod.st (T:=fun x=>x=t) Mod.self h.blk.own) (fun e=>ht e.symm)⟩);have HH:=zH (yfG ⟨g.own,g.w.setCell ⟨b,2,none⟩ (zI z6 (n+1))⟩ tt bt i T H1.out.tab);have HB:=zH (ybT ⟨g.own,g.w.setCell ⟨b,2,none⟩ (zI z6 (n+1))⟩ tt bt i s T H1.out.tab);obtain ⟨hn0,hn1⟩:=hn;clear h ht;cases hh:T.head i
 · rw [hh] at HH;go_enter func97,ntmps97;go_wp2_with fail;refine HH.out.mono ?_;rintro e w1 ⟨rfl,rfl⟩;go_wp2_with fail;go_ret;exact ⟨rfl,g.own,M1.out,H1.out⟩
 · rw [hh] at HH;go_enter func97,ntmps97;go_wp2_with fail;refine HH.out.mono ?_;rintro e w1 ⟨rfl,rfl⟩;go_wp2_with fail;refine HB.out.mono ?_;rintro e w1 ⟨rfl,rfl⟩;go_wp2_with fail;go_ret;exact ⟨by first|rfl|simp,g.own,M1.out,H1.out⟩
theorem yhA (g:GW) (t b bm bs:Nat) (S:HaulS) (h:HaulAt g t b S) (hpc:S.pc=0) (hfin:S.fin=0):
 Calls prog 231 #[.pointer (some ⟨b,0,none⟩),.pointer (some ⟨bm,0,none⟩),.pointer (some ⟨bs,0,none⟩)] g.w (Does (.bool true) g (fun x=>x=t) (fun g'=>HaulAt g' t b { S with pc:=11 })):=by
 have c0:=h.blk.cell (i:=12) rfl;have c1:=h.blk.cell (i:=10) rfl;have f12:=h.blk.live 12;have hl:=h.blk.lt;rw [hpc] at c0;rw [hfin] at c1;have HO:=zH h.blk.own;have H:=zH (h.st 12 (zI z6 11) { S with pc:=11 } rfl rfl);clear h hpc hfin;go_enter func231,ntmps231;go_wp2_with fail;go_step3
 go_wp2_with fail;rw [Exit.noGoto_ret];go_ret;exact ⟨rfl,g.own,Mod.st Mod.self HO.out,H.out⟩
structure CyS where
 stage:Int
 at_:Int
 i:Int
 head:Int
 rescan:Bool
 sense:Bool
 started:Int
 finished:Int
 freed:Int
 moved:Int
 steps:Int
 e:Int
namespace CyS
def cells (Y:CyS) (tp hp:Option Addr):List Value:=[.int .i64 Y.stage,.int .i64 Y.at_,.int .i64 Y.i,.int .i64 Y.head,.bool Y.rescan,.pointer tp,.pointer hp,.bool Y.sense,.int .i64 Y.started,.int .i64 Y.finished,.int .i64 Y.freed,.int .i64 Y.moved,.int .i64 Y.steps,.int .i64 Y.e]
def fresh:CyS:=⟨0,0,0,0,false,false,0,0,0,0,0,0⟩
def enters (Y:CyS) (s:Int):CyS:={ Y with stage:=s,at_:=0,i:=0 }
end CyS
structure CyW where
 y:CyS
 tr:Option TraceS
 h:Option HaulS
 K:CoreS
namespace CyW
def polled (W:CyW):Bool:=W.K.hand.polled W.y.i
def nextI (W:CyW):Int:=if W.polled then W.y.i+1 else W.y.i
def pollsB (W:CyW):Bool:=W.nextI==W.K.c.threads
def polls (W:CyW):CyW:={ W with y:={ W.y with i:=W.nextI },K:={ W.K with hand:=W.K.hand.tick } }
def posts (W:CyW) (s:Int) (flip:Bool):CyW:={ W with K:={ W.K with hand:=W.K.hand.post s flip } }
def atY (W:CyW) (a:Int):CyW:={ W with y:={ W.y with at_:=a } }
def ent (W:CyW) (s:Int):CyW:={ W with y:=W.y.enters s }
def hands (W:CyW) (status stage:Int):CyW:=if W.y.at_=0 then (if W.pollsB then W.polls.atY 2 else W.polls) else (W.posts status false).ent stage
def spc (W:CyW) (S:SpaceS):CyW:={ W with K:={ W.K with sp:=S } }
def starts (W:CyW):CyW:=if W.y.at_=0 then (W.spc (beginS W.K.sp)).atY 2 else
 let V:=W.posts 1 true
 CyW.ent { V with y:={ V.y with started:=V.y.started+1,sense:= !V.y.sense,steps:=0 } } 2
def turns (W:CyW):CyW:=if W.y.at_=0 then (W.spc (turnS W.K.sp)).atY 2 else if W.y.at_=2 then (W.posts 4 false).atY 1 else if W.pollsB then { W.polls.ent 7 with h:=none } else W.polls
def settles (W:CyW):CyW:=if W.y.at_=0 then (if W.pollsB then W.polls.atY 7 else W.polls) else (W.spc (doneS W.K.sp)).ent 9
def swept (W:CyW):Bool:=sweeps W.K.sp W.y.i W.y.sense
def sweep1 (W:CyW):CyW:={ W.spc (sweepS W.K.sp W.y.i W.y.sense) with y:={ W.y with freed:=if W.swept then W.y.freed+1 else W.y.freed,i:=W.y.i+1 } }
def sweepsY (W:CyW):CyW:=if W.y.i+1=W.K.c.frags then W.sweep1.ent 10 else W.sweep1
def serves (W:CyW):CyW:=if W.y.at_=0 then (W.spc (endS W.K.sp)).atY 7 else
 let V:=W.spc (serve W.K.sp W.y.sense).2
 if (serve W.K.sp W.y.sense).1 then V else CyW.ent { V with y:={ V.y with finished:=V.y.finished+1 } } 0
end CyW
structure CyAt (g:GW) (t b:Nat) (Y:CyS) (tr:Option TraceS) (h:Option HaulS) (tp hp:Option Addr):Prop where
 blk:Blk g t b 113 (Y.cells tp hp)
 tr: ∀S,tr=some S→ ∃bt cm,tp=some ⟨bt,0,none⟩∧cm.Same S.c∧TraceAt g (t+1) bt { S with c:=cm }
 hn:h=none→hp=none
 hl: ∀S,h=some S→ ∃bh cm,hp=some ⟨bh,0,none⟩∧cm.Same S.c∧HaulAt g (t+3) bh { S with c:=cm }
theorem CyAt.keep {T:Nat→Prop} {g g':GW} {t b:Nat} {Y:CyS} {tr:Option TraceS} {h:Option HaulS} {tp hp:Option Addr} (H:CyAt g t b Y tr h tp hp) (m:Mod T g g') (hT: ∀x,T x→x<t∨t+5≤x):CyAt g' t b Y tr h tp hp:=by
 have q: ∀k,k<5→ ¬T (t+k):=fun k hk ht=>by have:=hT _ ht;omega
 refine ⟨H.blk.keep m (q 0 zo),fun S hS=>?_,H.hn,fun S hS=>?_⟩
 · obtain ⟨bt,cm,h1,h2,h3⟩:=H.tr S hS;exact ⟨bt,cm,h1,h2,h3.keep m (q 1 zo) (q 2 zo)⟩
 · obtain ⟨bt,cm,h1,h2,h3⟩:=H.hl S hS;exact ⟨bt,cm,h1,h2,h3.keep m (q 3 zo) (q 4 zo)⟩
theorem CyAt.set {g:GW} {t b:Nat} {Y:CyS} {tr:Option TraceS} {h:Option HaulS} {tp hp:Option Addr} (H:CyAt g t b Y tr h tp hp) (i:Nat) (v:Value) (Y':CyS) (hv:Y'.cells tp hp=(Y.cells tp hp).set i v):CyAt ⟨g.own,g.w.setCell ⟨b,i,none⟩ v⟩ t b Y' tr h tp hp:=by
 have m:Mod (fun x=>x=t) g ⟨g.own,g.w.setCell ⟨b,i,none⟩ v⟩:=Mod.set H.blk.own;refine ⟨by rw [hv];exact H.blk.set i v,fun S hS=>?_,H.hn,fun S hS=>?_⟩
 · obtain ⟨bt,cm,h1,h2,h3⟩:=H.tr S hS;exact ⟨bt,cm,h1,h2,h3.keep m zo zo⟩
 · obtain ⟨bt,cm,h1,h2,h3⟩:=H.hl S hS;exact ⟨bt,cm,h1,h2,h3.keep m zo zo⟩
structure CyApart (t B:Nat):Prop where
 hb:100≤B
 ht:100≤t
 apart:t+5≤B∨B+70≤t
def cyT (t B:Nat) (x:Nat):Prop:=(t≤x∧x<t+5)∨(B≤x∧x<B+70)
structure CyIn (g:GW) (t B b k:Nat) (W:CyW) (tp hp:Option Addr) (bm bs bt bp bsp bh:Nat) (cm:Cnf):Prop where
 y:CyAt g t b W.y W.tr W.h tp hp
 c:CoreIn g B k W.K bm bs bt bp bsp bh cm
def CyWAt (g:GW) (t B b k:Nat) (W:CyW):Prop:= ∃tp hp bm bs bt bp bsp bh cm,CyIn g t B b k W tp hp bm bs bt bp bsp bh cm
structure CyW.Bd (W:CyW):Prop where
 i:0≤W.y.i∧W.y.i≤1099511627776
 started:0≤W.y.started∧W.y.started≤1099511627776
 finished:0≤W.y.finished∧W.y.finished≤1099511627776
 freed:0≤W.y.freed∧W.y.freed≤1099511627776
 moved:0≤W.y.moved∧W.y.moved≤1099511627776
 steps:0≤W.y.steps∧W.y.steps≤1099511627776
 hand:0≤W.K.hand.count∧W.K.hand.count≤1099511627776
 sp:0≤W.K.sp.count∧W.K.sp.count≤1099511627776
 mem:0≤W.K.mem.count∧W.K.mem.count≤1099511627776
 n:0≤W.K.n∧W.K.n≤1099511627776
section
variable {g:GW} {t B b k:Nat} {W:CyW} {tp hp:Option Addr} {bm bs bt bp bsp bh:Nat} {cm:Cnf}
theorem CyIn.set (H:CyIn g t B b k W tp hp bm bs bt bp bsp bh cm) (A:CyApart t B) (i:Nat) (v:Value) (Y':CyS) (hv:Y'.cells tp hp=(W.y.cells tp hp).set i v):CyIn ⟨g.own,g.w.setCell ⟨b,i,none⟩ v⟩ t B b k { W with y:=Y' } tp hp bm bs bt bp bsp bh cm:=
 ⟨H.y.set i v Y' hv,H.c.keep (Mod.set (T:=fun x=>x=t) H.y.blk.own) (fun x (hx:x=_)=>by have:=A.apart;omega)⟩
theorem CyIn.hand {g':GW} (H:CyIn g t B b k W tp hp bm bs bt bp bsp bh cm) (A:CyApart t B) {h:HandS} (m:Mod (fun x=>x=B+63) g g') (hh:HandAt g' (B+63) bh h):CyIn g' t B b k { W with K:={ W.K with hand:=h } } tp hp bm bs bt bp bsp bh cm:=
 ⟨H.y.keep m (fun x (hx:x=_)=>by have:=A.apart;omega),H.c.putHand m hh⟩
theorem CyIn.spc {g':GW} (H:CyIn g t B b k W tp hp bm bs bt bp bsp bh cm) (A:CyApart t B) {S:SpaceS} (m:Mod (inst B) g g') (hs:SpaceAt g' B bsp bt S):CyIn g' t B b k (W.spc S) tp hp bm bs bt bp bsp bh cm:=
 ⟨H.y.keep m (fun x hx=>by have:=A.apart;have h1:=hx.1;have h2:=hx.2;omega),H.c.putSp m hs⟩
theorem CyIn.keep {T:Nat→Prop} {g':GW} (H:CyIn g t B b k W tp hp bm bs bt bp bsp bh cm) (m:Mod T g g') (h1: ∀x,T x→x<t∨t+5≤x) (h2: ∀x,T x→x<B∨B+70≤x):CyIn g' t B b k W tp hp bm bs bt bp bsp bh cm:=
 ⟨H.y.keep m h1,H.c.keep m h2⟩
theorem CyIn.modY (H:CyIn g t B b k W tp hp bm bs bt bp bsp bh cm):cyT t B (g.own b):=by rw [H.y.blk.own];exact Or.inl ⟨Nat.le_refl _,zo⟩
end
theorem ybD {t B x:Nat} (h:x=B+63):cyT t B x:=Or.inr zo
theorem yaF {t B x:Nat} (h:inst B x):cyT t B x:=Or.inr (by have h1:=h.1;have h2:=h.2;omega)
section
variable (g:GW) (t b:Nat) (Y:CyS) (tr:Option TraceS) (hh:Option HaulS) (tp hp:Option Addr)
theorem yff (h:CyAt g t b Y tr hh tp hp):Calls prog 35 #[.pointer (some ⟨b,0,none⟩)] g.w (fun e w'=>e=.returned (zI z6 Y.stage)∧g.w=w'):=by
 obtain ⟨a0,a1,a2,a3,a4,a5,a6,a7,a8,a9,a10,a11,a12,a13,al⟩:=h.blk.k14;clear h;go_enter func35,ntmps35;go_wp2_with fail;go_ret;exact ⟨rfl,rfl⟩
theorem yg6 (h:CyAt g t b Y tr hh tp hp):Calls prog 36 #[.pointer (some ⟨b,0,none⟩)] g.w (fun e w'=>e=.returned (zI z6 Y.started)∧g.w=w'):=by
 obtain ⟨a0,a1,a2,a3,a4,a5,a6,a7,a8,a9,a10,a11,a12,a13,al⟩:=h.blk.k14;clear h;go_enter func36,ntmps36;go_wp2_with fail;go_ret;exact ⟨rfl,rfl⟩
theorem yfT (h:CyAt g t b Y tr hh tp hp):Calls prog 17 #[.pointer (some ⟨b,0,none⟩)] g.w (fun e w'=>e=.returned (zI z6 Y.finished)∧g.w=w'):=by
 obtain ⟨a0,a1,a2,a3,a4,a5,a6,a7,a8,a9,a10,a11,a12,a13,al⟩:=h.blk.k14;clear h;go_enter func17,ntmps17;go_wp2_with fail;go_ret;exact ⟨rfl,rfl⟩
theorem ykf (h:CyAt g t b Y tr hh tp hp):Calls prog 14 #[.pointer (some ⟨b,0,none⟩)] g.w (fun e w'=>e=.returned (zI z6 Y.freed)∧g.w=w'):=by
 obtain ⟨a0,a1,a2,a3,a4,a5,a6,a7,a8,a9,a10,a11,a12,a13,al⟩:=h.blk.k14;clear h;go_enter func14,ntmps14;go_wp2_with fail;go_ret;exact ⟨rfl,rfl⟩
theorem ykg (h:CyAt g t b Y tr hh tp hp):Calls prog 37 #[.pointer (some ⟨b,0,none⟩)] g.w (fun e w'=>e=.returned (zI z6 Y.steps)∧g.w=w'):=by
 obtain ⟨a0,a1,a2,a3,a4,a5,a6,a7,a8,a9,a10,a11,a12,a13,al⟩:=h.blk.k14;clear h;go_enter func37,ntmps37;go_wp2_with fail;go_ret;exact ⟨rfl,rfl⟩
theorem yke (h:CyAt g t b Y tr hh tp hp):Calls prog 22 #[.pointer (some ⟨b,0,none⟩)] g.w (fun e w'=>e=.returned (zI z6 Y.e)∧g.w=w'):=by
 obtain ⟨a0,a1,a2,a3,a4,a5,a6,a7,a8,a9,a10,a11,a12,a13,al⟩:=h.blk.k14;clear h;go_enter func22,ntmps22;go_wp2_with fail;go_ret;exact ⟨rfl,rfl⟩
end
theorem yiw (g:GW) (t:Nat):Calls prog 34 #[] g.w (fun e w'=> ∃own' b,e=.returned (.pointer (some ⟨b,0,none⟩))∧Mod (fun _=>False) g ⟨own',w'⟩∧CyAt ⟨own',w'⟩ t b CyS.fresh none none none none):=by
 go_enter func34,ntmps34;go_wp2_with fail;go_ret;exact ⟨_,g.w.heap.size,rfl,Mod.ext (show Ext g.w (g.w.alloc (.cells ((CyS.fresh.cells none none).toArray) 113)) from zE) t,⟨Blk.new g t 113 (CyS.fresh.cells none none),(fun S hS=>by cases hS),(fun _=>rfl),(fun S hS=>by cases hS)⟩⟩
section
variable {g:GW} {t B b k:Nat} {W:CyW} {tp hp:Option Addr} {bm bs bt bp bsp bh:Nat} {cm:Cnf}
theorem yal (A:CyApart t B) (s:Int) (H:CyIn g t B b k W tp hp bm bs bt bp bsp bh cm):Calls prog 45 #[.pointer (some ⟨b,0,none⟩),.int .i64 s] g.w (Does (.tuple #[]) g (cyT t B) (fun g'=>CyIn g' t B b k (W.ent s) tp hp bm bs bt bp bsp bh cm)):=by
 have H3:=zH (((H.set A 0 (zI z6 s) { W.y with stage:=s } rfl).set A 1 (zI z6 0) { W.y with stage:=s,at_:=0 } rfl).set A 2 (zI z6 0) (W.y.enters s) rfl);have M:=zH (show Mod (cyT t B) g ⟨g.own,((g.w.setCell ⟨b,0,none⟩ (zI z6 s)).setCell ⟨b,1,none⟩ (zI z6 0)).setCell ⟨b,2,none⟩ (zI z6 0)⟩ from Mod.st (Mod.st (Mod.st Mod.self H.modY) H.modY) H.modY);obtain ⟨a0,a1,a2,a3,a4,a5,a6,a7,a8,a9,a10,a11,a12,a13,al⟩:=H.y.blk.k14;have af0:=H.y.blk.liv 0;have af1:=H.y.blk.liv 1;have af2:=H.y.blk.liv 2;clear H;go_enter func45,ntmps45;go_wp2_with fail;exact bodyPost_end (results_none rfl _ _ _) rfl (Does.of ⟨g.own,_⟩ rfl rfl M.out H3.out)
theorem CyIn.pt (H:CyIn g t B b k W tp hp bm bs bt bp bsp bh cm) (X:Extra):CyIn (g.pt X) t B b k W tp hp bm bs bt bp bsp bh cm:=H.keep (T:=fun _=>False) (Mod.pt (Mod.refl _ _) X) (fun _=>False.elim) (fun _=>False.elim)
theorem yaW (A:CyApart t B) (hd:W.Bd) (H:CyIn g t B b k W tp hp bm bs bt bp bsp bh cm):Calls prog 88 #[.pointer (some ⟨b,0,none⟩),.pointer (some ⟨k,0,none⟩)] g.w (Does (.bool W.pollsB) g (cyT t B) (fun g'=>CyIn g' t B b k W.polls tp hp bm bs bt bp bsp bh cm)):=by
 have HH:=zH H;have HPL:=zH (fun X=>yiO (g.pt X) (B+63) bh W.y.i W.K.hand (H.pt X).c.hand hd.hand);obtain ⟨hi0,hi1⟩:=hd.i;obtain ⟨a0,a1,a2,a3,a4,a5,a6,a7,a8,a9,a10,a11,a12,a13,al⟩:=H.y.blk.k14;obtain ⟨c0,c1,c2,c3,c4,c5,c6,c7,c8,c9,c10,c11,c12,cl⟩:=H.c.blk.k13;clear H hd;go_enter func88,ntmps88;go_wp2_with fail;refine yab [zT,zT,zT,zT,zT,zT,zT,zT,zU] 1 8 ?_;intro X00;simp only [pickOps];repeat (go_big_quiet_step (fail))
 refine wpQuiet_nil (fun X0=>?_);clear X00;refine yae rfl zQ (fun X2=>?_);simp only [List.drop_succ_cons,List.drop_zero];go_wp2_with fail;refine (HPL.out _).mono ?_;rintro e w1 ⟨rfl,own1,m1,h1⟩;have P1:=(Mod.pt (Mod.refl _ _) _).trans m1;have M1:=zH (P1.mono (S:=cyT t B) (fun x hx=>ybD hx));have H1:=zH (HH.out.hand A P1 h1);clear P1 m1 h1 a0 a1 a2 a3 a4 a5 a6 a7 a8 a9 a10 a11 a12 a13 al c0 c1 c2 c3 c4 c5 c6 c7 c8 c9 c10 c11 c12 cl HPL HH;have hth:=H1.out.c.same.threads;cases hp:W.K.hand.polled W.y.i
 · have HN:=zH (show W.nextI=W.y.i by unfold CyW.nextI CyW.polled;rw [hp];rfl);have HE:=zH (show W.polls={ W with K:={ W.K with hand:=W.K.hand.tick } } by unfold CyW.polls;rw [HN.out]);have HV:=zH (show W.pollsB=(W.y.i==cm.threads) by unfold CyW.pollsB;rw [HN.out,hth]);clear hp hth;obtain ⟨a0,a1,a2,a3,a4,a5,a6,a7,a8,a9,a10,a11,a12,a13,al⟩:=H1.out.y.blk.k14;obtain ⟨c0,c1,c2,c3,c4,c5,c6,c7,c8,c9,c10,c11,c12,cl⟩:=H1.out.c.blk.k13;go_wp2_with fail;refine yab [zT,zT,zT,zT,zT,zT,zT,zT,zT,zT,zT] 0 11 ?_;intro X00;simp only [pickOps];repeat (go_big_quiet_step (fail))
   refine wpQuiet_nil (fun X0=>?_);clear X00;refine yaa zQ (fun X0'=>?_) _;(try go_simp);go_wp2_with fail;go_ret;exact Does.ext ⟨own1,w1⟩ zE (by rw [HV.out];rfl) M1.out (fun g2 m=>by rw [HE.out];exact H1.out.keep m (fun _=>False.elim) (fun _=>False.elim))
 · have HN:=zH (show W.nextI=W.y.i+1 by unfold CyW.nextI CyW.polled;rw [hp];rfl);have HE:=zH (show W.polls={ W with y:={ W.y with i:=W.y.i+1 },K:={ W.K with hand:=W.K.hand.tick } } by unfold CyW.polls;rw [HN.out]);have HV:=zH (show W.pollsB=(W.y.i+1==cm.threads) by unfold CyW.pollsB;rw [HN.out,hth]);have H2:=zH (H1.out.set A 2 (zI z6 (W.y.i+1)) { W.y with i:=W.y.i+1 } rfl);have M2:=zH (show Mod (cyT t B) g ⟨own1,w1.setCell ⟨b,2,none⟩ (zI z6 (W.y.i+1))⟩ from Mod.st M1.out H1.out.modY);clear hp hth;obtain ⟨a0,a1,a2,a3,a4,a5,a6,a7,a8,a9,a10,a11,a12,a13,al⟩:=H1.out.y.blk.k14;have af2:=H1.out.y.blk.liv 2;go_upto_region 3 with fail
   generalize w1.setCell ⟨b,2,none⟩ (zI z6 (W.y.i+1))=w2 at *;clear a0 a1 a2 a3 a4 a5 a6 a7 a8 a9 a10 a11 a12 a13 af2 al H1 M1;obtain ⟨a0,a1,a2,a3,a4,a5,a6,a7,a8,a9,a10,a11,a12,a13,al⟩:=H2.out.y.blk.k14;obtain ⟨c0,c1,c2,c3,c4,c5,c6,c7,c8,c9,c10,c11,c12,cl⟩:=H2.out.c.blk.k13;refine yab [zT,zT,zT,zT,zT,zT,zT,zT,zT,zT,zT] 0 11 ?_;intro X00;simp only [pickOps];repeat (go_big_quiet_step (fail))
   refine wpQuiet_nil (fun X0=>?_);clear X00;refine yaa zQ (fun X0'=>?_) _;(try go_simp);go_wp2_with fail;go_ret;exact Does.ext ⟨own1,w2⟩ zE (by rw [HV.out];rfl) M2.out (fun g2 m=>by rw [HE.out];exact H2.out.keep m (fun _=>False.elim) (fun _=>False.elim))
end
end Go.Proofs.YtdhjjpnajjingaaGreat
namespace Go.Proofs.YtdhjjpnajjingaaGreat
open Go Go.RowKit
section
variable {g:GW} {t B b k:Nat} {W:CyW}
theorem CyIn.at_ {tp hp:Option Addr} {bm bs bt bp bsp bh:Nat} {cm:Cnf} (H:CyIn g t B b k W tp hp bm bs bt bp bsp bh cm):CyWAt g t B b k W:=⟨tp,hp,bm,bs,bt,bp,bsp,bh,cm,H⟩
theorem yb3 (A:CyApart t B) (hd:W.Bd) (status stage:Int) (H:CyWAt g t B b k W):Calls prog 47 #[.pointer (some ⟨b,0,none⟩),.pointer (some ⟨k,0,none⟩),.int .i64 status,.int .i64 stage] g.w (Does (.tuple #[]) g (cyT t B) (fun g'=>CyWAt g' t B b k (W.hands status stage))):=by
 obtain ⟨tp,hp,bm,bs,bt,bp,bsp,bh,cm,H⟩:=H;have HH:=zH H;have HD:=zH hd;by_cases h0:W.y.at_=0
 · have hz:(W.y.at_==0)=true:=beq_iff_eq.2 h0;have HV:=zH (show W.hands status stage=if W.pollsB then W.polls.atY 2 else W.polls by unfold CyW.hands;rw [if_pos h0]);obtain ⟨a0,a1,a2,a3,a4,a5,a6,a7,a8,a9,a10,a11,a12,a13,al⟩:=H.y.blk.k14;have af1:=H.y.blk.liv 1;obtain ⟨c0,c1,c2,c3,c4,c5,c6,c7,c8,c9,c10,c11,c12,cl⟩:=H.c.blk.k13;clear H hd h0;go_enter func47,ntmps47;go_wp2_with fail;refine (yaW A HD.out HH.out).mono ?_;rintro e w1 ⟨rfl,own1,m1,h1⟩;have M1:=zH m1;have H1:=zH h1;clear a0 a1 a2 a3 a4 a5 a6 a7 a8 a9 a10 a11 a12 a13 af1 al c0 c1 c2 c3 c4 c5 c6 c7 c8 c9 c10 c11 c12 cl;clear m1 h1 hz;cases hp:W.pollsB
   · have HW:=zH (show W.hands status stage=W.polls by rw [HV.out,hp];rfl);go_wp2_with fail;exact bodyPost_end (results_none rfl _ _ _) rfl (Does.of ⟨own1,w1⟩ rfl rfl M1.out (by rw [HW.out];exact H1.out.at_))
   · have HW:=zH (show W.hands status stage=W.polls.atY 2 by rw [HV.out,hp];rfl);have H2:=zH (H1.out.set A 1 (zI z6 2) { W.polls.y with at_:=2 } rfl);obtain ⟨a0,a1,a2,a3,a4,a5,a6,a7,a8,a9,a10,a11,a12,a13,al⟩:=H1.out.y.blk.k14;have af1:=H1.out.y.blk.liv 1;go_wp2_with fail;exact bodyPost_end (results_none rfl _ _ _) rfl (Does.of ⟨own1,w1.setCell ⟨b,1,none⟩ (zI z6 2)⟩ rfl rfl (Mod.st M1.out H1.out.modY) (by rw [HW.out];exact H2.out.at_))
 · have hz:(W.y.at_==0)=false:=beq_eq_false_iff_ne.2 h0;have HV:=zH (show W.hands status stage=(W.posts status false).ent stage by unfold CyW.hands;rw [if_neg h0]);obtain ⟨a0,a1,a2,a3,a4,a5,a6,a7,a8,a9,a10,a11,a12,a13,al⟩:=H.y.blk.k14;have af1:=H.y.blk.liv 1;obtain ⟨c0,c1,c2,c3,c4,c5,c6,c7,c8,c9,c10,c11,c12,cl⟩:=H.c.blk.k13;clear H hd h0;go_enter func47,ntmps47;go_wp2_with fail;refine (ybR g (B+63) bh status false W.K.hand HH.out.c.hand HD.out.hand).mono ?_;rintro e w1 ⟨rfl,own1,m1,h1⟩;have M1:=zH (m1.mono (S:=cyT t B) (fun x hx=>ybD hx));have H1:=zH (show CyIn ⟨own1,w1⟩ t B b k (W.posts status false) tp hp bm bs bt bp bsp bh cm from HH.out.hand A m1 h1);clear a0 a1 a2 a3 a4 a5 a6 a7 a8 a9 a10 a11 a12 a13 af1 al c0 c1 c2 c3 c4 c5 c6 c7 c8 c9 c10 c11 c12 cl;clear m1 h1 hz;go_wp2_with fail;refine (yal A stage H1.out).mono ?_;rintro e w2 ⟨rfl,own2,m2,h2⟩;have M2:=zH (M1.out.trans m2);have H2:=zH h2;clear m2 h2;go_wp2_with fail;exact bodyPost_end (results_none rfl _ _ _) rfl (Does.of ⟨own2,w2⟩ rfl rfl M2.out (by rw [HV.out];exact H2.out.at_))
theorem yee (A:CyApart t B) (hd:W.Bd) (H:CyWAt g t B b k W):Calls prog 46 #[.pointer (some ⟨b,0,none⟩),.pointer (some ⟨k,0,none⟩)] g.w (Does (.tuple #[]) g (cyT t B) (fun g'=>CyWAt g' t B b k W.starts)):=by
 obtain ⟨tp,hp,bm,bs,bt,bp,bsp,bh,cm,H⟩:=H;have HH:=zH H;have HD:=zH hd;by_cases h0:W.y.at_=0
 · have hz:(W.y.at_==0)=true:=beq_iff_eq.2 h0;have HV:=zH (show W.starts=(W.spc (beginS W.K.sp)).atY 2 by unfold CyW.starts;rw [if_pos h0]);obtain ⟨a0,a1,a2,a3,a4,a5,a6,a7,a8,a9,a10,a11,a12,a13,al⟩:=H.y.blk.k14;have af1:=H.y.blk.liv 1;obtain ⟨c0,c1,c2,c3,c4,c5,c6,c7,c8,c9,c10,c11,c12,cl⟩:=H.c.blk.k13;clear H hd h0;go_enter func46,ntmps46;go_wp2_with fail;refine (ygl g B bsp bt W.K.sp HH.out.c.sp A.hb HD.out.sp).mono ?_;rintro e w1 ⟨rfl,own1,m1,h1⟩;have M1:=zH (m1.mono (S:=cyT t B) (fun x hx=>yaF hx));have H1:=zH (HH.out.spc A m1 h1);clear a0 a1 a2 a3 a4 a5 a6 a7 a8 a9 a10 a11 a12 a13 af1 al c0 c1 c2 c3 c4 c5 c6 c7 c8 c9 c10 c11 c12 cl;clear m1 h1 hz;have H2:=zH (H1.out.set A 1 (zI z6 2) { W.y with at_:=2 } rfl);obtain ⟨a0,a1,a2,a3,a4,a5,a6,a7,a8,a9,a10,a11,a12,a13,al⟩:=H1.out.y.blk.k14;have af1:=H1.out.y.blk.liv 1;go_wp2_with fail;exact bodyPost_end (results_none rfl _ _ _) rfl (Does.of ⟨own1,w1.setCell ⟨b,1,none⟩ (zI z6 2)⟩ rfl rfl (Mod.st M1.out H1.out.modY) (by rw [HV.out];exact H2.out.at_))
 · have hz:(W.y.at_==0)=false:=beq_eq_false_iff_ne.2 h0;have HV:=zH (show W.starts=CyW.ent { W.posts 1 true with y:={ W.y with started:=W.y.started+1,sense:= !W.y.sense,steps:=0 } } 2 by unfold CyW.starts;rw [if_neg h0];rfl);obtain ⟨a0,a1,a2,a3,a4,a5,a6,a7,a8,a9,a10,a11,a12,a13,al⟩:=H.y.blk.k14;have af1:=H.y.blk.liv 1;obtain ⟨c0,c1,c2,c3,c4,c5,c6,c7,c8,c9,c10,c11,c12,cl⟩:=H.c.blk.k13;clear H hd h0;go_enter func46,ntmps46;go_wp2_with fail;refine (ybR g (B+63) bh 1 true W.K.hand HH.out.c.hand HD.out.hand).mono ?_;rintro e w1 ⟨rfl,own1,m1,h1⟩;have M1:=zH (m1.mono (S:=cyT t B) (fun x hx=>ybD hx));have H1:=zH (show CyIn ⟨own1,w1⟩ t B b k (W.posts 1 true) tp hp bm bs bt bp bsp bh cm from HH.out.hand A m1 h1);clear a0 a1 a2 a3 a4 a5 a6 a7 a8 a9 a10 a11 a12 a13 af1 al c0 c1 c2 c3 c4 c5 c6 c7 c8 c9 c10 c11 c12 cl;clear m1 h1 hz;have H2:=zH (((H1.out.set A 8 (zI z6 (W.y.started+1)) { W.y with started:=W.y.started+1 } rfl).set A 7 (.bool (!W.y.sense)) { W.y with started:=W.y.started+1,sense:= !W.y.sense } rfl).set A 12 (zI z6 0) { W.y with started:=W.y.started+1,sense:= !W.y.sense,steps:=0 } rfl)
   have M2:=zH (show Mod (cyT t B) g ⟨own1,((w1.setCell ⟨b,8,none⟩ (zI z6 (W.y.started+1))).setCell ⟨b,7,none⟩ (.bool (!W.y.sense))).setCell ⟨b,12,none⟩ (zI z6 0)⟩ from Mod.st (Mod.st (Mod.st M1.out H1.out.modY) H1.out.modY) H1.out.modY);obtain ⟨a0,a1,a2,a3,a4,a5,a6,a7,a8,a9,a10,a11,a12,a13,al⟩:=H1.out.y.blk.k14;have af7:=H1.out.y.blk.liv 7;have af8:=H1.out.y.blk.liv 8;have af12:=H1.out.y.blk.liv 12;obtain ⟨hs0,hs1⟩:=HD.out.started;have hw8:(W.posts 1 true).y=W.y:=rfl;rw [hw8] at a0 a1 a2 a3 a4 a7 a8 a9 a10 a11 a12 a13;go_wp2_with fail;refine (yal A 2 H2.out).mono ?_;rintro e w2 ⟨rfl,own2,m2,h2⟩;have M3:=zH (M2.out.trans m2);have H3:=zH h2;clear m2 h2;go_wp2_with fail;exact bodyPost_end (results_none rfl _ _ _) rfl (Does.of ⟨own2,w2⟩ rfl rfl M3.out (by rw [HV.out];exact H3.out.at_))
end
end Go.Proofs.YtdhjjpnajjingaaGreat
