import Derived.Test.YtdhjjpnajjingaaGreatKQ12
set_option linter.unusedVariables false
set_option linter.unnecessarySimpa false
set_option linter.unusedSimpArgs false
open Bool renaming true→zT,false→zU
open Go.Value renaming int→zI
open Go.IntKind renaming i64→z6
set_option maxHeartbeats 8000000
set_option maxRecDepth 100000
open Go.Proofs.Tryz
open Go.Lib renaming hid→zH
open Go.Ext renaming alloc→zA,patch→zP,drew→zD,drewN→zN,more→zM,refl→zR,setCell→zS
open Nat renaming le_refl→zL,le_add_right→zK
namespace Go
section
variable {P:Program} {ops:Array Oper} {Q:Exit→Act→World→Prop} {md:Region.Mode} {w0:World}
def frB (L:Nat) (A:List Nat) (i:Nat):Bool:=decide (i<L) || A.contains i
def waitsB (md:Region.Mode) (ops:Array Oper) (L:Nat) (A:List Nat):Bool:=Region.sinkB md ops L&&decide (L<ops.size)&&(List.range ops.size).all fun j=>decide (j≤L) || A.contains j || Region.waitsFor md ops j L
theorem ydu {L:Nat} {listed:Array Bool} (hc:Closed md ops listed) (hs:Region.sinkB md ops L=true) (hL:L∈Region.ready md ops listed): ∀(d i:Nat),L-i=d→i<L→listed.getD i false=true:=by
 intro d;induction d using Nat.strongRecOn with
 |_ d ih=>
  intro i hd hi;have h1:=List.all_eq_true.1 hs i (List.mem_range.2 hi);obtain ⟨j,hj,hj2⟩:=List.any_eq_true.1 h1;simp only [Bool.and_eq_true,decide_eq_true_eq] at hj2;obtain ⟨oj,hoj,e,he,hb,hon⟩:=Region.waitsFor_spec hj2.2;have hjle:j≤L:=by have:=List.mem_range.1 hj;omega
  rw [←hon];by_cases hjL:j=L
  · subst hjL;obtain ⟨_,o,ho,hall⟩:=mem_ready.1 hL;rw [hoj] at ho;injection ho with ho;subst ho;exact hall e he hb
  · exact hc.2 j oj hoj (ih (L-j) zo j rfl zo) e he hb
theorem yhv {L:Nat} {A:List Nat} (hW:waitsB md ops L A=true) {listed:Array Bool} (hc:Closed md ops listed) {i:Nat} (hi:i∈Region.ready md ops listed) (hiL:i<L): ∀j∈Region.ready md ops listed,frB L A j=true:=by
 intro j hj;unfold waitsB at hW;simp only [Bool.and_eq_true,decide_eq_true_eq] at hW;obtain ⟨⟨hs,hz⟩,hall⟩:=hW;unfold frB;rw [Bool.or_eq_true,decide_eq_true_eq];obtain ⟨hun,oi,hoi,_⟩:=mem_ready.1 hi;obtain ⟨hunj,oj,hoj,hallj⟩:=mem_ready.1 hj;have hjl:=(Array.getElem?_eq_some_iff.1 hoj).1;by_cases hjL:j<L
 · exact Or.inl hjL
 by_cases hA:A.contains j=true
 · exact Or.inr hA
 exfalso
 have key:listed.getD i false=true:=by
  by_cases he:j=L
  · subst he;exact ydu hc hs hj _ i rfl hiL
  · have h1:=List.all_eq_true.1 hall j (List.mem_range.2 hjl);simp only [Bool.or_eq_true,decide_eq_true_eq] at h1;rcases h1 with (h1|h1)|h1
    · omega
    · exact absurd h1 hA
    · obtain ⟨oj',hoj',e,he,hb,hon⟩:=Region.waitsFor_spec h1;rw [hoj] at hoj';injection hoj' with hoj';subst hoj';have h2:=hallj e he hb;rw [hon] at h2;exact ybp hc hs h2 _ i rfl hiL
 rw [getD_both hun] at key;cases key
def wpAnyP (P:Program) (md:Region.Mode) (ops:Array Oper) (Q:Exit→Act→World→Prop) (w0:World) (L:Nat) (A:List Nat):Nat→Array Bool→Act→World→Prop
 |0,listed,a,w=>Region.ready md ops listed=[]∧ ∀w1,Ext w w1→Q .normal a w1
 |fuel+1,listed,a,w=> ∀w1,Ext w w1→
  (Region.ready md ops listed=[]→Q .normal a w1)∧
  ∀i∈Region.ready md ops listed,(frB L A i=true→wpOp P ops Q i (fun a' w'=>Ext w0 w'∧wpAnyP P md ops Q w0 L A fuel (listed.setIfInBounds i true) a' w') a w1)∧
   (frB L A i=false→wpOp P ops Q i (fun a' w'=>wpAny P md ops Q fuel (listed.setIfInBounds i true) a' w') a w1)
theorem yb7 {L:Nat} {A:List Nat}: ∀(fuel:Nat) (listed:Array Bool) (a:Act) (w:World),wpAnyP P md ops Q w0 L A fuel listed a w→wpAny P md ops Q fuel listed a w
 |0,_,_,_,h=>⟨h.1,h.2 _ (Ext.refl _)⟩
 |fuel+1,_,_,w,h=>⟨(h w (Ext.refl _)).1,fun i hi=>by
  have h1:=(h w (Ext.refl _)).2 i hi;cases hl:frB L A i
  · exact h1.2 hl
  · exact wpOp_mono (fun a' w' h'=>yb7 fuel _ a' w' h'.2) (h1.1 hl)⟩
theorem wpAnyP.ext {L:Nat} {A:List Nat} {fuel:Nat} {listed:Array Bool} {a:Act} {w w':World} (h:wpAnyP P md ops Q w0 L A fuel listed a w) (he:Ext w w'):wpAnyP P md ops Q w0 L A fuel listed a w':=by
 cases fuel with
 |zero=>exact ⟨h.1,fun w1 h1=>h.2 w1 (he.trans h1)⟩
 |succ n=>exact fun w1 h1=>h w1 (he.trans h1)
theorem ydc {L:Nat} {A:List Nat} {i:Nat} {oi:Oper} {v:Value} (hW:waitsB md ops L A=true) (hiL:i<L) (hi:ops[i]?=some oi) (hsel: ∀(j:Nat) (o:Oper) cs b,ops[j]?=some o→o.op≠.select cs b)
 (hQ: ∀c a w,Q (.panic c) (a.put oi.dst v) w→Q (.panic c) a w):
 ∀(fuel:Nat) (listed:Array Bool) (a:Act) (w:World),Closed md ops listed→
  (∀j oj,ops[j]?=some oj→j≠i→listed.getD j true=false→(∀e∈oj.after,Region.binds md e=true→e.on≠i)→oi.apart ops oj=true)→
  i∈Region.ready md ops listed→YieldsE P ops w0 oi v a→Ext w0 w→
  wpAnyP P md ops Q w0 L A fuel (listed.setIfInBounds i true) (a.put oi.dst v) w→wpAnyP P md ops Q w0 L A (fuel+1) listed a w:=by
 intro fuel;have hfi:frB L A i=true:=by unfold frB;rw [decide_eq_true hiL];rfl
 induction fuel with
 |zero=>
  intro listed a w hcl _ hr hy hS H w1 hw1;refine ⟨fun h=>(by rw [h] at hr;cases hr),fun j hj=>?_⟩;by_cases hji:j=i
  · subst hji;exact ⟨fun _=>hy.wpOp hi (hS.trans hw1) (fun w' hw'=>⟨(hS.trans hw1).trans hw',H.ext (hw1.trans hw')⟩),fun h=>by rw [hfi] at h;cases h⟩
  · have:=ready_mono hj hji;rw [H.1] at this;cases this
 |succ fuel ih=>
  intro listed a w hcl hfree hr hy hS H w1 hw1;refine ⟨fun h=>(by rw [h] at hr;cases hr),fun j hj=>?_⟩;have hjL:frB L A j=true:=yhv hW hcl hr hiL j hj;refine ⟨fun _=>?_,fun h=>by rw [hjL] at h;cases h⟩;by_cases hji:j=i
  · subst hji;exact hy.wpOp hi (hS.trans hw1) (fun w' hw'=>⟨(hS.trans hw1).trans hw',H.ext (hw1.trans hw')⟩)
  · have h1:=((H w1 hw1).2 j (ready_mono hj hji)).1 hjL;obtain ⟨hjun,oj,hoj,hall⟩:=mem_ready.1 hj
    have hnot: ∀e∈oj.after,Region.binds md e=true→e.on≠i:=fun e he hb heq=>by
     have h1:=hall e he hb;have h0:=(mem_ready.1 hr).1;rw [heq] at h1;rcases Nat.lt_or_ge i listed.size with h'|h'
     · simp [h'] at h0 h1;rw [h0] at h1;cases h1
     · simp [Array.getElem?_eq_none h'] at h1
    have h2:=yby hoj (hfree j oj hoj hji hjun hnot) (fun cs b=>hsel i oi cs b hi) (fun cs b=>hsel j oj cs b hoj) hQ hy h1
    have hfree': ∀k ok,ops[k]?=some ok→k≠i→(listed.setIfInBounds j true).getD k true=false→
     (∀e∈ok.after,Region.binds md e=true→e.on≠i)→oi.apart ops ok=true:=fun k ok hk hki hun hno=>by
     refine hfree k ok hk hki ?_ hno;by_cases hjk:j=k
     · subst hjk;exact hjun
     · rw [getD_set_ne true hjk] at hun;exact hun
    refine wpOp_mono (fun a' w' h3=>⟨h3.2.1,ih (listed.setIfInBounds j true) a' w' (hcl.set hj) hfree' (ready_mono hr (Ne.symm hji)) h3.1 h3.2.1 ?_⟩) h2;rw [Array.setIfInBounds_comm _ _ hji];exact h3.2.2
theorem ybc {L:Nat} {A:List Nat} (hW:waitsB md ops L A=true) (hs:Region.noSelect ops=true) (hQ: ∀(c:List PanicEntry) (a:Act) (d:Option Tmp) (v:Value) (w:World),Q (.panic c) (a.put d v) w→Q (.panic c) a w) (n:Nat): ∀(m:List Bool) (l:List Oper) (k:Nat) (listed:Array Bool) (a:Act),Closed md ops listed→(∀j,l[j]?=ops[k+j]?)→m.length≤l.length→
 lexMask md ops m k listed=true→maskBut L m k=true→wpCalm P ops w0 (fun a'=> ∀X,wpAnyP P md ops Q w0 L A n (markOps m k listed) a' (w0.patch X)) (pickOps m l) a→
 ∀X,wpAnyP P md ops Q w0 L A (n+countB m) listed a (w0.patch X)
 |[],_,_,_,_,_,_,_,_,_,h,X=>by
  simp only [pickOps,wpCalm,markOps] at h;exact h X
 |_::_,[],_,_,_,_,_,hlen,_,_,_,_=>by simp at hlen
 |false::m,o::l,k,listed,a,hcl,hl,hlen,hB,hM,h,X=>
  ybc hW hs hQ n m l (k+1) listed a hcl (fun j=>by have:=hl (j+1);simpa [Nat.add_assoc,Nat.add_comm 1 j] using this) (by simpa using hlen) (by simpa [lexMask] using hB) (by simpa [maskBut] using hM) (by simpa [pickOps,markOps] using h) X
 |true::m,o::l,k,listed,a,hcl,hl,hlen,hB,hM,h,X=>by
  have h0:ops[k]?=some o:=by simpa using (hl 0).symm
  simp only [lexMask,Bool.and_eq_true] at hB;obtain ⟨⟨hr,hf⟩,hB'⟩:=hB;simp only [maskBut,Bool.and_eq_true,decide_eq_true_eq] at hM;simp only [pickOps,markOps] at h;obtain ⟨v,hy,hK⟩:=yay h;have hr':k∈Region.ready md ops listed:=by simpa using hr
  refine ydc hW hM.1 h0 (Region.noSelect_spec hs) (fun c a w h=>hQ c a _ _ w h) (n+countB m) listed a _ hcl (Region.free_spec h0 hf) hr' hy ⟨X,rfl⟩ ?_;exact ybc hW hs hQ n m l (k+1) _ _ (hcl.set hr') (fun j=>by have:=hl (j+1);simpa [Nat.add_assoc,Nat.add_comm 1 j] using this) (by simpa using hlen) hB' hM.2 hK X
theorem ych {id:Nat} {a:Act} {w:World} {l:List Oper} (m:List Bool) (n L i:Nat) (o u:Oper) (hm:P.follows .mixedOrders=true) (hs:Region.noSelect l.toArray=true) (hW:waitsB .any l.toArray L [i]=true) (hQ: ∀(c:List PanicEntry) (a:Act) (d:Option Tmp) (v:Value) (w:World),Q (.panic c) (a.put d v) w→Q (.panic c) a w)
 (hlen:m.length≤l.length) (hn:n+2+countB m=l.length) (hM:maskBut L m 0=true) (hB:lexMask .any l.toArray m 0 (Array.replicate l.length false)=true)
 (hr:Region.ready .any l.toArray (markOps m 0 (Array.replicate l.length false))=[L,i]) (hr2:Region.ready .any l.toArray ((markOps m 0 (Array.replicate l.length false)).setIfInBounds i true)=[L]) (ho:l[L]?=some o) (hg:o.guard=none) (hu:l[i]?=some u) (hgu:u.guard=none) (hiL:L<i)
 (h: ∀X00:Extra,wpQuiet P l.toArray (fun w'=> ∃X:Extra,w'=w.patch ⟨X00.blocks++X.blocks,X.drawn⟩) (fun a'=>
  (∀X, ∀K:Act→World→Prop, ∀Q':Exit→Act→World→Prop,(∀a2 w2,wpAny P .any l.toArray Q (n+1) ((markOps m 0 (Array.replicate l.length false)).setIfInBounds L true) a2 w2→K a2 w2)→o.wp P a' (w.patch X) K Q')∧
  (∀X, ∀K:Act→World→Prop, ∀Q':Exit→Act→World→Prop,(∀a2 w2,Ext w w2→(∀X2, ∀K2:Act→World→Prop, ∀Q2:Exit→Act→World→Prop,(∀a3 w3,wpAny P .any l.toArray Q n (((markOps m 0 (Array.replicate l.length false)).setIfInBounds i true).setIfInBounds L true) a3 w3→K2 a3 w3)→o.wp P a2 (w2.patch X2) K2 Q2)→K a2 w2)→u.wp P a' (w.patch X) K Q')) (pickOps m l) a):(Code.region id l.toArray true).wp P Q a w:=by
 have hLi:frB L [i] L=false:=by
  unfold frB;have h1: ¬L=i:=zo;simp [h1]
 have hii:frB L [i] i=true:=by unfold frB;simp
 refine wp_region_any hm (yb7 (w0:=w) (L:=L) (A:=[i]) _ _ _ _ ?_);obtain ⟨X,hX⟩:=Ext.drew (Ext.refl w);have ho':l.toArray[L]?=some o:=by simpa using ho
 have hu':l.toArray[i]?=some u:=by simpa using hu
 have h2:wpCalm P l.toArray w (fun a'=> ∀X,wpAnyP P .any l.toArray Q w L [i] (n+2) (markOps m 0 (Array.replicate l.length false)) a' (w.patch X)) (pickOps m l) a:=by
  refine yaG (fun a' h3 X=>?_) _ _ (yaq _ _ h);rintro w1 ⟨Y,rfl⟩;refine ⟨fun h0=>(by rw [hr] at h0;cases h0),fun j hj=>?_⟩;rw [hr] at hj;obtain ⟨Z,hZ⟩:=(show Ext w ((w.patch X).patch Y) from Ext.trans ⟨X,rfl⟩ ⟨Y,rfl⟩);rw [hZ];simp only [List.mem_cons,List.not_mem_nil,or_false] at hj;rcases hj with rfl|rfl
  · refine ⟨fun h=>absurd h (by rw [hLi];decide),fun _=>?_⟩;unfold wpOp;simp only [ho',Region.wanted,hg,if_true];exact .inl (h3.1 Z _ Q fun a2 w2 h4=>h4)
  · refine ⟨fun _=>?_,fun h=>absurd h (by rw [hii];decide)⟩;unfold wpOp;simp only [hu',Region.wanted,hgu,if_true];refine .inl (h3.2 Z _ Q fun a2 w2 he hK=>⟨he,?_⟩);rintro w3 ⟨Y2,rfl⟩;refine ⟨fun h0=>(by rw [hr2] at h0;cases h0),fun k hk=>?_⟩;rw [hr2] at hk;simp only [List.mem_singleton] at hk;subst hk;refine ⟨fun h=>absurd h (by rw [hLi];decide),fun _=>?_⟩;unfold wpOp;simp only [ho',Region.wanted,hg,if_true];exact .inl (hK Y2 _ Q fun a3 w3 h4=>h4)
 have h5:=ybc (md:=.any) hW hs hQ (n+2) m l 0 (Array.replicate l.length false) a (Closed.start _ (by simp)) (by simp) hlen hB hM h2 X;rw [←hX] at h5;simpa [hn] using h5
end
end Go
namespace Go.Proofs.YtdhjjpnajjingaaGreat
open Go Go.RowKit
theorem yh8 {w1 w':World} (own1:Nat→Nat) (he:Ext w1 w'): ∃own',Mod (fun _=>False) ⟨own1,w1⟩ ⟨own',w'⟩∧ ∀k,w1.heap.size≤k→own' k=0:=
 ⟨((⟨own1,w1⟩:GW).to 0 w').own,Mod.ext (g:=⟨own1,w1⟩) he 0,fun k hk=>GW.to_new (g:=⟨own1,w1⟩) (w':=w') hk⟩
theorem ygR {w1:World} {X X2:Extra} {T:TypeId} {vs:List Value} {w4:World} (hq: ∀i,w1.heap.size≤i→i<(((w1.patch X).alloc (.cells vs.toArray T)).patch X2).heap.size→w4.heap[i]?=(((w1.patch X).alloc (.cells vs.toArray T)).patch X2).heap[i]?):w4.heap[(w1.patch X).heap.size]?=some (.cells vs.toArray T)∧w1.heap.size≤(w1.patch X).heap.size∧(w1.patch X).heap.size<(((w1.patch X).alloc (.cells vs.toArray T)).patch X2).heap.size:=by
 have hV:w1.heap.size≤(w1.patch X).heap.size:=by rw [World.size_patch];omega
 have hl0:(w1.patch X).heap.size<((w1.patch X).alloc (.cells vs.toArray T)).heap.size:=by rw [World.size_alloc];omega
 have hl:(w1.patch X).heap.size<(((w1.patch X).alloc (.cells vs.toArray T)).patch X2).heap.size:=Nat.lt_of_lt_of_le hl0 (show Ext ((w1.patch X).alloc (.cells vs.toArray T)) (((w1.patch X).alloc (.cells vs.toArray T)).patch X2) from ⟨X2,rfl⟩).size;exact ⟨(hq _ hV hl).trans (by rw [World.heap_patch _ _ _ hl0];exact World.row_alloc_new _),hV,hl⟩
theorem ygQ (own4:Nat→Nat) (w4:World) (T:TypeId) (vs:List Value): ∃own5,Mod (fun _=>False) ⟨own4,w4⟩ ⟨own5,w4.alloc (.cells vs.toArray T)⟩∧Blk ⟨own5,w4.alloc (.cells vs.toArray T)⟩ 0 w4.heap.size T vs:=
 ⟨_,Mod.ext (g:=⟨own4,w4⟩) (show Ext w4 _ from zE) 0,⟨World.row_alloc_new _,GW.to_new (g:=⟨own4,w4⟩) (Nat.le_refl _)⟩⟩
section
variable {own4:Nat→Nat} {w4:World} {qg:Nat} {T:TypeId} {z0 z1 z2 v0 v1 v2:Value}
theorem yfG (hb:Blk ⟨own4,w4⟩ 0 qg T [z0,z1,z2]):Mod (fun x=>x=0) ⟨own4,w4⟩ ⟨own4,((w4.setCell ⟨qg,0,none⟩ v0).setCell ⟨qg,1,none⟩ v1).setCell ⟨qg,2,none⟩ v2⟩:=Mod.st (Mod.st (Mod.st (Mod.refl _ _) hb.own) hb.own) hb.own
theorem ygP (hb:Blk ⟨own4,w4⟩ 0 qg T [z0,z1,z2]) (v0 v1 v2:Value):Blk ⟨own4,((w4.setCell ⟨qg,0,none⟩ v0).setCell ⟨qg,1,none⟩ v1).setCell ⟨qg,2,none⟩ v2⟩ 0 qg T [v0,v1,v2]:=((hb.set 0 v0).set 1 v1).set 2 v2
theorem yfH {v:Value} {n:Nat} {xs:List Value} (hr:Row ⟨own4,w4⟩ 0 3 1 v n xs) (hb:Blk ⟨own4,w4⟩ 0 qg 143 [z0,z1,z2]):Row ⟨own4,((w4.setCell ⟨qg,0,none⟩ v0).setCell ⟨qg,1,none⟩ v1).setCell ⟨qg,2,none⟩ v2⟩ 0 3 1 v n xs:=
 ((hr.setOther 0 v0 (fun x hx=>hr.ne_type hb zd hx)).setOther 1 v1 (fun x hx=>hr.ne_type hb zd hx)).setOther 2 v2 (fun x hx=>hr.ne_type hb zd hx)
theorem yhK {B bsp bt:Nat} {S:SpaceS} (hs:SpaceAt ⟨own4,w4⟩ B bsp bt S) (hb:Blk ⟨own4,w4⟩ 0 qg T [z0,z1,z2]) (hB:100≤B):SpaceAt ⟨own4,((w4.setCell ⟨qg,0,none⟩ v0).setCell ⟨qg,1,none⟩ v1).setCell ⟨qg,2,none⟩ v2⟩ B bsp bt S:=hs.keep (yfG hb) (fun x (hx:x=0)=>by omega)
end
section
variable {g:GW} {t B b k:Nat} {W:AcW} {p:AcP} {bm bs bt bp bsp bh:Nat} {cm:Cnf}
def AskPost (r:AskR) (own1:Nat→Nat) (w1 w':World) (B bsp bt:Nat) (e:Ending) (w4:World):Prop:=
 ∃gA gC,e=.returned (.agg #[.int .i64 r.1.1,.slice gA r.1.2.1.length gC,.int .i64 r.1.2.2])∧ ∃own4,Hid (Mod (inst B) ⟨own1,w1⟩ ⟨own4,w4⟩)∧Hid (Row ⟨own4,w4⟩ 0 3 1 (.slice gA r.1.2.1.length gC) r.1.2.1.length (r.1.2.1.map (Value.int .i64)))∧Hid (SpaceAt ⟨own4,w4⟩ B bsp bt r.2)∧Hid (∀k,w1.heap.size≤k→k<w'.heap.size→own4 k=0)∧
  Hid (∀i,w1.heap.size≤i→i<w'.heap.size→w4.heap[i]?=w'.heap[i]?)
theorem ydZ {r:AskR} {own1 own':Nat→Nat} {w1 w' w4:World} {B bsp bt:Nat} {e:Ending} (m':Mod (fun _=>False) ⟨own1,w1⟩ ⟨own',w'⟩) (hz: ∀k,w1.heap.size≤k→own' k=0) (hB:100≤B) (h:Makes ⟨own',w'⟩ (inst B) (fun v g'=>GrantIs r.1 v g'∧SpaceAt g' B bsp bt r.2) e w4):AskPost r own1 w1 w' B bsp bt e w4:=by
 obtain ⟨v,own4,rfl,m4,⟨gA,gC,rfl,hr⟩,hs⟩:=h;have hn: ∀k,w1.heap.size≤k→k<w'.heap.size→ ¬inst B (own' k):=fun k h1 h2 hi=>by rw [hz k h1] at hi;have:=hi.1;omega
 exact ⟨gA,gC,rfl,own4,zH ((m'.mono (fun _=>False.elim)).trans m4),zH hr,zH hs,zH (fun k h1 h2=>(m4.own k h2).trans (hz k h1)),zH (fun i h1 h2=>m4.block i h2 (hn i h1 h2))⟩
theorem ycp {c d:Cnf} (h:c.Same d) (o:Opr):opOk c o=opOk d o:=by
 unfold opOk inL inG needF needS;simp only [yav h,h.frags,h.spine,h.locals,h.globals]
theorem yeo {c d:Cnf} (h:c.Same d) (o:Opr):needF c o=needF d o:=by unfold needF;rw [yav h]
theorem yep {c d:Cnf} (h:c.Same d) (o:Opr):needS c o=needS d o:=by unfold needS;rw [yav h]
theorem ydU [TbId] (P:AcApart t B) (H:AcIn g t B b k W p bm bs bt bp bsp bh cm) (oa ob oc on:Int) (x y:Nat) (ho:opOk W.K.c ⟨1,oa,ob,oc,on,x,y⟩=true) (hck:W.K.c.check=0) (hsp:0≤W.K.sp.count∧W.K.sp.count≤1099511627776) (hln:W.K.sp.line.length<1000000)
 (r:AcR) (hok:W.asksO ⟨1,oa,ob,oc,on,x,y⟩=some r):
 Calls prog 137 #[.pointer (some ⟨b,0,none⟩),.pointer (some ⟨k,0,none⟩),.agg #[.int .i64 1,.int .i64 oa,.int .i64 ob,.int .i64 oc,.int .i64 on,.complex .f64 x y]] g.w (Does (resV r.1) g (acT t B) (fun g'=>AcWAt g' t B b k r.2)):=by
 have HH:=zH H;have HP:=zH P;have HOK:=zH hok;go_enter func137,ntmps137;go_upto_region 1 with fail
 obtain ⟨own0,M0,Q0,R0⟩:=yat g 26 40 [.int .i64 1,.int .i64 oa,.int .i64 ob,.int .i64 oc,.int .i64 on,.complex .f64 x y] resZ;unfold resZ at M0 R0 Q0;generalize (g.w.alloc (.cells #[.int .i64 1,.int .i64 oa,.int .i64 ob,.int .i64 oc,.int .i64 on,.complex .f64 x y] 26)).alloc (.cells #[.int .i64 0,.int .i64 0,.int .i64 0,.bool false,.complex .f64 0 0] 40)=w0 at *;have H0:=zH (HH.out.keep0 M0);have M0':=zH M0;have Q0':=zH Q0;have R0':=zH R0;have HN:=zH (fun X=>yh7 cm oa ob oc on x y (w0.patch X) (H0.out.c.cnf.ok.ext ⟨X,rfl⟩) (by rw [HH.out.c.same.check];exact hck) (by rw [ycp HH.out.c.same];exact ho));have HF:=zH (show needF cm ⟨1,oa,ob,oc,on,x,y⟩=needF W.K.c ⟨1,oa,ob,oc,on,x,y⟩ from yeo HH.out.c.same _);have HS:=zH (show needS cm ⟨1,oa,ob,oc,on,x,y⟩=needS W.K.c ⟨1,oa,ob,oc,on,x,y⟩ from yep HH.out.c.same _);rw [HF.out,HS.out] at HN;unfold Cnf.val at HN;obtain ⟨c0,c1,c2,c3,c4,c5,c6,c7,c8,c9,c10,c11,c12,cl⟩:=H0.out.c.blk.k13;obtain ⟨x0,x1,x2,x3,x4,x5,xl⟩:=Q0.k6;clear M0 Q0 R0 H ho hck hok;refine yab [zT,zT,zT,zT,zT,zT,zT,zT,zT,zT,zT] 0 11 ?_;intro X00;simp only [pickOps]
 repeat (go_big_quiet_step ((go_at_call 204;exact Calls.added (HN.out _))))
 refine wpQuiet_nil (fun X0=>?_);clear X00;refine yaa zQ (fun X0'=>?_) _;(try go_simp);obtain ⟨own1,m1⟩: ∃own1,Mod (fun _=>False) ⟨own0,w0⟩ ⟨own1,w0.patch ⟨X0.blocks++X0'.blocks,X0'.drawn⟩⟩:=⟨_,Mod.pt (g:=⟨own0,w0⟩) (Mod.refl _ _) _⟩;generalize w0.patch ⟨X0.blocks++X0'.blocks,X0'.drawn⟩=w1 at *;have H1:=zH (H0.out.keep0 m1);have M1:=zH (M0'.out.trans m1);have Q1:=zH (Q0'.out.keep m1 id);have R1:=zH (R0'.out.keep m1 id);clear m1 H0 M0' Q0' R0' HN c0 c1 c2 c3 c4 c5 c6 c7 c8 c9 c10 c11 c12 cl x0 x1 x2 x3 x4 x5 xl;have hrs:ask W.K.sp W.a.t (needF W.K.c ⟨1,oa,ob,oc,on,x,y⟩) (needS W.K.c ⟨1,oa,ob,oc,on,x,y⟩) (W.a.sense !=W.a.both)=W.asksR ⟨1,oa,ob,oc,on,x,y⟩:=rfl;have HBO:=zH (fun w' (he:Ext w1 w')=>show Calls prog 206 #[.pointer (some ⟨b,0,none⟩)] w' (Gives (.bool W.a.both) w') from yao (ygf ((⟨own1,w1⟩:GW).to 0 w') t b W.a p (H1.out.a.keep (Mod.ext (T:=fun _=>False) he 0) id (fun _=>False.elim))))
 have HA:=zH (fun w' (he:Ext w1 w')=>show Calls prog 205 #[.pointer (some ⟨bsp,0,none⟩),.int .i64 W.a.t,.int .i64 (needF W.K.c ⟨1,oa,ob,oc,on,x,y⟩),.int .i64 (needS W.K.c ⟨1,oa,ob,oc,on,x,y⟩),.bool (W.a.sense !=W.a.both)] w' (AskPost (W.asksR ⟨1,oa,ob,oc,on,x,y⟩) own1 w1 w' B bsp bt) from by
  obtain ⟨own',m'⟩: ∃own',Mod (fun _=>False) ⟨own1,w1⟩ ⟨own',w'⟩∧ ∀k,w1.heap.size≤k→own' k=0:=yh8 own1 he;have h1:=ycA W.a.t (needF W.K.c ⟨1,oa,ob,oc,on,x,y⟩) (needS W.K.c ⟨1,oa,ob,oc,on,x,y⟩) (W.a.sense !=W.a.both) ⟨own',w'⟩ B bsp bt W.K.sp (H1.out.keep0 m'.1).c.sp P.hb hsp hln;rw [hrs] at h1;exact h1.mono (fun e w4 h=>ydZ m'.1 m'.2 P.hb h))
 generalize needF W.K.c ⟨1,oa,ob,oc,on,x,y⟩=nf at *;generalize needS W.K.c ⟨1,oa,ob,oc,on,x,y⟩=ns at *;generalize W.a.both=bo at *;obtain ⟨a0,a1,a2,a3,a4,a5,a6,a7,a8,a9,a10,a11,a12,a13,a14,a15,a16,a17,a18,al⟩:=H1.out.a.blk.k19;obtain ⟨c0,c1,c2,c3,c4,c5,c6,c7,c8,c9,c10,c11,c12,cl⟩:=H1.out.c.blk.k13;go_wp2_with fail;go_cut [10] (fun s10 wx=> ∃qg gA gC,s10=.pointer (some ⟨qg,0,none⟩)∧Hid (∃own4,Mod (inst B) ⟨own1,w1⟩ ⟨own4,wx⟩∧Row ⟨own4,wx⟩ 0 3 1 (.slice gA (W.asksR ⟨1,oa,ob,oc,on,x,y⟩).1.2.1.length gC) (W.asksR ⟨1,oa,ob,oc,on,x,y⟩).1.2.1.length ((W.asksR ⟨1,oa,ob,oc,on,x,y⟩).1.2.1.map (Value.int .i64))∧SpaceAt ⟨own4,wx⟩ B bsp bt (W.asksR ⟨1,oa,ob,oc,on,x,y⟩).2∧Blk ⟨own4,wx⟩ 0 qg 143 [.int .i64 (W.asksR ⟨1,oa,ob,oc,on,x,y⟩).1.1,.slice gA (W.asksR ⟨1,oa,ob,oc,on,x,y⟩).1.2.1.length gC,.int .i64 (W.asksR ⟨1,oa,ob,oc,on,x,y⟩).1.2.2]))
 case first=>
  refine ych [zT,zT,zT,zT,zT,zT,zT,zT,zT,zT,zT,zT,zT,zT,zT,zT,zT] 1 17 18 ?pk_o ?pk_u ?pk1 ?pk2 ?pk3 ?pk4 ?pk5 ?pk6 ?pk7 ?pk8 ?pk9 ?pk10 ?pk11 ?pk12 ?pk13 ?pk14 ?pk15 ?pk16
  case pk11=>exact rfl
  case pk13=>exact rfl
  case pk1=>kernel_rfl
  case pk2=>kernel_rfl
  case pk3=>kernel_rfl
  case pk4=>(intro c a d v w h;cases d<;>exact h)
  case pk5=>decide
  case pk6=>decide
  case pk7=>decide
  case pk8=>kernel_rfl
  case pk9=>kernel_rfl
  case pk10=>kernel_rfl
  case pk12=>exact rfl
  case pk14=>exact rfl
  case pk15=>decide
  intro X00;simp only [pickOps];repeat (go_big_quiet_step ((go_at_call 206;exact Calls.added (HBO.out _ ⟨_,rfl⟩))))
  refine wpQuiet_nil ⟨?pkA,?pkB⟩
  case pkA=>
   intro X0 K Q' hK;(try go_simp);refine (HA.out _ ⟨_,rfl⟩).mono ?_;rintro e w4 ⟨gA,gC,rfl,own4,M4,R4,S4, -, -⟩;(try go_simp);refine hK _ _ ?_;clear hK K Q';refine yam 18 (fun K Q' hK=>?_);(try go_simp);refine hK _ _ ?_;clear hK K Q';refine yam 19 (fun K Q' hK=>?_);(try go_simp);refine hK _ _ ?_;clear hK K Q';refine wpAny_done zQ ?_ _;go_wp2_with fail;go_meet
   obtain ⟨own5,m5,b5⟩:=ygQ own4 w4 143 [.int .i64 (W.asksR ⟨1,oa,ob,oc,on,x,y⟩).1.1,.slice gA (W.asksR ⟨1,oa,ob,oc,on,x,y⟩).1.2.1.length gC,.int .i64 (W.asksR ⟨1,oa,ob,oc,on,x,y⟩).1.2.2];exact ⟨_,gA,gC,rfl,zH ⟨own5,M4.out.trans (m5.mono (fun _=>False.elim)),R4.out.keep m5 id,S4.out.keep m5 (fun x hx=>hx.elim),b5⟩⟩
  case pkB=>
   intro X0 K Q' hK;go_simp;refine hK _ _ ?_ (fun X2 K2 Q2 hK2=>?_)
   · exact zE
   clear hK K Q';(try go_simp);refine (HA.out _ zE).mono ?_;rintro e w4 ⟨gA,gC,rfl,own4,M4,R4,S4,O4,H4⟩;obtain ⟨hrow,hq1,hq2⟩:=ygR H4.out;have B4:Blk ⟨own4,w4⟩ 0 (w1.patch X0).heap.size 143 [.int .i64 0,.slice none 0 0,.int .i64 0]:=⟨hrow,O4.out _ hq1 hq2⟩;generalize (w1.patch X0).heap.size=qg at *;have HB4:=zH B4;clear hrow hq2 H4 O4;obtain ⟨z0,z1,z2,zl⟩:=B4.k3;have zf0:=B4.liv 0;have zf1:=B4.liv 1;have zf2:=B4.liv 2;clear B4;(try go_simp);refine hK2 _ _ ?_;clear hK2 K2 Q2;refine yam 19 (fun K Q' hK=>?_);(try go_simp);refine hK _ _ ?_;clear hK K Q';refine wpAny_done zQ ?_ _;go_wp2_with fail;go_meet
   exact ⟨_,gA,gC,rfl,zH ⟨own4,Mod.stn (Mod.stn (Mod.stn M4.out hq1) hq1) hq1,yfH R4.out HB4.out,yhK S4.out HB4.out HP.out.hb,ygP HB4.out _ _ _⟩⟩
 case rest=>
  obtain ⟨qg,gA,gC,rfl,HG4⟩:=hcut;obtain ⟨own4,m4,r4,s4,b4⟩:=HG4.out;have hPb:=HP.out.hb;have hPt:=HP.out.ht;obtain ⟨w4,rfl⟩: ∃w4:World,w4=wc:=⟨_,rfl⟩;have H4:=zH (H1.out.spc HP.out m4 s4);have M4:=zH ((M1.out.mono (S:=acT t B) (fun _=>False.elim)).trans (m4.mono (fun x hx=>ybO hx)));have Q4:=zH (Q1.out.keep m4 (fun h=>by have:=h.1;omega));have R4:=zH (R1.out.keep m4 (fun h=>by have:=h.1;omega));have G4:=zH r4;have B4:=zH b4;clear m4 r4 s4 b4 HG4 H1 M1 Q1 R1 HBO HA a0 a1 a2 a3 a4 a5 a6 a7 a8 a9 a10 a11 a12 a13 a14 a15 a16 a17 a18 al c0 c1 c2 c3 c4 c5 c6 c7 c8 c9 c10 c11 c12 cl hrs
  have HOK2:=zH (show (W.asksR ⟨1,oa,ob,oc,on,x,y⟩).1.1=0∨((W.asksR ⟨1,oa,ob,oc,on,x,y⟩).1.1=1∧(W.spc (W.asksR ⟨1,oa,ob,oc,on,x,y⟩).2).takesOk ⟨1,oa,ob,oc,on,x,y⟩ (W.asksR ⟨1,oa,ob,oc,on,x,y⟩).1.2.1 (W.asksR ⟨1,oa,ob,oc,on,x,y⟩).1.2.2=true) from by
   have h:=HOK.out;unfold AcW.asksO at h;split at h
   · rename_i h1;exact h1
   · cases h)
  have HR2:=zH (show r=W.asks ⟨1,oa,ob,oc,on,x,y⟩ from by
   have h:=HOK.out;unfold AcW.asksO at h;split at h
   · injection h with h;exact h.symm
   · cases h)
  have HD:=zH (show W.asks ⟨1,oa,ob,oc,on,x,y⟩=(if (W.asksR ⟨1,oa,ob,oc,on,x,y⟩).1.1=0 then ((W.spc (W.asksR ⟨1,oa,ob,oc,on,x,y⟩).2).withA { W.a with phase:=3,pc:=5 }).no else ((W.spc (W.asksR ⟨1,oa,ob,oc,on,x,y⟩).2).takes ⟨1,oa,ob,oc,on,x,y⟩ (W.asksR ⟨1,oa,ob,oc,on,x,y⟩).1.2.1 (W.asksR ⟨1,oa,ob,oc,on,x,y⟩).1.2.2).no) from rfl);clear HOK;generalize W.asksR ⟨1,oa,ob,oc,on,x,y⟩=ar at *;obtain ⟨⟨st,got,at_⟩,S'⟩:=ar;simp only at H4 G4 B4 HOK2 HD;obtain ⟨z0,z1,z2,zl⟩:=B4.out.k3;obtain ⟨x0,x1,x2,x3,x4,x5,xl⟩:=Q4.out.k6;rcases HOK2.out with h0|⟨h1,h2⟩
  · have HD2:=zH (show r=((W.spc S').withA { W.a with phase:=3,pc:=5 }).no by rw [HR2.out,HD.out,if_pos h0]);rw [h0] at z0;obtain ⟨a0,a1,a2,a3,a4,a5,a6,a7,a8,a9,a10,a11,a12,a13,a14,a15,a16,a17,a18,al⟩:=H4.out.a.blk.k19;have af3:=H4.out.a.blk.liv 3;have af7:=H4.out.a.blk.liv 7;have H5:=zH ((H4.out.set HP.out 3 (zI z6 3) { W.a with phase:=3 } rfl ⟨rfl,rfl,rfl,rfl,rfl,rfl⟩).set HP.out 7 (zI z6 5) { W.a with phase:=3,pc:=5 } rfl ⟨rfl,rfl,rfl,rfl,rfl,rfl⟩);have M5:=zH (show Mod (acT t B) g ⟨own4,(w4.setCell ⟨b,3,none⟩ (zI z6 3)).setCell ⟨b,7,none⟩ (zI z6 5)⟩ from Mod.st (Mod.st M4.out H4.out.modA) H4.out.modA);have R5:=zH (R4.out.keep (Mod.st (Mod.st (Mod.refl (fun x=>x=t) _) H4.out.a.blk.own) H4.out.a.blk.own:Mod (fun x=>x=t) ⟨own4,w4⟩ ⟨own4,(w4.setCell ⟨b,3,none⟩ (zI z6 3)).setCell ⟨b,7,none⟩ (zI z6 5)⟩) zo);clear h0 HOK2 HD;go_upto_region 7 with fail
    generalize (w4.setCell ⟨b,3,none⟩ (zI z6 3)).setCell ⟨b,7,none⟩ (zI z6 5)=w5 at *;clear a0 a1 a2 a3 a4 a5 a6 a7 a8 a9 a10 a11 a12 a13 a14 a15 a16 a17 a18 af3 af7 al z0 z1 z2 zl x0 x1 x2 x3 x4 x5 xl H4 M4 R4;obtain ⟨r0,r1,r2,r3,r4,rl⟩:=R5.out.k5;have rf0:=R5.out.liv 0;have rf1:=R5.out.liv 1;have rf2:=R5.out.liv 2;have rf3:=R5.out.liv 3;have rf4:=R5.out.liv 4;go_wp2_with fail;obtain ⟨Mf,mf,Rf⟩:=yaf M5.out R5.out (Nat.le_succ _) (0) (0) (0) (false) (0) (0);generalize ((((((w5).setCell ⟨g.w.heap.size+1,0,none⟩ (zI z6 (0))).setCell ⟨g.w.heap.size+1,1,none⟩ (zI z6 (0))).setCell ⟨g.w.heap.size+1,2,none⟩ (zI z6 (0))).setCell ⟨g.w.heap.size+1,3,none⟩ (.bool (false))).setCell ⟨g.w.heap.size+1,4,none⟩ (.complex .f64 (0) (0)))=wf at *;obtain ⟨f0,f1,f2,f3,f4,fl⟩:=Rf.k5;refine bodyPost_ret (v:=.tuple #[.agg #[.int .i64 (0),.int .i64 (0),.int .i64 (0),.bool (false),.complex .f64 (0) (0)],.bool false]) (by simp [results,Tryz.results137,go_sem,f0,f1,f2,f3,f4]) rfl ?_;exact Does.of ⟨own4,wf⟩ rfl (by rw [HD2.out];rfl) Mf (by rw [HD2.out];exact (H5.out.keep mf zo (fun x (hx:x=9)=>by omega) (fun x (hx:x=9)=>by omega)).at_)
  · have HD2:=zH (show r=((W.spc S').takes ⟨1,oa,ob,oc,on,x,y⟩ got at_).no by rw [HR2.out,HD.out,if_neg (by rw [h1];decide)]);rw [h1] at z0;obtain ⟨A',c',e1,e2,e3, -⟩:=G4.out.form;have e4:gC=c':=by injection e1
    rw [←e4] at e2 e3;clear e1 e4 A' c';have HTK:=zH (ydf HP.out H4.out oa ob oc on x y got gA gC 1 at_ G4.out.seg ⟨e2,e3⟩ h2);clear h1 h2 HOK2 HD e2 e3;go_wp2_with fail;refine HTK.out.mono ?_;rintro e w5 ⟨rfl,own5,m5,p5,h5⟩;have M5:=zH (M4.out.trans (m5.mono (fun x hx=>yb1 hx)));have R5:=zH (R4.out.keep m5 zo);have H5:=zH h5;clear m5 h5 HTK z0 z1 z2 zl x0 x1 x2 x3 x4 x5 xl H4 M4 R4;go_upto_region 7 with fail
    obtain ⟨r0,r1,r2,r3,r4,rl⟩:=R5.out.k5;have rf0:=R5.out.liv 0;have rf1:=R5.out.liv 1;have rf2:=R5.out.liv 2;have rf3:=R5.out.liv 3;have rf4:=R5.out.liv 4;go_wp2_with fail;obtain ⟨Mf,mf,Rf⟩:=yaf M5.out R5.out (Nat.le_succ _) (0) (0) (0) (false) (0) (0);generalize ((((((w5).setCell ⟨g.w.heap.size+1,0,none⟩ (zI z6 (0))).setCell ⟨g.w.heap.size+1,1,none⟩ (zI z6 (0))).setCell ⟨g.w.heap.size+1,2,none⟩ (zI z6 (0))).setCell ⟨g.w.heap.size+1,3,none⟩ (.bool (false))).setCell ⟨g.w.heap.size+1,4,none⟩ (.complex .f64 (0) (0)))=wf at *;obtain ⟨f0,f1,f2,f3,f4,fl⟩:=Rf.k5;refine bodyPost_ret (v:=.tuple #[.agg #[.int .i64 (0),.int .i64 (0),.int .i64 (0),.bool (false),.complex .f64 (0) (0)],.bool false]) (by simp [results,Tryz.results137,go_sem,f0,f1,f2,f3,f4]) rfl ?_;exact Does.of ⟨own5,wf⟩ rfl (by rw [HD2.out];rfl) Mf (by rw [HD2.out];exact (H5.out.keep mf zo (fun x (hx:x=9)=>by omega) (fun x (hx:x=9)=>by omega)).at_)
end
end Go.Proofs.YtdhjjpnajjingaaGreat
namespace Go.Proofs.YtdhjjpnajjingaaGreat
open Go Go.RowKit
def kindB (rf:Bool) (v:LVal):Bool:=v.ref !=rf
def noneB (v:LVal):Bool:=sameF v.z zNone
theorem ygM (v:LVal) (p:Nat) (rf:Bool) (w:World) (hp:w.cell? ⟨p,0,none⟩=some (.bool rf)) (hl:p<w.heap.size):Calls prog 199 #[.agg #[.bool v.ref,.complex .f64 v.z.1 v.z.2],.pointer (some ⟨p,0,none⟩)] w (Gives (.bool (kindB rf v)) w):=by
 have HV:=zH (show kindB rf v=(v.ref !=rf) from rfl);generalize v.ref=a at *;go_enter func199,ntmps199;go_wp2_with fail;go_ret;exact Gives.mk (by rw [HV.out];cases a<;>cases rf<;>rfl) zE
theorem ygN (v:LVal) (w:World):Calls prog 200 #[.agg #[.bool v.ref,.complex .f64 v.z.1 v.z.2]] w (Gives (.bool (noneB v)) w):=by
 have HV:=zH (show noneB v=sameF v.z zNone from rfl);have HN:=zH (fun w'=>yaF w');have HS:=zH (fun w'=>show Calls prog 165 #[.complex .f64 v.z.1 v.z.2,.complex .f64 0 4607182418800017408] w' (fun e w''=>e=.returned (.bool (sameF v.z zNone))∧w'=w'') from yaV v.z zNone w');generalize sameF v.z zNone=so at *;unfold wNone at HN;go_enter func200,ntmps200;go_wp2_with fail;obtain ⟨w0,hW⟩: ∃w0,w.alloc (.cells #[.bool v.ref,.complex .f64 v.z.1 v.z.2] 38)=w0:=⟨_,rfl⟩;have x0:w0.cell? ⟨w.heap.size,0,none⟩=some (.bool v.ref):=by rw [←hW];clear hW;go_simp
 have x1:w0.cell? ⟨w.heap.size,1,none⟩=some (.complex .f64 v.z.1 v.z.2):=by rw [←hW];clear hW;go_simp
 have hE0:=zH (show Ext w w0 by rw [←hW];clear hW;exact zE);have hl:w.heap.size<w0.heap.size:=by rw [←hW];clear hW;go_simp
 rw [hW];clear hW;refine yab [zT,zT,zT,zT,zT] 0 5 ?_;intro X00;simp only [pickOps];repeat (go_big_quiet_step (first|(go_at_call 68;exact Calls.added (HN.out _))|(go_at_call 165;exact Calls.added (yao (HS.out _)))))
 refine wpQuiet_nil (fun X0=>?_);clear X00;refine yaa zQ (fun X0'=>?_) _;(try go_simp);go_wp2_with fail;go_ret;exact Gives.mk (by rw [HV.out];rfl) (hE0.out.trans zE)
theorem ydO {w:World} {A:Option Addr} {l:List LVal} (h:CellsAt w A (l.flatMap LVal.cells)) {k:Nat} (hk:k<l.length): ∃b o,A=some ⟨b,o,none⟩∧b<w.heap.size∧w.cell? ⟨b,o+k*2,none⟩=some (.bool (l.getD k LVal.zero).ref)∧w.cell? ⟨b,o+k*2+1,none⟩=some (.complex .f64 (l.getD k LVal.zero).z.1 (l.getD k LVal.zero).z.2):=by
 obtain ⟨f0,f1⟩:=ycn l k _ (yaL hk);obtain ⟨b,o,rfl,hb,hc⟩:=h.cases (by have:=(List.getElem?_eq_some_iff.1 f0).1;omega);exact ⟨b,o,rfl,hb,hc _ _ f0,by rw [Nat.add_assoc];exact hc _ _ f1⟩
def IdxV (q:LVal→Bool) (l:List LVal) (w:World) (e:Ending) (w':World):Prop:= ∃n:Int,e=.returned (zI z6 n)∧decide (0≤n)=l.any q∧Ext w w'
theorem yeS {q:LVal→Bool} {l:List LVal} (h: ∀v∈l,q v=false):l.any q=false:=by
 rw [List.any_eq_false];intro x hx;rw [h x hx];simp
theorem ydH {q:LVal→Bool} {l:List LVal} {k:Nat} {v:LVal} (h:l[k]?=some v) (hv:q v=true):l.any q=true:=by
 rw [List.any_eq_true];exact ⟨v,List.mem_of_getElem? h,hv⟩
theorem ygF (A:Option Addr) (c:Nat) (l:List LVal) (p:Nat) (rf:Bool) (w:World) (hc:CellsAt w A (l.flatMap LVal.cells)) (hl:l.length≤1000) (hp:w.cell? ⟨p,0,none⟩=some (.bool rf)) (hpl:p<w.heap.size):
 Calls prog 241 #[.slice A l.length c,.func (.func 199) #[] #[.pointer (some ⟨p,0,none⟩)]] w (IdxV (kindB rf) l w):=by
 have HC:=zH hc;have HP:=zH (fun w' (he:Ext w w')=>(⟨(he.cell hpl).trans hp,Nat.lt_of_lt_of_le hpl he.size⟩:w'.cell? ⟨p,0,none⟩=some (.bool rf)∧p<w'.heap.size));clear hc hp hpl;go_enter func241,ntmps241;go_wp2_with fail;go_loopw [8] (fun i wr=> ∃k:Nat,k≤l.length∧i=.int .i64 k∧Hid (∀v∈l.take k,kindB rf v=false)∧Hid (Ext w wr)) (fun i _=>l.length-(intOf i).toNat)
 case atStart=>exact ⟨0,Nat.zero_le _,rfl,zH (by simp),zH (Ext.refl _)⟩
 case round=>
  obtain ⟨k,hk,rfl,hm,HE⟩:=hrel;by_cases hlt:k<l.length
  · obtain ⟨b,o,hA,hb,g0,g1⟩:=ydO (HC.out.ext HE.out) hlt;have HX:=zH (yaL hlt);generalize l.getD k LVal.zero=v at *;have HFV:=zH (ygM v p rf wr (HP.out wr HE.out).1 (HP.out wr HE.out).2);subst hA;go_wp2_with fail;refine HFV.out.mono ?_;rintro e w1 ⟨rfl,hX⟩;have HE1:=zH (HE.out.trans (show Ext wr w1 from hX));clear hX;cases hv:kindB rf v
    · have HN:=zH (ya8 HX.out hm.out hv);clear hv;go_wp2_with fail;go_roundw
      case rel=>exact ⟨k+1,zo,by go_num,HN,HE1⟩
      case measure=>simp [intOf];omega
    · have HN:=zH (ydH HX.out hv);clear hv;go_wp2_with fail;go_ret;exact ⟨_,rfl,by rw [HN.out];simp,HE1.out⟩
  · have HN:=zH (yeS (fun v hv=>hm.out v (by rw [List.take_of_length_le zo];exact hv)));go_wp2_with fail;go_ret;exact ⟨_,rfl,by rw [HN.out];rfl,HE.out⟩
theorem ygG (A:Option Addr) (c:Nat) (l:List LVal) (w:World) (hc:CellsAt w A (l.flatMap LVal.cells)) (hl:l.length≤1000):
 Calls prog 241 #[.slice A l.length c,.func (.func 200) #[] #[]] w (IdxV noneB l w):=by
 have HC:=zH hc;clear hc;go_enter func241,ntmps241;go_wp2_with fail;go_loopw [8] (fun i wr=> ∃k:Nat,k≤l.length∧i=.int .i64 k∧Hid (∀v∈l.take k,noneB v=false)∧Hid (Ext w wr)) (fun i _=>l.length-(intOf i).toNat)
 case atStart=>exact ⟨0,Nat.zero_le _,rfl,zH (by simp),zH (Ext.refl _)⟩
 case round=>
  obtain ⟨k,hk,rfl,hm,HE⟩:=hrel;by_cases hlt:k<l.length
  · obtain ⟨b,o,hA,hb,g0,g1⟩:=ydO (HC.out.ext HE.out) hlt;have HX:=zH (yaL hlt);generalize l.getD k LVal.zero=v at *;have HFV:=zH (ygN v wr);subst hA;go_wp2_with fail;refine HFV.out.mono ?_;rintro e w1 ⟨rfl,hX⟩;have HE1:=zH (HE.out.trans (show Ext wr w1 from hX));clear hX;cases hv:noneB v
    · have HN:=zH (ya8 HX.out hm.out hv);clear hv;go_wp2_with fail;go_roundw
      case rel=>exact ⟨k+1,zo,by go_num,HN,HE1⟩
      case measure=>simp [intOf];omega
    · have HN:=zH (ydH HX.out hv);clear hv;go_wp2_with fail;go_ret;exact ⟨_,rfl,by rw [HN.out];simp,HE1.out⟩
  · have HN:=zH (yeS (fun v hv=>hm.out v (by rw [List.take_of_length_le zo];exact hv)));go_wp2_with fail;go_ret;exact ⟨_,rfl,by rw [HN.out];rfl,HE.out⟩
theorem ygo (A:Option Addr) (c:Nat) (l:List LVal) (p:Nat) (rf:Bool) (w:World) (hc:CellsAt w A (l.flatMap LVal.cells)) (hl:l.length≤1000) (hp:w.cell? ⟨p,0,none⟩=some (.bool rf)) (hpl:p<w.heap.size):
 Calls prog 198 #[.slice A l.length c,.func (.func 199) #[] #[.pointer (some ⟨p,0,none⟩)]] w (Gives (.bool (l.any (kindB rf))) w):=by
 have HI:=zH (ygF A c l p rf w hc hl hp hpl);clear hc hp hpl;go_enter func198,ntmps198;go_wp2_with fail;refine HI.out.mono ?_;rintro e w1 ⟨n,rfl,hn,X,rfl⟩;have HN:=zH hn;clear hn;go_wp2_with fail;go_ret;exact Gives.bool HN.out zE
theorem ygp (A:Option Addr) (c:Nat) (l:List LVal) (w:World) (hc:CellsAt w A (l.flatMap LVal.cells)) (hl:l.length≤1000):
 Calls prog 198 #[.slice A l.length c,.func (.func 200) #[] #[]] w (Gives (.bool (l.any noneB)) w):=by
 have HI:=zH (ygG A c l w hc hl);clear hc;go_enter func198,ntmps198;go_wp2_with fail;refine HI.out.mono ?_;rintro e w1 ⟨n,rfl,hn,X,rfl⟩;have HN:=zH hn;clear hn;go_wp2_with fail;go_ret;exact Gives.bool HN.out zE
theorem yc0 {A:AcS} {o:Opr} {l:List LVal} {rf so:Bool} (h1:A.mustL o=l) (h2:AcS.refB o=rf) (h3:AcS.someB o=so):A.operandsE o=if l.any (kindB rf) then 4 else if so&&l.any noneB then 3 else 0:=by
 unfold AcS.operandsE;rw [h1,h2,h3];rfl
section
variable (g:GW) (t b:Nat) (A:AcS) (p:AcP)
theorem yeu (H:AcAt g t b A p) (oa ob oc on:Int) (x y:Nat):Calls prog 134 #[.pointer (some ⟨b,0,none⟩),.agg #[.int .i64 1,.int .i64 oa,.int .i64 ob,.int .i64 oc,.int .i64 on,.complex .f64 x y]] g.w (Gives (zI z6 (A.operandsE ⟨1,oa,ob,oc,on,x,y⟩)) g.w):=by
 have HV:=zH (yc0 (A:=A) (o:=⟨1,oa,ob,oc,on,x,y⟩) (l:=[]) (rf:=true) (so:=true) rfl rfl rfl);obtain ⟨a0,a1,a2,a3,a4,a5,a6,a7,a8,a9,a10,a11,a12,a13,a14,a15,a16,a17,a18,al⟩:=H.blk.k19;clear H;go_enter func134,ntmps134;go_upto_region 20 with fail
 obtain ⟨w1,hW⟩: ∃w1,((g.w.alloc (.cells #[.int .i64 1,.int .i64 oa,.int .i64 ob,.int .i64 oc,.int .i64 on,.complex .f64 x y] 26)).alloc (.cells #[.bool true] 4))=w1:=⟨_,rfl⟩;rw [hW];have hE:=zH (show Ext g.w w1 by rw [←hW];exact zE);have r0:w1.cell? ⟨g.w.heap.size+1,0,none⟩=some (.bool true):=by rw [←hW];clear hW;go_simp
 have hlr:g.w.heap.size+1<w1.heap.size:=by rw [←hW];clear hW;go_simp
 have hs:CellsAt w1 none (([]:List LVal).flatMap LVal.cells):=CellsAt.nil _ _;have HK1:=zH (show Calls prog 198 #[.slice none 0 0,.func (.func 199) #[] #[.pointer (some ⟨g.w.heap.size+1,0,none⟩)]] w1 (Gives (.bool (List.any ([]:List LVal) (kindB true))) w1) from ygo none 0 ([]:List LVal) _ true w1 hs (by simp) r0 hlr);have HK2:=zH (fun w' (he:Ext w1 w')=>show Calls prog 198 #[.slice none 0 0,.func (.func 200) #[] #[]] w' (Gives (.bool (List.any ([]:List LVal) noneB)) w') from ygp none 0 ([]:List LVal) w' (hs.ext he) (by simp));have HRF:=zH (fun w' (he:Ext w1 w')=>(he.cell hlr).trans r0);generalize List.any ([]:List LVal) (kindB true)=kb1 at *;generalize List.any ([]:List LVal) noneB=nb1 at *;clear hs hW;go_wp2_with fail;refine HK1.out.mono ?_;rintro e w2 ⟨rfl,X2,rfl⟩;cases kb1
 · go_wp2_with fail;refine (HK2.out _ zE).mono ?_;rintro e w3 ⟨rfl,X3,rfl⟩;cases nb1
   · go_wp2_with fail;go_ret;exact Gives.mk (by rw [HV.out];rfl) (hE.out.trans zE)
   · go_wp2_with fail;go_ret;exact Gives.mk (by rw [HV.out];rfl) (hE.out.trans zE)
 · go_wp2_with fail;go_ret;exact Gives.mk (by rw [HV.out];rfl) (hE.out.trans zE)
end
end Go.Proofs.YtdhjjpnajjingaaGreat
namespace Go.Proofs.YtdhjjpnajjingaaGreat
open Go Go.RowKit
def plainR (o:Option LVal):Value:=.tuple #[.agg #[.bool (o.getD LVal.zero).ref,.complex .f64 (o.getD LVal.zero).z.1 (o.getD LVal.zero).z.2],.bool o.isSome]
section
variable (g:GW) (t b:Nat) (A:AcS) (p:AcP)
theorem yhL (H:AcAt g t b A p) (oa ob oc on:Int) (x y:Nat):Calls prog 135 #[.pointer (some ⟨b,0,none⟩),.agg #[.int .i64 1,.int .i64 oa,.int .i64 ob,.int .i64 oc,.int .i64 on,.complex .f64 x y]] g.w (Gives (plainR (A.plainV ⟨1,oa,ob,oc,on,x,y⟩)) g.w):=by
 have HV:=zH (show A.plainV ⟨1,oa,ob,oc,on,x,y⟩=none from rfl);obtain ⟨a0,a1,a2,a3,a4,a5,a6,a7,a8,a9,a10,a11,a12,a13,a14,a15,a16,a17,a18,al⟩:=H.blk.k19;clear H;go_enter func135,ntmps135;go_wp2_with fail;refine bodyPost_ret (v:=.tuple #[.agg #[.bool false,.complex .f64 0 0],.bool false]) (by simp [results,Tryz.results135,go_sem]) rfl ?_;exact Gives.mk (by rw [HV.out];rfl) zE
end
end Go.Proofs.YtdhjjpnajjingaaGreat
namespace Go.Proofs.YtdhjjpnajjingaaGreat
open Go Go.RowKit
section
variable {g:GW} {t b B k:Nat} {W:AcW} {p:AcP} {bm bs bt bp bsp bh:Nat} {cm:Cnf}
theorem ycG [TbId] (P:AcApart t B) (hnx:0≤W.a.next∧W.a.next≤1099511627776) (H:AcIn g t B b k W p bm bs bt bp bsp bh cm) (hck:W.K.c.check=0) (oa ob oc on:Int) (x y:Nat) (ho:opOk W.K.c ⟨1,oa,ob,oc,on,x,y⟩=true) (hsp:0≤W.K.sp.count∧W.K.sp.count≤1099511627776) (hln:W.K.sp.line.length<1000000) (r:AcR) (hok:W.asksO ⟨1,oa,ob,oc,on,x,y⟩=some r):
 Calls prog 75 #[.pointer (some ⟨b,0,none⟩),.pointer (some ⟨k,0,none⟩),.agg #[.int .i64 1,.int .i64 oa,.int .i64 ob,.int .i64 oc,.int .i64 on,.complex .f64 x y]] g.w (Does (resV r.1) g (acT t B) (fun g'=>AcWAt g' t B b k r.2)):=by
 have HH:=zH H;have HP:=zH P;have hPt:=P.ht;have hPb:=P.hb;have hPa:=P.apart;go_enter func75,ntmps75;go_upto_region 1 with fail
 obtain ⟨own0,m0,Q0,R0⟩:=yat g 26 40 [.int .i64 1,.int .i64 oa,.int .i64 ob,.int .i64 oc,.int .i64 on,.complex .f64 x y] resZ;unfold resZ at m0 R0 Q0;generalize (g.w.alloc (.cells #[.int .i64 1,.int .i64 oa,.int .i64 ob,.int .i64 oc,.int .i64 on,.complex .f64 x y] 26)).alloc (.cells #[.int .i64 0,.int .i64 0,.int .i64 0,.bool false,.complex .f64 0 0] 40)=w0 at *;have H0:=zH (HH.out.keep0 m0);have M0:=zH (m0.mono (S:=acT t B) (fun _=>False.elim));have Q0':=zH Q0;have R0':=zH R0;have HCK:=zH (fun X=>(show Calls prog 133 #[cm.val,.agg #[.int .i64 1,.int .i64 oa,.int .i64 ob,.int .i64 oc,.int .i64 on,.complex .f64 x y]] (w0.patch X) (Gives (zI z6 0) (w0.patch X)) from ydQ cm oa ob oc on x y (w0.patch X) (H0.out.c.cnf.ok.ext ⟨X,rfl⟩) (by rw [HH.out.c.same.check];exact hck) (by rw [ycp HH.out.c.same];exact ho)));unfold Cnf.val at HCK;obtain ⟨c0,c1,c2,c3,c4,c5,c6,c7,c8,c9,c10,c11,c12,cl⟩:=H0.out.c.blk.k13;obtain ⟨x0,x1,x2,x3,x4,x5,xl⟩:=Q0.k6;clear m0 Q0 R0 H;refine yab [zT,zT,zT,zT,zT,zT,zT] 0 7 ?_;intro X00;simp only [pickOps];repeat (go_big_quiet_step ((go_at_call 133;exact Calls.added (HCK.out _))))
 refine wpQuiet_nil (fun X0=>?_);clear X00;refine yaa zQ (fun X0'=>?_) _;(try go_simp);obtain ⟨own1,m1⟩: ∃ownZ,Mod (fun _=>False) (⟨own0,w0⟩:GW) ⟨ownZ,w0.patch ⟨X0.blocks++X0'.blocks,X0'.drawn⟩⟩:=⟨_,Mod.pt (g:=⟨own0,w0⟩) (Mod.refl _ _) _⟩;have M1:=zH (M0.out.trans (m1.mono (S:=acT t B) (fun _=>False.elim)));have H1:=zH (H0.out.keep0 m1);have Q1:=zH (Q0'.out.keep m1 id);have R1:=zH (R0'.out.keep m1 id);generalize w0.patch ⟨X0.blocks++X0'.blocks,X0'.drawn⟩=w1 at *;clear m1 M0 H0 Q0' R0' HCK;clear x0 x1 x2 x3 x4 x5 xl;clear c0 c1 c2 c3 c4 c5 c6 c7 c8 c9 c10 c11 c12 cl;obtain ⟨x0,x1,x2,x3,x4,x5,xl⟩:=Q1.out.k6;have HOP:=zH (show Calls prog 134 #[.pointer (some ⟨b,0,none⟩),.agg #[.int .i64 1,.int .i64 oa,.int .i64 ob,.int .i64 oc,.int .i64 on,.complex .f64 x y]] w1 (Gives (zI z6 0) w1) from yeu ⟨own1,w1⟩ t b W.a p H1.out.a oa ob oc on x y);go_wp2_with fail;refine HOP.out.mono ?_;rintro e w2 ⟨rfl,hE⟩
 obtain ⟨own2,m2⟩: ∃ownZ,Mod (fun _=>False) (⟨own1,w1⟩:GW) ⟨ownZ,w2⟩:=by
  obtain ⟨X2,rfl⟩:=hE;exact ⟨((⟨own1,w1⟩:GW).pt X2).own,(show Mod (fun _=>False) (⟨own1,w1⟩:GW) ((⟨own1,w1⟩:GW).pt X2) from Mod.pt (Mod.refl _ _) _)⟩
 clear hE;have M2:=zH (M1.out.trans (m2.mono (S:=acT t B) (fun _=>False.elim)));have H2:=zH (H1.out.keep0 m2);have Q2:=zH (Q1.out.keep m2 id);have R2:=zH (R1.out.keep m2 id);clear m2 M1 H1 Q1 R1;clear HOP;clear x0 x1 x2 x3 x4 x5 xl;have HPL:=zH (show Calls prog 135 #[.pointer (some ⟨b,0,none⟩),.agg #[.int .i64 1,.int .i64 oa,.int .i64 ob,.int .i64 oc,.int .i64 on,.complex .f64 x y]] w2 (Gives (.tuple #[.agg #[.bool false,.complex .f64 (0) (0)],.bool false]) w2) from yhL ⟨own2,w2⟩ t b W.a p H2.out.a oa ob oc on x y);obtain ⟨x0,x1,x2,x3,x4,x5,xl⟩:=Q2.out.k6;go_wp2_with fail;refine HPL.out.mono ?_;rintro e w3 ⟨rfl,hE⟩
 obtain ⟨own3,m3⟩: ∃ownZ,Mod (fun _=>False) (⟨own2,w2⟩:GW) ⟨ownZ,w3⟩:=by
  obtain ⟨X2,rfl⟩:=hE;exact ⟨((⟨own2,w2⟩:GW).pt X2).own,(show Mod (fun _=>False) (⟨own2,w2⟩:GW) ((⟨own2,w2⟩:GW).pt X2) from Mod.pt (Mod.refl _ _) _)⟩
 clear hE;have M3:=zH (M2.out.trans (m3.mono (S:=acT t B) (fun _=>False.elim)));have H3:=zH (H2.out.keep0 m3);have Q3:=zH (Q2.out.keep m3 id);have R3:=zH (R2.out.keep m3 id);clear m3 M2 H2 Q2 R2;clear HPL;clear x0 x1 x2 x3 x4 x5 xl;obtain ⟨x0,x1,x2,x3,x4,x5,xl⟩:=Q3.out.k6;go_upto_region 9 with fail
 obtain ⟨own4,m4,V4⟩:=yaI ⟨own3,w3⟩ 38 [.bool false,.complex .f64 (0) (0)];have m4':Mod (fun _=>False) (⟨own3,w3⟩:GW) ⟨own4,w3.alloc (.cells #[.bool false,.complex .f64 (0) (0)] 38)⟩:=m4;have V4':Blk ⟨own4,w3.alloc (.cells #[.bool false,.complex .f64 (0) (0)] 38)⟩ 9 w3.heap.size 38 [.bool false,.complex .f64 (0) (0)]:=V4;clear m4 V4;generalize w3.alloc (.cells #[.bool false,.complex .f64 (0) (0)] 38)=w4 at *;have m4:=m4';clear m4';generalize w3.heap.size=qv at *;have M4:=zH (M3.out.trans (m4.mono (S:=acT t B) (fun _=>False.elim)));have H4:=zH (H3.out.keep0 m4);have Q4:=zH (Q3.out.keep m4 id);have R4:=zH (R3.out.keep m4 id);clear m4 M3 H3 Q3 R3;clear x0 x1 x2 x3 x4 x5 xl;obtain ⟨x0,x1,x2,x3,x4,x5,xl⟩:=Q4.out.k6;clear V4';obtain ⟨⟨rr,rb⟩,rW⟩:=r
 have HAK:=zH (show Calls prog 137 #[.pointer (some ⟨b,0,none⟩),.pointer (some ⟨k,0,none⟩),.agg #[.int .i64 1,.int .i64 oa,.int .i64 ob,.int .i64 oc,.int .i64 on,.complex .f64 x y]] w4 (Does (.tuple #[.agg #[.int .i64 rr.op,.int .i64 rr.own,.int .i64 rr.e,.bool rr.v.ref,.complex .f64 rr.v.z.1 rr.v.z.2],.bool rb]) ⟨own4,w4⟩ (acT t B) (fun g'=>AcWAt g' t B b k rW)) from ydU (g:=⟨own4,w4⟩) P H4.out oa ob oc on x y ho hck hsp hln ((rr,rb),rW) hok);go_wp2_with fail;refine HAK.out.mono ?_;rintro e w5 ⟨rfl,own5,m5,h5⟩;have M5:=zH (M4.out.trans m5);have H5:=zH h5;have R5:=zH (R4.out.keep m5 (fun h=>by unfold acT at h;omega));clear M4 H4 R4 m5 h5 HAK;clear x0 x1 x2 x3 x4 x5 xl;obtain ⟨r0,r1,r2,r3,r4,rl⟩:=R5.out.k5;have rf0:=R5.out.liv 0;have rf1:=R5.out.liv 1;have rf2:=R5.out.liv 2;have rf3:=R5.out.liv 3;have rf4:=R5.out.liv 4;go_wp2_with fail;obtain ⟨Mf,mf,Rf⟩:=yaf M5.out R5.out (Nat.le_succ _) (rr.op) (rr.own) (rr.e) (rr.v.ref) (rr.v.z.1) (rr.v.z.2)
 generalize ((((((w5).setCell ⟨g.w.heap.size+1,0,none⟩ (zI z6 (rr.op))).setCell ⟨g.w.heap.size+1,1,none⟩ (zI z6 (rr.own))).setCell ⟨g.w.heap.size+1,2,none⟩ (zI z6 (rr.e))).setCell ⟨g.w.heap.size+1,3,none⟩ (.bool (rr.v.ref))).setCell ⟨g.w.heap.size+1,4,none⟩ (.complex .f64 (rr.v.z.1) (rr.v.z.2)))=wf at *;obtain ⟨f0,f1,f2,f3,f4,fl⟩:=Rf.k5;refine bodyPost_ret (v:=.tuple #[.agg #[.int .i64 (rr.op),.int .i64 (rr.own),.int .i64 (rr.e),.bool (rr.v.ref),.complex .f64 (rr.v.z.1) (rr.v.z.2)],.bool rb]) (by simp [results,Tryz.results75,go_sem,f0,f1,f2,f3,f4]) rfl ?_;obtain ⟨p5,bm5,bs5,bt5,bp5,bsp5,bh5,cm5,H6⟩:=H5.out;exact Does.of ⟨own5,wf⟩ rfl rfl Mf ((H6.keep mf zo (fun x (hx:x=9)=>by omega) (fun x (hx:x=9)=>by omega)).at_)
end
end Go.Proofs.YtdhjjpnajjingaaGreat
namespace Go.Proofs.YtdhjjpnajjingaaGreat
open Go Go.RowKit
section
variable {g:GW} {t b B k:Nat} {W:AcW} {p:AcP} {bm bs bt bp bsp bh:Nat} {cm:Cnf}
end
end Go.Proofs.YtdhjjpnajjingaaGreat
namespace Go.Proofs.YtdhjjpnajjingaaGreat
open Go Go.RowKit
theorem TabS.born_yes {T:TabS} {k:Nat} {o:One} (ho:T.l[k]?=some o) (h2:T.state k=2) (hh:T.head k=false):T.born k=⟨T.l.set k ⟨o.state,true,o.sense⟩⟩:=by
 unfold TabS.born;rw [h2,hh,if_pos zd,Int.toNat_natCast];congr 1
 apply List.ext_getElem?;intro i;have hk:=(List.getElem?_eq_some_iff.1 ho).1;rw [List.getElem?_modify,List.getElem?_set];by_cases hi:k=i
 · subst hi;rw [if_pos rfl,if_pos hk,ho];simp
 · simp [hi]
theorem TabAt.borned {g:GW} {t b r c k:Nat} {T:TabS} {o:One} (h:TabAt g t b T) (hk:k<T.l.length) (ho:T.l[k]?=some o)
 (hb:Blk g t b 109 [.slice (some ⟨r,0,none⟩) T.l.length c,.int .i64 (T.cnt 0),.int .i64 (T.cnt 1),.int .i64 (T.cnt 2)])
 (hr:Row g t 265 3 (.slice (some ⟨r,0,none⟩) T.l.length c) T.l.length (T.l.flatMap One.cells)) (hne:r≠b):
 TabAt ⟨g.own,g.w.setCell ⟨r,k*3+1,none⟩ (.bool true)⟩ t b ⟨T.l.set k ⟨o.state,true,o.sense⟩⟩:=by
 refine ⟨⟨some ⟨r,0,none⟩,c,?_,?_⟩,by simpa using h.len,fun u hu=>?_⟩
 · simp only [List.length_set];rw [TabS.cnt_set ho,TabS.cnt_set ho,TabS.cnt_set ho];have:=hb.setOther (k*3+1) (.bool true) hne;simpa using this
 · simp only [List.length_set];have:=hr.store (k*3+1) (.bool true);rw [ybk _ _ hk];obtain ⟨st,hd,se⟩:=o;have e0:(T.l.flatMap One.cells)[k*3]?=some (zI z6 st):=yaw One.cells_len T.l k 0 _ ho zo;have e2:(T.l.flatMap One.cells)[k*3+2]?=some (.bool se):=yaw One.cells_len T.l k 2 _ ho zo;rw [show (((T.l.flatMap One.cells).set (k*3) (zI z6 st)).set (k*3+1) (.bool true)).set (k*3+2) (.bool se)=(T.l.flatMap One.cells).set (k*3+1) (.bool true) from ?_]
   · exact this
   · apply List.ext_getElem?;intro i;have l2:=(List.getElem?_eq_some_iff.1 e2).1;have l0:=(List.getElem?_eq_some_iff.1 e0).1;by_cases h2:k*3+2=i
     · subst h2;rw [List.getElem?_set_self (by rw [List.length_set,List.length_set];exact l2),List.getElem?_set_ne zo,e2]
     · rw [List.getElem?_set_ne h2];by_cases h1:k*3+1=i
       · subst h1;rw [List.getElem?_set_self (by rw [List.length_set];omega),List.getElem?_set_self zo]
       · rw [List.getElem?_set_ne h1,List.getElem?_set_ne h1];by_cases h0:k*3=i
         · subst h0;rw [List.getElem?_set_self l0,e0]
         · rw [List.getElem?_set_ne h0]
 · rcases List.mem_or_eq_of_mem_set hu with hu|rfl
   · exact h.st u hu
   · exact h.st o (List.mem_of_getElem? ho)
theorem yhs (g:GW) (t b:Nat) (i:Int) (T:TabS) (h:TabAt g t b T) (hst:(T.state i==2&& !T.head i)=true):
 Calls prog 213 #[.pointer (some ⟨b,0,none⟩),.int .i64 i] g.w (Does (.bool true) g (fun x=>x=t) (fun g'=>TabAt g' t b (T.born i))):=by
 have HS:=zH (yaW g t b i T h);rw [Bool.and_eq_true] at hst;have e2:T.state i=2:=by simpa using hst.1
 have eh:T.head i=false:=by simpa using hst.2
 cases hin:inB i T.l.length
 · rw [show T.state i=0 by unfold TabS.state;rw [TabS.at_out hin];rfl] at e2;cases e2
 obtain ⟨k,rfl,hk⟩:=yai hin;have hz:((T.state k:Int) !=2)=false:=by rw [e2];rfl
 obtain ⟨r,c,o,ho,h2,hb,hr,hrl, -,k1,k2,kf,hne⟩:=h.one hk;have HM:=zH (TabS.born_yes ho e2 eh);have HOR:=zH (hr.own r rfl);have H:=zH (h.borned hk ho hb hr (fun e=>hne e.symm))
 have eo:o.head=false:=by
  have:T.head k=o.head:=by unfold TabS.head;rw [TabS.at_in ho];rfl
  rw [←this];exact eh
 rw [eo] at k1;rw [e2] at HS;have c0:=hb.cell (i:=0) rfl;have hlen:=h.len;have f1:=kf (k*3+1);generalize T.l.length=n at *;clear hb hr h ho hst hz e2 eh eo kf hin;go_enter func213,ntmps213;go_wp2_with fail;refine (HS.out).mono ?_;rintro e w1 ⟨rfl,rfl⟩;go_wp2_with fail;go_ret;exact Does.of ⟨g.own,_⟩ rfl rfl (Mod.st Mod.self HOR.out) (by rw [HM.out];exact H.out)
theorem yeH (i:Int) (g:GW) (B b bt:Nat) (S:SpaceS) (h:SpaceAt g B b bt S) (hB:100≤B) (hc:0≤S.count∧S.count≤1099511627776) (hst:(S.tab.state i==2&& !S.tab.head i)=true):
 Calls prog 148 #[.pointer (some ⟨b,0,none⟩),.int .i64 i] g.w (Does (.bool true) g (inst B) (fun g'=>SpaceAt g' B b bt { S.tick with tab:=S.tab.born i })):=by
 obtain ⟨bp,bk,bl,A,cs,cm,bs,h⟩:=h;obtain ⟨hc0,hc1⟩:=hc;have M0:=zH (show Mod (inst B) g ⟨g.own,g.w.setCell ⟨b,3,none⟩ (zI z6 (S.count+1))⟩ from Mod.set (by rw [h.blk.own];exact ⟨zo,zo⟩));have H0:=zH (show SpaceIn ⟨g.own,g.w.setCell ⟨b,3,none⟩ (zI z6 (S.count+1))⟩ B b bt S.tick bp bk bl A cs cm bs from h.tick);have HT:=zH (yhs _ _ _ i _ H0.out.tab hst);obtain ⟨a0,a1,a2,a3,a4,a5,a6,a7,a8,a9,a10,a11,a12,a13,a14,a15,al⟩:=h.blk.k16;have af3:=h.blk.liv 3;clear h hst;go_enter func148,ntmps148;go_wp2_with fail;refine HT.out.mono ?_;rintro e w1 ⟨rfl,own1,m1,h1⟩;have M1:=zH (M0.out.trans (m1.mono (fun x (hx:x=B+50)=>(⟨zo,zo⟩:inst B x))));have H1:=zH (H0.out.withTab m1 h1);clear m1 h1;go_wp2_with fail;go_ret;exact Does.of ⟨own1,w1⟩ rfl rfl M1.out ⟨_,_,_,_,_,_,_,H1.out⟩
section
variable {g:GW} {t B b k:Nat} {W:AcW} {p:AcP} {bm bs bt bp bsp bh:Nat} {cm:Cnf}
theorem yeO [TbId] (P:AcApart t B) (hsc:0≤W.K.sp.count∧W.K.sp.count≤1099511627776) (hnx:0≤W.a.next∧W.a.next≤1099511627776) (H:AcIn g t B b k W p bm bs bt bp bsp bh cm) (ok oa ob oc on:Int) (x y:Nat) (hoa:0≤oa∧oa<W.a.locals.length) (i:Int) (l:List Int) (hgot:W.a.got=i::l) (hst:(W.K.sp.tab.state i==2&& !W.K.sp.tab.head i)=true) (hi:0≤i∧i≤1099511627776):
 Calls prog 79 #[.pointer (some ⟨b,0,none⟩),.pointer (some ⟨k,0,none⟩),.agg #[.int .i64 ok,.int .i64 oa,.int .i64 ob,.int .i64 oc,.int .i64 on,.complex .f64 x y]] g.w (Does (resV (W.bears ⟨ok,oa,ob,oc,on,x,y⟩).1) g (acT t B) (fun g'=>AcWAt g' t B b k (W.bears ⟨ok,oa,ob,oc,on,x,y⟩).2)):=by
 have HD:=zH (show W.bears ⟨ok,oa,ob,oc,on,x,y⟩=(W.spc { W.K.sp.tick with tab:=W.K.sp.tab.born i }).laysR oa ⟨true,zRef i⟩ from by unfold AcW.bears;rw [hgot];rfl);have HH:=zH H;have HP:=zH P;have hPt:=P.ht;have hPb:=P.hb;go_enter func79,ntmps79;go_upto_region 1 with fail
 obtain ⟨own0,M0,Q0,R0⟩:=yat g 26 40 [.int .i64 ok,.int .i64 oa,.int .i64 ob,.int .i64 oc,.int .i64 on,.complex .f64 x y] resZ;unfold resZ at M0 R0 Q0;generalize (g.w.alloc (.cells #[.int .i64 ok,.int .i64 oa,.int .i64 ob,.int .i64 oc,.int .i64 on,.complex .f64 x y] 26)).alloc (.cells #[.int .i64 0,.int .i64 0,.int .i64 0,.bool false,.complex .f64 0 0] 40)=w0 at *;have H0:=zH (HH.out.keep0 M0);have M0':=zH M0;have Q0':=zH Q0;have R0':=zH R0;obtain ⟨x0,x1,x2,x3,x4,x5,xl⟩:=Q0.k6;clear M0 Q0 R0;have HK:=zH (fun X=>yeH i ((⟨own0,w0⟩:GW).pt X) B bsp bt W.K.sp (H0.out.pt X).c.sp P.hb hsc hst);obtain ⟨q,o,hA,hq,hcell⟩:=H0.out.a.r.got.cells.cases (by rw [hgot];simp);have k0:=hcell 0 (zI z6 i) (by rw [hgot];rfl);simp only [Nat.add_zero] at k0 hq;have HK0:=zH k0;have HQ:=zH hq;obtain ⟨a0,a1,a2,a3,a4,a5,a6,a7,a8,a9,a10,a11,a12,a13,a14,a15,a16,a17,a18,al⟩:=H0.out.a.blk.k19;obtain ⟨c0,c1,c2,c3,c4,c5,c6,c7,c8,c9,c10,c11,c12,cl⟩:=H0.out.c.blk.k13;rw [hA,hgot] at a17;simp only [List.length_cons] at a17;have HGT:=zH hgot;clear H hgot hcell hst hsc;refine yab [zT,zT,zT,zT,zT,zT,zT,zT,zT,zT,zT,zU,zU] 2 11 ?_;intro X00;simp only [pickOps]
 repeat (go_big_quiet_step (fail))
 refine wpQuiet_nil (fun X0=>?_);clear X00;refine yad rfl zQ (fun X2=>?_);simp only [List.drop_succ_cons,List.drop_zero];go_wp2_with fail;refine (HK.out _).mono ?_;rintro e w1 ⟨rfl,own1,m1,h1⟩;have P1:=(Mod.pt (Mod.refl _ _) _).trans m1;have M1:=zH ((M0'.out.mono (S:=acT t B) (fun _=>False.elim)).trans (P1.mono (S:=acT t B) (fun x hx=>ybO hx)));have H1:=zH (H0.out.spc HP.out P1 h1);have R1:=zH (R0'.out.keep P1 (fun h=>by have:=h.1;omega));have Q1:=zH (Q0'.out.keep P1 (fun h=>by have:=h.1;omega));clear P1 m1 h1 HK a0 a1 a2 a3 a4 a5 a6 a7 a8 a9 a10 a11 a12 a13 a14 a15 a16 a17 a18 al c0 c1 c2 c3 c4 c5 c6 c7 c8 c9 c10 c11 c12 cl k0 hq HK0 HQ H0 M0' R0' Q0' x0 x1 x2 x3 x4 x5 xl;go_upto_region 3 with fail
 obtain ⟨q',o',hA',hq',hcell⟩:=H1.out.a.r.got.cells.cases (by rw [show (W.spc { W.K.sp.tick with tab:=W.K.sp.tab.born i }).a.got=i::l from HGT.out];simp);rw [hA] at hA';injection hA' with hA';injection hA' with e1 e2;subst e1 e2;have k0:=hcell 0 (zI z6 i) (by rw [show (W.spc { W.K.sp.tick with tab:=W.K.sp.tab.born i }).a.got=i::l from HGT.out];rfl);simp only [Nat.add_zero] at k0 hq';obtain ⟨a0,a1,a2,a3,a4,a5,a6,a7,a8,a9,a10,a11,a12,a13,a14,a15,a16,a17,a18,al⟩:=H1.out.a.blk.k19;obtain ⟨x0,x1,x2,x3,x4,x5,xl⟩:=Q1.out.k6;rw [hA,show (W.spc { W.K.sp.tick with tab:=W.K.sp.tab.born i }).a.got=i::l from HGT.out] at a17;simp only [List.length_cons] at a17;obtain ⟨r,hr⟩: ∃r,r=(W.spc { W.K.sp.tick with tab:=W.K.sp.tab.born i }).a.res ⟨true,zRef i⟩ 0:=⟨_,rfl⟩;have HRr:=zH hr
 have HRF:=zH (fun X=>(show Calls prog 149 #[.int .i64 i] (w1.patch X) (Gives (.complex .f64 (zRef i).1 (zRef i).2) (w1.patch X)) from by
  have h:=yce i (w1.patch X);rw [show wRef i=.complex .f64 (zRef i).1 (zRef i).2 from by unfold wRef zRef;rw [if_neg zo]] at h;exact h))
 have HLY:=zH (fun X=>ygi ((⟨own1,w1⟩:GW).pt X) t b _ p oa ⟨true,zRef i⟩ r hPt (H1.out.pt X).a hnx hoa hr.symm);clear hr hcell hA hoa hi hnx;generalize zRef i=zr at *;refine yaQ [] [zT,zT,zT,zT,zT,zT,zT,zT,zT,zT,zT,zT] 12 4 ?_;intro X00;simp only [pickOps,movesAct,moveOf,List.getElem?_toArray,List.getElem?_cons_zero,List.getElem?_cons_succ];(try go_simp);repeat (go_big_quiet_step ((go_at_call 149;exact Calls.added (HRF.out _))))
 refine wpQuiet_nil (fun X0 K Q' hK=>?_);clear X00;(try go_simp);refine (HLY.out _).mono ?_;rintro e w2 ⟨rfl,own2,m2,h2⟩;have m2':Mod (acO t) ⟨own1,w1⟩ ⟨own2,w2⟩:=(Mod.pt (Mod.refl _ _) _).trans m2;have M2:=zH (M1.out.trans (m2'.mono (S:=acT t B) (fun x hx=>yhy hx)));have H2:=zH (H1.out.own HP.out m2' h2);have R2:=zH (R1.out.keep m2' (fun h=>by unfold acO at h;omega));clear M1 H1 R1 Q1 m2 m2' h2 HLY HRF a0 a1 a2 a3 a4 a5 a6 a7 a8 a9 a10 a11 a12 a13 a14 a15 a16 a17 a18 al x0 x1 x2 x3 x4 x5 xl k0;obtain ⟨r0,r1,r2,r3,r4,rl⟩:=R2.out.k5;have rf0:=R2.out.liv 0;have rf1:=R2.out.liv 1;have rf2:=R2.out.liv 2;have rf3:=R2.out.liv 3;have rf4:=R2.out.liv 4;(try go_simp);refine hK _ _ ?_;clear hK K Q';refine yah (v:=.agg #[.int .i64 r.op,.int .i64 r.own,.int .i64 r.e,.bool r.v.ref,.complex .f64 r.v.z.1 r.v.z.2]) 13 ?_;(try go_simp);refine yah (v:=.bool true) 14 ?_;(try go_simp);refine yam 15 (fun K Q' hK=>?_);(try go_simp);refine hK _ _ ?_;clear hK K Q';refine yah (v:=.bool true) 16 ?_;(try go_simp);refine wpAny_done zQ ?_ _;go_wp2_with fail;obtain ⟨Mf,mf,Rf⟩:=yaf M2.out R2.out (Nat.le_succ _) (r.op) (r.own) (r.e) (r.v.ref) (r.v.z.1) (r.v.z.2)
 generalize ((((((w2).setCell ⟨g.w.heap.size+1,0,none⟩ (zI z6 (r.op))).setCell ⟨g.w.heap.size+1,1,none⟩ (zI z6 (r.own))).setCell ⟨g.w.heap.size+1,2,none⟩ (zI z6 (r.e))).setCell ⟨g.w.heap.size+1,3,none⟩ (.bool (r.v.ref))).setCell ⟨g.w.heap.size+1,4,none⟩ (.complex .f64 (r.v.z.1) (r.v.z.2)))=wf at *;obtain ⟨f0,f1,f2,f3,f4,fl⟩:=Rf.k5;refine bodyPost_ret (v:=.tuple #[.agg #[.int .i64 (r.op),.int .i64 (r.own),.int .i64 (r.e),.bool (r.v.ref),.complex .f64 (r.v.z.1) (r.v.z.2)],.bool true]) (by simp [results,Tryz.results79,go_sem,f0,f1,f2,f3,f4]) rfl ?_;exact Does.of ⟨own2,wf⟩ rfl (by rw [HD.out,HRr.out];rfl) Mf (by rw [HD.out];exact (H2.out.keep mf zo (fun x (hx:x=9)=>by omega) (fun x (hx:x=9)=>by omega)).at_)
end
end Go.Proofs.YtdhjjpnajjingaaGreat
namespace Go.Proofs.YtdhjjpnajjingaaGreat
open Go Go.RowKit
section
variable {g:GW} {t b B k:Nat} {W:AcW} {p:AcP} {bm bs bt bp bsp bh:Nat} {cm:Cnf}
structure AcW.BdW (W:AcW):Prop where
 next:0≤W.a.next∧W.a.next≤1099511627776
 hand:0≤W.K.hand.count∧W.K.hand.count≤1099511627776
 sp:0≤W.K.sp.count∧W.K.sp.count≤1099511627776
 mem:0≤W.K.mem.count∧W.K.mem.count≤1099511627776
 n:0≤W.K.n∧W.K.n≤1099511627776
 line:W.K.sp.line.length<1000000
end
end Go.Proofs.YtdhjjpnajjingaaGreat
namespace Go.Proofs.YtdhjjpnajjingaaGreat
open Go Go.RowKit
theorem yfU {g:GW} {t q o:Nat} {x y:Value} {xs:List Value} (h:Seg g t (some ⟨q,o,none⟩) (x::y::xs)):Seg g t (some ⟨q,o+2,none⟩) xs:=by
 have:=ybY (ybY h);exact this
section
variable {g:GW} {t B b k:Nat} {W:AcW} {p:AcP} {bm bs bt bp bsp bh:Nat} {cm:Cnf}
theorem yeR [TbId] (P:AcApart t B) (hmc:0≤W.K.mem.count∧W.K.mem.count≤1099511627776) (H:AcIn g t B b k W p bm bs bt bp bsp bh cm) (a:Int) (x y:Nat) (l:List Value) (hwr:W.a.writes=.int .i64 a::.complex .f64 x y::l) (hin:inB a W.K.mem.l.length=true):
 Calls prog 78 #[.pointer (some ⟨b,0,none⟩),.pointer (some ⟨k,0,none⟩)] g.w (Does (resV W.makes.1) g (acT t B) (fun g'=>AcWAt g' t B b k W.makes.2)):=by
 have HD:=zH (show W.makes=((W.memW (W.K.mem.tick.lay a (x,y))).withA { W.a with writes:=l,at_:=if l=[] then 8 else W.a.at_ }).no from by unfold AcW.makes;rw [hwr]);have HH:=zH H;have HP:=zH P;have HWR:=zH hwr;have hPt:=P.ht;go_enter func78,ntmps78;go_upto_region 1 with fail
 obtain ⟨own0,M0,R0⟩:=yaI g 40 resZ;unfold resZ at M0 R0;generalize (g.w.alloc (.cells #[.int .i64 0,.int .i64 0,.int .i64 0,.bool false,.complex .f64 0 0] 40))=w0 at *;have M0':=zH M0;have R0':=zH R0;clear M0 R0;have H0:=zH (HH.out.keep0 M0'.out);have HK:=zH (fun X=>yfx ((⟨own0,w0⟩:GW).pt X) (B+62) bm a x y W.K.mem (H0.out.pt X).c.mem hmc);rw [hin] at HK;simp only [if_true] at HK;obtain ⟨q,o,hA,hq,hcell⟩:=H0.out.a.r.wr.cells.cases (by rw [hwr];simp);have k0:=hcell 0 (zI z6 a) (by rw [hwr];rfl);have k1:=hcell 1 (.complex .f64 x y) (by rw [hwr];rfl);simp only [Nat.add_zero] at k0 k1;have hwC:=H0.out.a.r.wrC;rw [hwr] at hwC;simp only [List.length_cons] at hwC;have hl2:(l.length+1+1)/2=l.length/2+1:=zo;rw [hl2] at hwC;obtain ⟨a0,a1,a2,a3,a4,a5,a6,a7,a8,a9,a10,a11,a12,a13,a14,a15,a16,a17,a18,al⟩:=H0.out.a.blk.k19;obtain ⟨c0,c1,c2,c3,c4,c5,c6,c7,c8,c9,c10,c11,c12,cl⟩:=H0.out.c.blk.k13;rw [hA,hwr] at a18;simp only [List.length_cons] at a18;rw [hl2] at a18;simp only at hq;clear H hwr hcell hin hmc hl2;refine yab [zT,zT,zT,zT,zT,zT,zT,zT,zT,zT,zT,zT,zT,zT,zT,zT,zT,zT,zT,zT,zU,zU] 2 20 ?_;intro X00;simp only [pickOps]
 repeat (go_big_quiet_step (fail))
 refine wpQuiet_nil (fun X0=>?_);clear X00;refine yad rfl zQ (fun X2=>?_);simp only [List.drop_succ_cons,List.drop_zero];go_wp2_with fail;refine (HK.out _).mono ?_;rintro e w1 ⟨rfl,own1,m1,h1⟩;have P1:=(Mod.pt (Mod.refl _ _) _).trans m1;have M1:=zH ((M0'.out.mono (S:=acT t B) (fun _=>False.elim)).trans (P1.mono (S:=acT t B) (fun x hx=>yhx hx)));have H1:=zH (H0.out.mem HP.out P1 h1);have Z1:=zH (R0'.out.keep P1 (by have:=HP.out.hb;omega));clear P1 m1 h1 HK a0 a1 a2 a3 a4 a5 a6 a7 a8 a9 a10 a11 a12 a13 a14 a15 a16 a17 a18 al c0 c1 c2 c3 c4 c5 c6 c7 c8 c9 c10 c11 c12 cl k0 k1 hq H0 M0' R0';have HSG:=zH (show Seg ⟨own1,w1⟩ 0 (some ⟨q,o,none⟩) (zI z6 a::.complex .f64 x y::l) from by have h:=H1.out.a.r.wr;rw [show (W.memW (W.K.mem.tick.lay a (x,y))).a.writes=.int .i64 a::.complex .f64 x y::l from HWR.out,hA] at h;exact h);obtain ⟨a0,a1,a2,a3,a4,a5,a6,a7,a8,a9,a10,a11,a12,a13,a14,a15,a16,a17,a18,al⟩:=H1.out.a.blk.k19;have af18:=H1.out.a.blk.liv 18;have af11:=H1.out.a.blk.liv 11
 have hl3:(W.memW (W.K.mem.tick.lay a (x,y))).a.writes.length/2=l.length/2+1:=by rw [show (W.memW (W.K.mem.tick.lay a (x,y))).a.writes=.int .i64 a::.complex .f64 x y::l from HWR.out];simp only [List.length_cons];omega
 rw [hl3,hA] at a18;clear hA hl3;by_cases hC:p.wrC=1
 · have hl0:l=[]:=List.length_eq_zero_iff.1 (by have:=H1.out.a.r.wrE;rw [show (W.memW (W.K.mem.tick.lay a (x,y))).a.writes=.int .i64 a::.complex .f64 x y::l from HWR.out] at this;simp only [List.length_cons] at this;omega);have SL:=zH (Seg.nil ⟨own1,w1⟩ 0 (some ⟨q,o,none⟩));subst hl0;have hlen2:(([]:List Value):List Value).length%2=0:=by have:=H1.out.a.r.wrE;rw [show (W.memW (W.K.mem.tick.lay a (x,y))).a.writes=.int .i64 a::.complex .f64 x y::([]:List Value) from HWR.out] at this;simp only [List.length_cons,List.length_nil] at this ⊢;(try omega)
   have R2:AcRows ⟨own1,w1⟩ t { W.a with writes:=([]:List Value) } { p with wrA:=(some ⟨q,o,none⟩),wrC:=0 }:=by
    obtain ⟨r1,r2,r3,r4,r5,r6,r7,r8,r9,r10,r11,r12⟩:=H1.out.a.r;exact ⟨r1,r2,r3,r4,r5,r6,r7,r8,r9,SL.out,hlen2,(by show (([]:List Value):List Value).length/2≤0∧0≤9223372036854775807;simp only [List.length_nil] at *;omega)⟩
   have H2:=zH (H1.out.turn (A':={ W.a with writes:=([]:List Value) }) (p':={ p with wrA:=(some ⟨q,o,none⟩),wrC:=0 }) HP.out (g':=⟨own1,w1.setCell ⟨b,18,none⟩ (.slice (some ⟨q,o,none⟩) (0) 0)⟩) (Mod.st (Mod.refl _ _) H1.out.a.blk.own) (by
    have h:=H1.out.a.blk.set 18 (.slice (some ⟨q,o,none⟩) (0) 0)
    have hc:AcS.cells { W.a with writes:=([]:List Value) } { p with wrA:=(some ⟨q,o,none⟩),wrC:=0 }=((W.memW (W.K.mem.tick.lay a (x,y))).a.cells p).set 18 (.slice (some ⟨q,o,none⟩) (0) 0):=by
     unfold AcS.cells;(try simp only [List.length_nil,Nat.zero_div]);rfl
    rw [hc];exact h) R2)
   have M2:=zH (show Mod (acT t B) g ⟨own1,w1.setCell ⟨b,18,none⟩ (.slice (some ⟨q,o,none⟩) (0) 0)⟩ from Mod.st M1.out H1.out.modA);have Z2:=zH (Z1.out.keep (Mod.st (Mod.refl (fun x=>x=t) _) H1.out.a.blk.own:Mod (fun x=>x=t) ⟨own1,w1⟩ ⟨own1,w1.setCell ⟨b,18,none⟩ (.slice (some ⟨q,o,none⟩) (0) 0)⟩) zo);clear R2;go_upto_region 4 with fail
   generalize w1.setCell ⟨b,18,none⟩ (.slice (some ⟨q,o,none⟩) (0) 0)=w2 at *;clear a0 a1 a2 a3 a4 a5 a6 a7 a8 a9 a10 a11 a12 a13 a14 a15 a16 a17 a18 al af18 af11 H1 M1 Z1;obtain ⟨a0,a1,a2,a3,a4,a5,a6,a7,a8,a9,a10,a11,a12,a13,a14,a15,a16,a17,a18,al⟩:=H2.out.a.blk.k19;have af11:=H2.out.a.blk.liv 11;have a18':w2.cell? ⟨b,18,none⟩=some (.slice (some ⟨q,o,none⟩) (0) 0):=by first|exact a18|(simp only [AcW.withA,List.length_nil,Nat.zero_div] at a18;exact a18)
   clear a18;have hzz:((((0:Nat):Int))==0)=true:=rfl;have HD2:=zH (show W.makes=((W.memW (W.K.mem.tick.lay a (x,y))).withA { W.a with writes:=[],at_:=8 }).no by rw [HD.out];rfl);have H3:=zH (H2.out.set HP.out 11 (zI z6 8) { W.a with writes:=[],at_:=8 } rfl ⟨rfl,rfl,rfl,rfl,rfl,rfl⟩);have M3:=zH (show Mod (acT t B) g ⟨own1,w2.setCell ⟨b,11,none⟩ (zI z6 8)⟩ from Mod.st M2.out H2.out.modA);have R3:=zH (Z2.out.keep (Mod.st (Mod.refl (fun x=>x=t) _) H2.out.a.blk.own:Mod (fun x=>x=t) ⟨own1,w2⟩ ⟨own1,w2.setCell ⟨b,11,none⟩ (zI z6 8)⟩) zo);go_upto_region 6 with fail
   generalize w2.setCell ⟨b,11,none⟩ (zI z6 8)=w3 at *;clear a0 a1 a2 a3 a4 a5 a6 a7 a8 a9 a10 a11 a12 a13 a14 a15 a16 a17 a18' al af11 H2 M2 Z2;obtain ⟨r0,r1,r2,r3,r4,rl⟩:=R3.out.k5;have rf0:=R3.out.liv 0;have rf1:=R3.out.liv 1;have rf2:=R3.out.liv 2;have rf3:=R3.out.liv 3;have rf4:=R3.out.liv 4;go_wp2_with fail;obtain ⟨Mf,mf,Rf⟩:=yaf M3.out R3.out (Nat.le_refl _) (0) (0) (0) (false) (0) (0);generalize ((((((w3).setCell ⟨g.w.heap.size,0,none⟩ (zI z6 (0))).setCell ⟨g.w.heap.size,1,none⟩ (zI z6 (0))).setCell ⟨g.w.heap.size,2,none⟩ (zI z6 (0))).setCell ⟨g.w.heap.size,3,none⟩ (.bool (false))).setCell ⟨g.w.heap.size,4,none⟩ (.complex .f64 (0) (0)))=wf at *;obtain ⟨f0,f1,f2,f3,f4,fl⟩:=Rf.k5;refine bodyPost_ret (v:=.tuple #[.agg #[.int .i64 (0),.int .i64 (0),.int .i64 (0),.bool (false),.complex .f64 (0) (0)],.bool false]) (by simp [results,Tryz.results78,go_sem,f0,f1,f2,f3,f4]) rfl ?_;exact Does.of ⟨own1,wf⟩ rfl (by rw [HD2.out];rfl) Mf (by rw [HD2.out];exact (H3.out.keep mf zo (fun x (hx:x=9)=>by omega) (fun x (hx:x=9)=>by have:=HP.out.hb;omega)).at_)
 · have SL:=zH (yfU HSG.out);cases l with
   |nil=>
    have hlen2:(([]:List Value):List Value).length%2=0:=by have:=H1.out.a.r.wrE;rw [show (W.memW (W.K.mem.tick.lay a (x,y))).a.writes=.int .i64 a::.complex .f64 x y::([]:List Value) from HWR.out] at this;simp only [List.length_cons,List.length_nil] at this ⊢;(try omega)
    have R2:AcRows ⟨own1,w1⟩ t { W.a with writes:=([]:List Value) } { p with wrA:=(some ⟨q,o+2,none⟩),wrC:=(p.wrC-1) }:=by
     obtain ⟨r1,r2,r3,r4,r5,r6,r7,r8,r9,r10,r11,r12⟩:=H1.out.a.r;exact ⟨r1,r2,r3,r4,r5,r6,r7,r8,r9,SL.out,hlen2,(by show (([]:List Value):List Value).length/2≤(p.wrC-1)∧(p.wrC-1)≤9223372036854775807;simp only [List.length_nil] at *;omega)⟩
    have H2:=zH (H1.out.turn (A':={ W.a with writes:=([]:List Value) }) (p':={ p with wrA:=(some ⟨q,o+2,none⟩),wrC:=(p.wrC-1) }) HP.out (g':=⟨own1,w1.setCell ⟨b,18,none⟩ (.slice (some ⟨q,o+2,none⟩) (0) (p.wrC-1))⟩) (Mod.st (Mod.refl _ _) H1.out.a.blk.own) (by
     have h:=H1.out.a.blk.set 18 (.slice (some ⟨q,o+2,none⟩) (0) (p.wrC-1))
     have hc:AcS.cells { W.a with writes:=([]:List Value) } { p with wrA:=(some ⟨q,o+2,none⟩),wrC:=(p.wrC-1) }=((W.memW (W.K.mem.tick.lay a (x,y))).a.cells p).set 18 (.slice (some ⟨q,o+2,none⟩) (0) (p.wrC-1)):=by
      unfold AcS.cells;(try simp only [List.length_nil,Nat.zero_div]);rfl
     rw [hc];exact h) R2)
    have M2:=zH (show Mod (acT t B) g ⟨own1,w1.setCell ⟨b,18,none⟩ (.slice (some ⟨q,o+2,none⟩) (0) (p.wrC-1))⟩ from Mod.st M1.out H1.out.modA);have Z2:=zH (Z1.out.keep (Mod.st (Mod.refl (fun x=>x=t) _) H1.out.a.blk.own:Mod (fun x=>x=t) ⟨own1,w1⟩ ⟨own1,w1.setCell ⟨b,18,none⟩ (.slice (some ⟨q,o+2,none⟩) (0) (p.wrC-1))⟩) zo);clear R2;go_upto_region 4 with fail
    generalize w1.setCell ⟨b,18,none⟩ (.slice (some ⟨q,o+2,none⟩) (0) (p.wrC-1))=w2 at *;clear a0 a1 a2 a3 a4 a5 a6 a7 a8 a9 a10 a11 a12 a13 a14 a15 a16 a17 a18 al af18 af11 H1 M1 Z1;obtain ⟨a0,a1,a2,a3,a4,a5,a6,a7,a8,a9,a10,a11,a12,a13,a14,a15,a16,a17,a18,al⟩:=H2.out.a.blk.k19;have af11:=H2.out.a.blk.liv 11;have a18':w2.cell? ⟨b,18,none⟩=some (.slice (some ⟨q,o+2,none⟩) (0) (p.wrC-1)):=by first|exact a18|(simp only [AcW.withA,List.length_nil,Nat.zero_div] at a18;exact a18)
    clear a18;have hzz:((((0:Nat):Int))==0)=true:=rfl;have HD2:=zH (show W.makes=((W.memW (W.K.mem.tick.lay a (x,y))).withA { W.a with writes:=[],at_:=8 }).no by rw [HD.out];rfl);have H3:=zH (H2.out.set HP.out 11 (zI z6 8) { W.a with writes:=[],at_:=8 } rfl ⟨rfl,rfl,rfl,rfl,rfl,rfl⟩);have M3:=zH (show Mod (acT t B) g ⟨own1,w2.setCell ⟨b,11,none⟩ (zI z6 8)⟩ from Mod.st M2.out H2.out.modA);have R3:=zH (Z2.out.keep (Mod.st (Mod.refl (fun x=>x=t) _) H2.out.a.blk.own:Mod (fun x=>x=t) ⟨own1,w2⟩ ⟨own1,w2.setCell ⟨b,11,none⟩ (zI z6 8)⟩) zo);go_upto_region 6 with fail
    generalize w2.setCell ⟨b,11,none⟩ (zI z6 8)=w3 at *;clear a0 a1 a2 a3 a4 a5 a6 a7 a8 a9 a10 a11 a12 a13 a14 a15 a16 a17 a18' al af11 H2 M2 Z2;obtain ⟨r0,r1,r2,r3,r4,rl⟩:=R3.out.k5;have rf0:=R3.out.liv 0;have rf1:=R3.out.liv 1;have rf2:=R3.out.liv 2;have rf3:=R3.out.liv 3;have rf4:=R3.out.liv 4;go_wp2_with fail;obtain ⟨Mf,mf,Rf⟩:=yaf M3.out R3.out (Nat.le_refl _) (0) (0) (0) (false) (0) (0);generalize ((((((w3).setCell ⟨g.w.heap.size,0,none⟩ (zI z6 (0))).setCell ⟨g.w.heap.size,1,none⟩ (zI z6 (0))).setCell ⟨g.w.heap.size,2,none⟩ (zI z6 (0))).setCell ⟨g.w.heap.size,3,none⟩ (.bool (false))).setCell ⟨g.w.heap.size,4,none⟩ (.complex .f64 (0) (0)))=wf at *;obtain ⟨f0,f1,f2,f3,f4,fl⟩:=Rf.k5;refine bodyPost_ret (v:=.tuple #[.agg #[.int .i64 (0),.int .i64 (0),.int .i64 (0),.bool (false),.complex .f64 (0) (0)],.bool false]) (by simp [results,Tryz.results78,go_sem,f0,f1,f2,f3,f4]) rfl ?_;exact Does.of ⟨own1,wf⟩ rfl (by rw [HD2.out];rfl) Mf (by rw [HD2.out];exact (H3.out.keep mf zo (fun x (hx:x=9)=>by omega) (fun x (hx:x=9)=>by have:=HP.out.hb;omega)).at_)
   |cons z l=>
    obtain ⟨n2,hn2⟩: ∃n2,n2=(z::l).length/2:=⟨_,rfl⟩;have hn3:1≤n2:=by have:=H1.out.a.r.wrE;rw [show (W.memW (W.K.mem.tick.lay a (x,y))).a.writes=.int .i64 a::.complex .f64 x y::z::l from HWR.out] at this;simp only [List.length_cons] at this hn2;omega
    rw [←hn2] at a18 hwC;have HN2:=zH hn2;clear hn2;have hlen2:((z::l):List Value).length%2=0:=by have:=H1.out.a.r.wrE;rw [show (W.memW (W.K.mem.tick.lay a (x,y))).a.writes=.int .i64 a::.complex .f64 x y::(z::l) from HWR.out] at this;simp only [List.length_cons,List.length_nil] at this ⊢;(try omega)
    have R2:AcRows ⟨own1,w1⟩ t { W.a with writes:=(z::l) } { p with wrA:=(some ⟨q,o+2,none⟩),wrC:=(p.wrC-1) }:=by
     obtain ⟨r1,r2,r3,r4,r5,r6,r7,r8,r9,r10,r11,r12⟩:=H1.out.a.r;exact ⟨r1,r2,r3,r4,r5,r6,r7,r8,r9,SL.out,hlen2,(by show ((z::l):List Value).length/2≤(p.wrC-1)∧(p.wrC-1)≤9223372036854775807;rw [←HN2.out];omega)⟩
    have H2:=zH (H1.out.turn (A':={ W.a with writes:=(z::l) }) (p':={ p with wrA:=(some ⟨q,o+2,none⟩),wrC:=(p.wrC-1) }) HP.out (g':=⟨own1,w1.setCell ⟨b,18,none⟩ (.slice (some ⟨q,o+2,none⟩) (n2) (p.wrC-1))⟩) (Mod.st (Mod.refl _ _) H1.out.a.blk.own) (by
     have h:=H1.out.a.blk.set 18 (.slice (some ⟨q,o+2,none⟩) (n2) (p.wrC-1))
     have hc:AcS.cells { W.a with writes:=(z::l) } { p with wrA:=(some ⟨q,o+2,none⟩),wrC:=(p.wrC-1) }=((W.memW (W.K.mem.tick.lay a (x,y))).a.cells p).set 18 (.slice (some ⟨q,o+2,none⟩) (n2) (p.wrC-1)):=by
      unfold AcS.cells;rw [HN2.out];rfl
     rw [hc];exact h) R2)
    have M2:=zH (show Mod (acT t B) g ⟨own1,w1.setCell ⟨b,18,none⟩ (.slice (some ⟨q,o+2,none⟩) (n2) (p.wrC-1))⟩ from Mod.st M1.out H1.out.modA);have Z2:=zH (Z1.out.keep (Mod.st (Mod.refl (fun x=>x=t) _) H1.out.a.blk.own:Mod (fun x=>x=t) ⟨own1,w1⟩ ⟨own1,w1.setCell ⟨b,18,none⟩ (.slice (some ⟨q,o+2,none⟩) (n2) (p.wrC-1))⟩) zo);clear R2;go_upto_region 4 with fail
    generalize w1.setCell ⟨b,18,none⟩ (.slice (some ⟨q,o+2,none⟩) (n2) (p.wrC-1))=w2 at *;clear a0 a1 a2 a3 a4 a5 a6 a7 a8 a9 a10 a11 a12 a13 a14 a15 a16 a17 a18 al af18 af11 H1 M1 Z1;obtain ⟨a0,a1,a2,a3,a4,a5,a6,a7,a8,a9,a10,a11,a12,a13,a14,a15,a16,a17,a18,al⟩:=H2.out.a.blk.k19;have af11:=H2.out.a.blk.liv 11;have a18':w2.cell? ⟨b,18,none⟩=some (.slice (some ⟨q,o+2,none⟩) (n2) (p.wrC-1)):=by rw [HN2.out];exact a18
    clear a18;have hzl:(((n2:Nat):Int)==0)=false:=beq_eq_false_iff_ne.2 zo;have HD2:=zH (show W.makes=((W.memW (W.K.mem.tick.lay a (x,y))).withA { W.a with writes:=z::l }).no by rw [HD.out];rfl);have H3:=H2;have M3:=M2;have R3:=Z2;go_upto_region 6 with fail
    generalize w2=w3 at *;obtain ⟨r0,r1,r2,r3,r4,rl⟩:=R3.out.k5;have rf0:=R3.out.liv 0;have rf1:=R3.out.liv 1;have rf2:=R3.out.liv 2;have rf3:=R3.out.liv 3;have rf4:=R3.out.liv 4;go_wp2_with fail;obtain ⟨Mf,mf,Rf⟩:=yaf M3.out R3.out (Nat.le_refl _) (0) (0) (0) (false) (0) (0);generalize ((((((w3).setCell ⟨g.w.heap.size,0,none⟩ (zI z6 (0))).setCell ⟨g.w.heap.size,1,none⟩ (zI z6 (0))).setCell ⟨g.w.heap.size,2,none⟩ (zI z6 (0))).setCell ⟨g.w.heap.size,3,none⟩ (.bool (false))).setCell ⟨g.w.heap.size,4,none⟩ (.complex .f64 (0) (0)))=wf at *;obtain ⟨f0,f1,f2,f3,f4,fl⟩:=Rf.k5;refine bodyPost_ret (v:=.tuple #[.agg #[.int .i64 (0),.int .i64 (0),.int .i64 (0),.bool (false),.complex .f64 (0) (0)],.bool false]) (by simp [results,Tryz.results78,go_sem,f0,f1,f2,f3,f4]) rfl ?_;exact Does.of ⟨own1,wf⟩ rfl (by rw [HD2.out];rfl) Mf (by rw [HD2.out];exact (H3.out.keep mf zo (fun x (hx:x=9)=>by omega) (fun x (hx:x=9)=>by have:=HP.out.hb;omega)).at_)
end
end Go.Proofs.YtdhjjpnajjingaaGreat
