import Derived.Test.YtdhjjpnajjingaaGreatKL18
set_option linter.unusedVariables false
set_option linter.unnecessarySimpa false
set_option linter.unusedSimpArgs false
open Bool renaming true→zT,false→zU
open Go.Value renaming int→zI
open Go.IntKind renaming i64→z6
set_option maxHeartbeats 8000000
set_option maxRecDepth 100000
open Go.Proofs.Tryz
open Go.Lib renaming hid→zH
open Go.Ext renaming alloc→zA,patch→zP,drew→zD,drewN→zN,more→zM,refl→zR,setCell→zS
open Nat renaming le_refl→zL,le_add_right→zK
namespace Go.Proofs.YtdhjjpnajjingaaGreat
open Go Go.RowKit
theorem yan {c:Cnf} {i:Int} (h:inL c i=true):0≤i∧i<c.locals:=of_decide_eq_true h
theorem yiU {c:Cnf} {i:Int} (h:inG c i=true):0≤i∧i<c.globals:=of_decide_eq_true h
theorem yjJ (arr:Bool) (A:Option Addr) (cap:Nat) (refs:List Bool) (n:Int):Shp.size ⟨arr,A,cap,refs⟩ n=Shp.size ⟨arr,none,0,refs⟩ n:=rfl
theorem yh1 (arr:Bool) (A:Option Addr) (cap:Nat) (refs:List Bool) (n:Int):Shp.spine ⟨arr,A,cap,refs⟩ n=Shp.spine ⟨arr,none,0,refs⟩ n:=rfl
theorem ycG {c:Cnf} {o:Opr} (h12:o.kind=1∨o.kind=2) (h:opOk c o=true):(0≤o.a∧o.a<c.locals)∧(∃refs,c.shapeAt o.b=some (o.kind==2,refs)∧needF c o=Shp.size ⟨o.kind==2,none,0,refs⟩ (if o.kind=2 then o.n else 0)∧needS c o=Shp.spine ⟨o.kind==2,none,0,refs⟩ o.n)∧0≤needF c o∧needF c o≤c.frags∧needS c o≤c.spine:=by
 unfold opOk at h;rw [if_pos h12] at h;simp only [Bool.and_eq_true,decide_eq_true_eq,beq_iff_eq] at h;obtain ⟨⟨⟨⟨⟨h1,h2⟩,h3⟩,h4⟩,h5⟩,h6⟩:=h;refine ⟨yan h1,?_,h4,h5,h6⟩;obtain ⟨⟨ar,refs⟩,hx⟩:=Option.isSome_iff_exists.1 h2;rw [hx] at h3;simp only [Option.getD_some] at h3;refine ⟨refs,by rw [hx,h3],?_,?_⟩
 · unfold needF;rw [hx];rfl
 · unfold needS;rw [hx];rfl
theorem ydB (c:Cnf) (o:Opr) (w:World) (hc:c.Ok w) (h0:c.check=0) (ho:opOk c o=true) (hk:o.kind=1∨o.kind=4∨o.kind=7∨o.kind=8∨o.kind=12∨o.kind=13:=by simp):Calls prog 133 #[c.val,o.val] w (Gives (zI z6 0) w):=by
 obtain ⟨k,a,b,d,n,x,y⟩:=o;unfold Opr.val;simp only;by_cases h12:k=1∨k=2
 · obtain ⟨ha,⟨refs,hS,hF,hP⟩,z0,z1,p1⟩:=ycG (o:=⟨k,a,b,d,n,x,y⟩) h12 ho;simp only at ha hS hF hP z0 z1 p1;rcases h12 with rfl|rfl
   · exact yer c a b d n x y w hc h0 ha refs hS _ _ hF.symm hP.symm z0 z1 p1
   · simp at hk
 unfold opOk at ho;simp only at ho;rw [if_neg h12] at ho;split at ho
 · rename_i h
   simp only [Bool.and_eq_true] at ho;obtain ⟨ha,hb⟩:=ho;rcases h with rfl|rfl|rfl|rfl|rfl|rfl|rfl
   · simp at hk
   · exact yes c a b d n x y w hc h0 (yan ha) (yan hb)
   · simp at hk
   · simp at hk
   · simp at hk
   · simp at hk
   · simp at hk
 split at ho
 · rename_i h
   simp only [Bool.and_eq_true] at ho;subst h;exact yjn c a b d n x y w hc h0 (yan ho.1) (yiU ho.2)
 split at ho
 · rename_i h
   simp only [Bool.and_eq_true] at ho;subst h;exact yjo c a b d n x y w hc h0 (yan ho.1) (yiU ho.2)
 split at ho
 · rename_i h
   cases ho
 split at ho
 · rename_i h
   rcases h with rfl|rfl
   · exact ydz c a b d n x y w hc h0 (yan ho)
   · exact ydA c a b d n x y w hc h0 (yan ho)
 · simp only [Bool.or_eq_true,beq_iff_eq] at ho;rcases ho with rfl|rfl
   · simp at hk
   · simp at hk
theorem ygI (c:Cnf) (a b d n:Int) (x y:Nat) (w:World) (hc:c.Ok w) (h0:c.check=0) (ho:opOk c ⟨1,a,b,d,n,x,y⟩=true):Calls prog 133 #[c.val,.agg #[.int .i64 1,.int .i64 a,.int .i64 b,.int .i64 d,.int .i64 n,.complex .f64 x y]] w (Gives (zI z6 0) w):=by
 obtain ⟨ha,⟨refs,hS,hF,hP⟩,z0,z1,p1⟩:=ycG (o:=⟨1,a,b,d,n,x,y⟩) (Or.inl rfl) ho;exact yer c a b d n x y w hc h0 ha refs hS _ _ hF.symm hP.symm z0 z1 p1
theorem ylg (c:Cnf) (a b d n:Int) (x y:Nat) (w:World) (hc:c.Ok w) (h0:c.check=0) (ho:opOk c ⟨4,a,b,d,n,x,y⟩=true):Calls prog 133 #[c.val,.agg #[.int .i64 4,.int .i64 a,.int .i64 b,.int .i64 d,.int .i64 n,.complex .f64 x y]] w (Gives (zI z6 0) w):=by
 have h1:(inL c a&&inL c b)=true:=ho;rw [Bool.and_eq_true] at h1;exact yes c a b d n x y w hc h0 (yan h1.1) (yan h1.2)
theorem ykD (c:Cnf) (a b d n:Int) (x y:Nat) (w:World) (hc:c.Ok w) (h0:c.check=0) (ho:opOk c ⟨12,a,b,d,n,x,y⟩=true):Calls prog 133 #[c.val,.agg #[.int .i64 12,.int .i64 a,.int .i64 b,.int .i64 d,.int .i64 n,.complex .f64 x y]] w (Gives (zI z6 0) w):=
 ydz c a b d n x y w hc h0 (yan ho)
theorem ykE (c:Cnf) (a b d n:Int) (x y:Nat) (w:World) (hc:c.Ok w) (h0:c.check=0) (ho:opOk c ⟨13,a,b,d,n,x,y⟩=true):Calls prog 133 #[c.val,.agg #[.int .i64 13,.int .i64 a,.int .i64 b,.int .i64 d,.int .i64 n,.complex .f64 x y]] w (Gives (zI z6 0) w):=
 ydA c a b d n x y w hc h0 (yan ho)
theorem ymv (c:Cnf) (a b d n:Int) (x y:Nat) (w:World) (hc:c.Ok w) (h0:c.check=0) (ho:opOk c ⟨1,a,b,d,n,x,y⟩=true):
 Calls prog 204 #[c.val,.agg #[.int .i64 1,.int .i64 a,.int .i64 b,.int .i64 d,.int .i64 n,.complex .f64 x y]] w (Gives (.tuple #[.int .i64 (needF c ⟨1,a,b,d,n,x,y⟩),.int .i64 (needS c ⟨1,a,b,d,n,x,y⟩)]) w):=by
 have HCK:=zH (fun w' (he:Ext w w')=>ygI c a b d n x y w' (hc.ext he) h0 ho);have HS:=zH (fun w' (he:Ext w w')=>yax c b w' (hc.ext he));obtain ⟨ha,⟨refs,hS,hF,hP⟩,z0,z1,p1⟩:=ycG (o:=⟨1,a,b,d,n,x,y⟩) (by simp) ho;simp only at hS hF hP;have HQ:=zH (show c.shapeAt b=some (false,refs) from hS);have HF:=zH (show needF c ⟨1,a,b,d,n,x,y⟩=Shp.size ⟨false,none,0,refs⟩ 0 from hF);have HP:=zH (show needS c ⟨1,a,b,d,n,x,y⟩=Shp.spine ⟨false,none,0,refs⟩ n from hP);unfold Cnf.val at HCK HS ⊢;clear hc h0 ho ha hS hF hP z0 z1 p1;go_enter func204,ntmps204;go_wp2_with fail;refine (HCK.out _ zE).mono ?_;rintro e w1 ⟨rfl,X1,rfl⟩;go_wp2_with fail;refine (HS.out _ zE).mono ?_;rintro e w4 ⟨s',rfl,heq,hfr,hok,hE⟩;rw [HQ.out,Option.getD_some] at heq;obtain ⟨arr',A',cap',refs'⟩:=s';simp only [Prod.mk.injEq] at heq;obtain ⟨rfl,rfl⟩:=heq;have k0:w4.cell? ⟨w.heap.size+1,0,none⟩=some (zI z6 1):=(yah hE (by simp only [World.size_patch,World.size_alloc];omega)).trans (by go_simp);have k1:w4.cell? ⟨w.heap.size+1,1,none⟩=some (zI z6 a):=(yah hE (by simp only [World.size_patch,World.size_alloc];omega)).trans (by go_simp)
 have k2:w4.cell? ⟨w.heap.size+1,2,none⟩=some (zI z6 b):=(yah hE (by simp only [World.size_patch,World.size_alloc];omega)).trans (by go_simp);have k3:w4.cell? ⟨w.heap.size+1,3,none⟩=some (zI z6 d):=(yah hE (by simp only [World.size_patch,World.size_alloc];omega)).trans (by go_simp);have k4:w4.cell? ⟨w.heap.size+1,4,none⟩=some (zI z6 n):=(yah hE (by simp only [World.size_patch,World.size_alloc];omega)).trans (by go_simp);have k5:w4.cell? ⟨w.heap.size+1,5,none⟩=some (.complex .f64 x y):=(yah hE (by simp only [World.size_patch,World.size_alloc];omega)).trans (by go_simp);have hl1:w.heap.size+1<w4.heap.size:=Nat.lt_of_lt_of_le (by simp only [World.size_patch,World.size_alloc];omega) hE.size;have HE4:=zH (show Ext w w4 from (show Ext w _ by exact zE).trans hE);clear hE hfr;have HF1:=zH (fun w' (he:Ext w4 w')=>yfx _ a b d n x y w' (hok.ext he));have HF2:=zH (fun w' (he:Ext w4 w')=>ydG _ n w' (hok.ext he));clear hok;rw [yjJ, ←HF.out] at HF1;rw [yh1, ←HP.out] at HF2;rw [HQ.out];unfold Shp.val at HF1 HF2 ⊢;go_upto_region 4 with fail
 obtain ⟨w6,hW6⟩: ∃w6,(w4.alloc (.cells #[.bool false,.slice A' refs'.length cap'] 94))=w6:=⟨_,rfl⟩;rw [hW6];have HE6:=zH (show Ext w4 w6 by rw [←hW6];clear hW6;exact zF);have nk0:w6.cell? ⟨w.heap.size+1,0,none⟩=some (zI z6 1):=(yah HE6.out hl1).trans k0;have nk1:w6.cell? ⟨w.heap.size+1,1,none⟩=some (zI z6 a):=(yah HE6.out hl1).trans k1;have nk2:w6.cell? ⟨w.heap.size+1,2,none⟩=some (zI z6 b):=(yah HE6.out hl1).trans k2;have nk3:w6.cell? ⟨w.heap.size+1,3,none⟩=some (zI z6 d):=(yah HE6.out hl1).trans k3;have nk4:w6.cell? ⟨w.heap.size+1,4,none⟩=some (zI z6 n):=(yah HE6.out hl1).trans k4;have nk5:w6.cell? ⟨w.heap.size+1,5,none⟩=some (.complex .f64 x y):=(yah HE6.out hl1).trans k5;have ns0:w6.cell? ⟨w4.heap.size,0,none⟩=some (.bool false):=by rw [←hW6];clear hW6;go_simp
 have ns1:w6.cell? ⟨w4.heap.size,1,none⟩=some (.slice A' refs'.length cap'):=by rw [←hW6];clear hW6;go_simp
 have hn2:w4.heap.size<w6.heap.size:=by rw [←hW6];clear hW6;go_simp
 have hn1:w.heap.size+1<w6.heap.size:=zo;have hn0:w.heap.size<w6.heap.size:=zo;have HEE:=zH (show Ext w w6 from HE4.out.trans HE6.out);clear hW6;refine yab [zT,zT,zT,zT,zT,zT,zT,zT,zT] 0 9 ?_;intro X00;simp only [pickOps];repeat (go_big_quiet_step (first|(go_at_call 196;exact Calls.added (HF1.out _ (HE6.out.patch _)))|(go_at_call 197;exact Calls.added (HF2.out _ (HE6.out.patch _)))))
 refine wpQuiet_nil (fun X0=>?_);clear X00;refine yaa zQ (fun X0'=>?_) _;go_wp2_with fail;go_ret2;exact Gives.mk rfl (HEE.out.trans zF)
end Go.Proofs.YtdhjjpnajjingaaGreat
namespace Go
section
variable {P:Program} {ops:Array Oper} {Q:Exit→Act→World→Prop} {md:Region.Mode} {w0:World}
def frB (L:Nat) (A:List Nat) (i:Nat):Bool:=decide (i<L) || A.contains i
def waitsB (md:Region.Mode) (ops:Array Oper) (L:Nat) (A:List Nat):Bool:=Region.sinkB md ops L&&decide (L<ops.size)&&(List.range ops.size).all fun j=>decide (j≤L) || A.contains j || Region.waitsFor md ops j L
theorem ygh {L:Nat} {listed:Array Bool} (hc:Closed md ops listed) (hs:Region.sinkB md ops L=true) (hL:L∈Region.ready md ops listed): ∀(d i:Nat),L-i=d→i<L→listed.getD i false=true:=by
 intro d;induction d using Nat.strongRecOn with
 |_ d ih=>
  intro i hd hi;have h1:=List.all_eq_true.1 hs i (List.mem_range.2 hi);obtain ⟨j,hj,hj2⟩:=List.any_eq_true.1 h1;simp only [Bool.and_eq_true,decide_eq_true_eq] at hj2;obtain ⟨oj,hoj,e,he,hb,hon⟩:=Region.waitsFor_spec hj2.2;have hjle:j≤L:=by have:=List.mem_range.1 hj;omega
  rw [←hon];by_cases hjL:j=L
  · subst hjL;obtain ⟨_,o,ho,hall⟩:=mem_ready.1 hL;rw [hoj] at ho;injection ho with ho;subst ho;exact hall e he hb
  · exact hc.2 j oj hoj (ih (L-j) zo j rfl zo) e he hb
theorem ykZ {L:Nat} {A:List Nat} (hW:waitsB md ops L A=true) {listed:Array Bool} (hc:Closed md ops listed) {i:Nat} (hi:i∈Region.ready md ops listed) (hiL:i<L): ∀j∈Region.ready md ops listed,frB L A j=true:=by
 intro j hj;unfold waitsB at hW;simp only [Bool.and_eq_true,decide_eq_true_eq] at hW;obtain ⟨⟨hs,hz⟩,hall⟩:=hW;unfold frB;rw [Bool.or_eq_true,decide_eq_true_eq];obtain ⟨hun,oi,hoi,_⟩:=mem_ready.1 hi;obtain ⟨hunj,oj,hoj,hallj⟩:=mem_ready.1 hj;have hjl:=(Array.getElem?_eq_some_iff.1 hoj).1;by_cases hjL:j<L
 · exact Or.inl hjL
 by_cases hA:A.contains j=true
 · exact Or.inr hA
 exfalso
 have key:listed.getD i false=true:=by
  by_cases he:j=L
  · subst he;exact ygh hc hs hj _ i rfl hiL
  · have h1:=List.all_eq_true.1 hall j (List.mem_range.2 hjl);simp only [Bool.or_eq_true,decide_eq_true_eq] at h1;rcases h1 with (h1|h1)|h1
    · omega
    · exact absurd h1 hA
    · obtain ⟨oj',hoj',e,he,hb,hon⟩:=Region.waitsFor_spec h1;rw [hoj] at hoj';injection hoj' with hoj';subst hoj';have h2:=hallj e he hb;rw [hon] at h2;exact ycD hc hs h2 _ i rfl hiL
 rw [getD_both hun] at key;cases key
def wpAnyP (P:Program) (md:Region.Mode) (ops:Array Oper) (Q:Exit→Act→World→Prop) (w0:World) (L:Nat) (A:List Nat):Nat→Array Bool→Act→World→Prop
 |0,listed,a,w=>Region.ready md ops listed=[]∧ ∀w1,Ext w w1→Q .normal a w1
 |fuel+1,listed,a,w=> ∀w1,Ext w w1→
  (Region.ready md ops listed=[]→Q .normal a w1)∧
  ∀i∈Region.ready md ops listed,(frB L A i=true→wpOp P ops Q i (fun a' w'=>Ext w0 w'∧wpAnyP P md ops Q w0 L A fuel (listed.setIfInBounds i true) a' w') a w1)∧
   (frB L A i=false→wpOp P ops Q i (fun a' w'=>wpAny P md ops Q fuel (listed.setIfInBounds i true) a' w') a w1)
theorem ydL {L:Nat} {A:List Nat}: ∀(fuel:Nat) (listed:Array Bool) (a:Act) (w:World),wpAnyP P md ops Q w0 L A fuel listed a w→wpAny P md ops Q fuel listed a w
 |0,_,_,_,h=>⟨h.1,h.2 _ (Ext.refl _)⟩
 |fuel+1,_,_,w,h=>⟨(h w (Ext.refl _)).1,fun i hi=>by
  have h1:=(h w (Ext.refl _)).2 i hi;cases hl:frB L A i
  · exact h1.2 hl
  · exact wpOp_mono (fun a' w' h'=>ydL fuel _ a' w' h'.2) (h1.1 hl)⟩
theorem wpAnyP.ext {L:Nat} {A:List Nat} {fuel:Nat} {listed:Array Bool} {a:Act} {w w':World} (h:wpAnyP P md ops Q w0 L A fuel listed a w) (he:Ext w w'):wpAnyP P md ops Q w0 L A fuel listed a w':=by
 cases fuel with
 |zero=>exact ⟨h.1,fun w1 h1=>h.2 w1 (he.trans h1)⟩
 |succ n=>exact fun w1 h1=>h w1 (he.trans h1)
theorem yfN {L:Nat} {A:List Nat} {i:Nat} {oi:Oper} {v:Value} (hW:waitsB md ops L A=true) (hiL:i<L) (hi:ops[i]?=some oi) (hsel: ∀(j:Nat) (o:Oper) cs b,ops[j]?=some o→o.op≠.select cs b)
 (hQ: ∀c a w,Q (.panic c) (a.put oi.dst v) w→Q (.panic c) a w):
 ∀(fuel:Nat) (listed:Array Bool) (a:Act) (w:World),Closed md ops listed→
  (∀j oj,ops[j]?=some oj→j≠i→listed.getD j true=false→(∀e∈oj.after,Region.binds md e=true→e.on≠i)→oi.apart ops oj=true)→
  i∈Region.ready md ops listed→YieldsE P ops w0 oi v a→Ext w0 w→
  wpAnyP P md ops Q w0 L A fuel (listed.setIfInBounds i true) (a.put oi.dst v) w→wpAnyP P md ops Q w0 L A (fuel+1) listed a w:=by
 intro fuel;have hfi:frB L A i=true:=by unfold frB;rw [decide_eq_true hiL];rfl
 induction fuel with
 |zero=>
  intro listed a w hcl _ hr hy hS H w1 hw1;refine ⟨fun h=>(by rw [h] at hr;cases hr),fun j hj=>?_⟩;by_cases hji:j=i
  · subst hji;exact ⟨fun _=>hy.wpOp hi (hS.trans hw1) (fun w' hw'=>⟨(hS.trans hw1).trans hw',H.ext (hw1.trans hw')⟩),fun h=>by rw [hfi] at h;cases h⟩
  · have:=ready_mono hj hji;rw [H.1] at this;cases this
 |succ fuel ih=>
  intro listed a w hcl hfree hr hy hS H w1 hw1;refine ⟨fun h=>(by rw [h] at hr;cases hr),fun j hj=>?_⟩;have hjL:frB L A j=true:=ykZ hW hcl hr hiL j hj;refine ⟨fun _=>?_,fun h=>by rw [hjL] at h;cases h⟩;by_cases hji:j=i
  · subst hji;exact hy.wpOp hi (hS.trans hw1) (fun w' hw'=>⟨(hS.trans hw1).trans hw',H.ext (hw1.trans hw')⟩)
  · have h1:=((H w1 hw1).2 j (ready_mono hj hji)).1 hjL;obtain ⟨hjun,oj,hoj,hall⟩:=mem_ready.1 hj
    have hnot: ∀e∈oj.after,Region.binds md e=true→e.on≠i:=fun e he hb heq=>by
     have h1:=hall e he hb;have h0:=(mem_ready.1 hr).1;rw [heq] at h1;rcases Nat.lt_or_ge i listed.size with h'|h'
     · simp [h'] at h0 h1;rw [h0] at h1;cases h1
     · simp [Array.getElem?_eq_none h'] at h1
    have h2:=ycR hoj (hfree j oj hoj hji hjun hnot) (fun cs b=>hsel i oi cs b hi) (fun cs b=>hsel j oj cs b hoj) hQ hy h1
    have hfree': ∀k ok,ops[k]?=some ok→k≠i→(listed.setIfInBounds j true).getD k true=false→
     (∀e∈ok.after,Region.binds md e=true→e.on≠i)→oi.apart ops ok=true:=fun k ok hk hki hun hno=>by
     refine hfree k ok hk hki ?_ hno;by_cases hjk:j=k
     · subst hjk;exact hjun
     · rw [getD_set_ne true hjk] at hun;exact hun
    refine wpOp_mono (fun a' w' h3=>⟨h3.2.1,ih (listed.setIfInBounds j true) a' w' (hcl.set hj) hfree' (ready_mono hr (Ne.symm hji)) h3.1 h3.2.1 ?_⟩) h2;rw [Array.setIfInBounds_comm _ _ hji];exact h3.2.2
theorem ycm {L:Nat} {A:List Nat} (hW:waitsB md ops L A=true) (hs:Region.noSelect ops=true) (hQ: ∀(c:List PanicEntry) (a:Act) (d:Option Tmp) (v:Value) (w:World),Q (.panic c) (a.put d v) w→Q (.panic c) a w) (n:Nat): ∀(m:List Bool) (l:List Oper) (k:Nat) (listed:Array Bool) (a:Act),Closed md ops listed→(∀j,l[j]?=ops[k+j]?)→m.length≤l.length→
 lexMask md ops m k listed=true→maskBut L m k=true→wpCalm P ops w0 (fun a'=> ∀X,wpAnyP P md ops Q w0 L A n (markOps m k listed) a' (w0.patch X)) (pickOps m l) a→
 ∀X,wpAnyP P md ops Q w0 L A (n+countB m) listed a (w0.patch X)
 |[],_,_,_,_,_,_,_,_,_,h,X=>by
  simp only [pickOps,wpCalm,markOps] at h;exact h X
 |_::_,[],_,_,_,_,_,hlen,_,_,_,_=>by simp at hlen
 |false::m,o::l,k,listed,a,hcl,hl,hlen,hB,hM,h,X=>
  ycm hW hs hQ n m l (k+1) listed a hcl (fun j=>by have:=hl (j+1);simpa [Nat.add_assoc,Nat.add_comm 1 j] using this) (by simpa using hlen) (by simpa [lexMask] using hB) (by simpa [maskBut] using hM) (by simpa [pickOps,markOps] using h) X
 |true::m,o::l,k,listed,a,hcl,hl,hlen,hB,hM,h,X=>by
  have h0:ops[k]?=some o:=by simpa using (hl 0).symm
  simp only [lexMask,Bool.and_eq_true] at hB;obtain ⟨⟨hr,hf⟩,hB'⟩:=hB;simp only [maskBut,Bool.and_eq_true,decide_eq_true_eq] at hM;simp only [pickOps,markOps] at h;obtain ⟨v,hy,hK⟩:=yaS h;have hr':k∈Region.ready md ops listed:=by simpa using hr
  refine yfN hW hM.1 h0 (Region.noSelect_spec hs) (fun c a w h=>hQ c a _ _ w h) (n+countB m) listed a _ hcl (Region.free_spec h0 hf) hr' hy ⟨X,rfl⟩ ?_;exact ycm hW hs hQ n m l (k+1) _ _ (hcl.set hr') (fun j=>by have:=hl (j+1);simpa [Nat.add_assoc,Nat.add_comm 1 j] using this) (by simpa using hlen) hB' hM.2 hK X
theorem yd5 {id:Nat} {a:Act} {w:World} {l:List Oper} (m:List Bool) (n L i:Nat) (o u:Oper) (hm:P.follows .mixedOrders=true) (hs:Region.noSelect l.toArray=true) (hW:waitsB .any l.toArray L [i]=true) (hQ: ∀(c:List PanicEntry) (a:Act) (d:Option Tmp) (v:Value) (w:World),Q (.panic c) (a.put d v) w→Q (.panic c) a w)
 (hlen:m.length≤l.length) (hn:n+2+countB m=l.length) (hM:maskBut L m 0=true) (hB:lexMask .any l.toArray m 0 (Array.replicate l.length false)=true)
 (hr:Region.ready .any l.toArray (markOps m 0 (Array.replicate l.length false))=[L,i]) (hr2:Region.ready .any l.toArray ((markOps m 0 (Array.replicate l.length false)).setIfInBounds i true)=[L]) (ho:l[L]?=some o) (hg:o.guard=none) (hu:l[i]?=some u) (hgu:u.guard=none) (hiL:L<i)
 (h: ∀X00:Extra,wpQuiet P l.toArray (fun w'=> ∃X:Extra,w'=w.patch ⟨X00.blocks++X.blocks,X.drawn⟩) (fun a'=>
  (∀X, ∀K:Act→World→Prop, ∀Q':Exit→Act→World→Prop,(∀a2 w2,wpAny P .any l.toArray Q (n+1) ((markOps m 0 (Array.replicate l.length false)).setIfInBounds L true) a2 w2→K a2 w2)→o.wp P a' (w.patch X) K Q')∧
  (∀X, ∀K:Act→World→Prop, ∀Q':Exit→Act→World→Prop,(∀a2 w2,Ext w w2→(∀X2, ∀K2:Act→World→Prop, ∀Q2:Exit→Act→World→Prop,(∀a3 w3,wpAny P .any l.toArray Q n (((markOps m 0 (Array.replicate l.length false)).setIfInBounds i true).setIfInBounds L true) a3 w3→K2 a3 w3)→o.wp P a2 (w2.patch X2) K2 Q2)→K a2 w2)→u.wp P a' (w.patch X) K Q')) (pickOps m l) a):(Code.region id l.toArray true).wp P Q a w:=by
 have hLi:frB L [i] L=false:=by
  unfold frB;have h1: ¬L=i:=zo;simp [h1]
 have hii:frB L [i] i=true:=by unfold frB;simp
 refine wp_region_any hm (ydL (w0:=w) (L:=L) (A:=[i]) _ _ _ _ ?_);obtain ⟨X,hX⟩:=Ext.drew (Ext.refl w);have ho':l.toArray[L]?=some o:=by simpa using ho
 have hu':l.toArray[i]?=some u:=by simpa using hu
 have h2:wpCalm P l.toArray w (fun a'=> ∀X,wpAnyP P .any l.toArray Q w L [i] (n+2) (markOps m 0 (Array.replicate l.length false)) a' (w.patch X)) (pickOps m l) a:=by
  refine yaJ (fun a' h3 X=>?_) _ _ (yaq _ _ h);rintro w1 ⟨Y,rfl⟩;refine ⟨fun h0=>(by rw [hr] at h0;cases h0),fun j hj=>?_⟩;rw [hr] at hj;obtain ⟨Z,hZ⟩:=(show Ext w ((w.patch X).patch Y) from Ext.trans ⟨X,rfl⟩ ⟨Y,rfl⟩);rw [hZ];simp only [List.mem_cons,List.not_mem_nil,or_false] at hj;rcases hj with rfl|rfl
  · refine ⟨fun h=>absurd h (by rw [hLi];decide),fun _=>?_⟩;unfold wpOp;simp only [ho',Region.wanted,hg,if_true];exact .inl (h3.1 Z _ Q fun a2 w2 h4=>h4)
  · refine ⟨fun _=>?_,fun h=>absurd h (by rw [hii];decide)⟩;unfold wpOp;simp only [hu',Region.wanted,hgu,if_true];refine .inl (h3.2 Z _ Q fun a2 w2 he hK=>⟨he,?_⟩);rintro w3 ⟨Y2,rfl⟩;refine ⟨fun h0=>(by rw [hr2] at h0;cases h0),fun k hk=>?_⟩;rw [hr2] at hk;simp only [List.mem_singleton] at hk;subst hk;refine ⟨fun h=>absurd h (by rw [hLi];decide),fun _=>?_⟩;unfold wpOp;simp only [ho',Region.wanted,hg,if_true];exact .inl (hK Y2 _ Q fun a3 w3 h4=>h4)
 have h5:=ycm (md:=.any) hW hs hQ (n+2) m l 0 (Array.replicate l.length false) a (Closed.start _ (by simp)) (by simp) hlen hB hM h2 X;rw [←hX] at h5;simpa [hn] using h5
end
end Go
namespace Go.Proofs.YtdhjjpnajjingaaGreat
open Go Go.RowKit
theorem ymw {w1 w':World} (own1:Nat→Nat) (he:Ext w1 w'): ∃own',Mod (fun _=>False) ⟨own1,w1⟩ ⟨own',w'⟩∧ ∀k,w1.heap.size≤k→own' k=0:=
 ⟨((⟨own1,w1⟩:GW).to 0 w').own,Mod.ext (g:=⟨own1,w1⟩) he 0,fun k hk=>GW.to_new (g:=⟨own1,w1⟩) (w':=w') hk⟩
theorem ykK {w1:World} {X X2:Extra} {T:TypeId} {vs:List Value} {w4:World} (hq: ∀i,w1.heap.size≤i→i<(((w1.patch X).alloc (.cells vs.toArray T)).patch X2).heap.size→w4.heap[i]?=(((w1.patch X).alloc (.cells vs.toArray T)).patch X2).heap[i]?):w4.heap[(w1.patch X).heap.size]?=some (.cells vs.toArray T)∧w1.heap.size≤(w1.patch X).heap.size∧(w1.patch X).heap.size<(((w1.patch X).alloc (.cells vs.toArray T)).patch X2).heap.size:=by
 have hV:w1.heap.size≤(w1.patch X).heap.size:=by rw [World.size_patch];omega
 have hl0:(w1.patch X).heap.size<((w1.patch X).alloc (.cells vs.toArray T)).heap.size:=by rw [World.size_alloc];omega
 have hl:(w1.patch X).heap.size<(((w1.patch X).alloc (.cells vs.toArray T)).patch X2).heap.size:=Nat.lt_of_lt_of_le hl0 (show Ext ((w1.patch X).alloc (.cells vs.toArray T)) (((w1.patch X).alloc (.cells vs.toArray T)).patch X2) from ⟨X2,rfl⟩).size;exact ⟨(hq _ hV hl).trans (by rw [World.heap_patch _ _ _ hl0];exact World.row_alloc_new _),hV,hl⟩
theorem ykJ (own4:Nat→Nat) (w4:World) (T:TypeId) (vs:List Value): ∃own5,Mod (fun _=>False) ⟨own4,w4⟩ ⟨own5,w4.alloc (.cells vs.toArray T)⟩∧Blk ⟨own5,w4.alloc (.cells vs.toArray T)⟩ 0 w4.heap.size T vs:=
 ⟨_,Mod.ext (g:=⟨own4,w4⟩) (show Ext w4 _ from zE) 0,⟨World.row_alloc_new _,GW.to_new (g:=⟨own4,w4⟩) (Nat.le_refl _)⟩⟩
section
variable {own4:Nat→Nat} {w4:World} {qg:Nat} {T:TypeId} {z0 z1 z2 v0 v1 v2:Value}
theorem yjr (hb:Blk ⟨own4,w4⟩ 0 qg T [z0,z1,z2]):Mod (fun x=>x=0) ⟨own4,w4⟩ ⟨own4,((w4.setCell ⟨qg,0,none⟩ v0).setCell ⟨qg,1,none⟩ v1).setCell ⟨qg,2,none⟩ v2⟩:=Mod.st (Mod.st (Mod.st (Mod.refl _ _) hb.own) hb.own) hb.own
theorem ykI (hb:Blk ⟨own4,w4⟩ 0 qg T [z0,z1,z2]) (v0 v1 v2:Value):Blk ⟨own4,((w4.setCell ⟨qg,0,none⟩ v0).setCell ⟨qg,1,none⟩ v1).setCell ⟨qg,2,none⟩ v2⟩ 0 qg T [v0,v1,v2]:=((hb.set 0 v0).set 1 v1).set 2 v2
theorem yjs {v:Value} {n:Nat} {xs:List Value} (hr:Row ⟨own4,w4⟩ 0 3 1 v n xs) (hb:Blk ⟨own4,w4⟩ 0 qg 143 [z0,z1,z2]):Row ⟨own4,((w4.setCell ⟨qg,0,none⟩ v0).setCell ⟨qg,1,none⟩ v1).setCell ⟨qg,2,none⟩ v2⟩ 0 3 1 v n xs:=
 ((hr.setOther 0 v0 (fun x hx=>hr.ne_type hb zd hx)).setOther 1 v1 (fun x hx=>hr.ne_type hb zd hx)).setOther 2 v2 (fun x hx=>hr.ne_type hb zd hx)
theorem ylj {B bsp bt:Nat} {S:SpaceS} (hs:SpaceAt ⟨own4,w4⟩ B bsp bt S) (hb:Blk ⟨own4,w4⟩ 0 qg T [z0,z1,z2]) (hB:100≤B):SpaceAt ⟨own4,((w4.setCell ⟨qg,0,none⟩ v0).setCell ⟨qg,1,none⟩ v1).setCell ⟨qg,2,none⟩ v2⟩ B bsp bt S:=hs.keep (yjr hb) (fun x (hx:x=0)=>by omega)
end
section
variable {g:GW} {t B b k:Nat} {W:AcW} {p:AcP} {bm bs bt bp bsp bh:Nat} {cm:Cnf}
def AskPost (r:AskR) (own1:Nat→Nat) (w1 w':World) (B bsp bt:Nat) (e:Ending) (w4:World):Prop:=
 ∃gA gC,e=.returned (.agg #[.int .i64 r.1.1,.slice gA r.1.2.1.length gC,.int .i64 r.1.2.2])∧ ∃own4,Hid (Mod (inst B) ⟨own1,w1⟩ ⟨own4,w4⟩)∧Hid (Row ⟨own4,w4⟩ 0 3 1 (.slice gA r.1.2.1.length gC) r.1.2.1.length (r.1.2.1.map (Value.int .i64)))∧Hid (SpaceAt ⟨own4,w4⟩ B bsp bt r.2)∧Hid (∀k,w1.heap.size≤k→k<w'.heap.size→own4 k=0)∧
  Hid (∀i,w1.heap.size≤i→i<w'.heap.size→w4.heap[i]?=w'.heap[i]?)
theorem ygW {r:AskR} {own1 own':Nat→Nat} {w1 w' w4:World} {B bsp bt:Nat} {e:Ending} (m':Mod (fun _=>False) ⟨own1,w1⟩ ⟨own',w'⟩) (hz: ∀k,w1.heap.size≤k→own' k=0) (hB:100≤B) (h:Makes ⟨own',w'⟩ (inst B) (fun v g'=>GrantIs r.1 v g'∧SpaceAt g' B bsp bt r.2) e w4):AskPost r own1 w1 w' B bsp bt e w4:=by
 obtain ⟨v,own4,rfl,m4,⟨gA,gC,rfl,hr⟩,hs⟩:=h;have hn: ∀k,w1.heap.size≤k→k<w'.heap.size→ ¬inst B (own' k):=fun k h1 h2 hi=>by rw [hz k h1] at hi;have:=hi.1;omega
 exact ⟨gA,gC,rfl,own4,zH ((m'.mono (fun _=>False.elim)).trans m4),zH hr,zH hs,zH (fun k h1 h2=>(m4.own k h2).trans (hz k h1)),zH (fun i h1 h2=>m4.block i h2 (hn i h1 h2))⟩
theorem yaN {c d:Cnf} (h:c.Same d) (o:Opr):opOk c o=opOk d o:=by
 unfold opOk inL inG needF needS;simp only [yaE h,h.frags,h.spine,h.locals,h.globals]
theorem yhD {c d:Cnf} (h:c.Same d) (o:Opr):needF c o=needF d o:=by unfold needF;rw [yaE h]
theorem yhE {c d:Cnf} (h:c.Same d) (o:Opr):needS c o=needS d o:=by unfold needS;rw [yaE h]
theorem ygM [TbId] (P:AcApart t B) (H:AcIn g t B b k W p bm bs bt bp bsp bh cm) (oa ob oc on:Int) (x y:Nat) (ho:opOk W.K.c ⟨1,oa,ob,oc,on,x,y⟩=true) (hck:W.K.c.check=0) (hsp:0≤W.K.sp.count∧W.K.sp.count≤1099511627776) (hln:W.K.sp.line.length<1000000)
 (r:AcR) (hok:W.asksO ⟨1,oa,ob,oc,on,x,y⟩=some r):
 Calls prog 137 #[.pointer (some ⟨b,0,none⟩),.pointer (some ⟨k,0,none⟩),.agg #[.int .i64 1,.int .i64 oa,.int .i64 ob,.int .i64 oc,.int .i64 on,.complex .f64 x y]] g.w (Does (resV r.1) g (acT t B) (fun g'=>AcWAt g' t B b k r.2)):=by
 have HH:=zH H;have HP:=zH P;have HOK:=zH hok;go_enter func137,ntmps137;go_upto_region 1 with fail
 obtain ⟨own0,M0,Q0,R0⟩:=yaz g 26 40 [.int .i64 1,.int .i64 oa,.int .i64 ob,.int .i64 oc,.int .i64 on,.complex .f64 x y] resZ;unfold resZ at M0 R0 Q0;generalize (g.w.alloc (.cells #[.int .i64 1,.int .i64 oa,.int .i64 ob,.int .i64 oc,.int .i64 on,.complex .f64 x y] 26)).alloc (.cells #[.int .i64 0,.int .i64 0,.int .i64 0,.bool false,.complex .f64 0 0] 40)=w0 at *;have H0:=zH (HH.out.keep0 M0);have M0':=zH M0;have Q0':=zH Q0;have R0':=zH R0;have HN:=zH (fun X=>ymv cm oa ob oc on x y (w0.patch X) (H0.out.c.cnf.ok.ext ⟨X,rfl⟩) (by rw [HH.out.c.same.check];exact hck) (by rw [yaN HH.out.c.same];exact ho));have HF:=zH (show needF cm ⟨1,oa,ob,oc,on,x,y⟩=needF W.K.c ⟨1,oa,ob,oc,on,x,y⟩ from yhD HH.out.c.same _);have HS:=zH (show needS cm ⟨1,oa,ob,oc,on,x,y⟩=needS W.K.c ⟨1,oa,ob,oc,on,x,y⟩ from yhE HH.out.c.same _);rw [HF.out,HS.out] at HN;unfold Cnf.val at HN;obtain ⟨c0,c1,c2,c3,c4,c5,c6,c7,c8,c9,c10,c11,c12,cl⟩:=H0.out.c.blk.k13;obtain ⟨x0,x1,x2,x3,x4,x5,xl⟩:=Q0.k6;clear M0 Q0 R0 H ho hck hok;refine yab [zT,zT,zT,zT,zT,zT,zT,zT,zT,zT,zT] 0 11 ?_;intro X00;simp only [pickOps]
 repeat (go_big_quiet_step ((go_at_call 204;exact Calls.added (HN.out _))))
 refine wpQuiet_nil (fun X0=>?_);clear X00;refine yaa zQ (fun X0'=>?_) _;(try go_simp);obtain ⟨own1,m1⟩: ∃own1,Mod (fun _=>False) ⟨own0,w0⟩ ⟨own1,w0.patch ⟨X0.blocks++X0'.blocks,X0'.drawn⟩⟩:=⟨_,Mod.pt (g:=⟨own0,w0⟩) (Mod.refl _ _) _⟩;generalize w0.patch ⟨X0.blocks++X0'.blocks,X0'.drawn⟩=w1 at *;have H1:=zH (H0.out.keep0 m1);have M1:=zH (M0'.out.trans m1);have Q1:=zH (Q0'.out.keep m1 id);have R1:=zH (R0'.out.keep m1 id);clear m1 H0 M0' Q0' R0' HN c0 c1 c2 c3 c4 c5 c6 c7 c8 c9 c10 c11 c12 cl x0 x1 x2 x3 x4 x5 xl;have hrs:ask W.K.sp W.a.t (needF W.K.c ⟨1,oa,ob,oc,on,x,y⟩) (needS W.K.c ⟨1,oa,ob,oc,on,x,y⟩) (W.a.sense !=W.a.both)=W.asksR ⟨1,oa,ob,oc,on,x,y⟩:=rfl;have HBO:=zH (fun w' (he:Ext w1 w')=>show Calls prog 206 #[.pointer (some ⟨b,0,none⟩)] w' (Gives (.bool W.a.both) w') from yaO (yj3 ((⟨own1,w1⟩:GW).to 0 w') t b W.a p (H1.out.a.keep (Mod.ext (T:=fun _=>False) he 0) id (fun _=>False.elim))))
 have HA:=zH (fun w' (he:Ext w1 w')=>show Calls prog 205 #[.pointer (some ⟨bsp,0,none⟩),.int .i64 W.a.t,.int .i64 (needF W.K.c ⟨1,oa,ob,oc,on,x,y⟩),.int .i64 (needS W.K.c ⟨1,oa,ob,oc,on,x,y⟩),.bool (W.a.sense !=W.a.both)] w' (AskPost (W.asksR ⟨1,oa,ob,oc,on,x,y⟩) own1 w1 w' B bsp bt) from by
  obtain ⟨own',m'⟩: ∃own',Mod (fun _=>False) ⟨own1,w1⟩ ⟨own',w'⟩∧ ∀k,w1.heap.size≤k→own' k=0:=ymw own1 he;have h1:=yeZ W.a.t (needF W.K.c ⟨1,oa,ob,oc,on,x,y⟩) (needS W.K.c ⟨1,oa,ob,oc,on,x,y⟩) (W.a.sense !=W.a.both) ⟨own',w'⟩ B bsp bt W.K.sp (H1.out.keep0 m'.1).c.sp P.hb hsp hln;rw [hrs] at h1;exact h1.mono (fun e w4 h=>ygW m'.1 m'.2 P.hb h))
 generalize needF W.K.c ⟨1,oa,ob,oc,on,x,y⟩=nf at *;generalize needS W.K.c ⟨1,oa,ob,oc,on,x,y⟩=ns at *;generalize W.a.both=bo at *;obtain ⟨a0,a1,a2,a3,a4,a5,a6,a7,a8,a9,a10,a11,a12,a13,a14,a15,a16,a17,a18,al⟩:=H1.out.a.blk.k19;obtain ⟨c0,c1,c2,c3,c4,c5,c6,c7,c8,c9,c10,c11,c12,cl⟩:=H1.out.c.blk.k13;go_wp2_with fail;go_cut [10] (fun s10 wx=> ∃qg gA gC,s10=.pointer (some ⟨qg,0,none⟩)∧Hid (∃own4,Mod (inst B) ⟨own1,w1⟩ ⟨own4,wx⟩∧Row ⟨own4,wx⟩ 0 3 1 (.slice gA (W.asksR ⟨1,oa,ob,oc,on,x,y⟩).1.2.1.length gC) (W.asksR ⟨1,oa,ob,oc,on,x,y⟩).1.2.1.length ((W.asksR ⟨1,oa,ob,oc,on,x,y⟩).1.2.1.map (Value.int .i64))∧SpaceAt ⟨own4,wx⟩ B bsp bt (W.asksR ⟨1,oa,ob,oc,on,x,y⟩).2∧Blk ⟨own4,wx⟩ 0 qg 143 [.int .i64 (W.asksR ⟨1,oa,ob,oc,on,x,y⟩).1.1,.slice gA (W.asksR ⟨1,oa,ob,oc,on,x,y⟩).1.2.1.length gC,.int .i64 (W.asksR ⟨1,oa,ob,oc,on,x,y⟩).1.2.2]))
 case first=>
  refine yd5 [zT,zT,zT,zT,zT,zT,zT,zT,zT,zT,zT,zT,zT,zT,zT,zT,zT] 1 17 18 ?pk_o ?pk_u ?pk1 ?pk2 ?pk3 ?pk4 ?pk5 ?pk6 ?pk7 ?pk8 ?pk9 ?pk10 ?pk11 ?pk12 ?pk13 ?pk14 ?pk15 ?pk16
  case pk11=>exact rfl
  case pk13=>exact rfl
  case pk1=>kernel_rfl
  case pk2=>kernel_rfl
  case pk3=>kernel_rfl
  case pk4=>(intro c a d v w h;cases d<;>exact h)
  case pk5=>decide
  case pk6=>decide
  case pk7=>decide
  case pk8=>kernel_rfl
  case pk9=>kernel_rfl
  case pk10=>kernel_rfl
  case pk12=>exact rfl
  case pk14=>exact rfl
  case pk15=>decide
  intro X00;simp only [pickOps];repeat (go_big_quiet_step ((go_at_call 206;exact Calls.added (HBO.out _ ⟨_,rfl⟩))))
  refine wpQuiet_nil ⟨?pkA,?pkB⟩
  case pkA=>
   intro X0 K Q' hK;(try go_simp);refine (HA.out _ ⟨_,rfl⟩).mono ?_;rintro e w4 ⟨gA,gC,rfl,own4,M4,R4,S4, -, -⟩;(try go_simp);refine hK _ _ ?_;clear hK K Q';refine yag 18 (fun K Q' hK=>?_);(try go_simp);refine hK _ _ ?_;clear hK K Q';refine yag 19 (fun K Q' hK=>?_);(try go_simp);refine hK _ _ ?_;clear hK K Q';refine wpAny_done zQ ?_ _;go_wp2_with fail;go_meet
   obtain ⟨own5,m5,b5⟩:=ykJ own4 w4 143 [.int .i64 (W.asksR ⟨1,oa,ob,oc,on,x,y⟩).1.1,.slice gA (W.asksR ⟨1,oa,ob,oc,on,x,y⟩).1.2.1.length gC,.int .i64 (W.asksR ⟨1,oa,ob,oc,on,x,y⟩).1.2.2];exact ⟨_,gA,gC,rfl,zH ⟨own5,M4.out.trans (m5.mono (fun _=>False.elim)),R4.out.keep m5 id,S4.out.keep m5 (fun x hx=>hx.elim),b5⟩⟩
  case pkB=>
   intro X0 K Q' hK;go_simp;refine hK _ _ ?_ (fun X2 K2 Q2 hK2=>?_)
   · exact zE
   clear hK K Q';(try go_simp);refine (HA.out _ zE).mono ?_;rintro e w4 ⟨gA,gC,rfl,own4,M4,R4,S4,O4,H4⟩;obtain ⟨hrow,hq1,hq2⟩:=ykK H4.out;have B4:Blk ⟨own4,w4⟩ 0 (w1.patch X0).heap.size 143 [.int .i64 0,.slice none 0 0,.int .i64 0]:=⟨hrow,O4.out _ hq1 hq2⟩;generalize (w1.patch X0).heap.size=qg at *;have HB4:=zH B4;clear hrow hq2 H4 O4;obtain ⟨z0,z1,z2,zl⟩:=B4.k3;have zf0:=B4.liv 0;have zf1:=B4.liv 1;have zf2:=B4.liv 2;clear B4;(try go_simp);refine hK2 _ _ ?_;clear hK2 K2 Q2;refine yag 19 (fun K Q' hK=>?_);(try go_simp);refine hK _ _ ?_;clear hK K Q';refine wpAny_done zQ ?_ _;go_wp2_with fail;go_meet
   exact ⟨_,gA,gC,rfl,zH ⟨own4,Mod.stn (Mod.stn (Mod.stn M4.out hq1) hq1) hq1,yjs R4.out HB4.out,ylj S4.out HB4.out HP.out.hb,ykI HB4.out _ _ _⟩⟩
 case rest=>
  obtain ⟨qg,gA,gC,rfl,HG4⟩:=hcut;obtain ⟨own4,m4,r4,s4,b4⟩:=HG4.out;have hPb:=HP.out.hb;have hPt:=HP.out.ht;obtain ⟨w4,rfl⟩: ∃w4:World,w4=wc:=⟨_,rfl⟩;have H4:=zH (H1.out.spc HP.out m4 s4);have M4:=zH ((M1.out.mono (S:=acT t B) (fun _=>False.elim)).trans (m4.mono (fun x hx=>ydc hx)));have Q4:=zH (Q1.out.keep m4 (fun h=>by have:=h.1;omega));have R4:=zH (R1.out.keep m4 (fun h=>by have:=h.1;omega));have G4:=zH r4;have B4:=zH b4;clear m4 r4 s4 b4 HG4 H1 M1 Q1 R1 HBO HA a0 a1 a2 a3 a4 a5 a6 a7 a8 a9 a10 a11 a12 a13 a14 a15 a16 a17 a18 al c0 c1 c2 c3 c4 c5 c6 c7 c8 c9 c10 c11 c12 cl hrs
  have HOK2:=zH (show (W.asksR ⟨1,oa,ob,oc,on,x,y⟩).1.1=0∨((W.asksR ⟨1,oa,ob,oc,on,x,y⟩).1.1=1∧(W.spc (W.asksR ⟨1,oa,ob,oc,on,x,y⟩).2).takesOk ⟨1,oa,ob,oc,on,x,y⟩ (W.asksR ⟨1,oa,ob,oc,on,x,y⟩).1.2.1 (W.asksR ⟨1,oa,ob,oc,on,x,y⟩).1.2.2=true) from by
   have h:=HOK.out;unfold AcW.asksO at h;split at h
   · rename_i h1;exact h1
   · cases h)
  have HR2:=zH (show r=W.asks ⟨1,oa,ob,oc,on,x,y⟩ from by
   have h:=HOK.out;unfold AcW.asksO at h;split at h
   · injection h with h;exact h.symm
   · cases h)
  have HD:=zH (show W.asks ⟨1,oa,ob,oc,on,x,y⟩=(if (W.asksR ⟨1,oa,ob,oc,on,x,y⟩).1.1=0 then ((W.spc (W.asksR ⟨1,oa,ob,oc,on,x,y⟩).2).withA { W.a with phase:=3,pc:=5 }).no else ((W.spc (W.asksR ⟨1,oa,ob,oc,on,x,y⟩).2).takes ⟨1,oa,ob,oc,on,x,y⟩ (W.asksR ⟨1,oa,ob,oc,on,x,y⟩).1.2.1 (W.asksR ⟨1,oa,ob,oc,on,x,y⟩).1.2.2).no) from rfl);clear HOK;generalize W.asksR ⟨1,oa,ob,oc,on,x,y⟩=ar at *;obtain ⟨⟨st,got,at_⟩,S'⟩:=ar;simp only at H4 G4 B4 HOK2 HD;obtain ⟨z0,z1,z2,zl⟩:=B4.out.k3;obtain ⟨x0,x1,x2,x3,x4,x5,xl⟩:=Q4.out.k6;rcases HOK2.out with h0|⟨h1,h2⟩
  · have HD2:=zH (show r=((W.spc S').withA { W.a with phase:=3,pc:=5 }).no by rw [HR2.out,HD.out,if_pos h0]);rw [h0] at z0;obtain ⟨a0,a1,a2,a3,a4,a5,a6,a7,a8,a9,a10,a11,a12,a13,a14,a15,a16,a17,a18,al⟩:=H4.out.a.blk.k19;have af3:=H4.out.a.blk.liv 3;have af7:=H4.out.a.blk.liv 7;have H5:=zH ((H4.out.set HP.out 3 (zI z6 3) { W.a with phase:=3 } rfl ⟨rfl,rfl,rfl,rfl,rfl,rfl⟩).set HP.out 7 (zI z6 5) { W.a with phase:=3,pc:=5 } rfl ⟨rfl,rfl,rfl,rfl,rfl,rfl⟩);have M5:=zH (show Mod (acT t B) g ⟨own4,(w4.setCell ⟨b,3,none⟩ (zI z6 3)).setCell ⟨b,7,none⟩ (zI z6 5)⟩ from Mod.st (Mod.st M4.out H4.out.modA) H4.out.modA);have R5:=zH (R4.out.keep (Mod.st (Mod.st (Mod.refl (fun x=>x=t) _) H4.out.a.blk.own) H4.out.a.blk.own:Mod (fun x=>x=t) ⟨own4,w4⟩ ⟨own4,(w4.setCell ⟨b,3,none⟩ (zI z6 3)).setCell ⟨b,7,none⟩ (zI z6 5)⟩) zo);clear h0 HOK2 HD;go_upto_region 7 with fail
    generalize (w4.setCell ⟨b,3,none⟩ (zI z6 3)).setCell ⟨b,7,none⟩ (zI z6 5)=w5 at *;clear a0 a1 a2 a3 a4 a5 a6 a7 a8 a9 a10 a11 a12 a13 a14 a15 a16 a17 a18 af3 af7 al z0 z1 z2 zl x0 x1 x2 x3 x4 x5 xl H4 M4 R4;obtain ⟨r0,r1,r2,r3,r4,rl⟩:=R5.out.k5;have rf0:=R5.out.liv 0;have rf1:=R5.out.liv 1;have rf2:=R5.out.liv 2;have rf3:=R5.out.liv 3;have rf4:=R5.out.liv 4;go_wp2_with fail;obtain ⟨Mf,mf,Rf⟩:=yaf M5.out R5.out (Nat.le_succ _) (0) (0) (0) (false) (0) (0);generalize ((((((w5).setCell ⟨g.w.heap.size+1,0,none⟩ (zI z6 (0))).setCell ⟨g.w.heap.size+1,1,none⟩ (zI z6 (0))).setCell ⟨g.w.heap.size+1,2,none⟩ (zI z6 (0))).setCell ⟨g.w.heap.size+1,3,none⟩ (.bool (false))).setCell ⟨g.w.heap.size+1,4,none⟩ (.complex .f64 (0) (0)))=wf at *;obtain ⟨f0,f1,f2,f3,f4,fl⟩:=Rf.k5;refine bodyPost_ret (v:=.tuple #[.agg #[.int .i64 (0),.int .i64 (0),.int .i64 (0),.bool (false),.complex .f64 (0) (0)],.bool false]) (by simp [results,Tryz.results137,go_sem,f0,f1,f2,f3,f4]) rfl ?_;exact Does.of ⟨own4,wf⟩ rfl (by rw [HD2.out];rfl) Mf (by rw [HD2.out];exact (H5.out.keep mf zo (fun x (hx:x=9)=>by omega) (fun x (hx:x=9)=>by omega)).at_)
  · have HD2:=zH (show r=((W.spc S').takes ⟨1,oa,ob,oc,on,x,y⟩ got at_).no by rw [HR2.out,HD.out,if_neg (by rw [h1];decide)]);rw [h1] at z0;obtain ⟨A',c',e1,e2,e3, -⟩:=G4.out.form;have e4:gC=c':=by injection e1
    rw [←e4] at e2 e3;clear e1 e4 A' c';have HTK:=zH (yfP HP.out H4.out oa ob oc on x y got gA gC 1 at_ G4.out.seg ⟨e2,e3⟩ h2);clear h1 h2 HOK2 HD e2 e3;go_wp2_with fail;refine HTK.out.mono ?_;rintro e w5 ⟨rfl,own5,m5,p5,h5⟩;have M5:=zH (M4.out.trans (m5.mono (fun x hx=>ybi hx)));have R5:=zH (R4.out.keep m5 zo);have H5:=zH h5;clear m5 h5 HTK z0 z1 z2 zl x0 x1 x2 x3 x4 x5 xl H4 M4 R4;go_upto_region 7 with fail
    obtain ⟨r0,r1,r2,r3,r4,rl⟩:=R5.out.k5;have rf0:=R5.out.liv 0;have rf1:=R5.out.liv 1;have rf2:=R5.out.liv 2;have rf3:=R5.out.liv 3;have rf4:=R5.out.liv 4;go_wp2_with fail;obtain ⟨Mf,mf,Rf⟩:=yaf M5.out R5.out (Nat.le_succ _) (0) (0) (0) (false) (0) (0);generalize ((((((w5).setCell ⟨g.w.heap.size+1,0,none⟩ (zI z6 (0))).setCell ⟨g.w.heap.size+1,1,none⟩ (zI z6 (0))).setCell ⟨g.w.heap.size+1,2,none⟩ (zI z6 (0))).setCell ⟨g.w.heap.size+1,3,none⟩ (.bool (false))).setCell ⟨g.w.heap.size+1,4,none⟩ (.complex .f64 (0) (0)))=wf at *;obtain ⟨f0,f1,f2,f3,f4,fl⟩:=Rf.k5;refine bodyPost_ret (v:=.tuple #[.agg #[.int .i64 (0),.int .i64 (0),.int .i64 (0),.bool (false),.complex .f64 (0) (0)],.bool false]) (by simp [results,Tryz.results137,go_sem,f0,f1,f2,f3,f4]) rfl ?_;exact Does.of ⟨own5,wf⟩ rfl (by rw [HD2.out];rfl) Mf (by rw [HD2.out];exact (H5.out.keep mf zo (fun x (hx:x=9)=>by omega) (fun x (hx:x=9)=>by omega)).at_)
end
end Go.Proofs.YtdhjjpnajjingaaGreat
namespace Go.Proofs.YtdhjjpnajjingaaGreat
open Go Go.RowKit
def kindB (rf:Bool) (v:LVal):Bool:=v.ref !=rf
def noneB (v:LVal):Bool:=sameF v.z zNone
theorem ykF (v:LVal) (p:Nat) (rf:Bool) (w:World) (hp:w.cell? ⟨p,0,none⟩=some (.bool rf)) (hl:p<w.heap.size):Calls prog 199 #[.agg #[.bool v.ref,.complex .f64 v.z.1 v.z.2],.pointer (some ⟨p,0,none⟩)] w (Gives (.bool (kindB rf v)) w):=by
 have HV:=zH (show kindB rf v=(v.ref !=rf) from rfl);generalize v.ref=a at *;go_enter func199,ntmps199;go_wp2_with fail;go_ret;exact Gives.mk (by rw [HV.out];cases a<;>cases rf<;>rfl) zE
theorem ykG (v:LVal) (w:World):Calls prog 200 #[.agg #[.bool v.ref,.complex .f64 v.z.1 v.z.2]] w (Gives (.bool (noneB v)) w):=by
 have HV:=zH (show noneB v=sameF v.z zNone from rfl);have HN:=zH (fun w'=>yaL w');have HS:=zH (fun w'=>show Calls prog 165 #[.complex .f64 v.z.1 v.z.2,.complex .f64 0 4607182418800017408] w' (fun e w''=>e=.returned (.bool (sameF v.z zNone))∧w'=w'') from ybo v.z zNone w');generalize sameF v.z zNone=so at *;unfold wNone at HN;go_enter func200,ntmps200;go_wp2_with fail;obtain ⟨w0,hW⟩: ∃w0,w.alloc (.cells #[.bool v.ref,.complex .f64 v.z.1 v.z.2] 38)=w0:=⟨_,rfl⟩;have x0:w0.cell? ⟨w.heap.size,0,none⟩=some (.bool v.ref):=by rw [←hW];clear hW;go_simp
 have x1:w0.cell? ⟨w.heap.size,1,none⟩=some (.complex .f64 v.z.1 v.z.2):=by rw [←hW];clear hW;go_simp
 have hE0:=zH (show Ext w w0 by rw [←hW];clear hW;exact zE);have hl:w.heap.size<w0.heap.size:=by rw [←hW];clear hW;go_simp
 rw [hW];clear hW;refine yab [zT,zT,zT,zT,zT] 0 5 ?_;intro X00;simp only [pickOps];repeat (go_big_quiet_step (first|(go_at_call 68;exact Calls.added (HN.out _))|(go_at_call 165;exact Calls.added (yaO (HS.out _)))))
 refine wpQuiet_nil (fun X0=>?_);clear X00;refine yaa zQ (fun X0'=>?_) _;(try go_simp);go_wp2_with fail;go_ret;exact Gives.mk (by rw [HV.out];rfl) (hE0.out.trans zE)
theorem ygG {w:World} {A:Option Addr} {l:List LVal} (h:CellsAt w A (l.flatMap LVal.cells)) {k:Nat} (hk:k<l.length): ∃b o,A=some ⟨b,o,none⟩∧b<w.heap.size∧w.cell? ⟨b,o+k*2,none⟩=some (.bool (l.getD k LVal.zero).ref)∧w.cell? ⟨b,o+k*2+1,none⟩=some (.complex .f64 (l.getD k LVal.zero).z.1 (l.getD k LVal.zero).z.2):=by
 obtain ⟨f0,f1⟩:=yeo l k _ (yby hk);obtain ⟨b,o,rfl,hb,hc⟩:=h.cases (by have:=(List.getElem?_eq_some_iff.1 f0).1;omega);exact ⟨b,o,rfl,hb,hc _ _ f0,by rw [Nat.add_assoc];exact hc _ _ f1⟩
def IdxV (q:LVal→Bool) (l:List LVal) (w:World) (e:Ending) (w':World):Prop:= ∃n:Int,e=.returned (zI z6 n)∧decide (0≤n)=l.any q∧Ext w w'
theorem yik {q:LVal→Bool} {l:List LVal} (h: ∀v∈l,q v=false):l.any q=false:=by
 rw [List.any_eq_false];intro x hx;rw [h x hx];simp
theorem ygz {q:LVal→Bool} {l:List LVal} {k:Nat} {v:LVal} (h:l[k]?=some v) (hv:q v=true):l.any q=true:=by
 rw [List.any_eq_true];exact ⟨v,List.mem_of_getElem? h,hv⟩
theorem yks (A:Option Addr) (c:Nat) (l:List LVal) (p:Nat) (rf:Bool) (w:World) (hc:CellsAt w A (l.flatMap LVal.cells)) (hl:l.length≤1000) (hp:w.cell? ⟨p,0,none⟩=some (.bool rf)) (hpl:p<w.heap.size):
 Calls prog 241 #[.slice A l.length c,.func (.func 199) #[] #[.pointer (some ⟨p,0,none⟩)]] w (IdxV (kindB rf) l w):=by
 have HC:=zH hc;have HP:=zH (fun w' (he:Ext w w')=>(⟨(he.cell hpl).trans hp,Nat.lt_of_lt_of_le hpl he.size⟩:w'.cell? ⟨p,0,none⟩=some (.bool rf)∧p<w'.heap.size));clear hc hp hpl;go_enter func241,ntmps241;go_wp2_with fail;go_loopw [8] (fun i wr=> ∃k:Nat,k≤l.length∧i=.int .i64 k∧Hid (∀v∈l.take k,kindB rf v=false)∧Hid (Ext w wr)) (fun i _=>l.length-(intOf i).toNat)
 case atStart=>exact ⟨0,Nat.zero_le _,rfl,zH (by simp),zH (Ext.refl _)⟩
 case round=>
  obtain ⟨k,hk,rfl,hm,HE⟩:=hrel;by_cases hlt:k<l.length
  · obtain ⟨b,o,hA,hb,g0,g1⟩:=ygG (HC.out.ext HE.out) hlt;have HX:=zH (yby hlt);generalize l.getD k LVal.zero=v at *;have HFV:=zH (ykF v p rf wr (HP.out wr HE.out).1 (HP.out wr HE.out).2);subst hA;go_wp2_with fail;refine HFV.out.mono ?_;rintro e w1 ⟨rfl,hX⟩;have HE1:=zH (HE.out.trans (show Ext wr w1 from hX));clear hX;cases hv:kindB rf v
    · have HN:=zH (ybK HX.out hm.out hv);clear hv;go_wp2_with fail;go_roundw
      case rel=>exact ⟨k+1,zo,by go_num,HN,HE1⟩
      case measure=>simp [intOf];omega
    · have HN:=zH (ygz HX.out hv);clear hv;go_wp2_with fail;go_ret;exact ⟨_,rfl,by rw [HN.out];simp,HE1.out⟩
  · have HN:=zH (yik (fun v hv=>hm.out v (by rw [List.take_of_length_le zo];exact hv)));go_wp2_with fail;go_ret;exact ⟨_,rfl,by rw [HN.out];rfl,HE.out⟩
theorem ykt (A:Option Addr) (c:Nat) (l:List LVal) (w:World) (hc:CellsAt w A (l.flatMap LVal.cells)) (hl:l.length≤1000):
 Calls prog 241 #[.slice A l.length c,.func (.func 200) #[] #[]] w (IdxV noneB l w):=by
 have HC:=zH hc;clear hc;go_enter func241,ntmps241;go_wp2_with fail;go_loopw [8] (fun i wr=> ∃k:Nat,k≤l.length∧i=.int .i64 k∧Hid (∀v∈l.take k,noneB v=false)∧Hid (Ext w wr)) (fun i _=>l.length-(intOf i).toNat)
 case atStart=>exact ⟨0,Nat.zero_le _,rfl,zH (by simp),zH (Ext.refl _)⟩
 case round=>
  obtain ⟨k,hk,rfl,hm,HE⟩:=hrel;by_cases hlt:k<l.length
  · obtain ⟨b,o,hA,hb,g0,g1⟩:=ygG (HC.out.ext HE.out) hlt;have HX:=zH (yby hlt);generalize l.getD k LVal.zero=v at *;have HFV:=zH (ykG v wr);subst hA;go_wp2_with fail;refine HFV.out.mono ?_;rintro e w1 ⟨rfl,hX⟩;have HE1:=zH (HE.out.trans (show Ext wr w1 from hX));clear hX;cases hv:noneB v
    · have HN:=zH (ybK HX.out hm.out hv);clear hv;go_wp2_with fail;go_roundw
      case rel=>exact ⟨k+1,zo,by go_num,HN,HE1⟩
      case measure=>simp [intOf];omega
    · have HN:=zH (ygz HX.out hv);clear hv;go_wp2_with fail;go_ret;exact ⟨_,rfl,by rw [HN.out];simp,HE1.out⟩
  · have HN:=zH (yik (fun v hv=>hm.out v (by rw [List.take_of_length_le zo];exact hv)));go_wp2_with fail;go_ret;exact ⟨_,rfl,by rw [HN.out];rfl,HE.out⟩
theorem ybb (A:Option Addr) (c:Nat) (l:List LVal) (p:Nat) (rf:Bool) (w:World) (hc:CellsAt w A (l.flatMap LVal.cells)) (hl:l.length≤1000) (hp:w.cell? ⟨p,0,none⟩=some (.bool rf)) (hpl:p<w.heap.size):
 Calls prog 198 #[.slice A l.length c,.func (.func 199) #[] #[.pointer (some ⟨p,0,none⟩)]] w (Gives (.bool (l.any (kindB rf))) w):=by
 have HI:=zH (yks A c l p rf w hc hl hp hpl);clear hc hp hpl;go_enter func198,ntmps198;go_wp2_with fail;refine HI.out.mono ?_;rintro e w1 ⟨n,rfl,hn,X,rfl⟩;have HN:=zH hn;clear hn;go_wp2_with fail;go_ret;exact Gives.bool HN.out zE
theorem ybc (A:Option Addr) (c:Nat) (l:List LVal) (w:World) (hc:CellsAt w A (l.flatMap LVal.cells)) (hl:l.length≤1000):
 Calls prog 198 #[.slice A l.length c,.func (.func 200) #[] #[]] w (Gives (.bool (l.any noneB)) w):=by
 have HI:=zH (ykt A c l w hc hl);clear hc;go_enter func198,ntmps198;go_wp2_with fail;refine HI.out.mono ?_;rintro e w1 ⟨n,rfl,hn,X,rfl⟩;have HN:=zH hn;clear hn;go_wp2_with fail;go_ret;exact Gives.bool HN.out zE
theorem yaD {A:AcS} {o:Opr} {l:List LVal} {rf so:Bool} (h1:A.mustL o=l) (h2:AcS.refB o=rf) (h3:AcS.someB o=so):A.operandsE o=if l.any (kindB rf) then 4 else if so&&l.any noneB then 3 else 0:=by
 unfold AcS.operandsE;rw [h1,h2,h3];rfl
section
variable (g:GW) (t b:Nat) (A:AcS) (p:AcP)
theorem yhK (H:AcAt g t b A p) (oa ob oc on:Int) (x y:Nat):Calls prog 134 #[.pointer (some ⟨b,0,none⟩),.agg #[.int .i64 1,.int .i64 oa,.int .i64 ob,.int .i64 oc,.int .i64 on,.complex .f64 x y]] g.w (Gives (zI z6 (A.operandsE ⟨1,oa,ob,oc,on,x,y⟩)) g.w):=by
 have HV:=zH (yaD (A:=A) (o:=⟨1,oa,ob,oc,on,x,y⟩) (l:=[]) (rf:=true) (so:=true) rfl rfl rfl);obtain ⟨a0,a1,a2,a3,a4,a5,a6,a7,a8,a9,a10,a11,a12,a13,a14,a15,a16,a17,a18,al⟩:=H.blk.k19;clear H;go_enter func134,ntmps134;go_upto_region 20 with fail
 obtain ⟨w1,hW⟩: ∃w1,((g.w.alloc (.cells #[.int .i64 1,.int .i64 oa,.int .i64 ob,.int .i64 oc,.int .i64 on,.complex .f64 x y] 26)).alloc (.cells #[.bool true] 4))=w1:=⟨_,rfl⟩;rw [hW];have hE:=zH (show Ext g.w w1 by rw [←hW];exact zE);have r0:w1.cell? ⟨g.w.heap.size+1,0,none⟩=some (.bool true):=by rw [←hW];clear hW;go_simp
 have hlr:g.w.heap.size+1<w1.heap.size:=by rw [←hW];clear hW;go_simp
 have hs:CellsAt w1 none (([]:List LVal).flatMap LVal.cells):=CellsAt.nil _ _;have HK1:=zH (show Calls prog 198 #[.slice none 0 0,.func (.func 199) #[] #[.pointer (some ⟨g.w.heap.size+1,0,none⟩)]] w1 (Gives (.bool (List.any ([]:List LVal) (kindB true))) w1) from ybb none 0 ([]:List LVal) _ true w1 hs (by simp) r0 hlr);have HK2:=zH (fun w' (he:Ext w1 w')=>show Calls prog 198 #[.slice none 0 0,.func (.func 200) #[] #[]] w' (Gives (.bool (List.any ([]:List LVal) noneB)) w') from ybc none 0 ([]:List LVal) w' (hs.ext he) (by simp));have HRF:=zH (fun w' (he:Ext w1 w')=>(he.cell hlr).trans r0);generalize List.any ([]:List LVal) (kindB true)=kb1 at *;generalize List.any ([]:List LVal) noneB=nb1 at *;clear hs hW;go_wp2_with fail;refine HK1.out.mono ?_;rintro e w2 ⟨rfl,X2,rfl⟩;cases kb1
 · go_wp2_with fail;refine (HK2.out _ zE).mono ?_;rintro e w3 ⟨rfl,X3,rfl⟩;cases nb1
   · go_wp2_with fail;go_ret;exact Gives.mk (by rw [HV.out];rfl) (hE.out.trans zE)
   · go_wp2_with fail;go_ret;exact Gives.mk (by rw [HV.out];rfl) (hE.out.trans zE)
 · go_wp2_with fail;go_ret;exact Gives.mk (by rw [HV.out];rfl) (hE.out.trans zE)
theorem yhM (H:AcAt g t b A p) (oa ob oc on:Int) (x y:Nat):Calls prog 134 #[.pointer (some ⟨b,0,none⟩),.agg #[.int .i64 7,.int .i64 oa,.int .i64 ob,.int .i64 oc,.int .i64 on,.complex .f64 x y]] g.w (Gives (zI z6 (A.operandsE ⟨7,oa,ob,oc,on,x,y⟩)) g.w):=by
 have HV:=zH (yaD (A:=A) (o:=⟨7,oa,ob,oc,on,x,y⟩) (l:=[]) (rf:=true) (so:=true) rfl rfl rfl);obtain ⟨a0,a1,a2,a3,a4,a5,a6,a7,a8,a9,a10,a11,a12,a13,a14,a15,a16,a17,a18,al⟩:=H.blk.k19;clear H;go_enter func134,ntmps134;go_upto_region 20 with fail
 obtain ⟨w1,hW⟩: ∃w1,((g.w.alloc (.cells #[.int .i64 7,.int .i64 oa,.int .i64 ob,.int .i64 oc,.int .i64 on,.complex .f64 x y] 26)).alloc (.cells #[.bool true] 4))=w1:=⟨_,rfl⟩;rw [hW];have hE:=zH (show Ext g.w w1 by rw [←hW];exact zE);have r0:w1.cell? ⟨g.w.heap.size+1,0,none⟩=some (.bool true):=by rw [←hW];clear hW;go_simp
 have hlr:g.w.heap.size+1<w1.heap.size:=by rw [←hW];clear hW;go_simp
 have hs:CellsAt w1 none (([]:List LVal).flatMap LVal.cells):=CellsAt.nil _ _;have HK1:=zH (show Calls prog 198 #[.slice none 0 0,.func (.func 199) #[] #[.pointer (some ⟨g.w.heap.size+1,0,none⟩)]] w1 (Gives (.bool (List.any ([]:List LVal) (kindB true))) w1) from ybb none 0 ([]:List LVal) _ true w1 hs (by simp) r0 hlr);have HK2:=zH (fun w' (he:Ext w1 w')=>show Calls prog 198 #[.slice none 0 0,.func (.func 200) #[] #[]] w' (Gives (.bool (List.any ([]:List LVal) noneB)) w') from ybc none 0 ([]:List LVal) w' (hs.ext he) (by simp));have HRF:=zH (fun w' (he:Ext w1 w')=>(he.cell hlr).trans r0);generalize List.any ([]:List LVal) (kindB true)=kb1 at *;generalize List.any ([]:List LVal) noneB=nb1 at *;clear hs hW;go_wp2_with fail;refine HK1.out.mono ?_;rintro e w2 ⟨rfl,X2,rfl⟩;cases kb1
 · go_wp2_with fail;refine (HK2.out _ zE).mono ?_;rintro e w3 ⟨rfl,X3,rfl⟩;cases nb1
   · go_wp2_with fail;go_ret;exact Gives.mk (by rw [HV.out];rfl) (hE.out.trans zE)
   · go_wp2_with fail;go_ret;exact Gives.mk (by rw [HV.out];rfl) (hE.out.trans zE)
 · go_wp2_with fail;go_ret;exact Gives.mk (by rw [HV.out];rfl) (hE.out.trans zE)
theorem yge (H:AcAt g t b A p) (oa ob oc on:Int) (x y:Nat):Calls prog 134 #[.pointer (some ⟨b,0,none⟩),.agg #[.int .i64 12,.int .i64 oa,.int .i64 ob,.int .i64 oc,.int .i64 on,.complex .f64 x y]] g.w (Gives (zI z6 (A.operandsE ⟨12,oa,ob,oc,on,x,y⟩)) g.w):=by
 have HV:=zH (yaD (A:=A) (o:=⟨12,oa,ob,oc,on,x,y⟩) (l:=[]) (rf:=true) (so:=true) rfl rfl rfl);obtain ⟨a0,a1,a2,a3,a4,a5,a6,a7,a8,a9,a10,a11,a12,a13,a14,a15,a16,a17,a18,al⟩:=H.blk.k19;clear H;go_enter func134,ntmps134;go_upto_region 20 with fail
 obtain ⟨w1,hW⟩: ∃w1,((g.w.alloc (.cells #[.int .i64 12,.int .i64 oa,.int .i64 ob,.int .i64 oc,.int .i64 on,.complex .f64 x y] 26)).alloc (.cells #[.bool true] 4))=w1:=⟨_,rfl⟩;rw [hW];have hE:=zH (show Ext g.w w1 by rw [←hW];exact zE);have r0:w1.cell? ⟨g.w.heap.size+1,0,none⟩=some (.bool true):=by rw [←hW];clear hW;go_simp
 have hlr:g.w.heap.size+1<w1.heap.size:=by rw [←hW];clear hW;go_simp
 have hs:CellsAt w1 none (([]:List LVal).flatMap LVal.cells):=CellsAt.nil _ _;have HK1:=zH (show Calls prog 198 #[.slice none 0 0,.func (.func 199) #[] #[.pointer (some ⟨g.w.heap.size+1,0,none⟩)]] w1 (Gives (.bool (List.any ([]:List LVal) (kindB true))) w1) from ybb none 0 ([]:List LVal) _ true w1 hs (by simp) r0 hlr);have HK2:=zH (fun w' (he:Ext w1 w')=>show Calls prog 198 #[.slice none 0 0,.func (.func 200) #[] #[]] w' (Gives (.bool (List.any ([]:List LVal) noneB)) w') from ybc none 0 ([]:List LVal) w' (hs.ext he) (by simp));have HRF:=zH (fun w' (he:Ext w1 w')=>(he.cell hlr).trans r0);generalize List.any ([]:List LVal) (kindB true)=kb1 at *;generalize List.any ([]:List LVal) noneB=nb1 at *;clear hs hW;go_wp2_with fail;refine HK1.out.mono ?_;rintro e w2 ⟨rfl,X2,rfl⟩;cases kb1
 · go_wp2_with fail;refine (HK2.out _ zE).mono ?_;rintro e w3 ⟨rfl,X3,rfl⟩;cases nb1
   · go_wp2_with fail;go_ret;exact Gives.mk (by rw [HV.out];rfl) (hE.out.trans zE)
   · go_wp2_with fail;go_ret;exact Gives.mk (by rw [HV.out];rfl) (hE.out.trans zE)
 · go_wp2_with fail;go_ret;exact Gives.mk (by rw [HV.out];rfl) (hE.out.trans zE)
theorem ygf (H:AcAt g t b A p) (oa ob oc on:Int) (x y:Nat):Calls prog 134 #[.pointer (some ⟨b,0,none⟩),.agg #[.int .i64 13,.int .i64 oa,.int .i64 ob,.int .i64 oc,.int .i64 on,.complex .f64 x y]] g.w (Gives (zI z6 (A.operandsE ⟨13,oa,ob,oc,on,x,y⟩)) g.w):=by
 have HV:=zH (yaD (A:=A) (o:=⟨13,oa,ob,oc,on,x,y⟩) (l:=[]) (rf:=true) (so:=true) rfl rfl rfl);obtain ⟨a0,a1,a2,a3,a4,a5,a6,a7,a8,a9,a10,a11,a12,a13,a14,a15,a16,a17,a18,al⟩:=H.blk.k19;clear H;go_enter func134,ntmps134;go_upto_region 20 with fail
 obtain ⟨w1,hW⟩: ∃w1,((g.w.alloc (.cells #[.int .i64 13,.int .i64 oa,.int .i64 ob,.int .i64 oc,.int .i64 on,.complex .f64 x y] 26)).alloc (.cells #[.bool true] 4))=w1:=⟨_,rfl⟩;rw [hW];have hE:=zH (show Ext g.w w1 by rw [←hW];exact zE);have r0:w1.cell? ⟨g.w.heap.size+1,0,none⟩=some (.bool true):=by rw [←hW];clear hW;go_simp
 have hlr:g.w.heap.size+1<w1.heap.size:=by rw [←hW];clear hW;go_simp
 have hs:CellsAt w1 none (([]:List LVal).flatMap LVal.cells):=CellsAt.nil _ _;have HK1:=zH (show Calls prog 198 #[.slice none 0 0,.func (.func 199) #[] #[.pointer (some ⟨g.w.heap.size+1,0,none⟩)]] w1 (Gives (.bool (List.any ([]:List LVal) (kindB true))) w1) from ybb none 0 ([]:List LVal) _ true w1 hs (by simp) r0 hlr);have HK2:=zH (fun w' (he:Ext w1 w')=>show Calls prog 198 #[.slice none 0 0,.func (.func 200) #[] #[]] w' (Gives (.bool (List.any ([]:List LVal) noneB)) w') from ybc none 0 ([]:List LVal) w' (hs.ext he) (by simp));have HRF:=zH (fun w' (he:Ext w1 w')=>(he.cell hlr).trans r0);generalize List.any ([]:List LVal) (kindB true)=kb1 at *;generalize List.any ([]:List LVal) noneB=nb1 at *;clear hs hW;go_wp2_with fail;refine HK1.out.mono ?_;rintro e w2 ⟨rfl,X2,rfl⟩;cases kb1
 · go_wp2_with fail;refine (HK2.out _ zE).mono ?_;rintro e w3 ⟨rfl,X3,rfl⟩;cases nb1
   · go_wp2_with fail;go_ret;exact Gives.mk (by rw [HV.out];rfl) (hE.out.trans zE)
   · go_wp2_with fail;go_ret;exact Gives.mk (by rw [HV.out];rfl) (hE.out.trans zE)
 · go_wp2_with fail;go_ret;exact Gives.mk (by rw [HV.out];rfl) (hE.out.trans zE)
theorem yhN (H:AcAt g t b A p) (oa ob oc on:Int) (x y:Nat) (hb:0≤ob∧ob<A.locals.length):Calls prog 134 #[.pointer (some ⟨b,0,none⟩),.agg #[.int .i64 8,.int .i64 oa,.int .i64 ob,.int .i64 oc,.int .i64 on,.complex .f64 x y]] g.w (Gives (zI z6 (A.operandsE ⟨8,oa,ob,oc,on,x,y⟩)) g.w):=by
 obtain ⟨kb,rfl⟩: ∃k:Nat,ob=k:=⟨(ob).toNat,zo⟩;have hkb:kb<A.locals.length:=zo;obtain ⟨q,hA,hq, -,c0,c1, -⟩:=H.r.local_ hkb;have HV:=zH (yaD (A:=A) (o:=⟨8,oa,kb,oc,on,x,y⟩) (l:=[A.loc kb]) (rf:=true) (so:=false) rfl rfl rfl);obtain ⟨a0,a1,a2,a3,a4,a5,a6,a7,a8,a9,a10,a11,a12,a13,a14,a15,a16,a17,a18,al⟩:=H.blk.k19;rw [hA] at a2;clear H hb hA;generalize A.locals.length=n at *;generalize A.loc kb=v at *;go_enter func134,ntmps134;go_upto_region 20 with fail
 obtain ⟨w1,hW⟩: ∃w1,(((g.w.alloc (.cells #[.int .i64 8,.int .i64 oa,.int .i64 kb,.int .i64 oc,.int .i64 on,.complex .f64 x y] 26)).alloc (.cells #[.bool true] 4)).alloc (.cells #[.bool v.ref,.complex .f64 v.z.1 v.z.2] 38))=w1:=⟨_,rfl⟩;rw [hW];have hE:=zH (show Ext g.w w1 by rw [←hW];exact zE);have r0:w1.cell? ⟨g.w.heap.size+1,0,none⟩=some (.bool true):=by rw [←hW];clear hW;go_simp
 have hlr:g.w.heap.size+1<w1.heap.size:=by rw [←hW];clear hW;go_simp
 have hs:CellsAt w1 (some ⟨g.w.heap.size+1+1,0,none⟩) ([v].flatMap LVal.cells):=CellsAt.mk (by rw [←hW];clear hW;go_simp) (fun i u hi=>by
  rw [←hW];clear hW;match i,hi with
  |0,hi=>injection hi with hi;subst hi;go_simp
  |1,hi=>injection hi with hi;subst hi;go_simp)
 have HK1:=zH (show Calls prog 198 #[.slice (some ⟨g.w.heap.size+1+1,0,none⟩) 1 1,.func (.func 199) #[] #[.pointer (some ⟨g.w.heap.size+1,0,none⟩)]] w1 (Gives (.bool (List.any [v] (kindB true))) w1) from ybb (some ⟨g.w.heap.size+1+1,0,none⟩) 1 [v] _ true w1 hs (by simp) r0 hlr);have HK2:=zH (fun w' (he:Ext w1 w')=>show Calls prog 198 #[.slice (some ⟨g.w.heap.size+1+1,0,none⟩) 1 1,.func (.func 200) #[] #[]] w' (Gives (.bool (List.any [v] noneB)) w') from ybc (some ⟨g.w.heap.size+1+1,0,none⟩) 1 [v] w' (hs.ext he) (by simp));have HRF:=zH (fun w' (he:Ext w1 w')=>(he.cell hlr).trans r0);generalize List.any [v] (kindB true)=kb1 at *;generalize List.any [v] noneB=nb1 at *;clear hs hW;go_wp2_with fail;refine HK1.out.mono ?_;rintro e w2 ⟨rfl,X2,rfl⟩;cases kb1
 · go_wp2_with fail;go_ret;exact Gives.mk (by rw [HV.out];rfl) (hE.out.trans zE)
 · go_wp2_with fail;go_ret;exact Gives.mk (by rw [HV.out];rfl) (hE.out.trans zE)
theorem yhL (H:AcAt g t b A p) (oa ob oc on:Int) (x y:Nat) (hb:0≤oa∧oa<A.locals.length):Calls prog 134 #[.pointer (some ⟨b,0,none⟩),.agg #[.int .i64 4,.int .i64 oa,.int .i64 ob,.int .i64 oc,.int .i64 on,.complex .f64 x y]] g.w (Gives (zI z6 (A.operandsE ⟨4,oa,ob,oc,on,x,y⟩)) g.w):=by
 obtain ⟨kb,rfl⟩: ∃k:Nat,oa=k:=⟨(oa).toNat,zo⟩;have hkb:kb<A.locals.length:=zo;obtain ⟨q,hA,hq, -,c0,c1, -⟩:=H.r.local_ hkb;have HV:=zH (yaD (A:=A) (o:=⟨4,kb,ob,oc,on,x,y⟩) (l:=[A.loc kb]) (rf:=true) (so:=true) rfl rfl rfl);obtain ⟨a0,a1,a2,a3,a4,a5,a6,a7,a8,a9,a10,a11,a12,a13,a14,a15,a16,a17,a18,al⟩:=H.blk.k19;rw [hA] at a2;clear H hb hA;generalize A.locals.length=n at *;generalize A.loc kb=v at *;go_enter func134,ntmps134;go_upto_region 20 with fail
 obtain ⟨w1,hW⟩: ∃w1,(((g.w.alloc (.cells #[.int .i64 4,.int .i64 kb,.int .i64 ob,.int .i64 oc,.int .i64 on,.complex .f64 x y] 26)).alloc (.cells #[.bool true] 4)).alloc (.cells #[.bool v.ref,.complex .f64 v.z.1 v.z.2] 38))=w1:=⟨_,rfl⟩;rw [hW];have hE:=zH (show Ext g.w w1 by rw [←hW];exact zE);have r0:w1.cell? ⟨g.w.heap.size+1,0,none⟩=some (.bool true):=by rw [←hW];clear hW;go_simp
 have hlr:g.w.heap.size+1<w1.heap.size:=by rw [←hW];clear hW;go_simp
 have hs:CellsAt w1 (some ⟨g.w.heap.size+1+1,0,none⟩) ([v].flatMap LVal.cells):=CellsAt.mk (by rw [←hW];clear hW;go_simp) (fun i u hi=>by
  rw [←hW];clear hW;match i,hi with
  |0,hi=>injection hi with hi;subst hi;go_simp
  |1,hi=>injection hi with hi;subst hi;go_simp)
 have HK1:=zH (show Calls prog 198 #[.slice (some ⟨g.w.heap.size+1+1,0,none⟩) 1 1,.func (.func 199) #[] #[.pointer (some ⟨g.w.heap.size+1,0,none⟩)]] w1 (Gives (.bool (List.any [v] (kindB true))) w1) from ybb (some ⟨g.w.heap.size+1+1,0,none⟩) 1 [v] _ true w1 hs (by simp) r0 hlr);have HK2:=zH (fun w' (he:Ext w1 w')=>show Calls prog 198 #[.slice (some ⟨g.w.heap.size+1+1,0,none⟩) 1 1,.func (.func 200) #[] #[]] w' (Gives (.bool (List.any [v] noneB)) w') from ybc (some ⟨g.w.heap.size+1+1,0,none⟩) 1 [v] w' (hs.ext he) (by simp));have HRF:=zH (fun w' (he:Ext w1 w')=>(he.cell hlr).trans r0);generalize List.any [v] (kindB true)=kb1 at *;generalize List.any [v] noneB=nb1 at *;clear hs hW;go_wp2_with fail;refine HK1.out.mono ?_;rintro e w2 ⟨rfl,X2,rfl⟩;cases kb1
 · go_wp2_with fail;refine (HK2.out _ zE).mono ?_;rintro e w3 ⟨rfl,X3,rfl⟩;cases nb1
   · go_wp2_with fail;go_ret;exact Gives.mk (by rw [HV.out];rfl) (hE.out.trans zE)
   · go_wp2_with fail;go_ret;exact Gives.mk (by rw [HV.out];rfl) (hE.out.trans zE)
 · go_wp2_with fail;go_ret;exact Gives.mk (by rw [HV.out];rfl) (hE.out.trans zE)
end
end Go.Proofs.YtdhjjpnajjingaaGreat
namespace Go.Proofs.YtdhjjpnajjingaaGreat
open Go Go.RowKit
def plainR (o:Option LVal):Value:=.tuple #[.agg #[.bool (o.getD LVal.zero).ref,.complex .f64 (o.getD LVal.zero).z.1 (o.getD LVal.zero).z.2],.bool o.isSome]
section
variable (g:GW) (t b:Nat) (A:AcS) (p:AcP)
theorem ykN (H:AcAt g t b A p) (oa ob oc on:Int) (x y:Nat):Calls prog 135 #[.pointer (some ⟨b,0,none⟩),.agg #[.int .i64 12,.int .i64 oa,.int .i64 ob,.int .i64 oc,.int .i64 on,.complex .f64 x y]] g.w (Gives (plainR (A.plainV ⟨12,oa,ob,oc,on,x,y⟩)) g.w):=by
 have HV:=zH (show A.plainV ⟨12,oa,ob,oc,on,x,y⟩=some ⟨false,(x,y)⟩ from rfl);obtain ⟨a0,a1,a2,a3,a4,a5,a6,a7,a8,a9,a10,a11,a12,a13,a14,a15,a16,a17,a18,al⟩:=H.blk.k19;clear H;go_enter func135,ntmps135;go_wp2_with fail;refine bodyPost_ret (v:=.tuple #[.agg #[.bool false,.complex .f64 x y],.bool true]) (by simp [results,Tryz.results135,go_sem]) rfl ?_;exact Gives.mk (by rw [HV.out];rfl) zE
theorem ykO (H:AcAt g t b A p) (oa ob oc on:Int) (x y:Nat):Calls prog 135 #[.pointer (some ⟨b,0,none⟩),.agg #[.int .i64 13,.int .i64 oa,.int .i64 ob,.int .i64 oc,.int .i64 on,.complex .f64 x y]] g.w (Gives (plainR (A.plainV ⟨13,oa,ob,oc,on,x,y⟩)) g.w):=by
 have HV:=zH (show A.plainV ⟨13,oa,ob,oc,on,x,y⟩=some LVal.none from rfl);have HN:=zH (fun w'=>yaL w');unfold wNone at HN;obtain ⟨a0,a1,a2,a3,a4,a5,a6,a7,a8,a9,a10,a11,a12,a13,a14,a15,a16,a17,a18,al⟩:=H.blk.k19;clear H;go_enter func135,ntmps135;go_wp2_with fail;refine (HN.out _).mono ?_;rintro e w1 ⟨rfl,X,rfl⟩;go_wp2_with fail;refine bodyPost_ret (v:=.tuple #[.agg #[.bool true,.complex .f64 0 4607182418800017408],.bool true]) (by simp [results,Tryz.results135,go_sem]) rfl ?_;exact Gives.mk (by rw [HV.out];rfl) zE
theorem ylk (H:AcAt g t b A p) (oa ob oc on:Int) (x y:Nat):Calls prog 135 #[.pointer (some ⟨b,0,none⟩),.agg #[.int .i64 1,.int .i64 oa,.int .i64 ob,.int .i64 oc,.int .i64 on,.complex .f64 x y]] g.w (Gives (plainR (A.plainV ⟨1,oa,ob,oc,on,x,y⟩)) g.w):=by
 have HV:=zH (show A.plainV ⟨1,oa,ob,oc,on,x,y⟩=none from rfl);obtain ⟨a0,a1,a2,a3,a4,a5,a6,a7,a8,a9,a10,a11,a12,a13,a14,a15,a16,a17,a18,al⟩:=H.blk.k19;clear H;go_enter func135,ntmps135;go_wp2_with fail;refine bodyPost_ret (v:=.tuple #[.agg #[.bool false,.complex .f64 0 0],.bool false]) (by simp [results,Tryz.results135,go_sem]) rfl ?_;exact Gives.mk (by rw [HV.out];rfl) zE
theorem yll (H:AcAt g t b A p) (oa ob oc on:Int) (x y:Nat):Calls prog 135 #[.pointer (some ⟨b,0,none⟩),.agg #[.int .i64 4,.int .i64 oa,.int .i64 ob,.int .i64 oc,.int .i64 on,.complex .f64 x y]] g.w (Gives (plainR (A.plainV ⟨4,oa,ob,oc,on,x,y⟩)) g.w):=by
 have HV:=zH (show A.plainV ⟨4,oa,ob,oc,on,x,y⟩=none from rfl);obtain ⟨a0,a1,a2,a3,a4,a5,a6,a7,a8,a9,a10,a11,a12,a13,a14,a15,a16,a17,a18,al⟩:=H.blk.k19;clear H;go_enter func135,ntmps135;go_wp2_with fail;refine bodyPost_ret (v:=.tuple #[.agg #[.bool false,.complex .f64 0 0],.bool false]) (by simp [results,Tryz.results135,go_sem]) rfl ?_;exact Gives.mk (by rw [HV.out];rfl) zE
theorem ylm (H:AcAt g t b A p) (oa ob oc on:Int) (x y:Nat):Calls prog 135 #[.pointer (some ⟨b,0,none⟩),.agg #[.int .i64 7,.int .i64 oa,.int .i64 ob,.int .i64 oc,.int .i64 on,.complex .f64 x y]] g.w (Gives (plainR (A.plainV ⟨7,oa,ob,oc,on,x,y⟩)) g.w):=by
 have HV:=zH (show A.plainV ⟨7,oa,ob,oc,on,x,y⟩=none from rfl);obtain ⟨a0,a1,a2,a3,a4,a5,a6,a7,a8,a9,a10,a11,a12,a13,a14,a15,a16,a17,a18,al⟩:=H.blk.k19;clear H;go_enter func135,ntmps135;go_wp2_with fail;refine bodyPost_ret (v:=.tuple #[.agg #[.bool false,.complex .f64 0 0],.bool false]) (by simp [results,Tryz.results135,go_sem]) rfl ?_;exact Gives.mk (by rw [HV.out];rfl) zE
theorem yln (H:AcAt g t b A p) (oa ob oc on:Int) (x y:Nat):Calls prog 135 #[.pointer (some ⟨b,0,none⟩),.agg #[.int .i64 8,.int .i64 oa,.int .i64 ob,.int .i64 oc,.int .i64 on,.complex .f64 x y]] g.w (Gives (plainR (A.plainV ⟨8,oa,ob,oc,on,x,y⟩)) g.w):=by
 have HV:=zH (show A.plainV ⟨8,oa,ob,oc,on,x,y⟩=none from rfl);obtain ⟨a0,a1,a2,a3,a4,a5,a6,a7,a8,a9,a10,a11,a12,a13,a14,a15,a16,a17,a18,al⟩:=H.blk.k19;clear H;go_enter func135,ntmps135;go_wp2_with fail;refine bodyPost_ret (v:=.tuple #[.agg #[.bool false,.complex .f64 0 0],.bool false]) (by simp [results,Tryz.results135,go_sem]) rfl ?_;exact Gives.mk (by rw [HV.out];rfl) zE
end
end Go.Proofs.YtdhjjpnajjingaaGreat
