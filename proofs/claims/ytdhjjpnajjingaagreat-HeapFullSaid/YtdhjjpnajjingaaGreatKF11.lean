import Derived.Test.YtdhjjpnajjingaaGreatKF10
set_option linter.unusedVariables false
set_option linter.unnecessarySimpa false
set_option linter.unusedSimpArgs false
open Bool renaming true→zT,false→zU
open Go.Value renaming int→zI,complex→zc,pointer→zp,bool→zb
open Go.IntKind renaming i64→z6
open Go.FloatKind renaming f64→z4
set_option maxHeartbeats 8000000
set_option maxRecDepth 100000
open Go.Proofs.Tryz
open Go.Lib renaming hid→zH
open Go.Ext renaming alloc→zA,patch→zP,drew→zD,drewN→zN,more→zM,refl→zR,setCell→zS
open Nat renaming le_refl→zL,le_add_right→zK
namespace Go.Proofs.YtdhjjpnajjingaaGreat
open Go Go.RowKit
theorem yax {c:Cnf} {i:Int} (h:inL c i=true):0≤i∧i<c.locals:=of_decide_eq_true h
theorem yjz {c:Cnf} {i:Int} (h:inG c i=true):0≤i∧i<c.globals:=of_decide_eq_true h
theorem yeU (arr:Bool) (A:Option Addr) (cap:Nat) (refs:List Bool) (n:Int):Shp.size ⟨arr,A,cap,refs⟩ n=Shp.size ⟨arr,none,0,refs⟩ n:=rfl
theorem ydT (arr:Bool) (A:Option Addr) (cap:Nat) (refs:List Bool) (n:Int):Shp.spine ⟨arr,A,cap,refs⟩ n=Shp.spine ⟨arr,none,0,refs⟩ n:=rfl
theorem ybs {c:Cnf} {o:Opr} (h12:o.kind=1∨o.kind=2) (h:opOk c o=true):(0≤o.a∧o.a<c.locals)∧(∃refs,c.shapeAt o.b=some (o.kind==2,refs)∧needF c o=Shp.size ⟨o.kind==2,none,0,refs⟩ (if o.kind=2 then o.n else 0)∧needS c o=Shp.spine ⟨o.kind==2,none,0,refs⟩ o.n)∧0≤needF c o∧needF c o≤c.frags∧needS c o≤c.spine:=by
 unfold opOk at h;rw [if_pos h12] at h;simp only [Bool.and_eq_true,decide_eq_true_eq,beq_iff_eq] at h;obtain ⟨⟨⟨⟨⟨h1,h2⟩,h3⟩,h4⟩,h5⟩,h6⟩:=h;refine ⟨yax h1,?_,h4,h5,h6⟩;obtain ⟨⟨ar,refs⟩,hx⟩:=Option.isSome_iff_exists.1 h2;rw [hx] at h3;simp only [Option.getD_some] at h3;refine ⟨refs,by rw [hx,h3],?_,?_⟩
 · unfold needF;rw [hx];rfl
 · unfold needS;rw [hx];rfl
theorem ydK (c:Cnf) (o:Opr) (w:World) (hc:c.Ok w) (h0:c.check=0) (ho:opOk c o=true) (hk:o.kind=1∨o.kind=2∨o.kind=4∨o.kind=7∨o.kind=8∨o.kind=13:=by simp):Calls prog 133 #[c.val,o.val] w (Gives (zI z6 0) w):=by
 obtain ⟨k,a,b,d,n,x,y⟩:=o;unfold Opr.val;simp only;by_cases h12:k=1∨k=2
 · obtain ⟨ha,⟨refs,hS,hF,hP⟩,z0,z1,p1⟩:=ybs (o:=⟨k,a,b,d,n,x,y⟩) h12 ho;simp only at ha hS hF hP z0 z1 p1;rcases h12 with rfl|rfl
   · exact yeO c a b d n x y w hc h0 ha refs hS _ _ hF.symm hP.symm z0 z1 p1
   · exact yeP c a b d n x y w hc h0 ha refs hS _ _ hF.symm hP.symm z0 z1 p1
 unfold opOk at ho;simp only at ho;rw [if_neg h12] at ho;split at ho
 · rename_i h
   simp only [Bool.and_eq_true] at ho;obtain ⟨ha,hb⟩:=ho;rcases h with rfl|rfl|rfl|rfl|rfl|rfl|rfl
   · simp at hk
   · exact yeQ c a b d n x y w hc h0 (yax ha) (yax hb)
   · simp at hk
   · simp at hk
   · simp at hk
   · simp at hk
   · simp at hk
 split at ho
 · rename_i h
   simp only [Bool.and_eq_true] at ho;subst h;exact yjX c a b d n x y w hc h0 (yax ho.1) (yjz ho.2)
 split at ho
 · rename_i h
   simp only [Bool.and_eq_true] at ho;subst h;exact yjY c a b d n x y w hc h0 (yax ho.1) (yjz ho.2)
 split at ho
 · rename_i h
   cases ho
 split at ho
 · rename_i h
   rcases h with rfl|rfl
   · simp at hk
   · exact ydJ c a b d n x y w hc h0 (yax ho)
 · simp only [Bool.or_eq_true,beq_iff_eq] at ho;rcases ho with rfl|rfl
   · simp at hk
   · simp at hk
theorem yhg (c:Cnf) (a b d n:Int) (x y:Nat) (w:World) (hc:c.Ok w) (h0:c.check=0) (ho:opOk c ⟨1,a,b,d,n,x,y⟩=true):Calls prog 133 #[c.val,.agg #[zI z6 1,zI z6 a,zI z6 b,zI z6 d,zI z6 n,zc z4 x y]] w (Gives (zI z6 0) w):=by
 obtain ⟨ha,⟨refs,hS,hF,hP⟩,z0,z1,p1⟩:=ybs (o:=⟨1,a,b,d,n,x,y⟩) (Or.inl rfl) ho;exact yeO c a b d n x y w hc h0 ha refs hS _ _ hF.symm hP.symm z0 z1 p1
theorem yhh (c:Cnf) (a b d n:Int) (x y:Nat) (w:World) (hc:c.Ok w) (h0:c.check=0) (ho:opOk c ⟨2,a,b,d,n,x,y⟩=true):Calls prog 133 #[c.val,.agg #[zI z6 2,zI z6 a,zI z6 b,zI z6 d,zI z6 n,zc z4 x y]] w (Gives (zI z6 0) w):=by
 obtain ⟨ha,⟨refs,hS,hF,hP⟩,z0,z1,p1⟩:=ybs (o:=⟨2,a,b,d,n,x,y⟩) (Or.inr rfl) ho;exact yeP c a b d n x y w hc h0 ha refs hS _ _ hF.symm hP.symm z0 z1 p1
theorem ylC (c:Cnf) (a b d n:Int) (x y:Nat) (w:World) (hc:c.Ok w) (h0:c.check=0) (ho:opOk c ⟨4,a,b,d,n,x,y⟩=true):Calls prog 133 #[c.val,.agg #[zI z6 4,zI z6 a,zI z6 b,zI z6 d,zI z6 n,zc z4 x y]] w (Gives (zI z6 0) w):=by
 have h1:(inL c a&&inL c b)=true:=ho;rw [Bool.and_eq_true] at h1;exact yeQ c a b d n x y w hc h0 (yax h1.1) (yax h1.2)
theorem yk7 (c:Cnf) (a b d n:Int) (x y:Nat) (w:World) (hc:c.Ok w) (h0:c.check=0) (ho:opOk c ⟨13,a,b,d,n,x,y⟩=true):Calls prog 133 #[c.val,.agg #[zI z6 13,zI z6 a,zI z6 b,zI z6 d,zI z6 n,zc z4 x y]] w (Gives (zI z6 0) w):=
 ydJ c a b d n x y w hc h0 (yax ho)
theorem ymc (c:Cnf) (a b d n:Int) (x y:Nat) (w:World) (hc:c.Ok w) (h0:c.check=0) (ho:opOk c ⟨1,a,b,d,n,x,y⟩=true):
 Calls prog 204 #[c.val,.agg #[zI z6 1,zI z6 a,zI z6 b,zI z6 d,zI z6 n,zc z4 x y]] w (Gives (.tuple #[zI z6 (needF c ⟨1,a,b,d,n,x,y⟩),zI z6 (needS c ⟨1,a,b,d,n,x,y⟩)]) w):=by
 have HCK:=zH (fun w' (he:Ext w w')=>yhg c a b d n x y w' (hc.ext he) h0 ho);have HS:=zH (fun w' (he:Ext w w')=>yaA c b w' (hc.ext he));obtain ⟨ha,⟨refs,hS,hF,hP⟩,z0,z1,p1⟩:=ybs (o:=⟨1,a,b,d,n,x,y⟩) (by simp) ho;simp only at hS hF hP;have HQ:=zH (show c.shapeAt b=some (false,refs) from hS);have HF:=zH (show needF c ⟨1,a,b,d,n,x,y⟩=Shp.size ⟨false,none,0,refs⟩ 0 from hF);have HP:=zH (show needS c ⟨1,a,b,d,n,x,y⟩=Shp.spine ⟨false,none,0,refs⟩ n from hP);unfold Cnf.val at HCK HS ⊢;clear hc h0 ho ha hS hF hP z0 z1 p1;go_enter func204,ntmps204;go_wp2_with fail;refine (HCK.o _ zE).mono ?_;rintro e w1 ⟨rfl,X1,rfl⟩;go_wp2_with fail;refine (HS.o _ zE).mono ?_;rintro e w4 ⟨s',rfl,heq,hfr,hok,hE⟩;rw [HQ.o,Option.getD_some] at heq;obtain ⟨arr',A',cap',refs'⟩:=s';simp only [Prod.mk.injEq] at heq;obtain ⟨rfl,rfl⟩:=heq;have k0:w4.cell? ⟨w.heap.size+1,0,none⟩=some (zI z6 1):=(yac hE (by simp only [World.size_patch,World.size_alloc];omega)).trans (by go_simp);have k1:w4.cell? ⟨w.heap.size+1,1,none⟩=some (zI z6 a):=(yac hE (by simp only [World.size_patch,World.size_alloc];omega)).trans (by go_simp)
 have k2:w4.cell? ⟨w.heap.size+1,2,none⟩=some (zI z6 b):=(yac hE (by simp only [World.size_patch,World.size_alloc];omega)).trans (by go_simp);have k3:w4.cell? ⟨w.heap.size+1,3,none⟩=some (zI z6 d):=(yac hE (by simp only [World.size_patch,World.size_alloc];omega)).trans (by go_simp);have k4:w4.cell? ⟨w.heap.size+1,4,none⟩=some (zI z6 n):=(yac hE (by simp only [World.size_patch,World.size_alloc];omega)).trans (by go_simp);have k5:w4.cell? ⟨w.heap.size+1,5,none⟩=some (zc z4 x y):=(yac hE (by simp only [World.size_patch,World.size_alloc];omega)).trans (by go_simp);have hl1:w.heap.size+1<w4.heap.size:=Nat.lt_of_lt_of_le (by simp only [World.size_patch,World.size_alloc];omega) hE.size;have HE4:=zH (show Ext w w4 from (show Ext w _ by exact zE).trans hE);clear hE hfr;have HF1:=zH (fun w' (he:Ext w4 w')=>yfX _ a b d n x y w' (hok.ext he));have HF2:=zH (fun w' (he:Ext w4 w')=>ybe _ n w' (hok.ext he));clear hok;rw [yeU, ←HF.o] at HF1;rw [ydT, ←HP.o] at HF2;rw [HQ.o];unfold Shp.val at HF1 HF2 ⊢;go_upto_region 4 with fail
 obtain ⟨w6,hW6⟩: ∃w6,(w4.alloc (.cells #[zb false,.slice A' refs'.length cap'] 94))=w6:=⟨_,rfl⟩;rw [hW6];have HE6:=zH (show Ext w4 w6 by rw [←hW6];clear hW6;exact zF);have nk0:w6.cell? ⟨w.heap.size+1,0,none⟩=some (zI z6 1):=(yac HE6.o hl1).trans k0;have nk1:w6.cell? ⟨w.heap.size+1,1,none⟩=some (zI z6 a):=(yac HE6.o hl1).trans k1;have nk2:w6.cell? ⟨w.heap.size+1,2,none⟩=some (zI z6 b):=(yac HE6.o hl1).trans k2;have nk3:w6.cell? ⟨w.heap.size+1,3,none⟩=some (zI z6 d):=(yac HE6.o hl1).trans k3;have nk4:w6.cell? ⟨w.heap.size+1,4,none⟩=some (zI z6 n):=(yac HE6.o hl1).trans k4;have nk5:w6.cell? ⟨w.heap.size+1,5,none⟩=some (zc z4 x y):=(yac HE6.o hl1).trans k5;have ns0:w6.cell? ⟨w4.heap.size,0,none⟩=some (zb false):=by rw [←hW6];clear hW6;go_simp
 have ns1:w6.cell? ⟨w4.heap.size,1,none⟩=some (.slice A' refs'.length cap'):=by rw [←hW6];clear hW6;go_simp
 have hn2:w4.heap.size<w6.heap.size:=by rw [←hW6];clear hW6;go_simp
 have hn1:w.heap.size+1<w6.heap.size:=zo;have hn0:w.heap.size<w6.heap.size:=zo;have HEE:=zH (show Ext w w6 from HE4.o.trans HE6.o);clear hW6;refine yab [zT,zT,zT,zT,zT,zT,zT,zT,zT] 0 9 ?_;intro X00;simp only [pickOps];repeat (go_big_quiet_step (first|(go_at_call 196;exact Calls.added (HF1.o _ (HE6.o.patch _)))|(go_at_call 197;exact Calls.added (HF2.o _ (HE6.o.patch _)))))
 refine wpQuiet_nil (fun X0=>?_);clear X00;refine yaa zQ (fun X0'=>?_) _;go_wp2_with fail;go_ret2;exact Gives.mk rfl (HEE.o.trans zF)
theorem ymd (c:Cnf) (a b d n:Int) (x y:Nat) (w:World) (hc:c.Ok w) (h0:c.check=0) (ho:opOk c ⟨2,a,b,d,n,x,y⟩=true):
 Calls prog 204 #[c.val,.agg #[zI z6 2,zI z6 a,zI z6 b,zI z6 d,zI z6 n,zc z4 x y]] w (Gives (.tuple #[zI z6 (needF c ⟨2,a,b,d,n,x,y⟩),zI z6 (needS c ⟨2,a,b,d,n,x,y⟩)]) w):=by
 have HCK:=zH (fun w' (he:Ext w w')=>yhh c a b d n x y w' (hc.ext he) h0 ho);have HS:=zH (fun w' (he:Ext w w')=>yaA c b w' (hc.ext he));obtain ⟨ha,⟨refs,hS,hF,hP⟩,z0,z1,p1⟩:=ybs (o:=⟨2,a,b,d,n,x,y⟩) (by simp) ho;simp only at hS hF hP;have HQ:=zH (show c.shapeAt b=some (true,refs) from hS);have HF:=zH (show needF c ⟨2,a,b,d,n,x,y⟩=Shp.size ⟨true,none,0,refs⟩ n from hF);have HP:=zH (show needS c ⟨2,a,b,d,n,x,y⟩=Shp.spine ⟨true,none,0,refs⟩ n from hP);unfold Cnf.val at HCK HS ⊢;clear hc h0 ho ha hS hF hP z0 z1 p1;go_enter func204,ntmps204;go_wp2_with fail;refine (HCK.o _ zE).mono ?_;rintro e w1 ⟨rfl,X1,rfl⟩;go_wp2_with fail;refine (HS.o _ zE).mono ?_;rintro e w4 ⟨s',rfl,heq,hfr,hok,hE⟩;rw [HQ.o,Option.getD_some] at heq;obtain ⟨arr',A',cap',refs'⟩:=s';simp only [Prod.mk.injEq] at heq;obtain ⟨rfl,rfl⟩:=heq;have k0:w4.cell? ⟨w.heap.size+1,0,none⟩=some (zI z6 2):=(yac hE (by simp only [World.size_patch,World.size_alloc];omega)).trans (by go_simp);have k1:w4.cell? ⟨w.heap.size+1,1,none⟩=some (zI z6 a):=(yac hE (by simp only [World.size_patch,World.size_alloc];omega)).trans (by go_simp)
 have k2:w4.cell? ⟨w.heap.size+1,2,none⟩=some (zI z6 b):=(yac hE (by simp only [World.size_patch,World.size_alloc];omega)).trans (by go_simp);have k3:w4.cell? ⟨w.heap.size+1,3,none⟩=some (zI z6 d):=(yac hE (by simp only [World.size_patch,World.size_alloc];omega)).trans (by go_simp);have k4:w4.cell? ⟨w.heap.size+1,4,none⟩=some (zI z6 n):=(yac hE (by simp only [World.size_patch,World.size_alloc];omega)).trans (by go_simp);have k5:w4.cell? ⟨w.heap.size+1,5,none⟩=some (zc z4 x y):=(yac hE (by simp only [World.size_patch,World.size_alloc];omega)).trans (by go_simp);have hl1:w.heap.size+1<w4.heap.size:=Nat.lt_of_lt_of_le (by simp only [World.size_patch,World.size_alloc];omega) hE.size;have HE4:=zH (show Ext w w4 from (show Ext w _ by exact zE).trans hE);clear hE hfr;have HF1:=zH (fun w' (he:Ext w4 w')=>yfY _ a b d n x y w' (hok.ext he));have HF2:=zH (fun w' (he:Ext w4 w')=>ybe _ n w' (hok.ext he));clear hok;rw [yeU, ←HF.o] at HF1;rw [ydT, ←HP.o] at HF2;rw [HQ.o];unfold Shp.val at HF1 HF2 ⊢;go_upto_region 4 with fail
 obtain ⟨w6,hW6⟩: ∃w6,(w4.alloc (.cells #[zb true,.slice A' refs'.length cap'] 94))=w6:=⟨_,rfl⟩;rw [hW6];have HE6:=zH (show Ext w4 w6 by rw [←hW6];clear hW6;exact zF);have nk0:w6.cell? ⟨w.heap.size+1,0,none⟩=some (zI z6 2):=(yac HE6.o hl1).trans k0;have nk1:w6.cell? ⟨w.heap.size+1,1,none⟩=some (zI z6 a):=(yac HE6.o hl1).trans k1;have nk2:w6.cell? ⟨w.heap.size+1,2,none⟩=some (zI z6 b):=(yac HE6.o hl1).trans k2;have nk3:w6.cell? ⟨w.heap.size+1,3,none⟩=some (zI z6 d):=(yac HE6.o hl1).trans k3;have nk4:w6.cell? ⟨w.heap.size+1,4,none⟩=some (zI z6 n):=(yac HE6.o hl1).trans k4;have nk5:w6.cell? ⟨w.heap.size+1,5,none⟩=some (zc z4 x y):=(yac HE6.o hl1).trans k5;have ns0:w6.cell? ⟨w4.heap.size,0,none⟩=some (zb true):=by rw [←hW6];clear hW6;go_simp
 have ns1:w6.cell? ⟨w4.heap.size,1,none⟩=some (.slice A' refs'.length cap'):=by rw [←hW6];clear hW6;go_simp
 have hn2:w4.heap.size<w6.heap.size:=by rw [←hW6];clear hW6;go_simp
 have hn1:w.heap.size+1<w6.heap.size:=zo;have hn0:w.heap.size<w6.heap.size:=zo;have HEE:=zH (show Ext w w6 from HE4.o.trans HE6.o);clear hW6;refine yab [zT,zT,zT,zT,zT,zT,zT,zT,zT] 0 9 ?_;intro X00;simp only [pickOps];repeat (go_big_quiet_step (first|(go_at_call 196;exact Calls.added (HF1.o _ (HE6.o.patch _)))|(go_at_call 197;exact Calls.added (HF2.o _ (HE6.o.patch _)))))
 refine wpQuiet_nil (fun X0=>?_);clear X00;refine yaa zQ (fun X0'=>?_) _;go_wp2_with fail;go_ret2;exact Gives.mk rfl (HEE.o.trans zF)
end Go.Proofs.YtdhjjpnajjingaaGreat
namespace Go
section
variable {P:Program} {ops:Array Oper} {Q:Exit→Act→World→Prop} {md:Region.Mode} {w0:World}
def frB (L:Nat) (A:List Nat) (i:Nat):Bool:=decide (i<L) || A.contains i
def waitsB (md:Region.Mode) (ops:Array Oper) (L:Nat) (A:List Nat):Bool:=Region.sinkB md ops L&&decide (L<ops.size)&&(List.range ops.size).all fun j=>decide (j≤L) || A.contains j || Region.waitsFor md ops j L
theorem ygQ {L:Nat} {listed:Array Bool} (hc:Closed md ops listed) (hs:Region.sinkB md ops L=true) (hL:L∈Region.ready md ops listed): ∀(d i:Nat),L-i=d→i<L→listed.getD i false=true:=by
 intro d;induction d using Nat.strongRecOn with
 |_ d ih=>
  intro i hd hi;have h1:=List.all_eq_true.1 hs i (List.mem_range.2 hi);obtain ⟨j,hj,hj2⟩:=List.any_eq_true.1 h1;simp only [Bool.and_eq_true,decide_eq_true_eq] at hj2;obtain ⟨oj,hoj,e,he,hb,hon⟩:=Region.waitsFor_spec hj2.2;have hjle:j≤L:=by have:=List.mem_range.1 hj;omega
  rw [←hon];by_cases hjL:j=L
  · subst hjL;obtain ⟨_,o,ho,hall⟩:=mem_ready.1 hL;rw [hoj] at ho;injection ho with ho;subst ho;exact hall e he hb
  · exact hc.2 j oj hoj (ih (L-j) zo j rfl zo) e he hb
theorem ylp {L:Nat} {A:List Nat} (hW:waitsB md ops L A=true) {listed:Array Bool} (hc:Closed md ops listed) {i:Nat} (hi:i∈Region.ready md ops listed) (hiL:i<L): ∀j∈Region.ready md ops listed,frB L A j=true:=by
 intro j hj;unfold waitsB at hW;simp only [Bool.and_eq_true,decide_eq_true_eq] at hW;obtain ⟨⟨hs,hz⟩,hall⟩:=hW;unfold frB;rw [Bool.or_eq_true,decide_eq_true_eq];obtain ⟨hun,oi,hoi,_⟩:=mem_ready.1 hi;obtain ⟨hunj,oj,hoj,hallj⟩:=mem_ready.1 hj;have hjl:=(Array.getElem?_eq_some_iff.1 hoj).1;by_cases hjL:j<L
 · exact Or.inl hjL
 by_cases hA:A.contains j=true
 · exact Or.inr hA
 exfalso
 have key:listed.getD i false=true:=by
  by_cases he:j=L
  · subst he;exact ygQ hc hs hj _ i rfl hiL
  · have h1:=List.all_eq_true.1 hall j (List.mem_range.2 hjl);simp only [Bool.or_eq_true,decide_eq_true_eq] at h1;rcases h1 with (h1|h1)|h1
    · omega
    · exact absurd h1 hA
    · obtain ⟨oj',hoj',e,he,hb,hon⟩:=Region.waitsFor_spec h1;rw [hoj] at hoj';injection hoj' with hoj';subst hoj';have h2:=hallj e he hb;rw [hon] at h2;exact ycI hc hs h2 _ i rfl hiL
 rw [getD_both hun] at key;cases key
def wpAnyP (P:Program) (md:Region.Mode) (ops:Array Oper) (Q:Exit→Act→World→Prop) (w0:World) (L:Nat) (A:List Nat):Nat→Array Bool→Act→World→Prop
 |0,listed,a,w=>Region.ready md ops listed=[]∧ ∀w1,Ext w w1→Q .normal a w1
 |fuel+1,listed,a,w=> ∀w1,Ext w w1→
  (Region.ready md ops listed=[]→Q .normal a w1)∧
  ∀i∈Region.ready md ops listed,(frB L A i=true→wpOp P ops Q i (fun a' w'=>Ext w0 w'∧wpAnyP P md ops Q w0 L A fuel (listed.setIfInBounds i true) a' w') a w1)∧
   (frB L A i=false→wpOp P ops Q i (fun a' w'=>wpAny P md ops Q fuel (listed.setIfInBounds i true) a' w') a w1)
theorem ydY {L:Nat} {A:List Nat}: ∀(fuel:Nat) (listed:Array Bool) (a:Act) (w:World),wpAnyP P md ops Q w0 L A fuel listed a w→wpAny P md ops Q fuel listed a w
 |0,_,_,_,h=>⟨h.1,h.2 _ (Ext.refl _)⟩
 |fuel+1,_,_,w,h=>⟨(h w (Ext.refl _)).1,fun i hi=>by
  have h1:=(h w (Ext.refl _)).2 i hi;cases hl:frB L A i
  · exact h1.2 hl
  · exact wpOp_mono (fun a' w' h'=>ydY fuel _ a' w' h'.2) (h1.1 hl)⟩
theorem wpAnyP.ext {L:Nat} {A:List Nat} {fuel:Nat} {listed:Array Bool} {a:Act} {w w':World} (h:wpAnyP P md ops Q w0 L A fuel listed a w) (he:Ext w w'):wpAnyP P md ops Q w0 L A fuel listed a w':=by
 cases fuel with
 |zero=>exact ⟨h.1,fun w1 h1=>h.2 w1 (he.trans h1)⟩
 |succ n=>exact fun w1 h1=>h w1 (he.trans h1)
theorem ygm {L:Nat} {A:List Nat} {i:Nat} {oi:Oper} {v:Value} (hW:waitsB md ops L A=true) (hiL:i<L) (hi:ops[i]?=some oi) (hsel: ∀(j:Nat) (o:Oper) cs b,ops[j]?=some o→o.op≠.select cs b)
 (hQ: ∀c a w,Q (.panic c) (a.put oi.dst v) w→Q (.panic c) a w):
 ∀(fuel:Nat) (listed:Array Bool) (a:Act) (w:World),Closed md ops listed→
  (∀j oj,ops[j]?=some oj→j≠i→listed.getD j true=false→(∀e∈oj.after,Region.binds md e=true→e.on≠i)→oi.apart ops oj=true)→
  i∈Region.ready md ops listed→YieldsE P ops w0 oi v a→Ext w0 w→
  wpAnyP P md ops Q w0 L A fuel (listed.setIfInBounds i true) (a.put oi.dst v) w→wpAnyP P md ops Q w0 L A (fuel+1) listed a w:=by
 intro fuel;have hfi:frB L A i=true:=by unfold frB;rw [decide_eq_true hiL];rfl
 induction fuel with
 |zero=>
  intro listed a w hcl _ hr hy hS H w1 hw1;refine ⟨fun h=>(by rw [h] at hr;cases hr),fun j hj=>?_⟩;by_cases hji:j=i
  · subst hji;exact ⟨fun _=>hy.wpOp hi (hS.trans hw1) (fun w' hw'=>⟨(hS.trans hw1).trans hw',H.ext (hw1.trans hw')⟩),fun h=>by rw [hfi] at h;cases h⟩
  · have:=ready_mono hj hji;rw [H.1] at this;cases this
 |succ fuel ih=>
  intro listed a w hcl hfree hr hy hS H w1 hw1;refine ⟨fun h=>(by rw [h] at hr;cases hr),fun j hj=>?_⟩;have hjL:frB L A j=true:=ylp hW hcl hr hiL j hj;refine ⟨fun _=>?_,fun h=>by rw [hjL] at h;cases h⟩;by_cases hji:j=i
  · subst hji;exact hy.wpOp hi (hS.trans hw1) (fun w' hw'=>⟨(hS.trans hw1).trans hw',H.ext (hw1.trans hw')⟩)
  · have h1:=((H w1 hw1).2 j (ready_mono hj hji)).1 hjL;obtain ⟨hjun,oj,hoj,hall⟩:=mem_ready.1 hj
    have hnot: ∀e∈oj.after,Region.binds md e=true→e.on≠i:=fun e he hb heq=>by
     have h1:=hall e he hb;have h0:=(mem_ready.1 hr).1;rw [heq] at h1;rcases Nat.lt_or_ge i listed.size with h'|h'
     · simp [h'] at h0 h1;rw [h0] at h1;cases h1
     · simp [Array.getElem?_eq_none h'] at h1
    have h2:=ycU hoj (hfree j oj hoj hji hjun hnot) (fun cs b=>hsel i oi cs b hi) (fun cs b=>hsel j oj cs b hoj) hQ hy h1
    have hfree': ∀k ok,ops[k]?=some ok→k≠i→(listed.setIfInBounds j true).getD k true=false→
     (∀e∈ok.after,Region.binds md e=true→e.on≠i)→oi.apart ops ok=true:=fun k ok hk hki hun hno=>by
     refine hfree k ok hk hki ?_ hno;by_cases hjk:j=k
     · subst hjk;exact hjun
     · rw [getD_set_ne true hjk] at hun;exact hun
    refine wpOp_mono (fun a' w' h3=>⟨h3.2.1,ih (listed.setIfInBounds j true) a' w' (hcl.set hj) hfree' (ready_mono hr (Ne.symm hji)) h3.1 h3.2.1 ?_⟩) h2;rw [Array.setIfInBounds_comm _ _ hji];exact h3.2.2
theorem ycp {L:Nat} {A:List Nat} (hW:waitsB md ops L A=true) (hs:Region.noSelect ops=true) (hQ: ∀(c:List PanicEntry) (a:Act) (d:Option Tmp) (v:Value) (w:World),Q (.panic c) (a.put d v) w→Q (.panic c) a w) (n:Nat): ∀(m:List Bool) (l:List Oper) (k:Nat) (listed:Array Bool) (a:Act),Closed md ops listed→(∀j,l[j]?=ops[k+j]?)→m.length≤l.length→
 lexMask md ops m k listed=true→maskBut L m k=true→wpCalm P ops w0 (fun a'=> ∀X,wpAnyP P md ops Q w0 L A n (markOps m k listed) a' (w0.patch X)) (pickOps m l) a→
 ∀X,wpAnyP P md ops Q w0 L A (n+countB m) listed a (w0.patch X)
 |[],_,_,_,_,_,_,_,_,_,h,X=>by
  simp only [pickOps,wpCalm,markOps] at h;exact h X
 |_::_,[],_,_,_,_,_,hlen,_,_,_,_=>by simp at hlen
 |false::m,o::l,k,listed,a,hcl,hl,hlen,hB,hM,h,X=>
  ycp hW hs hQ n m l (k+1) listed a hcl (fun j=>by have:=hl (j+1);simpa [Nat.add_assoc,Nat.add_comm 1 j] using this) (by simpa using hlen) (by simpa [lexMask] using hB) (by simpa [maskBut] using hM) (by simpa [pickOps,markOps] using h) X
 |true::m,o::l,k,listed,a,hcl,hl,hlen,hB,hM,h,X=>by
  have h0:ops[k]?=some o:=by simpa using (hl 0).symm
  simp only [lexMask,Bool.and_eq_true] at hB;obtain ⟨⟨hr,hf⟩,hB'⟩:=hB;simp only [maskBut,Bool.and_eq_true,decide_eq_true_eq] at hM;simp only [pickOps,markOps] at h;obtain ⟨v,hy,hK⟩:=ya2 h;have hr':k∈Region.ready md ops listed:=by simpa using hr
  refine ygm hW hM.1 h0 (Region.noSelect_spec hs) (fun c a w h=>hQ c a _ _ w h) (n+countB m) listed a _ hcl (Region.free_spec h0 hf) hr' hy ⟨X,rfl⟩ ?_;exact ycp hW hs hQ n m l (k+1) _ _ (hcl.set hr') (fun j=>by have:=hl (j+1);simpa [Nat.add_assoc,Nat.add_comm 1 j] using this) (by simpa using hlen) hB' hM.2 hK X
theorem ybl {id:Nat} {a:Act} {w:World} {l:List Oper} (m:List Bool) (n L i:Nat) (o u:Oper) (hm:P.follows .mixedOrders=true) (hs:Region.noSelect l.toArray=true) (hW:waitsB .any l.toArray L [i]=true) (hQ: ∀(c:List PanicEntry) (a:Act) (d:Option Tmp) (v:Value) (w:World),Q (.panic c) (a.put d v) w→Q (.panic c) a w)
 (hlen:m.length≤l.length) (hn:n+2+countB m=l.length) (hM:maskBut L m 0=true) (hB:lexMask .any l.toArray m 0 (Array.replicate l.length false)=true)
 (hr:Region.ready .any l.toArray (markOps m 0 (Array.replicate l.length false))=[L,i]) (hr2:Region.ready .any l.toArray ((markOps m 0 (Array.replicate l.length false)).setIfInBounds i true)=[L]) (ho:l[L]?=some o) (hg:o.guard=none) (hu:l[i]?=some u) (hgu:u.guard=none) (hiL:L<i)
 (h: ∀X00:Extra,wpQuiet P l.toArray (fun w'=> ∃X:Extra,w'=w.patch ⟨X00.blocks++X.blocks,X.drawn⟩) (fun a'=>
  (∀X, ∀K:Act→World→Prop, ∀Q':Exit→Act→World→Prop,(∀a2 w2,wpAny P .any l.toArray Q (n+1) ((markOps m 0 (Array.replicate l.length false)).setIfInBounds L true) a2 w2→K a2 w2)→o.wp P a' (w.patch X) K Q')∧
  (∀X, ∀K:Act→World→Prop, ∀Q':Exit→Act→World→Prop,(∀a2 w2,Ext w w2→(∀X2, ∀K2:Act→World→Prop, ∀Q2:Exit→Act→World→Prop,(∀a3 w3,wpAny P .any l.toArray Q n (((markOps m 0 (Array.replicate l.length false)).setIfInBounds i true).setIfInBounds L true) a3 w3→K2 a3 w3)→o.wp P a2 (w2.patch X2) K2 Q2)→K a2 w2)→u.wp P a' (w.patch X) K Q')) (pickOps m l) a):(Code.region id l.toArray true).wp P Q a w:=by
 have hLi:frB L [i] L=false:=by
  unfold frB;have h1: ¬L=i:=zo;simp [h1]
 have hii:frB L [i] i=true:=by unfold frB;simp
 refine wp_region_any hm (ydY (w0:=w) (L:=L) (A:=[i]) _ _ _ _ ?_);obtain ⟨X,hX⟩:=Ext.drew (Ext.refl w);have ho':l.toArray[L]?=some o:=by simpa using ho
 have hu':l.toArray[i]?=some u:=by simpa using hu
 have h2:wpCalm P l.toArray w (fun a'=> ∀X,wpAnyP P .any l.toArray Q w L [i] (n+2) (markOps m 0 (Array.replicate l.length false)) a' (w.patch X)) (pickOps m l) a:=by
  refine yaS (fun a' h3 X=>?_) _ _ (yav _ _ h);rintro w1 ⟨Y,rfl⟩;refine ⟨fun h0=>(by rw [hr] at h0;cases h0),fun j hj=>?_⟩;rw [hr] at hj;obtain ⟨Z,hZ⟩:=(show Ext w ((w.patch X).patch Y) from Ext.trans ⟨X,rfl⟩ ⟨Y,rfl⟩);rw [hZ];simp only [List.mem_cons,List.not_mem_nil,or_false] at hj;rcases hj with rfl|rfl
  · refine ⟨fun h=>absurd h (by rw [hLi];decide),fun _=>?_⟩;unfold wpOp;simp only [ho',Region.wanted,hg,if_true];exact .inl (h3.1 Z _ Q fun a2 w2 h4=>h4)
  · refine ⟨fun _=>?_,fun h=>absurd h (by rw [hii];decide)⟩;unfold wpOp;simp only [hu',Region.wanted,hgu,if_true];refine .inl (h3.2 Z _ Q fun a2 w2 he hK=>⟨he,?_⟩);rintro w3 ⟨Y2,rfl⟩;refine ⟨fun h0=>(by rw [hr2] at h0;cases h0),fun k hk=>?_⟩;rw [hr2] at hk;simp only [List.mem_singleton] at hk;subst hk;refine ⟨fun h=>absurd h (by rw [hLi];decide),fun _=>?_⟩;unfold wpOp;simp only [ho',Region.wanted,hg,if_true];exact .inl (hK Y2 _ Q fun a3 w3 h4=>h4)
 have h5:=ycp (md:=.any) hW hs hQ (n+2) m l 0 (Array.replicate l.length false) a (Closed.start _ (by simp)) (by simp) hlen hB hM h2 X;rw [←hX] at h5;simpa [hn] using h5
end
end Go
namespace Go.Proofs.YtdhjjpnajjingaaGreat
open Go Go.RowKit
theorem yfW {w1 w':World} (own1:Nat→Nat) (he:Ext w1 w'): ∃own',Mod (fun _=>False) ⟨own1,w1⟩ ⟨own',w'⟩∧ ∀k,w1.heap.size≤k→own' k=0:=
 ⟨((⟨own1,w1⟩:GW).to 0 w').own,Mod.ext (g:=⟨own1,w1⟩) he 0,fun k hk=>GW.to_new (g:=⟨own1,w1⟩) (w':=w') hk⟩
theorem ydm {w1:World} {X X2:Extra} {T:TypeId} {vs:List Value} {w4:World} (hq: ∀i,w1.heap.size≤i→i<(((w1.patch X).alloc (.cells vs.toArray T)).patch X2).heap.size→w4.heap[i]?=(((w1.patch X).alloc (.cells vs.toArray T)).patch X2).heap[i]?):w4.heap[(w1.patch X).heap.size]?=some (.cells vs.toArray T)∧w1.heap.size≤(w1.patch X).heap.size∧(w1.patch X).heap.size<(((w1.patch X).alloc (.cells vs.toArray T)).patch X2).heap.size:=by
 have hV:w1.heap.size≤(w1.patch X).heap.size:=by rw [World.size_patch];omega
 have hl0:(w1.patch X).heap.size<((w1.patch X).alloc (.cells vs.toArray T)).heap.size:=by rw [World.size_alloc];omega
 have hl:(w1.patch X).heap.size<(((w1.patch X).alloc (.cells vs.toArray T)).patch X2).heap.size:=Nat.lt_of_lt_of_le hl0 (show Ext ((w1.patch X).alloc (.cells vs.toArray T)) (((w1.patch X).alloc (.cells vs.toArray T)).patch X2) from ⟨X2,rfl⟩).size;exact ⟨(hq _ hV hl).trans (by rw [World.heap_patch _ _ _ hl0];exact World.row_alloc_new _),hV,hl⟩
theorem ydl (own4:Nat→Nat) (w4:World) (T:TypeId) (vs:List Value): ∃own5,Mod (fun _=>False) ⟨own4,w4⟩ ⟨own5,w4.alloc (.cells vs.toArray T)⟩∧Blk ⟨own5,w4.alloc (.cells vs.toArray T)⟩ 0 w4.heap.size T vs:=
 ⟨_,Mod.ext (g:=⟨own4,w4⟩) (show Ext w4 _ from zE) 0,⟨World.row_alloc_new _,GW.to_new (g:=⟨own4,w4⟩) (Nat.le_refl _)⟩⟩
section
variable {own4:Nat→Nat} {w4:World} {qg:Nat} {T:TypeId} {z0 z1 z2 v0 v1 v2:Value}
theorem yj1 (hb:Blk ⟨own4,w4⟩ 0 qg T [z0,z1,z2]):Mod (fun x=>x=0) ⟨own4,w4⟩ ⟨own4,((w4.setCell ⟨qg,0,none⟩ v0).setCell ⟨qg,1,none⟩ v1).setCell ⟨qg,2,none⟩ v2⟩:=Mod.st (Mod.st (Mod.st (Mod.refl _ _) hb.own) hb.own) hb.own
theorem ydk (hb:Blk ⟨own4,w4⟩ 0 qg T [z0,z1,z2]) (v0 v1 v2:Value):Blk ⟨own4,((w4.setCell ⟨qg,0,none⟩ v0).setCell ⟨qg,1,none⟩ v1).setCell ⟨qg,2,none⟩ v2⟩ 0 qg T [v0,v1,v2]:=((hb.set 0 v0).set 1 v1).set 2 v2
theorem ycK {v:Value} {n:Nat} {xs:List Value} (hr:Row ⟨own4,w4⟩ 0 3 1 v n xs) (hb:Blk ⟨own4,w4⟩ 0 qg 143 [z0,z1,z2]):Row ⟨own4,((w4.setCell ⟨qg,0,none⟩ v0).setCell ⟨qg,1,none⟩ v1).setCell ⟨qg,2,none⟩ v2⟩ 0 3 1 v n xs:=
 ((hr.setOther 0 v0 (fun x hx=>hr.ne_type hb zd hx)).setOther 1 v1 (fun x hx=>hr.ne_type hb zd hx)).setOther 2 v2 (fun x hx=>hr.ne_type hb zd hx)
theorem yel {B bsp bt:Nat} {S:SpaceS} (hs:SpaceAt ⟨own4,w4⟩ B bsp bt S) (hb:Blk ⟨own4,w4⟩ 0 qg T [z0,z1,z2]) (hB:100≤B):SpaceAt ⟨own4,((w4.setCell ⟨qg,0,none⟩ v0).setCell ⟨qg,1,none⟩ v1).setCell ⟨qg,2,none⟩ v2⟩ B bsp bt S:=hs.keep (yj1 hb) (fun x (hx:x=0)=>by omega)
end
section
variable {g:GW} {t B b k:Nat} {W:AcW} {p:AcP} {bm bs bt bp bsp bh:Nat} {cm:Cnf}
def AskPost (r:AskR) (own1:Nat→Nat) (w1 w':World) (B bsp bt:Nat) (e:Ending) (w4:World):Prop:=
 ∃gA gC,e=.returned (.agg #[zI z6 r.1.1,.slice gA r.1.2.1.length gC,zI z6 r.1.2.2])∧ ∃own4,Hid (Mod (inst B) ⟨own1,w1⟩ ⟨own4,w4⟩)∧Hid (Row ⟨own4,w4⟩ 0 3 1 (.slice gA r.1.2.1.length gC) r.1.2.1.length (r.1.2.1.map (zI z6)))∧Hid (SpaceAt ⟨own4,w4⟩ B bsp bt r.2)∧Hid (∀k,w1.heap.size≤k→k<w'.heap.size→own4 k=0)∧
  Hid (∀i,w1.heap.size≤i→i<w'.heap.size→w4.heap[i]?=w'.heap[i]?)
theorem yb6 {r:AskR} {own1 own':Nat→Nat} {w1 w' w4:World} {B bsp bt:Nat} {e:Ending} (m':Mod (fun _=>False) ⟨own1,w1⟩ ⟨own',w'⟩) (hz: ∀k,w1.heap.size≤k→own' k=0) (hB:100≤B) (h:Makes ⟨own',w'⟩ (inst B) (fun v g'=>GrantIs r.1 v g'∧SpaceAt g' B bsp bt r.2) e w4):AskPost r own1 w1 w' B bsp bt e w4:=by
 obtain ⟨v,own4,rfl,m4,⟨gA,gC,rfl,hr⟩,hs⟩:=h;have hn: ∀k,w1.heap.size≤k→k<w'.heap.size→ ¬inst B (own' k):=fun k h1 h2 hi=>by rw [hz k h1] at hi;have:=hi.1;omega
 exact ⟨gA,gC,rfl,own4,zH ((m'.mono zG).trans m4),zH hr,zH hs,zH (fun k h1 h2=>(m4.own k h2).trans (hz k h1)),zH (fun i h1 h2=>m4.block i h2 (hn i h1 h2))⟩
theorem yaM {c d:Cnf} (h:c.Same d) (o:Opr):opOk c o=opOk d o:=by
 unfold opOk inL inG needF needS;simp only [yaz h,h.frags,h.spine,h.locals,h.globals]
theorem ydH {c d:Cnf} (h:c.Same d) (o:Opr):needF c o=needF d o:=by unfold needF;rw [yaz h]
theorem ydI {c d:Cnf} (h:c.Same d) (o:Opr):needS c o=needS d o:=by unfold needS;rw [yaz h]
theorem yhk [TbId] (P:AcApart t B) (H:AcIn g t B b k W p bm bs bt bp bsp bh cm) (oa ob oc on:Int) (x y:Nat) (ho:opOk W.K.c ⟨1,oa,ob,oc,on,x,y⟩=true) (hck:W.K.c.check=0) (hsp:0≤W.K.sp.count∧W.K.sp.count≤1099511627776) (hln:W.K.sp.line.length<1000000)
 (r:AcR) (hok:W.asksO ⟨1,oa,ob,oc,on,x,y⟩=some r):
 Calls prog 137 #[zp (some ⟨b,0,none⟩),zp (some ⟨k,0,none⟩),.agg #[zI z6 1,zI z6 oa,zI z6 ob,zI z6 oc,zI z6 on,zc z4 x y]] g.w (Does (resV r.1) g (acT t B) (fun g'=>AcWAt g' t B b k r.2)):=by
 have HH:=zH H;have HP:=zH P;have HOK:=zH hok;go_enter func137,ntmps137;go_upto_region 1 with fail
 obtain ⟨own0,M0,Q0,R0⟩:=yaq g 26 40 [zI z6 1,zI z6 oa,zI z6 ob,zI z6 oc,zI z6 on,zc z4 x y] resZ;unfold resZ at M0 R0 Q0;generalize (g.w.alloc (.cells #[zI z6 1,zI z6 oa,zI z6 ob,zI z6 oc,zI z6 on,zc z4 x y] 26)).alloc (.cells #[zI z6 0,zI z6 0,zI z6 0,zb false,zc z4 0 0] 40)=w0 at *;have H0:=zH (HH.o.keep0 M0);have M0':=zH M0;have Q0':=zH Q0;have R0':=zH R0;have HN:=zH (fun X=>ymc cm oa ob oc on x y (w0.patch X) (H0.o.c.cnf.ok.ext ⟨X,rfl⟩) (by rw [HH.o.c.same.check];exact hck) (by rw [yaM HH.o.c.same];exact ho));have HF:=zH (show needF cm ⟨1,oa,ob,oc,on,x,y⟩=needF W.K.c ⟨1,oa,ob,oc,on,x,y⟩ from ydH HH.o.c.same _);have HS:=zH (show needS cm ⟨1,oa,ob,oc,on,x,y⟩=needS W.K.c ⟨1,oa,ob,oc,on,x,y⟩ from ydI HH.o.c.same _);rw [HF.o,HS.o] at HN;unfold Cnf.val at HN;obtain ⟨c0,c1,c2,c3,c4,c5,c6,c7,c8,c9,c10,c11,c12,cl⟩:=H0.o.c.blk.k13;obtain ⟨x0,x1,x2,x3,x4,x5,xl⟩:=Q0.k6;clear M0 Q0 R0 H ho hck hok;refine yab [zT,zT,zT,zT,zT,zT,zT,zT,zT,zT,zT] 0 11 ?_;intro X00;simp only [pickOps]
 repeat (go_big_quiet_step ((go_at_call 204;exact Calls.added (HN.o _))))
 refine wpQuiet_nil (fun X0=>?_);clear X00;refine yaa zQ (fun X0'=>?_) _;(try go_simp);obtain ⟨own1,m1⟩: ∃own1,Mod (fun _=>False) ⟨own0,w0⟩ ⟨own1,w0.patch ⟨X0.blocks++X0'.blocks,X0'.drawn⟩⟩:=⟨_,Mod.pt (g:=⟨own0,w0⟩) (Mod.refl _ _) _⟩;generalize w0.patch ⟨X0.blocks++X0'.blocks,X0'.drawn⟩=w1 at *;have H1:=zH (H0.o.keep0 m1);have M1:=zH (M0'.o.trans m1);have Q1:=zH (Q0'.o.keep m1 id);have R1:=zH (R0'.o.keep m1 id);clear m1 H0 M0' Q0' R0' HN c0 c1 c2 c3 c4 c5 c6 c7 c8 c9 c10 c11 c12 cl x0 x1 x2 x3 x4 x5 xl;have hrs:ask W.K.sp W.a.t (needF W.K.c ⟨1,oa,ob,oc,on,x,y⟩) (needS W.K.c ⟨1,oa,ob,oc,on,x,y⟩) (W.a.sense !=W.a.both)=W.asksR ⟨1,oa,ob,oc,on,x,y⟩:=rfl;have HBO:=zH (fun w' (he:Ext w1 w')=>show Calls prog 206 #[zp (some ⟨b,0,none⟩)] w' (Gives (zb W.a.both) w') from yau (yfp ((⟨own1,w1⟩:GW).to 0 w') t b W.a p (H1.o.a.keep (Mod.ext (T:=fun _=>False) he 0) id zG)))
 have HA:=zH (fun w' (he:Ext w1 w')=>show Calls prog 205 #[zp (some ⟨bsp,0,none⟩),zI z6 W.a.t,zI z6 (needF W.K.c ⟨1,oa,ob,oc,on,x,y⟩),zI z6 (needS W.K.c ⟨1,oa,ob,oc,on,x,y⟩),zb (W.a.sense !=W.a.both)] w' (AskPost (W.asksR ⟨1,oa,ob,oc,on,x,y⟩) own1 w1 w' B bsp bt) from by
  obtain ⟨own',m'⟩: ∃own',Mod (fun _=>False) ⟨own1,w1⟩ ⟨own',w'⟩∧ ∀k,w1.heap.size≤k→own' k=0:=yfW own1 he;have h1:=ycs W.a.t (needF W.K.c ⟨1,oa,ob,oc,on,x,y⟩) (needS W.K.c ⟨1,oa,ob,oc,on,x,y⟩) (W.a.sense !=W.a.both) ⟨own',w'⟩ B bsp bt W.K.sp (H1.o.keep0 m'.1).c.sp P.hb hsp hln;rw [hrs] at h1;exact h1.mono (fun e w4 h=>yb6 m'.1 m'.2 P.hb h))
 generalize needF W.K.c ⟨1,oa,ob,oc,on,x,y⟩=nf at *;generalize needS W.K.c ⟨1,oa,ob,oc,on,x,y⟩=ns at *;generalize W.a.both=bo at *;obtain ⟨a0,a1,a2,a3,a4,a5,a6,a7,a8,a9,a10,a11,a12,a13,a14,a15,a16,a17,a18,al⟩:=H1.o.a.blk.k19;obtain ⟨c0,c1,c2,c3,c4,c5,c6,c7,c8,c9,c10,c11,c12,cl⟩:=H1.o.c.blk.k13;go_wp2_with fail;go_cut [10] (fun s10 wx=> ∃qg gA gC,s10=zp (some ⟨qg,0,none⟩)∧Hid (∃own4,Mod (inst B) ⟨own1,w1⟩ ⟨own4,wx⟩∧Row ⟨own4,wx⟩ 0 3 1 (.slice gA (W.asksR ⟨1,oa,ob,oc,on,x,y⟩).1.2.1.length gC) (W.asksR ⟨1,oa,ob,oc,on,x,y⟩).1.2.1.length ((W.asksR ⟨1,oa,ob,oc,on,x,y⟩).1.2.1.map (zI z6))∧SpaceAt ⟨own4,wx⟩ B bsp bt (W.asksR ⟨1,oa,ob,oc,on,x,y⟩).2∧Blk ⟨own4,wx⟩ 0 qg 143 [zI z6 (W.asksR ⟨1,oa,ob,oc,on,x,y⟩).1.1,.slice gA (W.asksR ⟨1,oa,ob,oc,on,x,y⟩).1.2.1.length gC,zI z6 (W.asksR ⟨1,oa,ob,oc,on,x,y⟩).1.2.2]))
 case first=>
  refine ybl [zT,zT,zT,zT,zT,zT,zT,zT,zT,zT,zT,zT,zT,zT,zT,zT,zT] 1 17 18 ?pk_o ?pk_u ?pk1 ?pk2 ?pk3 ?pk4 ?pk5 ?pk6 ?pk7 ?pk8 ?pk9 ?pk10 ?pk11 ?pk12 ?pk13 ?pk14 ?pk15 ?pk16
  case pk11=>exact rfl
  case pk13=>exact rfl
  case pk1=>kernel_rfl
  case pk2=>kernel_rfl
  case pk3=>kernel_rfl
  case pk4=>(intro c a d v w h;cases d<;>exact h)
  case pk5=>decide
  case pk6=>decide
  case pk7=>decide
  case pk8=>kernel_rfl
  case pk9=>kernel_rfl
  case pk10=>kernel_rfl
  case pk12=>exact rfl
  case pk14=>exact rfl
  case pk15=>decide
  intro X00;simp only [pickOps];repeat (go_big_quiet_step ((go_at_call 206;exact Calls.added (HBO.o _ ⟨_,rfl⟩))))
  refine wpQuiet_nil ⟨?pkA,?pkB⟩
  case pkA=>
   intro X0 K Q' hK;(try go_simp);refine (HA.o _ ⟨_,rfl⟩).mono ?_;rintro e w4 ⟨gA,gC,rfl,own4,M4,R4,S4, -, -⟩;(try go_simp);refine hK _ _ ?_;clear hK K Q';refine yag 18 (fun K Q' hK=>?_);(try go_simp);refine hK _ _ ?_;clear hK K Q';refine yag 19 (fun K Q' hK=>?_);(try go_simp);refine hK _ _ ?_;clear hK K Q';refine wpAny_done zQ ?_ _;go_wp2_with fail;go_meet
   obtain ⟨own5,m5,b5⟩:=ydl own4 w4 143 [zI z6 (W.asksR ⟨1,oa,ob,oc,on,x,y⟩).1.1,.slice gA (W.asksR ⟨1,oa,ob,oc,on,x,y⟩).1.2.1.length gC,zI z6 (W.asksR ⟨1,oa,ob,oc,on,x,y⟩).1.2.2];exact ⟨_,gA,gC,rfl,zH ⟨own5,M4.o.trans (m5.mono zG),R4.o.keep m5 id,S4.o.keep m5 zG,b5⟩⟩
  case pkB=>
   intro X0 K Q' hK;go_simp;refine hK _ _ ?_ (fun X2 K2 Q2 hK2=>?_)
   · exact zE
   clear hK K Q';(try go_simp);refine (HA.o _ zE).mono ?_;rintro e w4 ⟨gA,gC,rfl,own4,M4,R4,S4,O4,H4⟩;obtain ⟨hrow,hq1,hq2⟩:=ydm H4.o;have B4:Blk ⟨own4,w4⟩ 0 (w1.patch X0).heap.size 143 [zI z6 0,.slice none 0 0,zI z6 0]:=⟨hrow,O4.o _ hq1 hq2⟩;generalize (w1.patch X0).heap.size=qg at *;have HB4:=zH B4;clear hrow hq2 H4 O4;obtain ⟨z0,z1,z2,zl⟩:=B4.k3;have zf0:=B4.liv 0;have zf1:=B4.liv 1;have zf2:=B4.liv 2;clear B4;(try go_simp);refine hK2 _ _ ?_;clear hK2 K2 Q2;refine yag 19 (fun K Q' hK=>?_);(try go_simp);refine hK _ _ ?_;clear hK K Q';refine wpAny_done zQ ?_ _;go_wp2_with fail;go_meet
   exact ⟨_,gA,gC,rfl,zH ⟨own4,Mod.stn (Mod.stn (Mod.stn M4.o hq1) hq1) hq1,ycK R4.o HB4.o,yel S4.o HB4.o HP.o.hb,ydk HB4.o _ _ _⟩⟩
 case rest=>
  obtain ⟨qg,gA,gC,rfl,HG4⟩:=hcut;obtain ⟨own4,m4,r4,s4,b4⟩:=HG4.o;have hPb:=HP.o.hb;have hPt:=HP.o.ht;obtain ⟨w4,rfl⟩: ∃w4:World,w4=wc:=⟨_,rfl⟩;have H4:=zH (H1.o.spc HP.o m4 s4);have M4:=zH ((M1.o.mono (S:=acT t B) zG).trans (m4.mono (fun x hx=>ybF hx)));have Q4:=zH (Q1.o.keep m4 (fun h=>by have:=h.1;omega));have R4:=zH (R1.o.keep m4 (fun h=>by have:=h.1;omega));have G4:=zH r4;have B4:=zH b4;clear m4 r4 s4 b4 HG4 H1 M1 Q1 R1 HBO HA a0 a1 a2 a3 a4 a5 a6 a7 a8 a9 a10 a11 a12 a13 a14 a15 a16 a17 a18 al c0 c1 c2 c3 c4 c5 c6 c7 c8 c9 c10 c11 c12 cl hrs
  have HOK2:=zH (show (W.asksR ⟨1,oa,ob,oc,on,x,y⟩).1.1=0∨((W.asksR ⟨1,oa,ob,oc,on,x,y⟩).1.1=1∧(W.spc (W.asksR ⟨1,oa,ob,oc,on,x,y⟩).2).takesOk ⟨1,oa,ob,oc,on,x,y⟩ (W.asksR ⟨1,oa,ob,oc,on,x,y⟩).1.2.1 (W.asksR ⟨1,oa,ob,oc,on,x,y⟩).1.2.2=true) from by
   have h:=HOK.o;unfold AcW.asksO at h;split at h
   · rename_i h1;exact h1
   · cases h)
  have HR2:=zH (show r=W.asks ⟨1,oa,ob,oc,on,x,y⟩ from by
   have h:=HOK.o;unfold AcW.asksO at h;split at h
   · injection h with h;exact h.symm
   · cases h)
  have HD:=zH (show W.asks ⟨1,oa,ob,oc,on,x,y⟩=(if (W.asksR ⟨1,oa,ob,oc,on,x,y⟩).1.1=0 then ((W.spc (W.asksR ⟨1,oa,ob,oc,on,x,y⟩).2).withA { W.a with phase:=3,pc:=5 }).no else ((W.spc (W.asksR ⟨1,oa,ob,oc,on,x,y⟩).2).takes ⟨1,oa,ob,oc,on,x,y⟩ (W.asksR ⟨1,oa,ob,oc,on,x,y⟩).1.2.1 (W.asksR ⟨1,oa,ob,oc,on,x,y⟩).1.2.2).no) from rfl);clear HOK;generalize W.asksR ⟨1,oa,ob,oc,on,x,y⟩=ar at *;obtain ⟨⟨st,got,at_⟩,S'⟩:=ar;simp only at H4 G4 B4 HOK2 HD;obtain ⟨z0,z1,z2,zl⟩:=B4.o.k3;obtain ⟨x0,x1,x2,x3,x4,x5,xl⟩:=Q4.o.k6;rcases HOK2.o with h0|⟨h1,h2⟩
  · have HD2:=zH (show r=((W.spc S').withA { W.a with phase:=3,pc:=5 }).no by rw [HR2.o,HD.o,if_pos h0]);rw [h0] at z0;obtain ⟨a0,a1,a2,a3,a4,a5,a6,a7,a8,a9,a10,a11,a12,a13,a14,a15,a16,a17,a18,al⟩:=H4.o.a.blk.k19;have af3:=H4.o.a.blk.liv 3;have af7:=H4.o.a.blk.liv 7;have H5:=zH ((H4.o.set HP.o 3 (zI z6 3) { W.a with phase:=3 } rfl ⟨rfl,rfl,rfl,rfl,rfl,rfl⟩).set HP.o 7 (zI z6 5) { W.a with phase:=3,pc:=5 } rfl ⟨rfl,rfl,rfl,rfl,rfl,rfl⟩);have M5:=zH (show Mod (acT t B) g ⟨own4,(w4.setCell ⟨b,3,none⟩ (zI z6 3)).setCell ⟨b,7,none⟩ (zI z6 5)⟩ from Mod.st (Mod.st M4.o H4.o.modA) H4.o.modA);have R5:=zH (R4.o.keep (Mod.st (Mod.st (Mod.refl (fun x=>x=t) _) H4.o.a.blk.own) H4.o.a.blk.own:Mod (fun x=>x=t) ⟨own4,w4⟩ ⟨own4,(w4.setCell ⟨b,3,none⟩ (zI z6 3)).setCell ⟨b,7,none⟩ (zI z6 5)⟩) zo);clear h0 HOK2 HD;go_upto_region 7 with fail
    generalize (w4.setCell ⟨b,3,none⟩ (zI z6 3)).setCell ⟨b,7,none⟩ (zI z6 5)=w5 at *;clear a0 a1 a2 a3 a4 a5 a6 a7 a8 a9 a10 a11 a12 a13 a14 a15 a16 a17 a18 af3 af7 al z0 z1 z2 zl x0 x1 x2 x3 x4 x5 xl H4 M4 R4;obtain ⟨r0,r1,r2,r3,r4,rl⟩:=R5.o.k5;have rf0:=R5.o.liv 0;have rf1:=R5.o.liv 1;have rf2:=R5.o.liv 2;have rf3:=R5.o.liv 3;have rf4:=R5.o.liv 4;go_wp2_with fail;obtain ⟨Mf,mf,Rf⟩:=yae M5.o R5.o (Nat.le_succ _) (0) (0) (0) (false) (0) (0);generalize ((((((w5).setCell ⟨g.w.heap.size+1,0,none⟩ (zI z6 (0))).setCell ⟨g.w.heap.size+1,1,none⟩ (zI z6 (0))).setCell ⟨g.w.heap.size+1,2,none⟩ (zI z6 (0))).setCell ⟨g.w.heap.size+1,3,none⟩ (zb (false))).setCell ⟨g.w.heap.size+1,4,none⟩ (zc z4 (0) (0)))=wf at *;obtain ⟨f0,f1,f2,f3,f4,fl⟩:=Rf.k5;refine bodyPost_ret (v:=.tuple #[.agg #[zI z6 (0),zI z6 (0),zI z6 (0),zb (false),zc z4 (0) (0)],zb false]) (by simp [results,Tryz.results137,go_sem,f0,f1,f2,f3,f4]) rfl ?_;exact Does.of ⟨own4,wf⟩ rfl (by rw [HD2.o];rfl) Mf (by rw [HD2.o];exact (H5.o.keep mf zo z9 z9).at_)
  · have HD2:=zH (show r=((W.spc S').takes ⟨1,oa,ob,oc,on,x,y⟩ got at_).no by rw [HR2.o,HD.o,if_neg (by rw [h1];decide)]);rw [h1] at z0;obtain ⟨A',c',e1,e2,e3, -⟩:=G4.o.form;have e4:gC=c':=by injection e1
    rw [←e4] at e2 e3;clear e1 e4 A' c';have HTK:=zH (ygp HP.o H4.o oa ob oc on x y got gA gC 1 at_ G4.o.seg ⟨e2,e3⟩ h2);clear h1 h2 HOK2 HD e2 e3;go_wp2_with fail;refine HTK.o.mono ?_;rintro e w5 ⟨rfl,own5,m5,p5,h5⟩;have M5:=zH (M4.o.trans (m5.mono (fun x hx=>yaG hx)));have R5:=zH (R4.o.keep m5 zo);have H5:=zH h5;clear m5 h5 HTK z0 z1 z2 zl x0 x1 x2 x3 x4 x5 xl H4 M4 R4;go_upto_region 7 with fail
    obtain ⟨r0,r1,r2,r3,r4,rl⟩:=R5.o.k5;have rf0:=R5.o.liv 0;have rf1:=R5.o.liv 1;have rf2:=R5.o.liv 2;have rf3:=R5.o.liv 3;have rf4:=R5.o.liv 4;go_wp2_with fail;obtain ⟨Mf,mf,Rf⟩:=yae M5.o R5.o (Nat.le_succ _) (0) (0) (0) (false) (0) (0);generalize ((((((w5).setCell ⟨g.w.heap.size+1,0,none⟩ (zI z6 (0))).setCell ⟨g.w.heap.size+1,1,none⟩ (zI z6 (0))).setCell ⟨g.w.heap.size+1,2,none⟩ (zI z6 (0))).setCell ⟨g.w.heap.size+1,3,none⟩ (zb (false))).setCell ⟨g.w.heap.size+1,4,none⟩ (zc z4 (0) (0)))=wf at *;obtain ⟨f0,f1,f2,f3,f4,fl⟩:=Rf.k5;refine bodyPost_ret (v:=.tuple #[.agg #[zI z6 (0),zI z6 (0),zI z6 (0),zb (false),zc z4 (0) (0)],zb false]) (by simp [results,Tryz.results137,go_sem,f0,f1,f2,f3,f4]) rfl ?_;exact Does.of ⟨own5,wf⟩ rfl (by rw [HD2.o];rfl) Mf (by rw [HD2.o];exact (H5.o.keep mf zo z9 z9).at_)
theorem yhl [TbId] (P:AcApart t B) (H:AcIn g t B b k W p bm bs bt bp bsp bh cm) (oa ob oc on:Int) (x y:Nat) (ho:opOk W.K.c ⟨2,oa,ob,oc,on,x,y⟩=true) (hck:W.K.c.check=0) (hsp:0≤W.K.sp.count∧W.K.sp.count≤1099511627776) (hln:W.K.sp.line.length<1000000)
 (r:AcR) (hok:W.asksO ⟨2,oa,ob,oc,on,x,y⟩=some r):
 Calls prog 137 #[zp (some ⟨b,0,none⟩),zp (some ⟨k,0,none⟩),.agg #[zI z6 2,zI z6 oa,zI z6 ob,zI z6 oc,zI z6 on,zc z4 x y]] g.w (Does (resV r.1) g (acT t B) (fun g'=>AcWAt g' t B b k r.2)):=by
 have HH:=zH H;have HP:=zH P;have HOK:=zH hok;go_enter func137,ntmps137;go_upto_region 1 with fail
 obtain ⟨own0,M0,Q0,R0⟩:=yaq g 26 40 [zI z6 2,zI z6 oa,zI z6 ob,zI z6 oc,zI z6 on,zc z4 x y] resZ;unfold resZ at M0 R0 Q0;generalize (g.w.alloc (.cells #[zI z6 2,zI z6 oa,zI z6 ob,zI z6 oc,zI z6 on,zc z4 x y] 26)).alloc (.cells #[zI z6 0,zI z6 0,zI z6 0,zb false,zc z4 0 0] 40)=w0 at *;have H0:=zH (HH.o.keep0 M0);have M0':=zH M0;have Q0':=zH Q0;have R0':=zH R0;have HN:=zH (fun X=>ymd cm oa ob oc on x y (w0.patch X) (H0.o.c.cnf.ok.ext ⟨X,rfl⟩) (by rw [HH.o.c.same.check];exact hck) (by rw [yaM HH.o.c.same];exact ho));have HF:=zH (show needF cm ⟨2,oa,ob,oc,on,x,y⟩=needF W.K.c ⟨2,oa,ob,oc,on,x,y⟩ from ydH HH.o.c.same _);have HS:=zH (show needS cm ⟨2,oa,ob,oc,on,x,y⟩=needS W.K.c ⟨2,oa,ob,oc,on,x,y⟩ from ydI HH.o.c.same _);rw [HF.o,HS.o] at HN;unfold Cnf.val at HN;obtain ⟨c0,c1,c2,c3,c4,c5,c6,c7,c8,c9,c10,c11,c12,cl⟩:=H0.o.c.blk.k13;obtain ⟨x0,x1,x2,x3,x4,x5,xl⟩:=Q0.k6;clear M0 Q0 R0 H ho hck hok;refine yab [zT,zT,zT,zT,zT,zT,zT,zT,zT,zT,zT] 0 11 ?_;intro X00;simp only [pickOps]
 repeat (go_big_quiet_step ((go_at_call 204;exact Calls.added (HN.o _))))
 refine wpQuiet_nil (fun X0=>?_);clear X00;refine yaa zQ (fun X0'=>?_) _;(try go_simp);obtain ⟨own1,m1⟩: ∃own1,Mod (fun _=>False) ⟨own0,w0⟩ ⟨own1,w0.patch ⟨X0.blocks++X0'.blocks,X0'.drawn⟩⟩:=⟨_,Mod.pt (g:=⟨own0,w0⟩) (Mod.refl _ _) _⟩;generalize w0.patch ⟨X0.blocks++X0'.blocks,X0'.drawn⟩=w1 at *;have H1:=zH (H0.o.keep0 m1);have M1:=zH (M0'.o.trans m1);have Q1:=zH (Q0'.o.keep m1 id);have R1:=zH (R0'.o.keep m1 id);clear m1 H0 M0' Q0' R0' HN c0 c1 c2 c3 c4 c5 c6 c7 c8 c9 c10 c11 c12 cl x0 x1 x2 x3 x4 x5 xl;have hrs:ask W.K.sp W.a.t (needF W.K.c ⟨2,oa,ob,oc,on,x,y⟩) (needS W.K.c ⟨2,oa,ob,oc,on,x,y⟩) (W.a.sense !=W.a.both)=W.asksR ⟨2,oa,ob,oc,on,x,y⟩:=rfl;have HBO:=zH (fun w' (he:Ext w1 w')=>show Calls prog 206 #[zp (some ⟨b,0,none⟩)] w' (Gives (zb W.a.both) w') from yau (yfp ((⟨own1,w1⟩:GW).to 0 w') t b W.a p (H1.o.a.keep (Mod.ext (T:=fun _=>False) he 0) id zG)))
 have HA:=zH (fun w' (he:Ext w1 w')=>show Calls prog 205 #[zp (some ⟨bsp,0,none⟩),zI z6 W.a.t,zI z6 (needF W.K.c ⟨2,oa,ob,oc,on,x,y⟩),zI z6 (needS W.K.c ⟨2,oa,ob,oc,on,x,y⟩),zb (W.a.sense !=W.a.both)] w' (AskPost (W.asksR ⟨2,oa,ob,oc,on,x,y⟩) own1 w1 w' B bsp bt) from by
  obtain ⟨own',m'⟩: ∃own',Mod (fun _=>False) ⟨own1,w1⟩ ⟨own',w'⟩∧ ∀k,w1.heap.size≤k→own' k=0:=yfW own1 he;have h1:=ycs W.a.t (needF W.K.c ⟨2,oa,ob,oc,on,x,y⟩) (needS W.K.c ⟨2,oa,ob,oc,on,x,y⟩) (W.a.sense !=W.a.both) ⟨own',w'⟩ B bsp bt W.K.sp (H1.o.keep0 m'.1).c.sp P.hb hsp hln;rw [hrs] at h1;exact h1.mono (fun e w4 h=>yb6 m'.1 m'.2 P.hb h))
 generalize needF W.K.c ⟨2,oa,ob,oc,on,x,y⟩=nf at *;generalize needS W.K.c ⟨2,oa,ob,oc,on,x,y⟩=ns at *;generalize W.a.both=bo at *;obtain ⟨a0,a1,a2,a3,a4,a5,a6,a7,a8,a9,a10,a11,a12,a13,a14,a15,a16,a17,a18,al⟩:=H1.o.a.blk.k19;obtain ⟨c0,c1,c2,c3,c4,c5,c6,c7,c8,c9,c10,c11,c12,cl⟩:=H1.o.c.blk.k13;go_wp2_with fail;go_cut [10] (fun s10 wx=> ∃qg gA gC,s10=zp (some ⟨qg,0,none⟩)∧Hid (∃own4,Mod (inst B) ⟨own1,w1⟩ ⟨own4,wx⟩∧Row ⟨own4,wx⟩ 0 3 1 (.slice gA (W.asksR ⟨2,oa,ob,oc,on,x,y⟩).1.2.1.length gC) (W.asksR ⟨2,oa,ob,oc,on,x,y⟩).1.2.1.length ((W.asksR ⟨2,oa,ob,oc,on,x,y⟩).1.2.1.map (zI z6))∧SpaceAt ⟨own4,wx⟩ B bsp bt (W.asksR ⟨2,oa,ob,oc,on,x,y⟩).2∧Blk ⟨own4,wx⟩ 0 qg 143 [zI z6 (W.asksR ⟨2,oa,ob,oc,on,x,y⟩).1.1,.slice gA (W.asksR ⟨2,oa,ob,oc,on,x,y⟩).1.2.1.length gC,zI z6 (W.asksR ⟨2,oa,ob,oc,on,x,y⟩).1.2.2]))
 case first=>
  refine ybl [zT,zT,zT,zT,zT,zT,zT,zT,zT,zT,zT,zT,zT,zT,zT,zT,zT] 1 17 18 ?pk_o ?pk_u ?pk1 ?pk2 ?pk3 ?pk4 ?pk5 ?pk6 ?pk7 ?pk8 ?pk9 ?pk10 ?pk11 ?pk12 ?pk13 ?pk14 ?pk15 ?pk16
  case pk11=>exact rfl
  case pk13=>exact rfl
  case pk1=>kernel_rfl
  case pk2=>kernel_rfl
  case pk3=>kernel_rfl
  case pk4=>(intro c a d v w h;cases d<;>exact h)
  case pk5=>decide
  case pk6=>decide
  case pk7=>decide
  case pk8=>kernel_rfl
  case pk9=>kernel_rfl
  case pk10=>kernel_rfl
  case pk12=>exact rfl
  case pk14=>exact rfl
  case pk15=>decide
  intro X00;simp only [pickOps];repeat (go_big_quiet_step ((go_at_call 206;exact Calls.added (HBO.o _ ⟨_,rfl⟩))))
  refine wpQuiet_nil ⟨?pkA,?pkB⟩
  case pkA=>
   intro X0 K Q' hK;(try go_simp);refine (HA.o _ ⟨_,rfl⟩).mono ?_;rintro e w4 ⟨gA,gC,rfl,own4,M4,R4,S4, -, -⟩;(try go_simp);refine hK _ _ ?_;clear hK K Q';refine yag 18 (fun K Q' hK=>?_);(try go_simp);refine hK _ _ ?_;clear hK K Q';refine yag 19 (fun K Q' hK=>?_);(try go_simp);refine hK _ _ ?_;clear hK K Q';refine wpAny_done zQ ?_ _;go_wp2_with fail;go_meet
   obtain ⟨own5,m5,b5⟩:=ydl own4 w4 143 [zI z6 (W.asksR ⟨2,oa,ob,oc,on,x,y⟩).1.1,.slice gA (W.asksR ⟨2,oa,ob,oc,on,x,y⟩).1.2.1.length gC,zI z6 (W.asksR ⟨2,oa,ob,oc,on,x,y⟩).1.2.2];exact ⟨_,gA,gC,rfl,zH ⟨own5,M4.o.trans (m5.mono zG),R4.o.keep m5 id,S4.o.keep m5 zG,b5⟩⟩
  case pkB=>
   intro X0 K Q' hK;go_simp;refine hK _ _ ?_ (fun X2 K2 Q2 hK2=>?_)
   · exact zE
   clear hK K Q';(try go_simp);refine (HA.o _ zE).mono ?_;rintro e w4 ⟨gA,gC,rfl,own4,M4,R4,S4,O4,H4⟩;obtain ⟨hrow,hq1,hq2⟩:=ydm H4.o;have B4:Blk ⟨own4,w4⟩ 0 (w1.patch X0).heap.size 143 [zI z6 0,.slice none 0 0,zI z6 0]:=⟨hrow,O4.o _ hq1 hq2⟩;generalize (w1.patch X0).heap.size=qg at *;have HB4:=zH B4;clear hrow hq2 H4 O4;obtain ⟨z0,z1,z2,zl⟩:=B4.k3;have zf0:=B4.liv 0;have zf1:=B4.liv 1;have zf2:=B4.liv 2;clear B4;(try go_simp);refine hK2 _ _ ?_;clear hK2 K2 Q2;refine yag 19 (fun K Q' hK=>?_);(try go_simp);refine hK _ _ ?_;clear hK K Q';refine wpAny_done zQ ?_ _;go_wp2_with fail;go_meet
   exact ⟨_,gA,gC,rfl,zH ⟨own4,Mod.stn (Mod.stn (Mod.stn M4.o hq1) hq1) hq1,ycK R4.o HB4.o,yel S4.o HB4.o HP.o.hb,ydk HB4.o _ _ _⟩⟩
 case rest=>
  obtain ⟨qg,gA,gC,rfl,HG4⟩:=hcut;obtain ⟨own4,m4,r4,s4,b4⟩:=HG4.o;have hPb:=HP.o.hb;have hPt:=HP.o.ht;obtain ⟨w4,rfl⟩: ∃w4:World,w4=wc:=⟨_,rfl⟩;have H4:=zH (H1.o.spc HP.o m4 s4);have M4:=zH ((M1.o.mono (S:=acT t B) zG).trans (m4.mono (fun x hx=>ybF hx)));have Q4:=zH (Q1.o.keep m4 (fun h=>by have:=h.1;omega));have R4:=zH (R1.o.keep m4 (fun h=>by have:=h.1;omega));have G4:=zH r4;have B4:=zH b4;clear m4 r4 s4 b4 HG4 H1 M1 Q1 R1 HBO HA a0 a1 a2 a3 a4 a5 a6 a7 a8 a9 a10 a11 a12 a13 a14 a15 a16 a17 a18 al c0 c1 c2 c3 c4 c5 c6 c7 c8 c9 c10 c11 c12 cl hrs
  have HOK2:=zH (show (W.asksR ⟨2,oa,ob,oc,on,x,y⟩).1.1=0∨((W.asksR ⟨2,oa,ob,oc,on,x,y⟩).1.1=1∧(W.spc (W.asksR ⟨2,oa,ob,oc,on,x,y⟩).2).takesOk ⟨2,oa,ob,oc,on,x,y⟩ (W.asksR ⟨2,oa,ob,oc,on,x,y⟩).1.2.1 (W.asksR ⟨2,oa,ob,oc,on,x,y⟩).1.2.2=true) from by
   have h:=HOK.o;unfold AcW.asksO at h;split at h
   · rename_i h1;exact h1
   · cases h)
  have HR2:=zH (show r=W.asks ⟨2,oa,ob,oc,on,x,y⟩ from by
   have h:=HOK.o;unfold AcW.asksO at h;split at h
   · injection h with h;exact h.symm
   · cases h)
  have HD:=zH (show W.asks ⟨2,oa,ob,oc,on,x,y⟩=(if (W.asksR ⟨2,oa,ob,oc,on,x,y⟩).1.1=0 then ((W.spc (W.asksR ⟨2,oa,ob,oc,on,x,y⟩).2).withA { W.a with phase:=3,pc:=5 }).no else ((W.spc (W.asksR ⟨2,oa,ob,oc,on,x,y⟩).2).takes ⟨2,oa,ob,oc,on,x,y⟩ (W.asksR ⟨2,oa,ob,oc,on,x,y⟩).1.2.1 (W.asksR ⟨2,oa,ob,oc,on,x,y⟩).1.2.2).no) from rfl);clear HOK;generalize W.asksR ⟨2,oa,ob,oc,on,x,y⟩=ar at *;obtain ⟨⟨st,got,at_⟩,S'⟩:=ar;simp only at H4 G4 B4 HOK2 HD;obtain ⟨z0,z1,z2,zl⟩:=B4.o.k3;obtain ⟨x0,x1,x2,x3,x4,x5,xl⟩:=Q4.o.k6;rcases HOK2.o with h0|⟨h1,h2⟩
  · have HD2:=zH (show r=((W.spc S').withA { W.a with phase:=3,pc:=5 }).no by rw [HR2.o,HD.o,if_pos h0]);rw [h0] at z0;obtain ⟨a0,a1,a2,a3,a4,a5,a6,a7,a8,a9,a10,a11,a12,a13,a14,a15,a16,a17,a18,al⟩:=H4.o.a.blk.k19;have af3:=H4.o.a.blk.liv 3;have af7:=H4.o.a.blk.liv 7;have H5:=zH ((H4.o.set HP.o 3 (zI z6 3) { W.a with phase:=3 } rfl ⟨rfl,rfl,rfl,rfl,rfl,rfl⟩).set HP.o 7 (zI z6 5) { W.a with phase:=3,pc:=5 } rfl ⟨rfl,rfl,rfl,rfl,rfl,rfl⟩);have M5:=zH (show Mod (acT t B) g ⟨own4,(w4.setCell ⟨b,3,none⟩ (zI z6 3)).setCell ⟨b,7,none⟩ (zI z6 5)⟩ from Mod.st (Mod.st M4.o H4.o.modA) H4.o.modA);have R5:=zH (R4.o.keep (Mod.st (Mod.st (Mod.refl (fun x=>x=t) _) H4.o.a.blk.own) H4.o.a.blk.own:Mod (fun x=>x=t) ⟨own4,w4⟩ ⟨own4,(w4.setCell ⟨b,3,none⟩ (zI z6 3)).setCell ⟨b,7,none⟩ (zI z6 5)⟩) zo);clear h0 HOK2 HD;go_upto_region 7 with fail
    generalize (w4.setCell ⟨b,3,none⟩ (zI z6 3)).setCell ⟨b,7,none⟩ (zI z6 5)=w5 at *;clear a0 a1 a2 a3 a4 a5 a6 a7 a8 a9 a10 a11 a12 a13 a14 a15 a16 a17 a18 af3 af7 al z0 z1 z2 zl x0 x1 x2 x3 x4 x5 xl H4 M4 R4;obtain ⟨r0,r1,r2,r3,r4,rl⟩:=R5.o.k5;have rf0:=R5.o.liv 0;have rf1:=R5.o.liv 1;have rf2:=R5.o.liv 2;have rf3:=R5.o.liv 3;have rf4:=R5.o.liv 4;go_wp2_with fail;obtain ⟨Mf,mf,Rf⟩:=yae M5.o R5.o (Nat.le_succ _) (0) (0) (0) (false) (0) (0);generalize ((((((w5).setCell ⟨g.w.heap.size+1,0,none⟩ (zI z6 (0))).setCell ⟨g.w.heap.size+1,1,none⟩ (zI z6 (0))).setCell ⟨g.w.heap.size+1,2,none⟩ (zI z6 (0))).setCell ⟨g.w.heap.size+1,3,none⟩ (zb (false))).setCell ⟨g.w.heap.size+1,4,none⟩ (zc z4 (0) (0)))=wf at *;obtain ⟨f0,f1,f2,f3,f4,fl⟩:=Rf.k5;refine bodyPost_ret (v:=.tuple #[.agg #[zI z6 (0),zI z6 (0),zI z6 (0),zb (false),zc z4 (0) (0)],zb false]) (by simp [results,Tryz.results137,go_sem,f0,f1,f2,f3,f4]) rfl ?_;exact Does.of ⟨own4,wf⟩ rfl (by rw [HD2.o];rfl) Mf (by rw [HD2.o];exact (H5.o.keep mf zo z9 z9).at_)
  · have HD2:=zH (show r=((W.spc S').takes ⟨2,oa,ob,oc,on,x,y⟩ got at_).no by rw [HR2.o,HD.o,if_neg (by rw [h1];decide)]);rw [h1] at z0;obtain ⟨A',c',e1,e2,e3, -⟩:=G4.o.form;have e4:gC=c':=by injection e1
    rw [←e4] at e2 e3;clear e1 e4 A' c';have HTK:=zH (yc1 HP.o H4.o oa ob oc on x y got gA gC 1 at_ G4.o.seg ⟨e2,e3⟩ h2);clear h1 h2 HOK2 HD e2 e3;go_wp2_with fail;refine HTK.o.mono ?_;rintro e w5 ⟨rfl,own5,m5,p5,h5⟩;have M5:=zH (M4.o.trans (m5.mono (fun x hx=>yaG hx)));have R5:=zH (R4.o.keep m5 zo);have H5:=zH h5;clear m5 h5 HTK z0 z1 z2 zl x0 x1 x2 x3 x4 x5 xl H4 M4 R4;go_upto_region 7 with fail
    obtain ⟨r0,r1,r2,r3,r4,rl⟩:=R5.o.k5;have rf0:=R5.o.liv 0;have rf1:=R5.o.liv 1;have rf2:=R5.o.liv 2;have rf3:=R5.o.liv 3;have rf4:=R5.o.liv 4;go_wp2_with fail;obtain ⟨Mf,mf,Rf⟩:=yae M5.o R5.o (Nat.le_succ _) (0) (0) (0) (false) (0) (0);generalize ((((((w5).setCell ⟨g.w.heap.size+1,0,none⟩ (zI z6 (0))).setCell ⟨g.w.heap.size+1,1,none⟩ (zI z6 (0))).setCell ⟨g.w.heap.size+1,2,none⟩ (zI z6 (0))).setCell ⟨g.w.heap.size+1,3,none⟩ (zb (false))).setCell ⟨g.w.heap.size+1,4,none⟩ (zc z4 (0) (0)))=wf at *;obtain ⟨f0,f1,f2,f3,f4,fl⟩:=Rf.k5;refine bodyPost_ret (v:=.tuple #[.agg #[zI z6 (0),zI z6 (0),zI z6 (0),zb (false),zc z4 (0) (0)],zb false]) (by simp [results,Tryz.results137,go_sem,f0,f1,f2,f3,f4]) rfl ?_;exact Does.of ⟨own5,wf⟩ rfl (by rw [HD2.o];rfl) Mf (by rw [HD2.o];exact (H5.o.keep mf zo z9 z9).at_)
end
end Go.Proofs.YtdhjjpnajjingaaGreat
namespace Go.Proofs.YtdhjjpnajjingaaGreat
open Go Go.RowKit
def kindB (rf:Bool) (v:LVal):Bool:=v.ref !=rf
def noneB (v:LVal):Bool:=sameF v.z zNone
theorem yk8 (v:LVal) (p:Nat) (rf:Bool) (w:World) (hp:w.cell? ⟨p,0,none⟩=some (zb rf)) (hl:p<w.heap.size):Calls prog 199 #[.agg #[zb v.ref,zc z4 v.z.1 v.z.2],zp (some ⟨p,0,none⟩)] w (Gives (zb (kindB rf v)) w):=by
 have HV:=zH (show kindB rf v=(v.ref !=rf) from rfl);generalize v.ref=a at *;go_enter func199,ntmps199;go_wp2_with fail;go_ret;exact Gives.mk (by rw [HV.o];cases a<;>cases rf<;>rfl) zE
theorem yk9 (v:LVal) (w:World):Calls prog 200 #[.agg #[zb v.ref,zc z4 v.z.1 v.z.2]] w (Gives (zb (noneB v)) w):=by
 have HV:=zH (show noneB v=sameF v.z zNone from rfl);have HN:=zH (fun w'=>yas w');have HS:=zH (fun w'=>show Calls prog 165 #[zc z4 v.z.1 v.z.2,zc z4 0 4607182418800017408] w' (fun e w''=>e=.returned (zb (sameF v.z zNone))∧w'=w'') from ybr v.z zNone w');generalize sameF v.z zNone=so at *;unfold wNone at HN;go_enter func200,ntmps200;go_wp2_with fail;obtain ⟨w0,hW⟩: ∃w0,w.alloc (.cells #[zb v.ref,zc z4 v.z.1 v.z.2] 38)=w0:=⟨_,rfl⟩;have x0:w0.cell? ⟨w.heap.size,0,none⟩=some (zb v.ref):=by rw [←hW];clear hW;go_simp
 have x1:w0.cell? ⟨w.heap.size,1,none⟩=some (zc z4 v.z.1 v.z.2):=by rw [←hW];clear hW;go_simp
 have hE0:=zH (show Ext w w0 by rw [←hW];clear hW;exact zE);have hl:w.heap.size<w0.heap.size:=by rw [←hW];clear hW;go_simp
 rw [hW];clear hW;refine yab [zT,zT,zT,zT,zT] 0 5 ?_;intro X00;simp only [pickOps];repeat (go_big_quiet_step (first|(go_at_call 68;exact Calls.added (HN.o _))|(go_at_call 165;exact Calls.added (yau (HS.o _)))))
 refine wpQuiet_nil (fun X0=>?_);clear X00;refine yaa zQ (fun X0'=>?_) _;(try go_simp);go_wp2_with fail;go_ret;exact Gives.mk (by rw [HV.o];rfl) (hE0.o.trans zE)
theorem yhf {w:World} {A:Option Addr} {l:List LVal} (h:CellsAt w A (l.flatMap LVal.cells)) {k:Nat} (hk:k<l.length): ∃b o,A=some ⟨b,o,none⟩∧b<w.heap.size∧w.cell? ⟨b,o+k*2,none⟩=some (zb (l.getD k LVal.zero).ref)∧w.cell? ⟨b,o+k*2+1,none⟩=some (zc z4 (l.getD k LVal.zero).z.1 (l.getD k LVal.zero).z.2):=by
 obtain ⟨f0,f1⟩:=yeK l k _ (ybD hk);obtain ⟨b,o,rfl,hb,hc⟩:=h.cases (by have:=(List.getElem?_eq_some_iff.1 f0).1;omega);exact ⟨b,o,rfl,hb,hc _ _ f0,by rw [Nat.add_assoc];exact hc _ _ f1⟩
def IdxV (q:LVal→Bool) (l:List LVal) (w:World) (e:Ending) (w':World):Prop:= ∃n:Int,e=.returned (zI z6 n)∧decide (0≤n)=l.any q∧Ext w w'
theorem yiP {q:LVal→Bool} {l:List LVal} (h: ∀v∈l,q v=false):l.any q=false:=by
 rw [List.any_eq_false];intro x hx;rw [h x hx];simp
theorem yhb {q:LVal→Bool} {l:List LVal} {k:Nat} {v:LVal} (h:l[k]?=some v) (hv:q v=true):l.any q=true:=by
 rw [List.any_eq_true];exact ⟨v,List.mem_of_getElem? h,hv⟩
theorem ykZ (A:Option Addr) (c:Nat) (l:List LVal) (p:Nat) (rf:Bool) (w:World) (hc:CellsAt w A (l.flatMap LVal.cells)) (hl:l.length≤1000) (hp:w.cell? ⟨p,0,none⟩=some (zb rf)) (hpl:p<w.heap.size):
 Calls prog 241 #[.slice A l.length c,.func (.func 199) #[] #[zp (some ⟨p,0,none⟩)]] w (IdxV (kindB rf) l w):=by
 have HC:=zH hc;have HP:=zH (fun w' (he:Ext w w')=>(⟨(he.cell hpl).trans hp,Nat.lt_of_lt_of_le hpl he.size⟩:w'.cell? ⟨p,0,none⟩=some (zb rf)∧p<w'.heap.size));clear hc hp hpl;go_enter func241,ntmps241;go_wp2_with fail;go_loopw [8] (fun i wr=> ∃k:Nat,k≤l.length∧i=zI z6 k∧Hid (∀v∈l.take k,kindB rf v=false)∧Hid (Ext w wr)) (fun i _=>l.length-(intOf i).toNat)
 case atStart=>exact ⟨0,Nat.zero_le _,rfl,zH (by simp),zH (Ext.refl _)⟩
 case round=>
  obtain ⟨k,hk,rfl,hm,HE⟩:=hrel;by_cases hlt:k<l.length
  · obtain ⟨b,o,hA,hb,g0,g1⟩:=yhf (HC.o.ext HE.o) hlt;have HX:=zH (ybD hlt);generalize l.getD k LVal.zero=v at *;have HFV:=zH (yk8 v p rf wr (HP.o wr HE.o).1 (HP.o wr HE.o).2);subst hA;go_wp2_with fail;refine HFV.o.mono ?_;rintro e w1 ⟨rfl,hX⟩;have HE1:=zH (HE.o.trans (show Ext wr w1 from hX));clear hX;cases hv:kindB rf v
    · have HN:=zH (ybS HX.o hm.o hv);clear hv;go_wp2_with fail;go_roundw
      case rel=>exact ⟨k+1,zo,by go_num,HN,HE1⟩
      case measure=>simp [intOf];omega
    · have HN:=zH (yhb HX.o hv);clear hv;go_wp2_with fail;go_ret;exact ⟨_,rfl,by rw [HN.o];simp,HE1.o⟩
  · have HN:=zH (yiP (fun v hv=>hm.o v (by rw [List.take_of_length_le zo];exact hv)));go_wp2_with fail;go_ret;exact ⟨_,rfl,by rw [HN.o];rfl,HE.o⟩
theorem yk0 (A:Option Addr) (c:Nat) (l:List LVal) (w:World) (hc:CellsAt w A (l.flatMap LVal.cells)) (hl:l.length≤1000):
 Calls prog 241 #[.slice A l.length c,.func (.func 200) #[] #[]] w (IdxV noneB l w):=by
 have HC:=zH hc;clear hc;go_enter func241,ntmps241;go_wp2_with fail;go_loopw [8] (fun i wr=> ∃k:Nat,k≤l.length∧i=zI z6 k∧Hid (∀v∈l.take k,noneB v=false)∧Hid (Ext w wr)) (fun i _=>l.length-(intOf i).toNat)
 case atStart=>exact ⟨0,Nat.zero_le _,rfl,zH (by simp),zH (Ext.refl _)⟩
 case round=>
  obtain ⟨k,hk,rfl,hm,HE⟩:=hrel;by_cases hlt:k<l.length
  · obtain ⟨b,o,hA,hb,g0,g1⟩:=yhf (HC.o.ext HE.o) hlt;have HX:=zH (ybD hlt);generalize l.getD k LVal.zero=v at *;have HFV:=zH (yk9 v wr);subst hA;go_wp2_with fail;refine HFV.o.mono ?_;rintro e w1 ⟨rfl,hX⟩;have HE1:=zH (HE.o.trans (show Ext wr w1 from hX));clear hX;cases hv:noneB v
    · have HN:=zH (ybS HX.o hm.o hv);clear hv;go_wp2_with fail;go_roundw
      case rel=>exact ⟨k+1,zo,by go_num,HN,HE1⟩
      case measure=>simp [intOf];omega
    · have HN:=zH (yhb HX.o hv);clear hv;go_wp2_with fail;go_ret;exact ⟨_,rfl,by rw [HN.o];simp,HE1.o⟩
  · have HN:=zH (yiP (fun v hv=>hm.o v (by rw [List.take_of_length_le zo];exact hv)));go_wp2_with fail;go_ret;exact ⟨_,rfl,by rw [HN.o];rfl,HE.o⟩
theorem ybi (A:Option Addr) (c:Nat) (l:List LVal) (p:Nat) (rf:Bool) (w:World) (hc:CellsAt w A (l.flatMap LVal.cells)) (hl:l.length≤1000) (hp:w.cell? ⟨p,0,none⟩=some (zb rf)) (hpl:p<w.heap.size):
 Calls prog 198 #[.slice A l.length c,.func (.func 199) #[] #[zp (some ⟨p,0,none⟩)]] w (Gives (zb (l.any (kindB rf))) w):=by
 have HI:=zH (ykZ A c l p rf w hc hl hp hpl);clear hc hp hpl;go_enter func198,ntmps198;go_wp2_with fail;refine HI.o.mono ?_;rintro e w1 ⟨n,rfl,hn,X,rfl⟩;have HN:=zH hn;clear hn;go_wp2_with fail;go_ret;exact Gives.bool HN.o zE
theorem ybj (A:Option Addr) (c:Nat) (l:List LVal) (w:World) (hc:CellsAt w A (l.flatMap LVal.cells)) (hl:l.length≤1000):
 Calls prog 198 #[.slice A l.length c,.func (.func 200) #[] #[]] w (Gives (zb (l.any noneB)) w):=by
 have HI:=zH (yk0 A c l w hc hl);clear hc;go_enter func198,ntmps198;go_wp2_with fail;refine HI.o.mono ?_;rintro e w1 ⟨n,rfl,hn,X,rfl⟩;have HN:=zH hn;clear hn;go_wp2_with fail;go_ret;exact Gives.bool HN.o zE
theorem yaL {A:AcS} {o:Opr} {l:List LVal} {rf so:Bool} (h1:A.mustL o=l) (h2:AcS.refB o=rf) (h3:AcS.someB o=so):A.operandsE o=if l.any (kindB rf) then 4 else if so&&l.any noneB then 3 else 0:=by
 unfold AcS.operandsE;rw [h1,h2,h3];rfl
section
variable (g:GW) (t b:Nat) (A:AcS) (p:AcP)
theorem yig (H:AcAt g t b A p) (oa ob oc on:Int) (x y:Nat):Calls prog 134 #[zp (some ⟨b,0,none⟩),.agg #[zI z6 1,zI z6 oa,zI z6 ob,zI z6 oc,zI z6 on,zc z4 x y]] g.w (Gives (zI z6 (A.operandsE ⟨1,oa,ob,oc,on,x,y⟩)) g.w):=by
 have HV:=zH (yaL (A:=A) (o:=⟨1,oa,ob,oc,on,x,y⟩) (l:=[]) (rf:=true) (so:=true) rfl rfl rfl);obtain ⟨a0,a1,a2,a3,a4,a5,a6,a7,a8,a9,a10,a11,a12,a13,a14,a15,a16,a17,a18,al⟩:=H.blk.k19;clear H;go_enter func134,ntmps134;go_upto_region 20 with fail
 obtain ⟨w1,hW⟩: ∃w1,((g.w.alloc (.cells #[zI z6 1,zI z6 oa,zI z6 ob,zI z6 oc,zI z6 on,zc z4 x y] 26)).alloc (.cells #[zb true] 4))=w1:=⟨_,rfl⟩;rw [hW];have hE:=zH (show Ext g.w w1 by rw [←hW];exact zE);have r0:w1.cell? ⟨g.w.heap.size+1,0,none⟩=some (zb true):=by rw [←hW];clear hW;go_simp
 have hlr:g.w.heap.size+1<w1.heap.size:=by rw [←hW];clear hW;go_simp
 have hs:CellsAt w1 none (([]:List LVal).flatMap LVal.cells):=CellsAt.nil _ _;have HK1:=zH (show Calls prog 198 #[.slice none 0 0,.func (.func 199) #[] #[zp (some ⟨g.w.heap.size+1,0,none⟩)]] w1 (Gives (zb (List.any ([]:List LVal) (kindB true))) w1) from ybi none 0 ([]:List LVal) _ true w1 hs (by simp) r0 hlr);have HK2:=zH (fun w' (he:Ext w1 w')=>show Calls prog 198 #[.slice none 0 0,.func (.func 200) #[] #[]] w' (Gives (zb (List.any ([]:List LVal) noneB)) w') from ybj none 0 ([]:List LVal) w' (hs.ext he) (by simp));have HRF:=zH (fun w' (he:Ext w1 w')=>(he.cell hlr).trans r0);generalize List.any ([]:List LVal) (kindB true)=kb1 at *;generalize List.any ([]:List LVal) noneB=nb1 at *;clear hs hW;go_wp2_with fail;refine HK1.o.mono ?_;rintro e w2 ⟨rfl,X2,rfl⟩;cases kb1
 · go_wp2_with fail;refine (HK2.o _ zE).mono ?_;rintro e w3 ⟨rfl,X3,rfl⟩;cases nb1
   · go_wp2_with fail;go_ret;exact Gives.mk (by rw [HV.o];rfl) (hE.o.trans zE)
   · go_wp2_with fail;go_ret;exact Gives.mk (by rw [HV.o];rfl) (hE.o.trans zE)
 · go_wp2_with fail;go_ret;exact Gives.mk (by rw [HV.o];rfl) (hE.o.trans zE)
theorem yih (H:AcAt g t b A p) (oa ob oc on:Int) (x y:Nat):Calls prog 134 #[zp (some ⟨b,0,none⟩),.agg #[zI z6 2,zI z6 oa,zI z6 ob,zI z6 oc,zI z6 on,zc z4 x y]] g.w (Gives (zI z6 (A.operandsE ⟨2,oa,ob,oc,on,x,y⟩)) g.w):=by
 have HV:=zH (yaL (A:=A) (o:=⟨2,oa,ob,oc,on,x,y⟩) (l:=[]) (rf:=true) (so:=true) rfl rfl rfl);obtain ⟨a0,a1,a2,a3,a4,a5,a6,a7,a8,a9,a10,a11,a12,a13,a14,a15,a16,a17,a18,al⟩:=H.blk.k19;clear H;go_enter func134,ntmps134;go_upto_region 20 with fail
 obtain ⟨w1,hW⟩: ∃w1,((g.w.alloc (.cells #[zI z6 2,zI z6 oa,zI z6 ob,zI z6 oc,zI z6 on,zc z4 x y] 26)).alloc (.cells #[zb true] 4))=w1:=⟨_,rfl⟩;rw [hW];have hE:=zH (show Ext g.w w1 by rw [←hW];exact zE);have r0:w1.cell? ⟨g.w.heap.size+1,0,none⟩=some (zb true):=by rw [←hW];clear hW;go_simp
 have hlr:g.w.heap.size+1<w1.heap.size:=by rw [←hW];clear hW;go_simp
 have hs:CellsAt w1 none (([]:List LVal).flatMap LVal.cells):=CellsAt.nil _ _;have HK1:=zH (show Calls prog 198 #[.slice none 0 0,.func (.func 199) #[] #[zp (some ⟨g.w.heap.size+1,0,none⟩)]] w1 (Gives (zb (List.any ([]:List LVal) (kindB true))) w1) from ybi none 0 ([]:List LVal) _ true w1 hs (by simp) r0 hlr);have HK2:=zH (fun w' (he:Ext w1 w')=>show Calls prog 198 #[.slice none 0 0,.func (.func 200) #[] #[]] w' (Gives (zb (List.any ([]:List LVal) noneB)) w') from ybj none 0 ([]:List LVal) w' (hs.ext he) (by simp));have HRF:=zH (fun w' (he:Ext w1 w')=>(he.cell hlr).trans r0);generalize List.any ([]:List LVal) (kindB true)=kb1 at *;generalize List.any ([]:List LVal) noneB=nb1 at *;clear hs hW;go_wp2_with fail;refine HK1.o.mono ?_;rintro e w2 ⟨rfl,X2,rfl⟩;cases kb1
 · go_wp2_with fail;refine (HK2.o _ zE).mono ?_;rintro e w3 ⟨rfl,X3,rfl⟩;cases nb1
   · go_wp2_with fail;go_ret;exact Gives.mk (by rw [HV.o];rfl) (hE.o.trans zE)
   · go_wp2_with fail;go_ret;exact Gives.mk (by rw [HV.o];rfl) (hE.o.trans zE)
 · go_wp2_with fail;go_ret;exact Gives.mk (by rw [HV.o];rfl) (hE.o.trans zE)
theorem yij (H:AcAt g t b A p) (oa ob oc on:Int) (x y:Nat):Calls prog 134 #[zp (some ⟨b,0,none⟩),.agg #[zI z6 7,zI z6 oa,zI z6 ob,zI z6 oc,zI z6 on,zc z4 x y]] g.w (Gives (zI z6 (A.operandsE ⟨7,oa,ob,oc,on,x,y⟩)) g.w):=by
 have HV:=zH (yaL (A:=A) (o:=⟨7,oa,ob,oc,on,x,y⟩) (l:=[]) (rf:=true) (so:=true) rfl rfl rfl);obtain ⟨a0,a1,a2,a3,a4,a5,a6,a7,a8,a9,a10,a11,a12,a13,a14,a15,a16,a17,a18,al⟩:=H.blk.k19;clear H;go_enter func134,ntmps134;go_upto_region 20 with fail
 obtain ⟨w1,hW⟩: ∃w1,((g.w.alloc (.cells #[zI z6 7,zI z6 oa,zI z6 ob,zI z6 oc,zI z6 on,zc z4 x y] 26)).alloc (.cells #[zb true] 4))=w1:=⟨_,rfl⟩;rw [hW];have hE:=zH (show Ext g.w w1 by rw [←hW];exact zE);have r0:w1.cell? ⟨g.w.heap.size+1,0,none⟩=some (zb true):=by rw [←hW];clear hW;go_simp
 have hlr:g.w.heap.size+1<w1.heap.size:=by rw [←hW];clear hW;go_simp
 have hs:CellsAt w1 none (([]:List LVal).flatMap LVal.cells):=CellsAt.nil _ _;have HK1:=zH (show Calls prog 198 #[.slice none 0 0,.func (.func 199) #[] #[zp (some ⟨g.w.heap.size+1,0,none⟩)]] w1 (Gives (zb (List.any ([]:List LVal) (kindB true))) w1) from ybi none 0 ([]:List LVal) _ true w1 hs (by simp) r0 hlr);have HK2:=zH (fun w' (he:Ext w1 w')=>show Calls prog 198 #[.slice none 0 0,.func (.func 200) #[] #[]] w' (Gives (zb (List.any ([]:List LVal) noneB)) w') from ybj none 0 ([]:List LVal) w' (hs.ext he) (by simp));have HRF:=zH (fun w' (he:Ext w1 w')=>(he.cell hlr).trans r0);generalize List.any ([]:List LVal) (kindB true)=kb1 at *;generalize List.any ([]:List LVal) noneB=nb1 at *;clear hs hW;go_wp2_with fail;refine HK1.o.mono ?_;rintro e w2 ⟨rfl,X2,rfl⟩;cases kb1
 · go_wp2_with fail;refine (HK2.o _ zE).mono ?_;rintro e w3 ⟨rfl,X3,rfl⟩;cases nb1
   · go_wp2_with fail;go_ret;exact Gives.mk (by rw [HV.o];rfl) (hE.o.trans zE)
   · go_wp2_with fail;go_ret;exact Gives.mk (by rw [HV.o];rfl) (hE.o.trans zE)
 · go_wp2_with fail;go_ret;exact Gives.mk (by rw [HV.o];rfl) (hE.o.trans zE)
theorem ygO (H:AcAt g t b A p) (oa ob oc on:Int) (x y:Nat):Calls prog 134 #[zp (some ⟨b,0,none⟩),.agg #[zI z6 13,zI z6 oa,zI z6 ob,zI z6 oc,zI z6 on,zc z4 x y]] g.w (Gives (zI z6 (A.operandsE ⟨13,oa,ob,oc,on,x,y⟩)) g.w):=by
 have HV:=zH (yaL (A:=A) (o:=⟨13,oa,ob,oc,on,x,y⟩) (l:=[]) (rf:=true) (so:=true) rfl rfl rfl);obtain ⟨a0,a1,a2,a3,a4,a5,a6,a7,a8,a9,a10,a11,a12,a13,a14,a15,a16,a17,a18,al⟩:=H.blk.k19;clear H;go_enter func134,ntmps134;go_upto_region 20 with fail
 obtain ⟨w1,hW⟩: ∃w1,((g.w.alloc (.cells #[zI z6 13,zI z6 oa,zI z6 ob,zI z6 oc,zI z6 on,zc z4 x y] 26)).alloc (.cells #[zb true] 4))=w1:=⟨_,rfl⟩;rw [hW];have hE:=zH (show Ext g.w w1 by rw [←hW];exact zE);have r0:w1.cell? ⟨g.w.heap.size+1,0,none⟩=some (zb true):=by rw [←hW];clear hW;go_simp
 have hlr:g.w.heap.size+1<w1.heap.size:=by rw [←hW];clear hW;go_simp
 have hs:CellsAt w1 none (([]:List LVal).flatMap LVal.cells):=CellsAt.nil _ _;have HK1:=zH (show Calls prog 198 #[.slice none 0 0,.func (.func 199) #[] #[zp (some ⟨g.w.heap.size+1,0,none⟩)]] w1 (Gives (zb (List.any ([]:List LVal) (kindB true))) w1) from ybi none 0 ([]:List LVal) _ true w1 hs (by simp) r0 hlr);have HK2:=zH (fun w' (he:Ext w1 w')=>show Calls prog 198 #[.slice none 0 0,.func (.func 200) #[] #[]] w' (Gives (zb (List.any ([]:List LVal) noneB)) w') from ybj none 0 ([]:List LVal) w' (hs.ext he) (by simp));have HRF:=zH (fun w' (he:Ext w1 w')=>(he.cell hlr).trans r0);generalize List.any ([]:List LVal) (kindB true)=kb1 at *;generalize List.any ([]:List LVal) noneB=nb1 at *;clear hs hW;go_wp2_with fail;refine HK1.o.mono ?_;rintro e w2 ⟨rfl,X2,rfl⟩;cases kb1
 · go_wp2_with fail;refine (HK2.o _ zE).mono ?_;rintro e w3 ⟨rfl,X3,rfl⟩;cases nb1
   · go_wp2_with fail;go_ret;exact Gives.mk (by rw [HV.o];rfl) (hE.o.trans zE)
   · go_wp2_with fail;go_ret;exact Gives.mk (by rw [HV.o];rfl) (hE.o.trans zE)
 · go_wp2_with fail;go_ret;exact Gives.mk (by rw [HV.o];rfl) (hE.o.trans zE)
theorem yik (H:AcAt g t b A p) (oa ob oc on:Int) (x y:Nat) (hb:0≤ob∧ob<A.locals.length):Calls prog 134 #[zp (some ⟨b,0,none⟩),.agg #[zI z6 8,zI z6 oa,zI z6 ob,zI z6 oc,zI z6 on,zc z4 x y]] g.w (Gives (zI z6 (A.operandsE ⟨8,oa,ob,oc,on,x,y⟩)) g.w):=by
 obtain ⟨kb,rfl⟩: ∃k:Nat,ob=k:=⟨(ob).toNat,zo⟩;have hkb:kb<A.locals.length:=zo;obtain ⟨q,hA,hq, -,c0,c1, -⟩:=H.r.local_ hkb;have HV:=zH (yaL (A:=A) (o:=⟨8,oa,kb,oc,on,x,y⟩) (l:=[A.loc kb]) (rf:=true) (so:=false) rfl rfl rfl);obtain ⟨a0,a1,a2,a3,a4,a5,a6,a7,a8,a9,a10,a11,a12,a13,a14,a15,a16,a17,a18,al⟩:=H.blk.k19;rw [hA] at a2;clear H hb hA;generalize A.locals.length=n at *;generalize A.loc kb=v at *;go_enter func134,ntmps134;go_upto_region 20 with fail
 obtain ⟨w1,hW⟩: ∃w1,(((g.w.alloc (.cells #[zI z6 8,zI z6 oa,zI z6 kb,zI z6 oc,zI z6 on,zc z4 x y] 26)).alloc (.cells #[zb true] 4)).alloc (.cells #[zb v.ref,zc z4 v.z.1 v.z.2] 38))=w1:=⟨_,rfl⟩;rw [hW];have hE:=zH (show Ext g.w w1 by rw [←hW];exact zE);have r0:w1.cell? ⟨g.w.heap.size+1,0,none⟩=some (zb true):=by rw [←hW];clear hW;go_simp
 have hlr:g.w.heap.size+1<w1.heap.size:=by rw [←hW];clear hW;go_simp
 have hs:CellsAt w1 (some ⟨g.w.heap.size+1+1,0,none⟩) ([v].flatMap LVal.cells):=CellsAt.mk (by rw [←hW];clear hW;go_simp) (fun i u hi=>by
  rw [←hW];clear hW;match i,hi with
  |0,hi=>injection hi with hi;subst hi;go_simp
  |1,hi=>injection hi with hi;subst hi;go_simp)
 have HK1:=zH (show Calls prog 198 #[.slice (some ⟨g.w.heap.size+1+1,0,none⟩) 1 1,.func (.func 199) #[] #[zp (some ⟨g.w.heap.size+1,0,none⟩)]] w1 (Gives (zb (List.any [v] (kindB true))) w1) from ybi (some ⟨g.w.heap.size+1+1,0,none⟩) 1 [v] _ true w1 hs (by simp) r0 hlr);have HK2:=zH (fun w' (he:Ext w1 w')=>show Calls prog 198 #[.slice (some ⟨g.w.heap.size+1+1,0,none⟩) 1 1,.func (.func 200) #[] #[]] w' (Gives (zb (List.any [v] noneB)) w') from ybj (some ⟨g.w.heap.size+1+1,0,none⟩) 1 [v] w' (hs.ext he) (by simp));have HRF:=zH (fun w' (he:Ext w1 w')=>(he.cell hlr).trans r0);generalize List.any [v] (kindB true)=kb1 at *;generalize List.any [v] noneB=nb1 at *;clear hs hW;go_wp2_with fail;refine HK1.o.mono ?_;rintro e w2 ⟨rfl,X2,rfl⟩;cases kb1
 · go_wp2_with fail;go_ret;exact Gives.mk (by rw [HV.o];rfl) (hE.o.trans zE)
 · go_wp2_with fail;go_ret;exact Gives.mk (by rw [HV.o];rfl) (hE.o.trans zE)
theorem yii (H:AcAt g t b A p) (oa ob oc on:Int) (x y:Nat) (hb:0≤oa∧oa<A.locals.length):Calls prog 134 #[zp (some ⟨b,0,none⟩),.agg #[zI z6 4,zI z6 oa,zI z6 ob,zI z6 oc,zI z6 on,zc z4 x y]] g.w (Gives (zI z6 (A.operandsE ⟨4,oa,ob,oc,on,x,y⟩)) g.w):=by
 obtain ⟨kb,rfl⟩: ∃k:Nat,oa=k:=⟨(oa).toNat,zo⟩;have hkb:kb<A.locals.length:=zo;obtain ⟨q,hA,hq, -,c0,c1, -⟩:=H.r.local_ hkb;have HV:=zH (yaL (A:=A) (o:=⟨4,kb,ob,oc,on,x,y⟩) (l:=[A.loc kb]) (rf:=true) (so:=true) rfl rfl rfl);obtain ⟨a0,a1,a2,a3,a4,a5,a6,a7,a8,a9,a10,a11,a12,a13,a14,a15,a16,a17,a18,al⟩:=H.blk.k19;rw [hA] at a2;clear H hb hA;generalize A.locals.length=n at *;generalize A.loc kb=v at *;go_enter func134,ntmps134;go_upto_region 20 with fail
 obtain ⟨w1,hW⟩: ∃w1,(((g.w.alloc (.cells #[zI z6 4,zI z6 kb,zI z6 ob,zI z6 oc,zI z6 on,zc z4 x y] 26)).alloc (.cells #[zb true] 4)).alloc (.cells #[zb v.ref,zc z4 v.z.1 v.z.2] 38))=w1:=⟨_,rfl⟩;rw [hW];have hE:=zH (show Ext g.w w1 by rw [←hW];exact zE);have r0:w1.cell? ⟨g.w.heap.size+1,0,none⟩=some (zb true):=by rw [←hW];clear hW;go_simp
 have hlr:g.w.heap.size+1<w1.heap.size:=by rw [←hW];clear hW;go_simp
 have hs:CellsAt w1 (some ⟨g.w.heap.size+1+1,0,none⟩) ([v].flatMap LVal.cells):=CellsAt.mk (by rw [←hW];clear hW;go_simp) (fun i u hi=>by
  rw [←hW];clear hW;match i,hi with
  |0,hi=>injection hi with hi;subst hi;go_simp
  |1,hi=>injection hi with hi;subst hi;go_simp)
 have HK1:=zH (show Calls prog 198 #[.slice (some ⟨g.w.heap.size+1+1,0,none⟩) 1 1,.func (.func 199) #[] #[zp (some ⟨g.w.heap.size+1,0,none⟩)]] w1 (Gives (zb (List.any [v] (kindB true))) w1) from ybi (some ⟨g.w.heap.size+1+1,0,none⟩) 1 [v] _ true w1 hs (by simp) r0 hlr);have HK2:=zH (fun w' (he:Ext w1 w')=>show Calls prog 198 #[.slice (some ⟨g.w.heap.size+1+1,0,none⟩) 1 1,.func (.func 200) #[] #[]] w' (Gives (zb (List.any [v] noneB)) w') from ybj (some ⟨g.w.heap.size+1+1,0,none⟩) 1 [v] w' (hs.ext he) (by simp));have HRF:=zH (fun w' (he:Ext w1 w')=>(he.cell hlr).trans r0);generalize List.any [v] (kindB true)=kb1 at *;generalize List.any [v] noneB=nb1 at *;clear hs hW;go_wp2_with fail;refine HK1.o.mono ?_;rintro e w2 ⟨rfl,X2,rfl⟩;cases kb1
 · go_wp2_with fail;refine (HK2.o _ zE).mono ?_;rintro e w3 ⟨rfl,X3,rfl⟩;cases nb1
   · go_wp2_with fail;go_ret;exact Gives.mk (by rw [HV.o];rfl) (hE.o.trans zE)
   · go_wp2_with fail;go_ret;exact Gives.mk (by rw [HV.o];rfl) (hE.o.trans zE)
 · go_wp2_with fail;go_ret;exact Gives.mk (by rw [HV.o];rfl) (hE.o.trans zE)
end
end Go.Proofs.YtdhjjpnajjingaaGreat
namespace Go.Proofs.YtdhjjpnajjingaaGreat
open Go Go.RowKit
def plainR (o:Option LVal):Value:=.tuple #[.agg #[zb (o.getD LVal.zero).ref,zc z4 (o.getD LVal.zero).z.1 (o.getD LVal.zero).z.2],zb o.isSome]
section
variable (g:GW) (t b:Nat) (A:AcS) (p:AcP)
theorem ylc (H:AcAt g t b A p) (oa ob oc on:Int) (x y:Nat):Calls prog 135 #[zp (some ⟨b,0,none⟩),.agg #[zI z6 13,zI z6 oa,zI z6 ob,zI z6 oc,zI z6 on,zc z4 x y]] g.w (Gives (plainR (A.plainV ⟨13,oa,ob,oc,on,x,y⟩)) g.w):=by
 have HV:=zH (show A.plainV ⟨13,oa,ob,oc,on,x,y⟩=some LVal.none from rfl);have HN:=zH (fun w'=>yas w');unfold wNone at HN;obtain ⟨a0,a1,a2,a3,a4,a5,a6,a7,a8,a9,a10,a11,a12,a13,a14,a15,a16,a17,a18,al⟩:=H.blk.k19;clear H;go_enter func135,ntmps135;go_wp2_with fail;refine (HN.o _).mono ?_;rintro e w1 ⟨rfl,X,rfl⟩;go_wp2_with fail;refine bodyPost_ret (v:=.tuple #[.agg #[zb true,zc z4 0 4607182418800017408],zb true]) (by simp [results,Tryz.results135,go_sem]) rfl ?_;exact Gives.mk (by rw [HV.o];rfl) zE
theorem ylF (H:AcAt g t b A p) (oa ob oc on:Int) (x y:Nat):Calls prog 135 #[zp (some ⟨b,0,none⟩),.agg #[zI z6 1,zI z6 oa,zI z6 ob,zI z6 oc,zI z6 on,zc z4 x y]] g.w (Gives (plainR (A.plainV ⟨1,oa,ob,oc,on,x,y⟩)) g.w):=by
 have HV:=zH (show A.plainV ⟨1,oa,ob,oc,on,x,y⟩=none from rfl);obtain ⟨a0,a1,a2,a3,a4,a5,a6,a7,a8,a9,a10,a11,a12,a13,a14,a15,a16,a17,a18,al⟩:=H.blk.k19;clear H;go_enter func135,ntmps135;go_wp2_with fail;refine bodyPost_ret (v:=.tuple #[.agg #[zb false,zc z4 0 0],zb false]) (by simp [results,Tryz.results135,go_sem]) rfl ?_;exact Gives.mk (by rw [HV.o];rfl) zE
theorem ylG (H:AcAt g t b A p) (oa ob oc on:Int) (x y:Nat):Calls prog 135 #[zp (some ⟨b,0,none⟩),.agg #[zI z6 2,zI z6 oa,zI z6 ob,zI z6 oc,zI z6 on,zc z4 x y]] g.w (Gives (plainR (A.plainV ⟨2,oa,ob,oc,on,x,y⟩)) g.w):=by
 have HV:=zH (show A.plainV ⟨2,oa,ob,oc,on,x,y⟩=none from rfl);obtain ⟨a0,a1,a2,a3,a4,a5,a6,a7,a8,a9,a10,a11,a12,a13,a14,a15,a16,a17,a18,al⟩:=H.blk.k19;clear H;go_enter func135,ntmps135;go_wp2_with fail;refine bodyPost_ret (v:=.tuple #[.agg #[zb false,zc z4 0 0],zb false]) (by simp [results,Tryz.results135,go_sem]) rfl ?_;exact Gives.mk (by rw [HV.o];rfl) zE
theorem ylH (H:AcAt g t b A p) (oa ob oc on:Int) (x y:Nat):Calls prog 135 #[zp (some ⟨b,0,none⟩),.agg #[zI z6 4,zI z6 oa,zI z6 ob,zI z6 oc,zI z6 on,zc z4 x y]] g.w (Gives (plainR (A.plainV ⟨4,oa,ob,oc,on,x,y⟩)) g.w):=by
 have HV:=zH (show A.plainV ⟨4,oa,ob,oc,on,x,y⟩=none from rfl);obtain ⟨a0,a1,a2,a3,a4,a5,a6,a7,a8,a9,a10,a11,a12,a13,a14,a15,a16,a17,a18,al⟩:=H.blk.k19;clear H;go_enter func135,ntmps135;go_wp2_with fail;refine bodyPost_ret (v:=.tuple #[.agg #[zb false,zc z4 0 0],zb false]) (by simp [results,Tryz.results135,go_sem]) rfl ?_;exact Gives.mk (by rw [HV.o];rfl) zE
theorem ylI (H:AcAt g t b A p) (oa ob oc on:Int) (x y:Nat):Calls prog 135 #[zp (some ⟨b,0,none⟩),.agg #[zI z6 7,zI z6 oa,zI z6 ob,zI z6 oc,zI z6 on,zc z4 x y]] g.w (Gives (plainR (A.plainV ⟨7,oa,ob,oc,on,x,y⟩)) g.w):=by
 have HV:=zH (show A.plainV ⟨7,oa,ob,oc,on,x,y⟩=none from rfl);obtain ⟨a0,a1,a2,a3,a4,a5,a6,a7,a8,a9,a10,a11,a12,a13,a14,a15,a16,a17,a18,al⟩:=H.blk.k19;clear H;go_enter func135,ntmps135;go_wp2_with fail;refine bodyPost_ret (v:=.tuple #[.agg #[zb false,zc z4 0 0],zb false]) (by simp [results,Tryz.results135,go_sem]) rfl ?_;exact Gives.mk (by rw [HV.o];rfl) zE
theorem ylJ (H:AcAt g t b A p) (oa ob oc on:Int) (x y:Nat):Calls prog 135 #[zp (some ⟨b,0,none⟩),.agg #[zI z6 8,zI z6 oa,zI z6 ob,zI z6 oc,zI z6 on,zc z4 x y]] g.w (Gives (plainR (A.plainV ⟨8,oa,ob,oc,on,x,y⟩)) g.w):=by
 have HV:=zH (show A.plainV ⟨8,oa,ob,oc,on,x,y⟩=none from rfl);obtain ⟨a0,a1,a2,a3,a4,a5,a6,a7,a8,a9,a10,a11,a12,a13,a14,a15,a16,a17,a18,al⟩:=H.blk.k19;clear H;go_enter func135,ntmps135;go_wp2_with fail;refine bodyPost_ret (v:=.tuple #[.agg #[zb false,zc z4 0 0],zb false]) (by simp [results,Tryz.results135,go_sem]) rfl ?_;exact Gives.mk (by rw [HV.o];rfl) zE
end
end Go.Proofs.YtdhjjpnajjingaaGreat
namespace Go.Proofs.YtdhjjpnajjingaaGreat
open Go Go.RowKit
section
variable {g:GW} {t b B k:Nat} {W:AcW} {p:AcP} {bm bs bt bp bsp bh:Nat} {cm:Cnf}
theorem yeZ [TbId] (P:AcApart t B) (H:AcIn g t B b k W p bm bs bt bp bsp bh cm) (hck:W.K.c.check=0) (oa ob oc on:Int) (x y:Nat) (hoa:0≤oa∧oa<W.a.locals.length):
 Calls prog 138 #[zp (some ⟨k,0,none⟩),.agg #[zI z6 4,zI z6 oa,zI z6 ob,zI z6 oc,zI z6 on,zc z4 x y],.func (.func 139) #[zp (some ⟨b,0,none⟩)] #[]] g.w (FindMade cm (W.a.head oa) on false (W.a.head oa) (t+2) g):=by
 have HH:=zH H;obtain ⟨own0,M0,Q0⟩:=yam g 26 [zI z6 4,zI z6 oa,zI z6 ob,zI z6 oc,zI z6 on,zc z4 x y];go_enter func138,ntmps138;go_upto_region 1 with fail
 generalize g.w.alloc (.cells #[zI z6 4,zI z6 oa,zI z6 ob,zI z6 oc,zI z6 on,zc z4 x y] 26)=w0 at *;have H0:=zH (HH.o.keep0 M0);have M0':=zH M0;obtain ⟨x0,x1,x2,x3,x4,x5,xl⟩:=Q0.k6;obtain ⟨c0,c1,c2,c3,c4,c5,c6,c7,c8,c9,c10,c11,c12,cl⟩:=H0.o.c.blk.k13;clear M0 Q0 H;have HHD:=zH (fun X=>ykE ((⟨own0,w0⟩:GW).pt X) t b W.a p oa (H0.o.pt X).a hoa);generalize W.a.head oa=hd at *;have hckm:cm.check=0:=by rw [H0.o.c.same.check];exact hck
 have HFD:=zH (fun X=>yhL cm hd on (t+2) ((⟨own0,w0⟩:GW).pt X) (H0.o.pt X).c.cnf.ok (by
  have h9:=(Cnf.check_zero hckm).2.2.1;unfold within at h9;simp only [decide_eq_true_eq] at h9;omega))
 unfold Cnf.val at HFD;go_wp2_with fail;refine yab [zT,zT,zT,zT,zT,zT,zT,zT,zT,zT,zU,zU] 2 10 ?_;intro X00;simp only [pickOps];repeat (go_big_quiet_step (exact Calls.added (HHD.o _)))
 refine wpQuiet_nil (fun X0=>?_);clear X00;refine yaf rfl zQ (fun X2=>?_);simp only [List.drop_succ_cons,List.drop_zero];go_wp2_with fail;refine (HFD.o _).mono ?_;rintro e w2 ⟨own2,bf,cf,rfl,m2,h2,hs⟩;have M2:=zH (M0'.o.trans ((Mod.pt (Mod.refl _ _) _).trans m2));have H2:=zH h2;have HS:=zH hs;clear m2 h2 hs HFD;go_wp2_with fail;go_ret;exact ⟨own2,bf,cf,rfl,M2.o,H2.o,HS.o⟩
theorem ye0 [TbId] (P:AcApart t B) (hnx:0≤W.a.next∧W.a.next≤1099511627776) (H:AcIn g t B b k W p bm bs bt bp bsp bh cm) (hck:W.K.c.check=0) (oa ob oc on:Int) (x y:Nat) (ho:opOk W.K.c ⟨13,oa,ob,oc,on,x,y⟩=true) (hoa:0≤oa∧oa<W.a.locals.length):
 Calls prog 75 #[zp (some ⟨b,0,none⟩),zp (some ⟨k,0,none⟩),.agg #[zI z6 13,zI z6 oa,zI z6 ob,zI z6 oc,zI z6 on,zc z4 x y]] g.w (Does (resV (W.laysR oa LVal.none).1) g (acT t B) (fun g'=>AcWAt g' t B b k (W.laysR oa LVal.none).2)):=by
 have HH:=zH H;have HP:=zH P;have hPt:=P.ht;have hPb:=P.hb;have hPa:=P.apart;go_enter func75,ntmps75;go_upto_region 1 with fail
 obtain ⟨own0,m0,Q0,R0⟩:=yaq g 26 40 [zI z6 13,zI z6 oa,zI z6 ob,zI z6 oc,zI z6 on,zc z4 x y] resZ;unfold resZ at m0 R0 Q0;generalize (g.w.alloc (.cells #[zI z6 13,zI z6 oa,zI z6 ob,zI z6 oc,zI z6 on,zc z4 x y] 26)).alloc (.cells #[zI z6 0,zI z6 0,zI z6 0,zb false,zc z4 0 0] 40)=w0 at *;have H0:=zH (HH.o.keep0 m0);have M0:=zH (m0.mono (S:=acT t B) zG);have Q0':=zH Q0;have R0':=zH R0;have HCK:=zH (fun X=>(show Calls prog 133 #[cm.val,.agg #[zI z6 13,zI z6 oa,zI z6 ob,zI z6 oc,zI z6 on,zc z4 x y]] (w0.patch X) (Gives (zI z6 0) (w0.patch X)) from yk7 cm oa ob oc on x y (w0.patch X) (H0.o.c.cnf.ok.ext ⟨X,rfl⟩) (by rw [HH.o.c.same.check];exact hck) (by rw [yaM HH.o.c.same];exact ho)));unfold Cnf.val at HCK;obtain ⟨c0,c1,c2,c3,c4,c5,c6,c7,c8,c9,c10,c11,c12,cl⟩:=H0.o.c.blk.k13;obtain ⟨x0,x1,x2,x3,x4,x5,xl⟩:=Q0.k6;clear m0 Q0 R0 H;refine yab [zT,zT,zT,zT,zT,zT,zT] 0 7 ?_;intro X00;simp only [pickOps];repeat (go_big_quiet_step ((go_at_call 133;exact Calls.added (HCK.o _))))
 refine wpQuiet_nil (fun X0=>?_);clear X00;refine yaa zQ (fun X0'=>?_) _;(try go_simp);obtain ⟨own1,m1⟩: ∃ownZ,Mod (fun _=>False) (⟨own0,w0⟩:GW) ⟨ownZ,w0.patch ⟨X0.blocks++X0'.blocks,X0'.drawn⟩⟩:=⟨_,Mod.pt (g:=⟨own0,w0⟩) (Mod.refl _ _) _⟩;have M1:=zH (M0.o.trans (m1.mono (S:=acT t B) zG));have H1:=zH (H0.o.keep0 m1);have Q1:=zH (Q0'.o.keep m1 id);have R1:=zH (R0'.o.keep m1 id);generalize w0.patch ⟨X0.blocks++X0'.blocks,X0'.drawn⟩=w1 at *;clear m1 M0 H0 Q0' R0' HCK;clear x0 x1 x2 x3 x4 x5 xl;clear c0 c1 c2 c3 c4 c5 c6 c7 c8 c9 c10 c11 c12 cl;obtain ⟨x0,x1,x2,x3,x4,x5,xl⟩:=Q1.o.k6;have HOP:=zH (show Calls prog 134 #[zp (some ⟨b,0,none⟩),.agg #[zI z6 13,zI z6 oa,zI z6 ob,zI z6 oc,zI z6 on,zc z4 x y]] w1 (Gives (zI z6 0) w1) from ygO ⟨own1,w1⟩ t b W.a p H1.o.a oa ob oc on x y);go_wp2_with fail;refine HOP.o.mono ?_;rintro e w2 ⟨rfl,hE⟩
 obtain ⟨own2,m2⟩: ∃ownZ,Mod (fun _=>False) (⟨own1,w1⟩:GW) ⟨ownZ,w2⟩:=by
  obtain ⟨X2,rfl⟩:=hE;exact ⟨((⟨own1,w1⟩:GW).pt X2).own,(show Mod (fun _=>False) (⟨own1,w1⟩:GW) ((⟨own1,w1⟩:GW).pt X2) from Mod.pt (Mod.refl _ _) _)⟩
 clear hE;have M2:=zH (M1.o.trans (m2.mono (S:=acT t B) zG));have H2:=zH (H1.o.keep0 m2);have Q2:=zH (Q1.o.keep m2 id);have R2:=zH (R1.o.keep m2 id);clear m2 M1 H1 Q1 R1;clear HOP;clear x0 x1 x2 x3 x4 x5 xl;have HPL:=zH (show Calls prog 135 #[zp (some ⟨b,0,none⟩),.agg #[zI z6 13,zI z6 oa,zI z6 ob,zI z6 oc,zI z6 on,zc z4 x y]] w2 (Gives (.tuple #[.agg #[zb true,zc z4 (0) (4607182418800017408)],zb true]) w2) from ylc ⟨own2,w2⟩ t b W.a p H2.o.a oa ob oc on x y);obtain ⟨x0,x1,x2,x3,x4,x5,xl⟩:=Q2.o.k6;go_wp2_with fail;refine HPL.o.mono ?_;rintro e w3 ⟨rfl,hE⟩
 obtain ⟨own3,m3⟩: ∃ownZ,Mod (fun _=>False) (⟨own2,w2⟩:GW) ⟨ownZ,w3⟩:=by
  obtain ⟨X2,rfl⟩:=hE;exact ⟨((⟨own2,w2⟩:GW).pt X2).own,(show Mod (fun _=>False) (⟨own2,w2⟩:GW) ((⟨own2,w2⟩:GW).pt X2) from Mod.pt (Mod.refl _ _) _)⟩
 clear hE;have M3:=zH (M2.o.trans (m3.mono (S:=acT t B) zG));have H3:=zH (H2.o.keep0 m3);have Q3:=zH (Q2.o.keep m3 id);have R3:=zH (R2.o.keep m3 id);clear m3 M2 H2 Q2 R2;clear HPL;clear x0 x1 x2 x3 x4 x5 xl;obtain ⟨x0,x1,x2,x3,x4,x5,xl⟩:=Q3.o.k6;go_upto_region 8 with fail
 obtain ⟨own4,m4,V4⟩:=yam ⟨own3,w3⟩ 38 [zb true,zc z4 (0) (4607182418800017408)];have m4':Mod (fun _=>False) (⟨own3,w3⟩:GW) ⟨own4,w3.alloc (.cells #[zb true,zc z4 (0) (4607182418800017408)] 38)⟩:=m4;have V4':Blk ⟨own4,w3.alloc (.cells #[zb true,zc z4 (0) (4607182418800017408)] 38)⟩ 9 w3.heap.size 38 [zb true,zc z4 (0) (4607182418800017408)]:=V4;clear m4 V4;generalize w3.alloc (.cells #[zb true,zc z4 (0) (4607182418800017408)] 38)=w4 at *;have m4:=m4';clear m4';generalize w3.heap.size=qv at *;have M4:=zH (M3.o.trans (m4.mono (S:=acT t B) zG));have H4:=zH (H3.o.keep0 m4);have Q4:=zH (Q3.o.keep m4 id);have R4:=zH (R3.o.keep m4 id);clear m4 M3 H3 Q3 R3;clear x0 x1 x2 x3 x4 x5 xl;obtain ⟨x0,x1,x2,x3,x4,x5,xl⟩:=Q4.o.k6;obtain ⟨v0,v1,vl⟩:=V4'.k2;clear V4';obtain ⟨r,hr⟩: ∃r,({ W.a with locals:=W.a.locals.set oa.toNat ⟨true,(0,4607182418800017408)⟩ }:AcS).res ⟨true,(0,4607182418800017408)⟩ 0=r:=⟨_,rfl⟩;have HRr:=zH hr
 have HLY:=zH (show Calls prog 136 #[zp (some ⟨b,0,none⟩),zI z6 oa,.agg #[zb true,zc z4 (0) (4607182418800017408)]] w4 (Does (.tuple #[.agg #[zI z6 r.op,zI z6 r.own,zI z6 r.e,zb r.v.ref,zc z4 r.v.z.1 r.v.z.2],zb true]) ⟨own4,w4⟩ (acO t) (fun g'=>AcAt g' t b _ p)) from yb5 ⟨own4,w4⟩ t b W.a p oa ⟨true,(0,4607182418800017408)⟩ r hPt H4.o.a hnx hoa hr);clear hr;go_wp2_with fail;refine HLY.o.mono ?_;rintro e w5 ⟨rfl,own5,m5,h5⟩;have M5:=zH (M4.o.trans (m5.mono (S:=acT t B) (fun x hx=>yay hx)));have H5:=zH (H4.o.own HP.o m5 h5);have R5:=zH (R4.o.keep m5 (fun h=>by unfold acO at h;omega));clear M4 H4 R4 m5 h5 HLY v0 v1 vl;clear x0 x1 x2 x3 x4 x5 xl;obtain ⟨r0,r1,r2,r3,r4,rl⟩:=R5.o.k5;have rf0:=R5.o.liv 0;have rf1:=R5.o.liv 1;have rf2:=R5.o.liv 2;have rf3:=R5.o.liv 3;have rf4:=R5.o.liv 4;go_wp2_with fail;obtain ⟨Mf,mf,Rf⟩:=yae M5.o R5.o (Nat.le_succ _) (r.op) (r.own) (r.e) (r.v.ref) (r.v.z.1) (r.v.z.2)
 generalize ((((((w5).setCell ⟨g.w.heap.size+1,0,none⟩ (zI z6 (r.op))).setCell ⟨g.w.heap.size+1,1,none⟩ (zI z6 (r.own))).setCell ⟨g.w.heap.size+1,2,none⟩ (zI z6 (r.e))).setCell ⟨g.w.heap.size+1,3,none⟩ (zb (r.v.ref))).setCell ⟨g.w.heap.size+1,4,none⟩ (zc z4 (r.v.z.1) (r.v.z.2)))=wf at *;obtain ⟨f0,f1,f2,f3,f4,fl⟩:=Rf.k5;refine bodyPost_ret (v:=.tuple #[.agg #[zI z6 (r.op),zI z6 (r.own),zI z6 (r.e),zb (r.v.ref),zc z4 (r.v.z.1) (r.v.z.2)],zb true]) (by simp [results,Tryz.results75,go_sem,f0,f1,f2,f3,f4]) rfl ?_;exact Does.of ⟨own5,wf⟩ rfl (by rw [←HRr.o];rfl) Mf ((H5.o.keep mf zo z9 z9).at_)
theorem yfs [TbId] (P:AcApart t B) (hnx:0≤W.a.next∧W.a.next≤1099511627776) (H:AcIn g t B b k W p bm bs bt bp bsp bh cm) (hck:W.K.c.check=0) (oa ob oc on:Int) (x y:Nat) (ho:opOk W.K.c ⟨1,oa,ob,oc,on,x,y⟩=true) (hsp:0≤W.K.sp.count∧W.K.sp.count≤1099511627776) (hln:W.K.sp.line.length<1000000) (r:AcR) (hok:W.asksO ⟨1,oa,ob,oc,on,x,y⟩=some r):
 Calls prog 75 #[zp (some ⟨b,0,none⟩),zp (some ⟨k,0,none⟩),.agg #[zI z6 1,zI z6 oa,zI z6 ob,zI z6 oc,zI z6 on,zc z4 x y]] g.w (Does (resV r.1) g (acT t B) (fun g'=>AcWAt g' t B b k r.2)):=by
 have HH:=zH H;have HP:=zH P;have hPt:=P.ht;have hPb:=P.hb;have hPa:=P.apart;go_enter func75,ntmps75;go_upto_region 1 with fail
 obtain ⟨own0,m0,Q0,R0⟩:=yaq g 26 40 [zI z6 1,zI z6 oa,zI z6 ob,zI z6 oc,zI z6 on,zc z4 x y] resZ;unfold resZ at m0 R0 Q0;generalize (g.w.alloc (.cells #[zI z6 1,zI z6 oa,zI z6 ob,zI z6 oc,zI z6 on,zc z4 x y] 26)).alloc (.cells #[zI z6 0,zI z6 0,zI z6 0,zb false,zc z4 0 0] 40)=w0 at *;have H0:=zH (HH.o.keep0 m0);have M0:=zH (m0.mono (S:=acT t B) zG);have Q0':=zH Q0;have R0':=zH R0;have HCK:=zH (fun X=>(show Calls prog 133 #[cm.val,.agg #[zI z6 1,zI z6 oa,zI z6 ob,zI z6 oc,zI z6 on,zc z4 x y]] (w0.patch X) (Gives (zI z6 0) (w0.patch X)) from yhg cm oa ob oc on x y (w0.patch X) (H0.o.c.cnf.ok.ext ⟨X,rfl⟩) (by rw [HH.o.c.same.check];exact hck) (by rw [yaM HH.o.c.same];exact ho)));unfold Cnf.val at HCK;obtain ⟨c0,c1,c2,c3,c4,c5,c6,c7,c8,c9,c10,c11,c12,cl⟩:=H0.o.c.blk.k13;obtain ⟨x0,x1,x2,x3,x4,x5,xl⟩:=Q0.k6;clear m0 Q0 R0 H;refine yab [zT,zT,zT,zT,zT,zT,zT] 0 7 ?_;intro X00;simp only [pickOps];repeat (go_big_quiet_step ((go_at_call 133;exact Calls.added (HCK.o _))))
 refine wpQuiet_nil (fun X0=>?_);clear X00;refine yaa zQ (fun X0'=>?_) _;(try go_simp);obtain ⟨own1,m1⟩: ∃ownZ,Mod (fun _=>False) (⟨own0,w0⟩:GW) ⟨ownZ,w0.patch ⟨X0.blocks++X0'.blocks,X0'.drawn⟩⟩:=⟨_,Mod.pt (g:=⟨own0,w0⟩) (Mod.refl _ _) _⟩;have M1:=zH (M0.o.trans (m1.mono (S:=acT t B) zG));have H1:=zH (H0.o.keep0 m1);have Q1:=zH (Q0'.o.keep m1 id);have R1:=zH (R0'.o.keep m1 id);generalize w0.patch ⟨X0.blocks++X0'.blocks,X0'.drawn⟩=w1 at *;clear m1 M0 H0 Q0' R0' HCK;clear x0 x1 x2 x3 x4 x5 xl;clear c0 c1 c2 c3 c4 c5 c6 c7 c8 c9 c10 c11 c12 cl;obtain ⟨x0,x1,x2,x3,x4,x5,xl⟩:=Q1.o.k6;have HOP:=zH (show Calls prog 134 #[zp (some ⟨b,0,none⟩),.agg #[zI z6 1,zI z6 oa,zI z6 ob,zI z6 oc,zI z6 on,zc z4 x y]] w1 (Gives (zI z6 0) w1) from yig ⟨own1,w1⟩ t b W.a p H1.o.a oa ob oc on x y);go_wp2_with fail;refine HOP.o.mono ?_;rintro e w2 ⟨rfl,hE⟩
 obtain ⟨own2,m2⟩: ∃ownZ,Mod (fun _=>False) (⟨own1,w1⟩:GW) ⟨ownZ,w2⟩:=by
  obtain ⟨X2,rfl⟩:=hE;exact ⟨((⟨own1,w1⟩:GW).pt X2).own,(show Mod (fun _=>False) (⟨own1,w1⟩:GW) ((⟨own1,w1⟩:GW).pt X2) from Mod.pt (Mod.refl _ _) _)⟩
 clear hE;have M2:=zH (M1.o.trans (m2.mono (S:=acT t B) zG));have H2:=zH (H1.o.keep0 m2);have Q2:=zH (Q1.o.keep m2 id);have R2:=zH (R1.o.keep m2 id);clear m2 M1 H1 Q1 R1;clear HOP;clear x0 x1 x2 x3 x4 x5 xl;have HPL:=zH (show Calls prog 135 #[zp (some ⟨b,0,none⟩),.agg #[zI z6 1,zI z6 oa,zI z6 ob,zI z6 oc,zI z6 on,zc z4 x y]] w2 (Gives (.tuple #[.agg #[zb false,zc z4 (0) (0)],zb false]) w2) from ylF ⟨own2,w2⟩ t b W.a p H2.o.a oa ob oc on x y);obtain ⟨x0,x1,x2,x3,x4,x5,xl⟩:=Q2.o.k6;go_wp2_with fail;refine HPL.o.mono ?_;rintro e w3 ⟨rfl,hE⟩
 obtain ⟨own3,m3⟩: ∃ownZ,Mod (fun _=>False) (⟨own2,w2⟩:GW) ⟨ownZ,w3⟩:=by
  obtain ⟨X2,rfl⟩:=hE;exact ⟨((⟨own2,w2⟩:GW).pt X2).own,(show Mod (fun _=>False) (⟨own2,w2⟩:GW) ((⟨own2,w2⟩:GW).pt X2) from Mod.pt (Mod.refl _ _) _)⟩
 clear hE;have M3:=zH (M2.o.trans (m3.mono (S:=acT t B) zG));have H3:=zH (H2.o.keep0 m3);have Q3:=zH (Q2.o.keep m3 id);have R3:=zH (R2.o.keep m3 id);clear m3 M2 H2 Q2 R2;clear HPL;clear x0 x1 x2 x3 x4 x5 xl;obtain ⟨x0,x1,x2,x3,x4,x5,xl⟩:=Q3.o.k6;go_upto_region 9 with fail
 obtain ⟨own4,m4,V4⟩:=yam ⟨own3,w3⟩ 38 [zb false,zc z4 (0) (0)];have m4':Mod (fun _=>False) (⟨own3,w3⟩:GW) ⟨own4,w3.alloc (.cells #[zb false,zc z4 (0) (0)] 38)⟩:=m4;have V4':Blk ⟨own4,w3.alloc (.cells #[zb false,zc z4 (0) (0)] 38)⟩ 9 w3.heap.size 38 [zb false,zc z4 (0) (0)]:=V4;clear m4 V4;generalize w3.alloc (.cells #[zb false,zc z4 (0) (0)] 38)=w4 at *;have m4:=m4';clear m4';generalize w3.heap.size=qv at *;have M4:=zH (M3.o.trans (m4.mono (S:=acT t B) zG));have H4:=zH (H3.o.keep0 m4);have Q4:=zH (Q3.o.keep m4 id);have R4:=zH (R3.o.keep m4 id);clear m4 M3 H3 Q3 R3;clear x0 x1 x2 x3 x4 x5 xl;obtain ⟨x0,x1,x2,x3,x4,x5,xl⟩:=Q4.o.k6;clear V4';obtain ⟨⟨rr,rb⟩,rW⟩:=r
 have HAK:=zH (show Calls prog 137 #[zp (some ⟨b,0,none⟩),zp (some ⟨k,0,none⟩),.agg #[zI z6 1,zI z6 oa,zI z6 ob,zI z6 oc,zI z6 on,zc z4 x y]] w4 (Does (.tuple #[.agg #[zI z6 rr.op,zI z6 rr.own,zI z6 rr.e,zb rr.v.ref,zc z4 rr.v.z.1 rr.v.z.2],zb rb]) ⟨own4,w4⟩ (acT t B) (fun g'=>AcWAt g' t B b k rW)) from yhk (g:=⟨own4,w4⟩) P H4.o oa ob oc on x y ho hck hsp hln ((rr,rb),rW) hok);go_wp2_with fail;refine HAK.o.mono ?_;rintro e w5 ⟨rfl,own5,m5,h5⟩;have M5:=zH (M4.o.trans m5);have H5:=zH h5;have R5:=zH (R4.o.keep m5 (fun h=>by unfold acT at h;omega));clear M4 H4 R4 m5 h5 HAK;clear x0 x1 x2 x3 x4 x5 xl;obtain ⟨r0,r1,r2,r3,r4,rl⟩:=R5.o.k5;have rf0:=R5.o.liv 0;have rf1:=R5.o.liv 1;have rf2:=R5.o.liv 2;have rf3:=R5.o.liv 3;have rf4:=R5.o.liv 4;go_wp2_with fail;obtain ⟨Mf,mf,Rf⟩:=yae M5.o R5.o (Nat.le_succ _) (rr.op) (rr.own) (rr.e) (rr.v.ref) (rr.v.z.1) (rr.v.z.2)
 generalize ((((((w5).setCell ⟨g.w.heap.size+1,0,none⟩ (zI z6 (rr.op))).setCell ⟨g.w.heap.size+1,1,none⟩ (zI z6 (rr.own))).setCell ⟨g.w.heap.size+1,2,none⟩ (zI z6 (rr.e))).setCell ⟨g.w.heap.size+1,3,none⟩ (zb (rr.v.ref))).setCell ⟨g.w.heap.size+1,4,none⟩ (zc z4 (rr.v.z.1) (rr.v.z.2)))=wf at *;obtain ⟨f0,f1,f2,f3,f4,fl⟩:=Rf.k5;refine bodyPost_ret (v:=.tuple #[.agg #[zI z6 (rr.op),zI z6 (rr.own),zI z6 (rr.e),zb (rr.v.ref),zc z4 (rr.v.z.1) (rr.v.z.2)],zb rb]) (by simp [results,Tryz.results75,go_sem,f0,f1,f2,f3,f4]) rfl ?_;obtain ⟨p5,bm5,bs5,bt5,bp5,bsp5,bh5,cm5,H6⟩:=H5.o;exact Does.of ⟨own5,wf⟩ rfl rfl Mf ((H6.keep mf zo z9 z9).at_)
theorem yc0 [TbId] (P:AcApart t B) (hmc:0≤W.K.mem.count∧W.K.mem.count≤1099511627776) (hnx:0≤W.a.next∧W.a.next≤1099511627776) (H:AcIn g t B b k W p bm bs bt bp bsp bh cm) (ok oa ob oc on:Int) (x y:Nat) (hob:0≤ob∧ob<W.a.locals.length) (r:AcR) (h:W.finds ⟨ok,oa,ob,oc,on,x,y⟩=some r):
 Calls prog 76 #[zp (some ⟨b,0,none⟩),zp (some ⟨k,0,none⟩),.agg #[zI z6 ok,zI z6 oa,zI z6 ob,zI z6 oc,zI z6 on,zc z4 x y]] g.w (Does (resV r.1) g (acT t B) (fun g'=>AcWAt g' t B b k r.2)):=by
 unfold AcW.finds at h;cases hF:W.a.f with
 |none=>rw [hF] at h;cases h
 |some F=>
  rw [hF] at h;simp only at h;split at h
  case isTrue hc=>
   cases hx:F.stepO W.K.mem with
   |none=>rw [hx] at h;cases h
   |some q=>
    obtain ⟨u,F',m'⟩:=q;rw [hx] at h;injection h with h;exact yiN P hmc hnx H ok oa ob oc on x y hob F hF ⟨hc.1,hc.2.1⟩ hc.2.2 u F' m' hx r h
  case isFalse=>cases h
end
end Go.Proofs.YtdhjjpnajjingaaGreat
namespace Go.Proofs.YtdhjjpnajjingaaGreat
open Go Go.RowKit
section
variable {g:GW} {t b B k:Nat} {W:AcW} {p:AcP} {bm bs bt bp bsp bh:Nat} {cm:Cnf}
theorem Cnf.Same.thru {c d e:Cnf} (h:c.Same d) (h2:d.Same e):c.Same e:=by
 obtain ⟨a1,a2,a3,a4,a5,a6,a7,a8,a9⟩:=h;obtain ⟨b1,b2,b3,b4,b5,b6,b7,b8,b9⟩:=h2;exact ⟨a1.trans b1,a2.trans b2,a3.trans b3,a4.trans b4,a5.trans b5,a6.trans b6,a7.trans b7,a8.trans b8,a9.trans b9⟩
def AcW.start4 (W:AcW) (o:Opr):Option AcR:=if W.a.operandsE o≠0 then some (W.fails (W.a.operandsE o)) else (W.withA { W.a with f:=some (W.prog o) }).finds o
theorem yfu [TbId] (P:AcApart t B) (hmc:0≤W.K.mem.count∧W.K.mem.count≤1099511627776) (hnx:0≤W.a.next∧W.a.next≤1099511627776) (H:AcIn g t B b k W p bm bs bt bp bsp bh cm) (hck:W.K.c.check=0) (oa ob oc on:Int) (x y:Nat) (ho:opOk W.K.c ⟨4,oa,ob,oc,on,x,y⟩=true) (hoa:0≤oa∧oa<W.a.locals.length) (hob:0≤ob∧ob<W.a.locals.length) (r:AcR) (hok:W.start4 ⟨4,oa,ob,oc,on,x,y⟩=some r):
 Calls prog 75 #[zp (some ⟨b,0,none⟩),zp (some ⟨k,0,none⟩),.agg #[zI z6 4,zI z6 oa,zI z6 ob,zI z6 oc,zI z6 on,zc z4 x y]] g.w (Does (resV r.1) g (acT t B) (fun g'=>AcWAt g' t B b k r.2)):=by
 obtain ⟨oe,hoe⟩: ∃q,W.a.operandsE ⟨4,oa,ob,oc,on,x,y⟩=q:=⟨_,rfl⟩;unfold AcW.start4 at hok;rw [hoe] at hok;have HH:=zH H;have HP:=zH P;have hPt:=P.ht;have hPb:=P.hb;have hPa:=P.apart;go_enter func75,ntmps75;go_upto_region 1 with fail
 obtain ⟨own0,m0,Q0,R0⟩:=yaq g 26 40 [zI z6 4,zI z6 oa,zI z6 ob,zI z6 oc,zI z6 on,zc z4 x y] resZ;unfold resZ at m0 R0 Q0;generalize (g.w.alloc (.cells #[zI z6 4,zI z6 oa,zI z6 ob,zI z6 oc,zI z6 on,zc z4 x y] 26)).alloc (.cells #[zI z6 0,zI z6 0,zI z6 0,zb false,zc z4 0 0] 40)=w0 at *;have H0:=zH (HH.o.keep0 m0);have M0:=zH (m0.mono (S:=acT t B) zG);have Q0':=zH Q0;have R0':=zH R0;have HCK:=zH (fun X=>(show Calls prog 133 #[cm.val,.agg #[zI z6 4,zI z6 oa,zI z6 ob,zI z6 oc,zI z6 on,zc z4 x y]] (w0.patch X) (Gives (zI z6 0) (w0.patch X)) from ylC cm oa ob oc on x y (w0.patch X) (H0.o.c.cnf.ok.ext ⟨X,rfl⟩) (by rw [HH.o.c.same.check];exact hck) (by rw [yaM HH.o.c.same];exact ho)));unfold Cnf.val at HCK;obtain ⟨c0,c1,c2,c3,c4,c5,c6,c7,c8,c9,c10,c11,c12,cl⟩:=H0.o.c.blk.k13;obtain ⟨x0,x1,x2,x3,x4,x5,xl⟩:=Q0.k6;clear m0 Q0 R0 H;refine yab [zT,zT,zT,zT,zT,zT,zT] 0 7 ?_;intro X00;simp only [pickOps];repeat (go_big_quiet_step ((go_at_call 133;exact Calls.added (HCK.o _))))
 refine wpQuiet_nil (fun X0=>?_);clear X00;refine yaa zQ (fun X0'=>?_) _;(try go_simp);obtain ⟨own1,m1⟩: ∃ownZ,Mod (fun _=>False) (⟨own0,w0⟩:GW) ⟨ownZ,w0.patch ⟨X0.blocks++X0'.blocks,X0'.drawn⟩⟩:=⟨_,Mod.pt (g:=⟨own0,w0⟩) (Mod.refl _ _) _⟩;have M1:=zH (M0.o.trans (m1.mono (S:=acT t B) zG));have H1:=zH (H0.o.keep0 m1);have Q1:=zH (Q0'.o.keep m1 id);have R1:=zH (R0'.o.keep m1 id);generalize w0.patch ⟨X0.blocks++X0'.blocks,X0'.drawn⟩=w1 at *;clear m1 M0 H0 Q0' R0' HCK;clear x0 x1 x2 x3 x4 x5 xl;clear c0 c1 c2 c3 c4 c5 c6 c7 c8 c9 c10 c11 c12 cl;obtain ⟨x0,x1,x2,x3,x4,x5,xl⟩:=Q1.o.k6;have HOP:=zH (show Calls prog 134 #[zp (some ⟨b,0,none⟩),.agg #[zI z6 4,zI z6 oa,zI z6 ob,zI z6 oc,zI z6 on,zc z4 x y]] w1 (Gives (zI z6 oe) w1) from by rw [←hoe];exact yii ⟨own1,w1⟩ t b W.a p H1.o.a oa ob oc on x y hoa);clear hoe;by_cases he:oe=0
 case neg=>
  rw [if_pos he] at hok;injection hok with hok;have hz:(oe !=0)=true:=by simp [he]
  go_wp2_with fail;refine HOP.o.mono ?_;rintro e w2 ⟨rfl,hE⟩
  obtain ⟨own2,m2⟩: ∃ownZ,Mod (fun _=>False) (⟨own1,w1⟩:GW) ⟨ownZ,w2⟩:=by
   obtain ⟨X2,rfl⟩:=hE;exact ⟨((⟨own1,w1⟩:GW).pt X2).own,(show Mod (fun _=>False) (⟨own1,w1⟩:GW) ((⟨own1,w1⟩:GW).pt X2) from Mod.pt (Mod.refl _ _) _)⟩
  clear hE;have M2:=zH (M1.o.trans (m2.mono (S:=acT t B) zG));have H2:=zH (H1.o.keep0 m2);have Q2:=zH (Q1.o.keep m2 id);have R2:=zH (R1.o.keep m2 id);clear m2 M1 H1 Q1 R1;clear HOP he;clear x0 x1 x2 x3 x4 x5 xl;obtain ⟨rr,hr⟩: ∃r,W.a.res LVal.zero oe=r:=⟨_,rfl⟩;have HFL:=zH (show Calls prog 85 #[zp (some ⟨b,0,none⟩),zI z6 oe] w2 (Does (.tuple #[.agg #[zI z6 rr.op,zI z6 rr.own,zI z6 rr.e,zb rr.v.ref,zc z4 rr.v.z.1 rr.v.z.2],zb true]) ⟨own2,w2⟩ (acO t) (fun g'=>AcAt g' t b _ p)) from ya6 ⟨own2,w2⟩ t b _ p oe rr hPt H2.o.a hnx hr);have HRr:=zH hr;clear hr;go_wp2_with fail;refine HFL.o.mono ?_;rintro e w3 ⟨rfl,own3,m3,h3⟩;have M3:=zH (M2.o.trans (m3.mono (S:=acT t B) (fun x hx=>yay hx)));have H3:=zH (H2.o.own HP.o m3 h3);have R3:=zH (R2.o.keep m3 (fun h=>by unfold acO at h;omega));clear M2 H2 R2 m3 h3 HFL;obtain ⟨r0,r1,r2,r3,r4,rl⟩:=R3.o.k5;have rf0:=R3.o.liv 0;have rf1:=R3.o.liv 1;have rf2:=R3.o.liv 2;have rf3:=R3.o.liv 3;have rf4:=R3.o.liv 4;go_wp2_with fail;obtain ⟨Mf,mf,Rf⟩:=yae M3.o R3.o (Nat.le_succ _) (rr.op) (rr.own) (rr.e) (rr.v.ref) (rr.v.z.1) (rr.v.z.2)
  generalize ((((((w3).setCell ⟨g.w.heap.size+1,0,none⟩ (zI z6 (rr.op))).setCell ⟨g.w.heap.size+1,1,none⟩ (zI z6 (rr.own))).setCell ⟨g.w.heap.size+1,2,none⟩ (zI z6 (rr.e))).setCell ⟨g.w.heap.size+1,3,none⟩ (zb (rr.v.ref))).setCell ⟨g.w.heap.size+1,4,none⟩ (zc z4 (rr.v.z.1) (rr.v.z.2)))=wf at *;obtain ⟨f0,f1,f2,f3,f4,fl⟩:=Rf.k5;refine bodyPost_ret (v:=.tuple #[.agg #[zI z6 (rr.op),zI z6 (rr.own),zI z6 (rr.e),zb (rr.v.ref),zc z4 (rr.v.z.1) (rr.v.z.2)],zb true]) (by simp [results,Tryz.results75,go_sem,f0,f1,f2,f3,f4]) rfl ?_;exact Does.of ⟨own3,wf⟩ rfl (by rw [←hok, ←HRr.o];rfl) Mf (by rw [←hok];exact (H3.o.keep mf zo z9 z9).at_)
 rw [if_neg (by rw [he];exact fun h=>h rfl)] at hok;subst he;go_wp2_with fail;refine HOP.o.mono ?_;rintro e w2 ⟨rfl,hE⟩
 obtain ⟨own2,m2⟩: ∃ownZ,Mod (fun _=>False) (⟨own1,w1⟩:GW) ⟨ownZ,w2⟩:=by
  obtain ⟨X2,rfl⟩:=hE;exact ⟨((⟨own1,w1⟩:GW).pt X2).own,(show Mod (fun _=>False) (⟨own1,w1⟩:GW) ((⟨own1,w1⟩:GW).pt X2) from Mod.pt (Mod.refl _ _) _)⟩
 clear hE;have M2:=zH (M1.o.trans (m2.mono (S:=acT t B) zG));have H2:=zH (H1.o.keep0 m2);have Q2:=zH (Q1.o.keep m2 id);have R2:=zH (R1.o.keep m2 id);clear m2 M1 H1 Q1 R1;clear HOP;clear x0 x1 x2 x3 x4 x5 xl;have HPL:=zH (show Calls prog 135 #[zp (some ⟨b,0,none⟩),.agg #[zI z6 4,zI z6 oa,zI z6 ob,zI z6 oc,zI z6 on,zc z4 x y]] w2 (Gives (.tuple #[.agg #[zb false,zc z4 (0) (0)],zb false]) w2) from ylH ⟨own2,w2⟩ t b W.a p H2.o.a oa ob oc on x y);obtain ⟨x0,x1,x2,x3,x4,x5,xl⟩:=Q2.o.k6;go_wp2_with fail;refine HPL.o.mono ?_;rintro e w3 ⟨rfl,hE⟩
 obtain ⟨own3,m3⟩: ∃ownZ,Mod (fun _=>False) (⟨own2,w2⟩:GW) ⟨ownZ,w3⟩:=by
  obtain ⟨X2,rfl⟩:=hE;exact ⟨((⟨own2,w2⟩:GW).pt X2).own,(show Mod (fun _=>False) (⟨own2,w2⟩:GW) ((⟨own2,w2⟩:GW).pt X2) from Mod.pt (Mod.refl _ _) _)⟩
 clear hE;have M3:=zH (M2.o.trans (m3.mono (S:=acT t B) zG));have H3:=zH (H2.o.keep0 m3);have Q3:=zH (Q2.o.keep m3 id);have R3:=zH (R2.o.keep m3 id);clear m3 M2 H2 Q2 R2;clear HPL;clear x0 x1 x2 x3 x4 x5 xl;obtain ⟨x0,x1,x2,x3,x4,x5,xl⟩:=Q3.o.k6;go_upto_region 9 with fail
 obtain ⟨own4,m4,V4⟩:=yam ⟨own3,w3⟩ 38 [zb false,zc z4 (0) (0)];have m4':Mod (fun _=>False) (⟨own3,w3⟩:GW) ⟨own4,w3.alloc (.cells #[zb false,zc z4 (0) (0)] 38)⟩:=m4;have V4':Blk ⟨own4,w3.alloc (.cells #[zb false,zc z4 (0) (0)] 38)⟩ 9 w3.heap.size 38 [zb false,zc z4 (0) (0)]:=V4;clear m4 V4;generalize w3.alloc (.cells #[zb false,zc z4 (0) (0)] 38)=w4 at *;have m4:=m4';clear m4';generalize w3.heap.size=qv at *;have M4:=zH (M3.o.trans (m4.mono (S:=acT t B) zG));have H4:=zH (H3.o.keep0 m4);have Q4:=zH (Q3.o.keep m4 id);have R4:=zH (R3.o.keep m4 id);clear m4 M3 H3 Q3 R3;clear x0 x1 x2 x3 x4 x5 xl;obtain ⟨x0,x1,x2,x3,x4,x5,xl⟩:=Q4.o.k6;clear V4';have HPG:=zH (show Calls prog 138 #[zp (some ⟨k,0,none⟩),.agg #[zI z6 4,zI z6 oa,zI z6 ob,zI z6 oc,zI z6 on,zc z4 x y],.func (.func 139) #[zp (some ⟨b,0,none⟩)] #[]] w4 (FindMade cm (W.a.head oa) on false (W.a.head oa) (t+2) ⟨own4,w4⟩) from yeZ (g:=⟨own4,w4⟩) P H4.o hck oa ob oc on x y hoa);have HPR:=zH (show W.prog ⟨4,oa,ob,oc,on,x,y⟩=FindS.fresh W.K.c (W.a.head oa) on false (W.a.head oa) from rfl)
 rw [HPR.o] at hok;generalize W.a.head oa=hd at *;go_wp2_with fail;refine HPG.o.mono ?_;rintro e w5 ⟨own5,bf,cf,rfl,m5,h5,hs⟩;have M5:=zH (M4.o.trans (m5.mono (S:=acT t B) zG));have H5:=zH (H4.o.keep0 m5);have Q5:=zH (Q4.o.keep m5 id);have R5:=zH (R4.o.keep m5 id);clear m5 M4 H4 Q4 R4;have HF5:=zH h5;have HS5:=zH hs;clear h5 hs HPG;clear x0 x1 x2 x3 x4 x5 xl
 have r6:AcRows ⟨own5,w5⟩ t { W.a with f:=some (FindS.fresh W.K.c hd on false hd) } { p with fp:=some ⟨bf,0,none⟩ }:=by
  obtain ⟨r1,r2,r3,r4,r5,r6,r7,r8,r9,r10,r11,r12⟩:=H5.o.a.r
  exact ⟨r1,r2,r3,r4,r5,(fun h=>by cases h),(fun S hS=>by
   injection hS with hS;subst hS;exact ⟨bf,cf,rfl,Cnf.Same.thru HS5.o H5.o.c.same,HF5.o⟩),r8,r9,r10,r11,r12⟩
 have H6:=zH (H5.o.turn (A':={ W.a with f:=some (FindS.fresh W.K.c hd on false hd) }) (p':={ p with fp:=some ⟨bf,0,none⟩ }) HP.o (g':=⟨own5,w5.setCell ⟨b,12,none⟩ (zp (some ⟨bf,0,none⟩))⟩) (Mod.st (Mod.refl _ _) H5.o.a.blk.own) (H5.o.a.blk.set 12 (zp (some ⟨bf,0,none⟩))) r6);have m6:Mod (fun x=>x=t) (⟨own5,w5⟩:GW) ⟨own5,w5.setCell ⟨b,12,none⟩ (zp (some ⟨bf,0,none⟩))⟩:=Mod.st (Mod.refl _ _) H5.o.a.blk.own;have M6:=zH (M5.o.trans (m6.mono (S:=acT t B) (fun x hx=>yaG hx)));have R6:=zH (R5.o.keep m6 zo);have Q6:=zH (Q5.o.keep m6 zo);obtain ⟨a0,a1,a2,a3,a4,a5,a6,a7,a8,a9,a10,a11,a12,a13,a14,a15,a16,a17,a18,al⟩:=H5.o.a.blk.k19;have af12:=H5.o.a.blk.liv 12;go_upto_region 18 with fail
 generalize w5.setCell ⟨b,12,none⟩ (zp (some ⟨bf,0,none⟩))=w6 at *;clear m6 M5 H5 R5 Q5 r6 HF5 HS5 af12;clear a0 a1 a2 a3 a4 a5 a6 a7 a8 a9 a10 a11 a12 a13 a14 a15 a16 a17 a18 al;obtain ⟨⟨rr,rb⟩,rW⟩:=r;have HFN:=zH (show Calls prog 76 #[zp (some ⟨b,0,none⟩),zp (some ⟨k,0,none⟩),.agg #[zI z6 4,zI z6 oa,zI z6 ob,zI z6 oc,zI z6 on,zc z4 x y]] w6 (Does (.tuple #[.agg #[zI z6 rr.op,zI z6 rr.own,zI z6 rr.e,zb rr.v.ref,zc z4 rr.v.z.1 rr.v.z.2],zb rb]) ⟨own5,w6⟩ (acT t B) (fun g'=>AcWAt g' t B b k rW)) from yc0 (g:=⟨own5,w6⟩) (W:=W.withA { W.a with f:=some (FindS.fresh W.K.c hd on false hd) }) P hmc hnx H6.o 4 oa ob oc on x y hob ((rr,rb),rW) hok);obtain ⟨x0,x1,x2,x3,x4,x5,xl⟩:=Q6.o.k6;go_wp2_with fail;refine HFN.o.mono ?_;rintro e w7 ⟨rfl,own7,m7,h7⟩;have M7:=zH (M6.o.trans m7);have H7:=zH h7;have R7:=zH (R6.o.keep m7 (fun h=>by unfold acT at h;omega));clear M6 H6 R6 m7 h7 HFN;clear x0 x1 x2 x3 x4 x5 xl;obtain ⟨r0,r1,r2,r3,r4,rl⟩:=R7.o.k5;have rf0:=R7.o.liv 0;have rf1:=R7.o.liv 1;have rf2:=R7.o.liv 2;have rf3:=R7.o.liv 3;have rf4:=R7.o.liv 4;go_wp2_with fail
 obtain ⟨Mf,mf,Rf⟩:=yae M7.o R7.o (Nat.le_succ _) (rr.op) (rr.own) (rr.e) (rr.v.ref) (rr.v.z.1) (rr.v.z.2);generalize ((((((w7).setCell ⟨g.w.heap.size+1,0,none⟩ (zI z6 (rr.op))).setCell ⟨g.w.heap.size+1,1,none⟩ (zI z6 (rr.own))).setCell ⟨g.w.heap.size+1,2,none⟩ (zI z6 (rr.e))).setCell ⟨g.w.heap.size+1,3,none⟩ (zb (rr.v.ref))).setCell ⟨g.w.heap.size+1,4,none⟩ (zc z4 (rr.v.z.1) (rr.v.z.2)))=wf at *;obtain ⟨f0,f1,f2,f3,f4,fl⟩:=Rf.k5;refine bodyPost_ret (v:=.tuple #[.agg #[zI z6 (rr.op),zI z6 (rr.own),zI z6 (rr.e),zb (rr.v.ref),zc z4 (rr.v.z.1) (rr.v.z.2)],zb rb]) (by simp [results,Tryz.results75,go_sem,f0,f1,f2,f3,f4]) rfl ?_;obtain ⟨p5,bm5,bs5,bt5,bp5,bsp5,bh5,cm5,h8⟩:=H7.o;exact Does.of ⟨own7,wf⟩ rfl rfl Mf ((h8.keep mf zo z9 z9).at_)
end
end Go.Proofs.YtdhjjpnajjingaaGreat
namespace Go.Proofs.YtdhjjpnajjingaaGreat
open Go Go.RowKit
theorem TabS.born_yes {T:TabS} {k:Nat} {o:One} (ho:T.l[k]?=some o) (h2:T.state k=2) (hh:T.head k=false):T.born k=⟨T.l.set k ⟨o.state,true,o.sense⟩⟩:=by
 unfold TabS.born;rw [h2,hh,if_pos zd,Int.toNat_natCast];congr 1
 apply List.ext_getElem?;intro i;have hk:=(List.getElem?_eq_some_iff.1 ho).1;rw [List.getElem?_modify,List.getElem?_set];by_cases hi:k=i
 · subst hi;rw [if_pos rfl,if_pos hk,ho];simp
 · simp [hi]
theorem TabAt.borned {g:GW} {t b r c k:Nat} {T:TabS} {o:One} (h:TabAt g t b T) (hk:k<T.l.length) (ho:T.l[k]?=some o)
 (hb:Blk g t b 109 [.slice (some ⟨r,0,none⟩) T.l.length c,zI z6 (T.cnt 0),zI z6 (T.cnt 1),zI z6 (T.cnt 2)])
 (hr:Row g t 265 3 (.slice (some ⟨r,0,none⟩) T.l.length c) T.l.length (T.l.flatMap One.cells)) (hne:r≠b):
 TabAt ⟨g.own,g.w.setCell ⟨r,k*3+1,none⟩ (zb true)⟩ t b ⟨T.l.set k ⟨o.state,true,o.sense⟩⟩:=by
 refine ⟨⟨some ⟨r,0,none⟩,c,?_,?_⟩,by simpa using h.len,fun u hu=>?_⟩
 · simp only [List.length_set];rw [TabS.cnt_set ho,TabS.cnt_set ho,TabS.cnt_set ho];have:=hb.setOther (k*3+1) (zb true) hne;simpa using this
 · simp only [List.length_set];have:=hr.store (k*3+1) (zb true);rw [ycG _ _ hk];obtain ⟨st,hd,se⟩:=o;have e0:(T.l.flatMap One.cells)[k*3]?=some (zI z6 st):=yaP One.cells_len T.l k 0 _ ho zo;have e2:(T.l.flatMap One.cells)[k*3+2]?=some (zb se):=yaP One.cells_len T.l k 2 _ ho zo;rw [show (((T.l.flatMap One.cells).set (k*3) (zI z6 st)).set (k*3+1) (zb true)).set (k*3+2) (zb se)=(T.l.flatMap One.cells).set (k*3+1) (zb true) from ?_]
   · exact this
   · apply List.ext_getElem?;intro i;have l2:=(List.getElem?_eq_some_iff.1 e2).1;have l0:=(List.getElem?_eq_some_iff.1 e0).1;by_cases h2:k*3+2=i
     · subst h2;rw [List.getElem?_set_self (by rw [List.length_set,List.length_set];exact l2),List.getElem?_set_ne zo,e2]
     · rw [List.getElem?_set_ne h2];by_cases h1:k*3+1=i
       · subst h1;rw [List.getElem?_set_self (by rw [List.length_set];omega),List.getElem?_set_self zo]
       · rw [List.getElem?_set_ne h1,List.getElem?_set_ne h1];by_cases h0:k*3=i
         · subst h0;rw [List.getElem?_set_self l0,e0]
         · rw [List.getElem?_set_ne h0]
 · rcases List.mem_or_eq_of_mem_set hu with hu|rfl
   · exact h.st u hu
   · exact h.st o (List.mem_of_getElem? ho)
theorem yll (g:GW) (t b:Nat) (i:Int) (T:TabS) (h:TabAt g t b T) (hst:(T.state i==2&& !T.head i)=true):
 Calls prog 213 #[zp (some ⟨b,0,none⟩),zI z6 i] g.w (Does (zb true) g (fun x=>x=t) (fun g'=>TabAt g' t b (T.born i))):=by
 have HS:=zH (ybu g t b i T h);rw [Bool.and_eq_true] at hst;have e2:T.state i=2:=by simpa using hst.1
 have eh:T.head i=false:=by simpa using hst.2
 cases hin:inB i T.l.length
 · rw [show T.state i=0 by unfold TabS.state;rw [TabS.at_out hin];rfl] at e2;cases e2
 obtain ⟨k,rfl,hk⟩:=yap hin;have hz:((T.state k:Int) !=2)=false:=by rw [e2];rfl
 obtain ⟨r,c,o,ho,h2,hb,hr,hrl, -,k1,k2,kf,hne⟩:=h.one hk;have HM:=zH (TabS.born_yes ho e2 eh);have HOR:=zH (hr.own r rfl);have H:=zH (h.borned hk ho hb hr (fun e=>hne e.symm))
 have eo:o.head=false:=by
  have:T.head k=o.head:=by unfold TabS.head;rw [TabS.at_in ho];rfl
  rw [←this];exact eh
 rw [eo] at k1;rw [e2] at HS;have c0:=hb.cell (i:=0) rfl;have hlen:=h.len;have f1:=kf (k*3+1);generalize T.l.length=n at *;clear hb hr h ho hst hz e2 eh eo kf hin;go_enter func213,ntmps213;go_wp2_with fail;refine (HS.o).mono ?_;rintro e w1 ⟨rfl,rfl⟩;go_wp2_with fail;go_ret;exact Does.of ⟨g.own,_⟩ rfl rfl (Mod.st Mod.self HOR.o) (by rw [HM.o];exact H.o)
theorem yiw (i:Int) (g:GW) (B b bt:Nat) (S:SpaceS) (h:SpaceAt g B b bt S) (hB:100≤B) (hc:0≤S.count∧S.count≤1099511627776) (hst:(S.tab.state i==2&& !S.tab.head i)=true):
 Calls prog 148 #[zp (some ⟨b,0,none⟩),zI z6 i] g.w (Does (zb true) g (inst B) (fun g'=>SpaceAt g' B b bt { S.tick with tab:=S.tab.born i })):=by
 obtain ⟨bp,bk,bl,A,cs,cm,bs,h⟩:=h;obtain ⟨hc0,hc1⟩:=hc;have M0:=zH (show Mod (inst B) g ⟨g.own,g.w.setCell ⟨b,3,none⟩ (zI z6 (S.count+1))⟩ from Mod.set (by rw [h.blk.own];exact ⟨zo,zo⟩));have H0:=zH (show SpaceIn ⟨g.own,g.w.setCell ⟨b,3,none⟩ (zI z6 (S.count+1))⟩ B b bt S.tick bp bk bl A cs cm bs from h.tick);have HT:=zH (yll _ _ _ i _ H0.o.tab hst);obtain ⟨a0,a1,a2,a3,a4,a5,a6,a7,a8,a9,a10,a11,a12,a13,a14,a15,al⟩:=h.blk.k16;have af3:=h.blk.liv 3;clear h hst;go_enter func148,ntmps148;go_wp2_with fail;refine HT.o.mono ?_;rintro e w1 ⟨rfl,own1,m1,h1⟩;have M1:=zH (M0.o.trans (m1.mono (fun x (hx:x=B+50)=>(⟨zo,zo⟩:inst B x))));have H1:=zH (H0.o.withTab m1 h1);clear m1 h1;go_wp2_with fail;go_ret;exact Does.of ⟨own1,w1⟩ rfl rfl M1.o ⟨_,_,_,_,_,_,_,H1.o⟩
end Go.Proofs.YtdhjjpnajjingaaGreat
