import Derived.Test.YtdhjjpnajjingaaGreatKL11
set_option linter.unusedVariables false
set_option linter.unnecessarySimpa false
set_option linter.unusedSimpArgs false
open Bool renaming true→zT,false→zU
open Go.Value renaming int→zI
open Go.IntKind renaming i64→z6
set_option maxHeartbeats 8000000
set_option maxRecDepth 100000
open Go.Proofs.Tryz
open Go.Lib renaming hid→zH
open Go.Ext renaming alloc→zA,patch→zP,drew→zD,drewN→zN,more→zM,refl→zR,setCell→zS
open Nat renaming le_refl→zL,le_add_right→zK
namespace Go.Proofs.YtdhjjpnajjingaaGreat
open Go Go.RowKit
namespace CyW
def tick1 (W:CyW):CyW:=if 0<W.y.started then { W with y:={ W.y with steps:=W.y.steps+1 } } else W
theorem tick1_K (W:CyW):W.tick1.K=W.K:=by unfold tick1;split<;>rfl
theorem tick1_h (W:CyW):W.tick1.h=W.h:=by unfold tick1;split<;>rfl
theorem tick1_at (W:CyW):W.tick1.y.at_=W.y.at_:=by unfold tick1;split<;>rfl
theorem tick1_i (W:CyW):W.tick1.y.i=W.y.i:=by unfold tick1;split<;>rfl
end CyW
section
variable {g:GW} {t B b k:Nat} {W:CyW}
theorem ydU (A:CyApart t B) (hd:W.Bd) (hd1:W.tick1.Bd) (he:W.y.e=0) (hst:W.y.stage=1) (H:CyWAt g t B b k W):Calls prog 19 #[.pointer (some ⟨b,0,none⟩),.pointer (some ⟨k,0,none⟩)] g.w (Does (.tuple #[]) g (cyT t B) (fun g'=>CyWAt g' t B b k W.tick1.starts)):=by
 obtain ⟨tp,hp,bm,bs,bt,bp,bsp,bh,cm,H⟩:=H;have HH:=zH H;have HD1:=zH hd1;obtain ⟨a0,a1,a2,a3,a4,a5,a6,a7,a8,a9,a10,a11,a12,a13,al⟩:=H.y.blk.k14;have af12:=H.y.blk.liv 12;obtain ⟨c0,c1,c2,c3,c4,c5,c6,c7,c8,c9,c10,c11,c12,cl⟩:=H.c.blk.k13;rw [hst] at a0;rw [he] at a13;obtain ⟨hs0,hs1⟩:=hd.steps;clear H hd hd1 hst he;by_cases hs:0<W.y.started
 · have d1:decide (0<W.y.started)=true:=decide_eq_true hs;have HT:=zH (show W.tick1={ W with y:={ W.y with steps:=W.y.steps+1 } } from if_pos hs);have H1:=zH (show CyWAt ⟨g.own,g.w.setCell ⟨b,12,none⟩ (zI z6 (W.y.steps+1))⟩ t B b k W.tick1 from by rw [HT.out];exact (HH.out.set A 12 (zI z6 (W.y.steps+1)) { W.y with steps:=W.y.steps+1 } rfl).at_);have M1:=zH (show Mod (cyT t B) g ⟨g.own,g.w.setCell ⟨b,12,none⟩ (zI z6 (W.y.steps+1))⟩ from Mod.st Mod.self HH.out.modY);clear hs;go_enter func19,ntmps19;go_wp2_with fail;refine (yee A HD1.out H1.out).mono ?_;rintro e w2 ⟨rfl,own2,m2,h2⟩;have M2:=zH (M1.out.trans m2);have H2:=zH h2;clear m2 h2;go_wp2_with fail;exact bodyPost_end (results_none rfl _ _ _) rfl (Does.of ⟨own2,w2⟩ rfl rfl M2.out H2.out)
 · have d1:decide (0<W.y.started)=false:=decide_eq_false hs;have HT:=zH (show W.tick1=W from if_neg hs);have H1:=zH (show CyWAt ⟨g.own,g.w⟩ t B b k W.tick1 from by rw [HT.out];exact HH.out.at_);clear hs;go_enter func19,ntmps19;go_wp2_with fail;refine (yee A HD1.out H1.out).mono ?_;rintro e w2 ⟨rfl,own2,m2,h2⟩;have M2:=zH m2;have H2:=zH h2;clear m2 h2;go_wp2_with fail;exact bodyPost_end (results_none rfl _ _ _) rfl (Does.of ⟨own2,w2⟩ rfl rfl M2.out H2.out)
theorem yeQ (A:CyApart t B) (hd:W.Bd) (hd1:W.tick1.Bd) (he:W.y.e=0) (hst:W.y.stage=2) (H:CyWAt g t B b k W):Calls prog 19 #[.pointer (some ⟨b,0,none⟩),.pointer (some ⟨k,0,none⟩)] g.w (Does (.tuple #[]) g (cyT t B) (fun g'=>CyWAt g' t B b k (W.tick1.hands 2 3))):=by
 obtain ⟨tp,hp,bm,bs,bt,bp,bsp,bh,cm,H⟩:=H;have HH:=zH H;have HD1:=zH hd1;obtain ⟨a0,a1,a2,a3,a4,a5,a6,a7,a8,a9,a10,a11,a12,a13,al⟩:=H.y.blk.k14;have af12:=H.y.blk.liv 12;obtain ⟨c0,c1,c2,c3,c4,c5,c6,c7,c8,c9,c10,c11,c12,cl⟩:=H.c.blk.k13;rw [hst] at a0;rw [he] at a13;obtain ⟨hs0,hs1⟩:=hd.steps;clear H hd hd1 hst he;by_cases hs:0<W.y.started
 · have d1:decide (0<W.y.started)=true:=decide_eq_true hs;have HT:=zH (show W.tick1={ W with y:={ W.y with steps:=W.y.steps+1 } } from if_pos hs);have H1:=zH (show CyWAt ⟨g.own,g.w.setCell ⟨b,12,none⟩ (zI z6 (W.y.steps+1))⟩ t B b k W.tick1 from by rw [HT.out];exact (HH.out.set A 12 (zI z6 (W.y.steps+1)) { W.y with steps:=W.y.steps+1 } rfl).at_);have M1:=zH (show Mod (cyT t B) g ⟨g.own,g.w.setCell ⟨b,12,none⟩ (zI z6 (W.y.steps+1))⟩ from Mod.st Mod.self HH.out.modY);clear hs;go_enter func19,ntmps19;go_wp2_with fail;refine (yb3 A HD1.out 2 3 H1.out).mono ?_;rintro e w2 ⟨rfl,own2,m2,h2⟩;have M2:=zH (M1.out.trans m2);have H2:=zH h2;clear m2 h2;go_wp2_with fail;exact bodyPost_end (results_none rfl _ _ _) rfl (Does.of ⟨own2,w2⟩ rfl rfl M2.out H2.out)
 · have d1:decide (0<W.y.started)=false:=decide_eq_false hs;have HT:=zH (show W.tick1=W from if_neg hs);have H1:=zH (show CyWAt ⟨g.own,g.w⟩ t B b k W.tick1 from by rw [HT.out];exact HH.out.at_);clear hs;go_enter func19,ntmps19;go_wp2_with fail;refine (yb3 A HD1.out 2 3 H1.out).mono ?_;rintro e w2 ⟨rfl,own2,m2,h2⟩;have M2:=zH m2;have H2:=zH h2;clear m2 h2;go_wp2_with fail;exact bodyPost_end (results_none rfl _ _ _) rfl (Does.of ⟨own2,w2⟩ rfl rfl M2.out H2.out)
theorem yfg (A:CyApart t B) (hd:W.Bd) (hd1:W.tick1.Bd) (he:W.y.e=0) (hst:W.y.stage=3) (H:CyWAt g t B b k W):Calls prog 19 #[.pointer (some ⟨b,0,none⟩),.pointer (some ⟨k,0,none⟩)] g.w (Does (.tuple #[]) g (cyT t B) (fun g'=>CyWAt g' t B b k (W.tick1.hands 3 4))):=by
 obtain ⟨tp,hp,bm,bs,bt,bp,bsp,bh,cm,H⟩:=H;have HH:=zH H;have HD1:=zH hd1;obtain ⟨a0,a1,a2,a3,a4,a5,a6,a7,a8,a9,a10,a11,a12,a13,al⟩:=H.y.blk.k14;have af12:=H.y.blk.liv 12;obtain ⟨c0,c1,c2,c3,c4,c5,c6,c7,c8,c9,c10,c11,c12,cl⟩:=H.c.blk.k13;rw [hst] at a0;rw [he] at a13;obtain ⟨hs0,hs1⟩:=hd.steps;clear H hd hd1 hst he;by_cases hs:0<W.y.started
 · have d1:decide (0<W.y.started)=true:=decide_eq_true hs;have HT:=zH (show W.tick1={ W with y:={ W.y with steps:=W.y.steps+1 } } from if_pos hs);have H1:=zH (show CyWAt ⟨g.own,g.w.setCell ⟨b,12,none⟩ (zI z6 (W.y.steps+1))⟩ t B b k W.tick1 from by rw [HT.out];exact (HH.out.set A 12 (zI z6 (W.y.steps+1)) { W.y with steps:=W.y.steps+1 } rfl).at_);have M1:=zH (show Mod (cyT t B) g ⟨g.own,g.w.setCell ⟨b,12,none⟩ (zI z6 (W.y.steps+1))⟩ from Mod.st Mod.self HH.out.modY);clear hs;go_enter func19,ntmps19;go_wp2_with fail;refine (yb3 A HD1.out 3 4 H1.out).mono ?_;rintro e w2 ⟨rfl,own2,m2,h2⟩;have M2:=zH (M1.out.trans m2);have H2:=zH h2;clear m2 h2;go_wp2_with fail;exact bodyPost_end (results_none rfl _ _ _) rfl (Does.of ⟨own2,w2⟩ rfl rfl M2.out H2.out)
 · have d1:decide (0<W.y.started)=false:=decide_eq_false hs;have HT:=zH (show W.tick1=W from if_neg hs);have H1:=zH (show CyWAt ⟨g.own,g.w⟩ t B b k W.tick1 from by rw [HT.out];exact HH.out.at_);clear hs;go_enter func19,ntmps19;go_wp2_with fail;refine (yb3 A HD1.out 3 4 H1.out).mono ?_;rintro e w2 ⟨rfl,own2,m2,h2⟩;have M2:=zH m2;have H2:=zH h2;clear m2 h2;go_wp2_with fail;exact bodyPost_end (results_none rfl _ _ _) rfl (Does.of ⟨own2,w2⟩ rfl rfl M2.out H2.out)
theorem yeR (A:CyApart t B) (hd:W.Bd) (hd1:W.tick1.Bd) (he:W.y.e=0) (hst:W.y.stage=6) (H:CyWAt g t B b k W):Calls prog 19 #[.pointer (some ⟨b,0,none⟩),.pointer (some ⟨k,0,none⟩)] g.w (Does (.tuple #[]) g (cyT t B) (fun g'=>CyWAt g' t B b k W.tick1.turns)):=by
 obtain ⟨tp,hp,bm,bs,bt,bp,bsp,bh,cm,H⟩:=H;have HH:=zH H;have HD1:=zH hd1;obtain ⟨a0,a1,a2,a3,a4,a5,a6,a7,a8,a9,a10,a11,a12,a13,al⟩:=H.y.blk.k14;have af12:=H.y.blk.liv 12;obtain ⟨c0,c1,c2,c3,c4,c5,c6,c7,c8,c9,c10,c11,c12,cl⟩:=H.c.blk.k13;rw [hst] at a0;rw [he] at a13;obtain ⟨hs0,hs1⟩:=hd.steps;clear H hd hd1 hst he;by_cases hs:0<W.y.started
 · have d1:decide (0<W.y.started)=true:=decide_eq_true hs;have HT:=zH (show W.tick1={ W with y:={ W.y with steps:=W.y.steps+1 } } from if_pos hs);have H1:=zH (show CyWAt ⟨g.own,g.w.setCell ⟨b,12,none⟩ (zI z6 (W.y.steps+1))⟩ t B b k W.tick1 from by rw [HT.out];exact (HH.out.set A 12 (zI z6 (W.y.steps+1)) { W.y with steps:=W.y.steps+1 } rfl).at_);have M1:=zH (show Mod (cyT t B) g ⟨g.own,g.w.setCell ⟨b,12,none⟩ (zI z6 (W.y.steps+1))⟩ from Mod.st Mod.self HH.out.modY);clear hs;go_enter func19,ntmps19;go_wp2_with fail;refine (yfh A HD1.out H1.out).mono ?_;rintro e w2 ⟨rfl,own2,m2,h2⟩;have M2:=zH (M1.out.trans m2);have H2:=zH h2;clear m2 h2;go_wp2_with fail;exact bodyPost_end (results_none rfl _ _ _) rfl (Does.of ⟨own2,w2⟩ rfl rfl M2.out H2.out)
 · have d1:decide (0<W.y.started)=false:=decide_eq_false hs;have HT:=zH (show W.tick1=W from if_neg hs);have H1:=zH (show CyWAt ⟨g.own,g.w⟩ t B b k W.tick1 from by rw [HT.out];exact HH.out.at_);clear hs;go_enter func19,ntmps19;go_wp2_with fail;refine (yfh A HD1.out H1.out).mono ?_;rintro e w2 ⟨rfl,own2,m2,h2⟩;have M2:=zH m2;have H2:=zH h2;clear m2 h2;go_wp2_with fail;exact bodyPost_end (results_none rfl _ _ _) rfl (Does.of ⟨own2,w2⟩ rfl rfl M2.out H2.out)
theorem ycv (A:CyApart t B) (hd:W.Bd) (hd1:W.tick1.Bd) (he:W.y.e=0) (hst:W.y.stage=7) (h0:W.tick1.y.at_=0) (hh:W.tick1.h=none) (hck:W.tick1.K.c.check=0) (hu:W.tick1.K.sp.coil.used (1-W.tick1.K.sp.coil.cur)=0) (H:CyWAt g t B b k W):Calls prog 19 #[.pointer (some ⟨b,0,none⟩),.pointer (some ⟨k,0,none⟩)] g.w (Does (.tuple #[]) g (cyT t B) (fun g'=>CyWAt g' t B b k W.tick1.haulsNone)):=by
 have HP:=zH (And.intro h0 (And.intro hh (And.intro hck hu)));clear h0 hh hck hu;obtain ⟨tp,hp,bm,bs,bt,bp,bsp,bh,cm,H⟩:=H;have HH:=zH H;have HD1:=zH hd1;obtain ⟨a0,a1,a2,a3,a4,a5,a6,a7,a8,a9,a10,a11,a12,a13,al⟩:=H.y.blk.k14;have af12:=H.y.blk.liv 12;obtain ⟨c0,c1,c2,c3,c4,c5,c6,c7,c8,c9,c10,c11,c12,cl⟩:=H.c.blk.k13;rw [hst] at a0;rw [he] at a13;obtain ⟨hs0,hs1⟩:=hd.steps;clear H hd hd1 hst he;by_cases hs:0<W.y.started
 · have d1:decide (0<W.y.started)=true:=decide_eq_true hs;have HT:=zH (show W.tick1={ W with y:={ W.y with steps:=W.y.steps+1 } } from if_pos hs);have H1:=zH (show CyWAt ⟨g.own,g.w.setCell ⟨b,12,none⟩ (zI z6 (W.y.steps+1))⟩ t B b k W.tick1 from by rw [HT.out];exact (HH.out.set A 12 (zI z6 (W.y.steps+1)) { W.y with steps:=W.y.steps+1 } rfl).at_);have M1:=zH (show Mod (cyT t B) g ⟨g.own,g.w.setCell ⟨b,12,none⟩ (zI z6 (W.y.steps+1))⟩ from Mod.st Mod.self HH.out.modY);clear hs;go_enter func19,ntmps19;go_wp2_with fail;refine (ycn A HD1.out HP.out.1 HP.out.2.1 HP.out.2.2.1 HP.out.2.2.2 H1.out).mono ?_;rintro e w2 ⟨rfl,own2,m2,h2⟩;have M2:=zH (M1.out.trans m2);have H2:=zH h2;clear m2 h2;go_wp2_with fail;exact bodyPost_end (results_none rfl _ _ _) rfl (Does.of ⟨own2,w2⟩ rfl rfl M2.out H2.out)
 · have d1:decide (0<W.y.started)=false:=decide_eq_false hs;have HT:=zH (show W.tick1=W from if_neg hs);have H1:=zH (show CyWAt ⟨g.own,g.w⟩ t B b k W.tick1 from by rw [HT.out];exact HH.out.at_);clear hs;go_enter func19,ntmps19;go_wp2_with fail;refine (ycn A HD1.out HP.out.1 HP.out.2.1 HP.out.2.2.1 HP.out.2.2.2 H1.out).mono ?_;rintro e w2 ⟨rfl,own2,m2,h2⟩;have M2:=zH m2;have H2:=zH h2;clear m2 h2;go_wp2_with fail;exact bodyPost_end (results_none rfl _ _ _) rfl (Does.of ⟨own2,w2⟩ rfl rfl M2.out H2.out)
theorem ycw (A:CyApart t B) (hd:W.Bd) (hd1:W.tick1.Bd) (he:W.y.e=0) (hst:W.y.stage=7) (h0:W.tick1.y.at_=2) (H:CyWAt g t B b k W):Calls prog 19 #[.pointer (some ⟨b,0,none⟩),.pointer (some ⟨k,0,none⟩)] g.w (Does (.tuple #[]) g (cyT t B) (fun g'=>CyWAt g' t B b k W.tick1.haulsPost)):=by
 have HP:=zH h0;clear h0;obtain ⟨tp,hp,bm,bs,bt,bp,bsp,bh,cm,H⟩:=H;have HH:=zH H;have HD1:=zH hd1;obtain ⟨a0,a1,a2,a3,a4,a5,a6,a7,a8,a9,a10,a11,a12,a13,al⟩:=H.y.blk.k14;have af12:=H.y.blk.liv 12;obtain ⟨c0,c1,c2,c3,c4,c5,c6,c7,c8,c9,c10,c11,c12,cl⟩:=H.c.blk.k13;rw [hst] at a0;rw [he] at a13;obtain ⟨hs0,hs1⟩:=hd.steps;clear H hd hd1 hst he;by_cases hs:0<W.y.started
 · have d1:decide (0<W.y.started)=true:=decide_eq_true hs;have HT:=zH (show W.tick1={ W with y:={ W.y with steps:=W.y.steps+1 } } from if_pos hs);have H1:=zH (show CyWAt ⟨g.own,g.w.setCell ⟨b,12,none⟩ (zI z6 (W.y.steps+1))⟩ t B b k W.tick1 from by rw [HT.out];exact (HH.out.set A 12 (zI z6 (W.y.steps+1)) { W.y with steps:=W.y.steps+1 } rfl).at_);have M1:=zH (show Mod (cyT t B) g ⟨g.own,g.w.setCell ⟨b,12,none⟩ (zI z6 (W.y.steps+1))⟩ from Mod.st Mod.self HH.out.modY);clear hs;go_enter func19,ntmps19;go_wp2_with fail;refine (yco A HD1.out HP.out H1.out).mono ?_;rintro e w2 ⟨rfl,own2,m2,h2⟩;have M2:=zH (M1.out.trans m2);have H2:=zH h2;clear m2 h2;go_wp2_with fail;exact bodyPost_end (results_none rfl _ _ _) rfl (Does.of ⟨own2,w2⟩ rfl rfl M2.out H2.out)
 · have d1:decide (0<W.y.started)=false:=decide_eq_false hs;have HT:=zH (show W.tick1=W from if_neg hs);have H1:=zH (show CyWAt ⟨g.own,g.w⟩ t B b k W.tick1 from by rw [HT.out];exact HH.out.at_);clear hs;go_enter func19,ntmps19;go_wp2_with fail;refine (yco A HD1.out HP.out H1.out).mono ?_;rintro e w2 ⟨rfl,own2,m2,h2⟩;have M2:=zH m2;have H2:=zH h2;clear m2 h2;go_wp2_with fail;exact bodyPost_end (results_none rfl _ _ _) rfl (Does.of ⟨own2,w2⟩ rfl rfl M2.out H2.out)
theorem ydu (A:CyApart t B) (hd:W.Bd) (hd1:W.tick1.Bd) (he:W.y.e=0) (hst:W.y.stage=8) (hk:W.tick1.y.at_≠0→W.tick1.K.sp.coil.kept≤0) (H:CyWAt g t B b k W):Calls prog 19 #[.pointer (some ⟨b,0,none⟩),.pointer (some ⟨k,0,none⟩)] g.w (Does (.tuple #[]) g (cyT t B) (fun g'=>CyWAt g' t B b k W.tick1.settles)):=by
 have HP:=zH hk;clear hk;obtain ⟨tp,hp,bm,bs,bt,bp,bsp,bh,cm,H⟩:=H;have HH:=zH H;have HD1:=zH hd1;obtain ⟨a0,a1,a2,a3,a4,a5,a6,a7,a8,a9,a10,a11,a12,a13,al⟩:=H.y.blk.k14;have af12:=H.y.blk.liv 12;obtain ⟨c0,c1,c2,c3,c4,c5,c6,c7,c8,c9,c10,c11,c12,cl⟩:=H.c.blk.k13;rw [hst] at a0;rw [he] at a13;obtain ⟨hs0,hs1⟩:=hd.steps;clear H hd hd1 hst he;by_cases hs:0<W.y.started
 · have d1:decide (0<W.y.started)=true:=decide_eq_true hs;have HT:=zH (show W.tick1={ W with y:={ W.y with steps:=W.y.steps+1 } } from if_pos hs);have H1:=zH (show CyWAt ⟨g.own,g.w.setCell ⟨b,12,none⟩ (zI z6 (W.y.steps+1))⟩ t B b k W.tick1 from by rw [HT.out];exact (HH.out.set A 12 (zI z6 (W.y.steps+1)) { W.y with steps:=W.y.steps+1 } rfl).at_);have M1:=zH (show Mod (cyT t B) g ⟨g.own,g.w.setCell ⟨b,12,none⟩ (zI z6 (W.y.steps+1))⟩ from Mod.st Mod.self HH.out.modY);clear hs;go_enter func19,ntmps19;go_wp2_with fail;refine (ydt A HD1.out HP.out H1.out).mono ?_;rintro e w2 ⟨rfl,own2,m2,h2⟩;have M2:=zH (M1.out.trans m2);have H2:=zH h2;clear m2 h2;go_wp2_with fail;exact bodyPost_end (results_none rfl _ _ _) rfl (Does.of ⟨own2,w2⟩ rfl rfl M2.out H2.out)
 · have d1:decide (0<W.y.started)=false:=decide_eq_false hs;have HT:=zH (show W.tick1=W from if_neg hs);have H1:=zH (show CyWAt ⟨g.own,g.w⟩ t B b k W.tick1 from by rw [HT.out];exact HH.out.at_);clear hs;go_enter func19,ntmps19;go_wp2_with fail;refine (ydt A HD1.out HP.out H1.out).mono ?_;rintro e w2 ⟨rfl,own2,m2,h2⟩;have M2:=zH m2;have H2:=zH h2;clear m2 h2;go_wp2_with fail;exact bodyPost_end (results_none rfl _ _ _) rfl (Does.of ⟨own2,w2⟩ rfl rfl M2.out H2.out)
theorem ydV (A:CyApart t B) (hd:W.Bd) (hd1:W.tick1.Bd) (he:W.y.e=0) (hst:W.y.stage=9) (H:CyWAt g t B b k W):Calls prog 19 #[.pointer (some ⟨b,0,none⟩),.pointer (some ⟨k,0,none⟩)] g.w (Does (.tuple #[]) g (cyT t B) (fun g'=>CyWAt g' t B b k W.tick1.sweepsY)):=by
 obtain ⟨tp,hp,bm,bs,bt,bp,bsp,bh,cm,H⟩:=H;have HH:=zH H;have HD1:=zH hd1;obtain ⟨a0,a1,a2,a3,a4,a5,a6,a7,a8,a9,a10,a11,a12,a13,al⟩:=H.y.blk.k14;have af12:=H.y.blk.liv 12;obtain ⟨c0,c1,c2,c3,c4,c5,c6,c7,c8,c9,c10,c11,c12,cl⟩:=H.c.blk.k13;rw [hst] at a0;rw [he] at a13;obtain ⟨hs0,hs1⟩:=hd.steps;clear H hd hd1 hst he;by_cases hs:0<W.y.started
 · have d1:decide (0<W.y.started)=true:=decide_eq_true hs;have HT:=zH (show W.tick1={ W with y:={ W.y with steps:=W.y.steps+1 } } from if_pos hs);have H1:=zH (show CyWAt ⟨g.own,g.w.setCell ⟨b,12,none⟩ (zI z6 (W.y.steps+1))⟩ t B b k W.tick1 from by rw [HT.out];exact (HH.out.set A 12 (zI z6 (W.y.steps+1)) { W.y with steps:=W.y.steps+1 } rfl).at_);have M1:=zH (show Mod (cyT t B) g ⟨g.own,g.w.setCell ⟨b,12,none⟩ (zI z6 (W.y.steps+1))⟩ from Mod.st Mod.self HH.out.modY);clear hs;go_enter func19,ntmps19;go_wp2_with fail;refine (yef A HD1.out H1.out).mono ?_;rintro e w2 ⟨rfl,own2,m2,h2⟩;have M2:=zH (M1.out.trans m2);have H2:=zH h2;clear m2 h2;go_wp2_with fail;exact bodyPost_end (results_none rfl _ _ _) rfl (Does.of ⟨own2,w2⟩ rfl rfl M2.out H2.out)
 · have d1:decide (0<W.y.started)=false:=decide_eq_false hs;have HT:=zH (show W.tick1=W from if_neg hs);have H1:=zH (show CyWAt ⟨g.own,g.w⟩ t B b k W.tick1 from by rw [HT.out];exact HH.out.at_);clear hs;go_enter func19,ntmps19;go_wp2_with fail;refine (yef A HD1.out H1.out).mono ?_;rintro e w2 ⟨rfl,own2,m2,h2⟩;have M2:=zH m2;have H2:=zH h2;clear m2 h2;go_wp2_with fail;exact bodyPost_end (results_none rfl _ _ _) rfl (Does.of ⟨own2,w2⟩ rfl rfl M2.out H2.out)
theorem ydT (A:CyApart t B) (hd:W.Bd) (hd1:W.tick1.Bd) (he:W.y.e=0) (hst:W.y.stage=10) (hl: ∀e∈W.tick1.K.sp.line,(0≤e.cycles∧e.cycles≤1099511627776)∧e.fair) (H:CyWAt g t B b k W):Calls prog 19 #[.pointer (some ⟨b,0,none⟩),.pointer (some ⟨k,0,none⟩)] g.w (Does (.tuple #[]) g (cyT t B) (fun g'=>CyWAt g' t B b k W.tick1.serves)):=by
 have HP:=zH hl;clear hl;obtain ⟨tp,hp,bm,bs,bt,bp,bsp,bh,cm,H⟩:=H;have HH:=zH H;have HD1:=zH hd1;obtain ⟨a0,a1,a2,a3,a4,a5,a6,a7,a8,a9,a10,a11,a12,a13,al⟩:=H.y.blk.k14;have af12:=H.y.blk.liv 12;obtain ⟨c0,c1,c2,c3,c4,c5,c6,c7,c8,c9,c10,c11,c12,cl⟩:=H.c.blk.k13;rw [hst] at a0;rw [he] at a13;obtain ⟨hs0,hs1⟩:=hd.steps;clear H hd hd1 hst he;by_cases hs:0<W.y.started
 · have d1:decide (0<W.y.started)=true:=decide_eq_true hs;have HT:=zH (show W.tick1={ W with y:={ W.y with steps:=W.y.steps+1 } } from if_pos hs);have H1:=zH (show CyWAt ⟨g.own,g.w.setCell ⟨b,12,none⟩ (zI z6 (W.y.steps+1))⟩ t B b k W.tick1 from by rw [HT.out];exact (HH.out.set A 12 (zI z6 (W.y.steps+1)) { W.y with steps:=W.y.steps+1 } rfl).at_);have M1:=zH (show Mod (cyT t B) g ⟨g.own,g.w.setCell ⟨b,12,none⟩ (zI z6 (W.y.steps+1))⟩ from Mod.st Mod.self HH.out.modY);clear hs;go_enter func19,ntmps19;go_wp2_with fail;refine (yed A HD1.out HP.out H1.out).mono ?_;rintro e w2 ⟨rfl,own2,m2,h2⟩;have M2:=zH (M1.out.trans m2);have H2:=zH h2;clear m2 h2;go_wp2_with fail;exact bodyPost_end (results_none rfl _ _ _) rfl (Does.of ⟨own2,w2⟩ rfl rfl M2.out H2.out)
 · have d1:decide (0<W.y.started)=false:=decide_eq_false hs;have HT:=zH (show W.tick1=W from if_neg hs);have H1:=zH (show CyWAt ⟨g.own,g.w⟩ t B b k W.tick1 from by rw [HT.out];exact HH.out.at_);clear hs;go_enter func19,ntmps19;go_wp2_with fail;refine (yed A HD1.out HP.out H1.out).mono ?_;rintro e w2 ⟨rfl,own2,m2,h2⟩;have M2:=zH m2;have H2:=zH h2;clear m2 h2;go_wp2_with fail;exact bodyPost_end (results_none rfl _ _ _) rfl (Does.of ⟨own2,w2⟩ rfl rfl M2.out H2.out)
end
end Go.Proofs.YtdhjjpnajjingaaGreat
namespace Go.Proofs.YtdhjjpnajjingaaGreat
open Go Go.RowKit
structure IdleK (c:Cnf) (N:Int) (K:CoreS):Prop where
 cc:K.c=c
 own: ∀i,K.hand.own i= -1
 line:K.sp.line=[]
 free:(K.sp.pool.free:Int)=c.frags
 cur:K.sp.coil.cur<2
 u0:K.sp.coil.u0=0
 u1:K.sp.coil.u1=0
 kept:K.sp.coil.kept=0
 tab: ∀i,K.sp.tab.state i=0
 pl:K.pile.l=[]
 lost:K.pile.lost=false
 mem: ∀i,0≤i→i<c.globals→inB (i+cAhead c 3) K.mem.l.length=true∧wIndex (K.mem.peek (i+cAhead c 3))=none
 hc:0≤K.hand.count∧K.hand.count≤N
 sc:0≤K.sp.count∧K.sp.count≤N
 mc:0≤K.mem.count∧K.mem.count≤N
 nc:0≤K.n∧K.n≤N
theorem up {a N M:Int} (h:a≤N) (hm:N≤M):a≤M:=Int.le_trans h hm
namespace IdleK
variable {c:Cnf} {N:Int} {K:CoreS}
theorem mono (h:IdleK c N K) {M:Int} (hm:N≤M):IdleK c M K:=⟨h.cc,h.own,h.line,h.free,h.cur,h.u0,h.u1,h.kept,h.tab,h.pl,h.lost,h.mem,⟨h.hc.1,up h.hc.2 zo⟩,⟨h.sc.1,up h.sc.2 zo⟩,⟨h.mc.1,up h.mc.2 zo⟩,⟨h.nc.1,up h.nc.2 zo⟩⟩
theorem hand (h:IdleK c N K) {H:HandS} (hl:H.l=K.hand.l) (hc:H.count=K.hand.count+1):IdleK c (N+1) { K with hand:=H }:=by
 obtain ⟨a0,a1⟩:=h.hc;exact ⟨h.cc,(fun i=>by have:=h.own i;unfold HandS.own at this ⊢;simp only [hl];exact this),h.line,h.free,h.cur,h.u0,h.u1,h.kept,h.tab,h.pl,h.lost,h.mem,⟨by show 0≤H.count;omega,by show H.count≤_;omega⟩,⟨h.sc.1,up h.sc.2 zo⟩,⟨h.mc.1,up h.mc.2 zo⟩,⟨h.nc.1,up h.nc.2 zo⟩⟩
theorem yjw (H:HandS) (s:Int) (f:Bool):(H.post s f).l=H.l∧(H.post s f).count=H.count+1:=by
 unfold HandS.post HandS.tick;split<;>exact ⟨rfl,rfl⟩
theorem post (h:IdleK c N K) (s:Int) (f:Bool):IdleK c (N+1) { K with hand:=K.hand.post s f }:=h.hand (yjw _ s f).1 (yjw _ s f).2
theorem tick (h:IdleK c N K):IdleK c (N+1) { K with hand:=K.hand.tick }:=h.hand rfl rfl
theorem sp (h:IdleK c N K) {S:SpaceS} (hl:S.line=[]) (hf:S.pool=K.sp.pool) (ht:S.tab=K.sp.tab) (hcur:S.coil.cur<2) (h0:S.coil.u0=0) (h1:S.coil.u1=0) (hk:S.coil.kept=0) (hc:S.count=K.sp.count+1):IdleK c (N+1) { K with sp:=S }:=by
 obtain ⟨a0,a1⟩:=h.sc;exact ⟨h.cc,h.own,hl,by show (S.pool.free:Int)=_;rw [hf];exact h.free,hcur,h0,h1,hk,(fun i=>by show S.tab.state i=0;rw [ht];exact h.tab i),h.pl,h.lost,h.mem,⟨h.hc.1,up h.hc.2 zo⟩,⟨by show 0≤S.count;omega,by show S.count≤_;omega⟩,⟨h.mc.1,up h.mc.2 zo⟩,⟨h.nc.1,up h.nc.2 zo⟩⟩
theorem ynE (h:IdleK c N K):IdleK c (N+1) { K with sp:=beginS K.sp }:=h.sp (show K.sp.line.map noteE=[] by rw [h.line];rfl) rfl rfl h.cur h.u0 h.u1 h.kept rfl
theorem ends (h:IdleK c N K):IdleK c (N+1) { K with sp:=endS K.sp }:=h.sp (show K.sp.line.map endE=[] by rw [h.line];rfl) rfl rfl h.cur h.u0 h.u1 h.kept rfl
theorem force (h:IdleK c N K):IdleK c (N+1) { K with sp:=forceS K.sp }:=h.sp h.line rfl rfl h.cur h.u0 h.u1 h.kept rfl
theorem used (h:IdleK c N K) (s:Nat):K.sp.coil.used s=0:=by
 unfold CoilS.used;split
 · exact h.u0
 · exact h.u1
theorem turn (h:IdleK c N K):IdleK c (N+1) { K with sp:=turnS K.sp }:=by
 have ht:K.sp.coil.turn={ K.sp.coil with kept:=K.sp.coil.used K.sp.coil.cur,cur:=1-K.sp.coil.cur }:=if_pos (by unfold CoilS.turnable;rw [h.used];rfl);refine h.sp (S:=turnS K.sp) h.line rfl rfl ?_ ?_ ?_ ?_ rfl
 · show K.sp.coil.turn.cur<2;rw [ht];show 1-K.sp.coil.cur<2;omega
 · show K.sp.coil.turn.u0=0;rw [ht];exact h.u0
 · show K.sp.coil.turn.u1=0;rw [ht];exact h.u1
 · show K.sp.coil.turn.kept=0;rw [ht];exact h.used _
theorem done (h:IdleK c N K):IdleK c (N+1) { K with sp:=doneS K.sp }:=by
 have ht:K.sp.coil.done=if K.sp.coil.cur=0 then { K.sp.coil with u1:=0 } else { K.sp.coil with u0:=0 }:=if_pos (by unfold CoilS.doneable;rw [h.kept];rfl);refine h.sp (S:=doneS K.sp) h.line rfl rfl ?_ ?_ ?_ ?_ rfl
 · show K.sp.coil.done.cur<2;rw [ht];split<;>exact h.cur
 · show K.sp.coil.done.u0=0;rw [ht];split
   · exact h.u0
   · rfl
 · show K.sp.coil.done.u1=0;rw [ht];split
   · rfl
   · exact h.u1
 · show K.sp.coil.done.kept=0;rw [ht];split<;>exact h.kept
theorem ynF (h:IdleK c N K) (hf:K.sp.forced=true):wantsS K.sp=true:=by
 unfold wantsS;rw [hf,Bool.or_true,Bool.or_true]
theorem pile (h:IdleK c N K) {p:PileS} (hp:p.l=[]) (hl:p.lost=false):IdleK c (N+1) { K with pile:=p,n:=K.n+1 }:=by
 obtain ⟨a0,a1⟩:=h.nc;exact ⟨h.cc,h.own,h.line,h.free,h.cur,h.u0,h.u1,h.kept,h.tab,hp,hl,h.mem,⟨h.hc.1,up h.hc.2 zo⟩,⟨h.sc.1,up h.sc.2 zo⟩,⟨h.mc.1,up h.mc.2 zo⟩,⟨by show 0≤K.n+1;omega,by show K.n+1≤_;omega⟩⟩
end IdleK
structure JB (c:Cnf) (n N:Int) (W:CyW):Prop where
 K:IdleK c N W.K
 e:W.y.e=0
 fin:W.y.finished=n
 fr:W.y.freed=0
 mv:W.y.moved=0
 st:0≤W.y.steps∧W.y.steps≤N
 ib:0≤W.y.i∧W.y.i≤5000
namespace JB
variable {c:Cnf} {n N:Int} {W:CyW}
theorem polled (h:JB c n N W):W.polled=true:=by
 unfold CyW.polled HandS.polled;rw [h.K.own];rfl
theorem nextI (h:JB c n N W):W.nextI=W.y.i+1:=by
 unfold CyW.nextI;rw [h.polled];rfl
theorem pollsB (h:JB c n N W):W.pollsB=(W.y.i+1==c.threads):=by
 unfold CyW.pollsB;rw [h.nextI,h.K.cc]
theorem polls (h:JB c n N W) (hi:W.y.i≤4999):JB c n (N+1) W.polls:=
 ⟨h.K.tick,h.e,h.fin,h.fr,h.mv,⟨h.st.1,up h.st.2 zo⟩,⟨by show 0≤W.nextI;rw [h.nextI];have:=h.ib;omega,by show W.nextI≤_;rw [h.nextI];omega⟩⟩
theorem posts (h:JB c n N W) (s:Int) (f:Bool):JB c n (N+1) (W.posts s f):=⟨h.K.post s f,h.e,h.fin,h.fr,h.mv,⟨h.st.1,up h.st.2 zo⟩,h.ib⟩
theorem ent (h:JB c n N W) (s:Int):JB c n N (W.ent s):=⟨h.K,h.e,h.fin,h.fr,h.mv,h.st,by show (0:Int)≤0∧(0:Int)≤5000;omega⟩
theorem atY (h:JB c n N W) (s:Int):JB c n N (W.atY s):=⟨h.K,h.e,h.fin,h.fr,h.mv,h.st,h.ib⟩
theorem spc (h:JB c n N W) {S:SpaceS} (hk:IdleK c (N+1) { W.K with sp:=S }):JB c n (N+1) (W.spc S):=⟨hk,h.e,h.fin,h.fr,h.mv,⟨h.st.1,up h.st.2 zo⟩,h.ib⟩
theorem mono (h:JB c n N W) {M:Int} (hm:N≤M):JB c n M W:=⟨h.K.mono hm,h.e,h.fin,h.fr,h.mv,⟨h.st.1,up h.st.2 zo⟩,h.ib⟩
theorem tick1 (h:JB c n N W):JB c n (N+1) W.tick1:=by
 obtain ⟨s0,s1⟩:=h.st;unfold CyW.tick1;split
 · exact ⟨h.K.mono zo,h.e,h.fin,h.fr,h.mv,⟨by show 0≤W.y.steps+1;omega,by show W.y.steps+1≤_;omega⟩,h.ib⟩
 · exact h.mono zo
end JB
theorem CyW.tick1_stage (W:CyW):W.tick1.y.stage=W.y.stage:=by unfold CyW.tick1;split<;>rfl
theorem CyW.tick1_started (W:CyW):W.tick1.y.started=W.y.started:=by unfold CyW.tick1;split<;>rfl
theorem CyW.tick1_sense (W:CyW):W.tick1.y.sense=W.y.sense:=by unfold CyW.tick1;split<;>rfl
end Go.Proofs.YtdhjjpnajjingaaGreat
namespace Go.Proofs.YtdhjjpnajjingaaGreat
open Go Go.RowKit
structure Tk (c:Cnf) (n N:Int) (W V:CyW):Prop where
 b:JB c n N V
 s:V.y.stage=W.y.stage
 a:V.y.at_=W.y.at_
 i:V.y.i=W.y.i
 st:V.y.started=W.y.started
 se:V.y.sense=W.y.sense
 h:V.h=W.h
 K:V.K=W.K
theorem JB.tk {c:Cnf} {n N:Int} {W:CyW} (h:JB c n N W):Tk c n (N+1) W W.tick1:=⟨h.tick1,W.tick1_stage,W.tick1_at,W.tick1_i,W.tick1_started,W.tick1_sense,W.tick1_h,W.tick1_K⟩
section
variable {c:Cnf} {n L:Int} {s0:Bool} {W V:CyW}
end
end Go.Proofs.YtdhjjpnajjingaaGreat
namespace Go.Proofs.YtdhjjpnajjingaaGreat
open Go Go.RowKit
def CyW.idles (W:CyW):CyW:=if wantsS W.K.sp then (W.spc W.K.sp.tick).ent 1 else W.spc W.K.sp.tick
section
variable {g:GW} {t B b k:Nat} {W:CyW}
theorem ybE (A:CyApart t B) (hd:W.Bd) (he:W.y.e=0) (hst:W.y.stage=0) (H:CyWAt g t B b k W):Calls prog 19 #[.pointer (some ⟨b,0,none⟩),.pointer (some ⟨k,0,none⟩)] g.w (Does (.tuple #[]) g (cyT t B) (fun g'=>CyWAt g' t B b k W.tick1.idles)):=by
 obtain ⟨tp,hp,bm,bs,bt,bp,bsp,bh,cm,H⟩:=H;have HH:=zH H;have HD:=zH hd;obtain ⟨a0,a1,a2,a3,a4,a5,a6,a7,a8,a9,a10,a11,a12,a13,al⟩:=H.y.blk.k14;have af12:=H.y.blk.liv 12;obtain ⟨c0,c1,c2,c3,c4,c5,c6,c7,c8,c9,c10,c11,c12,cl⟩:=H.c.blk.k13;rw [hst] at a0;rw [he] at a13;obtain ⟨hs0,hs1⟩:=hd.steps;clear H hd hst he;by_cases hs:0<W.y.started
 · have d1:decide (0<W.y.started)=true:=decide_eq_true hs;have HT:=zH (show W.tick1={ W with y:={ W.y with steps:=W.y.steps+1 } } from if_pos hs);have H1:=zH (show CyIn ⟨g.own,g.w.setCell ⟨b,12,none⟩ (zI z6 (W.y.steps+1))⟩ t B b k { W with y:={ W.y with steps:=W.y.steps+1 } } tp hp bm bs bt bp bsp bh cm from HH.out.set A 12 (zI z6 (W.y.steps+1)) { W.y with steps:=W.y.steps+1 } rfl);have M1:=zH (show Mod (cyT t B) g ⟨g.own,g.w.setCell ⟨b,12,none⟩ (zI z6 (W.y.steps+1))⟩ from Mod.st Mod.self HH.out.modY);clear hs;have HWT:=zH (yc8 ⟨g.own,g.w.setCell ⟨b,12,none⟩ (zI z6 (W.y.steps+1))⟩ B bsp bt W.K.sp H1.out.c.sp A.hb HD.out.sp);go_enter func19,ntmps19;go_wp2_with fail;refine HWT.out.mono ?_;rintro e w2 ⟨rfl,own2,m2,h2⟩;have M2:=zH (M1.out.trans (m2.mono (S:=cyT t B) (fun x hx=>yaF hx)));have H2:=zH (show CyIn ⟨own2,w2⟩ t B b k { y:={ W.y with steps:=W.y.steps+1 },tr:=W.tr,h:=W.h,K:={ W.K with sp:=W.K.sp.tick } } tp hp bm bs bt bp bsp bh cm from H1.out.spc A m2 h2);clear m2 h2 HWT a0 a1 a2 a3 a4 a5 a6 a7 a8 a9 a10 a11 a12 a13 af12 al c0 c1 c2 c3 c4 c5 c6 c7 c8 c9 c10 c11 c12 cl;cases hw:wantsS W.K.sp
   · have HF:=zH (show W.tick1.idles={ y:={ W.y with steps:=W.y.steps+1 },tr:=W.tr,h:=W.h,K:={ W.K with sp:=W.K.sp.tick } } from by rw [HT.out];unfold CyW.idles;rw [hw];rfl);clear hw;go_wp2_with fail;exact bodyPost_end (results_none rfl _ _ _) rfl (Does.of ⟨own2,w2⟩ rfl rfl M2.out (by rw [HF.out];exact H2.out.at_))
   · have HF:=zH (show W.tick1.idles=CyW.ent { y:={ W.y with steps:=W.y.steps+1 },tr:=W.tr,h:=W.h,K:={ W.K with sp:=W.K.sp.tick } } 1 from by rw [HT.out];unfold CyW.idles;rw [hw];rfl);clear hw;go_wp2_with fail;refine (yal A 1 H2.out).mono ?_;rintro e w3 ⟨rfl,own3,m3,h3⟩;have M3:=zH (M2.out.trans m3);have H3:=zH h3;clear m3 h3;go_wp2_with fail;exact bodyPost_end (results_none rfl _ _ _) rfl (Does.of ⟨own3,w3⟩ rfl rfl M3.out (by rw [HF.out];exact H3.out.at_))
 · have d1:decide (0<W.y.started)=false:=decide_eq_false hs;have HT:=zH (show W.tick1=W from if_neg hs);have H1:=zH (show CyIn ⟨g.own,g.w⟩ t B b k W tp hp bm bs bt bp bsp bh cm from HH.out);have M1:=zH (show Mod (cyT t B) g ⟨g.own,g.w⟩ from Mod.self);clear hs;have HWT:=zH (yc8 ⟨g.own,g.w⟩ B bsp bt W.K.sp H1.out.c.sp A.hb HD.out.sp);go_enter func19,ntmps19;go_wp2_with fail;refine HWT.out.mono ?_;rintro e w2 ⟨rfl,own2,m2,h2⟩;have M2:=zH (M1.out.trans (m2.mono (S:=cyT t B) (fun x hx=>yaF hx)));have H2:=zH (show CyIn ⟨own2,w2⟩ t B b k { y:=W.y,tr:=W.tr,h:=W.h,K:={ W.K with sp:=W.K.sp.tick } } tp hp bm bs bt bp bsp bh cm from H1.out.spc A m2 h2);clear m2 h2 HWT a0 a1 a2 a3 a4 a5 a6 a7 a8 a9 a10 a11 a12 a13 af12 al c0 c1 c2 c3 c4 c5 c6 c7 c8 c9 c10 c11 c12 cl;cases hw:wantsS W.K.sp
   · have HF:=zH (show W.tick1.idles={ y:=W.y,tr:=W.tr,h:=W.h,K:={ W.K with sp:=W.K.sp.tick } } from by rw [HT.out];unfold CyW.idles;rw [hw];rfl);clear hw;go_wp2_with fail;exact bodyPost_end (results_none rfl _ _ _) rfl (Does.of ⟨own2,w2⟩ rfl rfl M2.out (by rw [HF.out];exact H2.out.at_))
   · have HF:=zH (show W.tick1.idles=CyW.ent { y:=W.y,tr:=W.tr,h:=W.h,K:={ W.K with sp:=W.K.sp.tick } } 1 from by rw [HT.out];unfold CyW.idles;rw [hw];rfl);clear hw;go_wp2_with fail;refine (yal A 1 H2.out).mono ?_;rintro e w3 ⟨rfl,own3,m3,h3⟩;have M3:=zH (M2.out.trans m3);have H3:=zH h3;clear m3 h3;go_wp2_with fail;exact bodyPost_end (results_none rfl _ _ _) rfl (Does.of ⟨own3,w3⟩ rfl rfl M3.out (by rw [HF.out];exact H3.out.at_))
end
section
variable {g:GW} {t B b k:Nat} {W:CyW} {c:Cnf} {n L:Int} {s0:Bool}
end
end Go.Proofs.YtdhjjpnajjingaaGreat
namespace Go.Proofs.YtdhjjpnajjingaaGreat
open Go Go.RowKit
namespace CyW
def cOk (n:Int):Bool:=decide (0≤n∧n≤1099511627776)
def bdB (W:CyW):Bool:=cOk W.y.i&&(cOk W.y.started&&(cOk W.y.finished&&(cOk W.y.freed&&(cOk W.y.moved&&(cOk W.y.steps&&(cOk W.K.hand.count&&(cOk W.K.sp.count&&(cOk W.K.mem.count&&cOk W.K.n))))))))
theorem bdB_of {W:CyW} (h:W.bdB=true):W.Bd:=by
 unfold bdB cOk at h;simp only [Bool.and_eq_true,decide_eq_true_eq] at h;obtain ⟨h1,h2,h3,h4,h5,h6,h7,h8,h9,h10⟩:=h;exact ⟨h1,h2,h3,h4,h5,h6,h7,h8,h9,h10⟩
def entOk (e:Ent):Bool:=decide ((0≤e.cycles∧e.cycles≤1099511627776)∧(1≤e.frags∧e.frags≤1099511627776∧0≤e.spine∧e.spine≤1099511627776))
def rootsO (W:CyW):Option CyW:=
 if W.y.at_=3 then none
 else if W.K.c.globals≤W.y.i∨W.y.at_=1 then some W.rootsPoll
 else if W.y.at_=0∧0≤W.y.i∧W.K.c.check=0∧inB (W.y.i+cAhead W.K.c 3) W.K.mem.l.length=true∧(wIndex (W.K.mem.peek (W.y.i+cAhead W.K.c 3))).isNone=true then some W.rootsNone else none
def marksO (W:CyW):Option CyW:=
 if W.y.at_=0 then (if W.K.pile.some_=false then some W.marksEmpty else none)
 else if W.y.at_=5 then (if W.K.pile.lost=false then some W.marksFound else none) else none
def haulsO (W:CyW):Option CyW:=
 if W.y.at_=0 then (if W.h.isNone=true∧W.K.c.check=0∧W.K.sp.coil.used (1-W.K.sp.coil.cur)=0 then some W.haulsNone else none)
 else if W.y.at_=2 then some W.haulsPost else none
def stageO (W:CyW):Option CyW:=
 if W.y.stage=1 then some W.starts else if W.y.stage=2 then some (W.hands 2 3) else if W.y.stage=3 then some (W.hands 3 4)
 else if W.y.stage=4 then W.rootsO else if W.y.stage=5 then W.marksO else if W.y.stage=6 then some W.turns
 else if W.y.stage=7 then W.haulsO
 else if W.y.stage=8 then (if W.y.at_=0∨W.K.sp.coil.kept≤0 then some W.settles else none)
 else if W.y.stage=9 then some W.sweepsY
 else if W.y.stage=10 then (if W.K.sp.line.all entOk then some W.serves else none)
 else none
def stepO (W:CyW):Option CyW:=
 if (W.bdB&&(W.tick1.bdB&&W.y.e==0))=false then none
 else if W.y.stage=0 then some W.tick1.idles
 else W.tick1.stageO
end CyW
section
variable {g:GW} {t B b k:Nat} {W:CyW}
theorem yiy (A:CyApart t B) (V:CyW) (h:W.stepO=some V) (h45:W.y.stage≠4∧W.y.stage≠5) (H:CyWAt g t B b k W):Calls prog 19 #[.pointer (some ⟨b,0,none⟩),.pointer (some ⟨k,0,none⟩)] g.w (Does (.tuple #[]) g (cyT t B) (fun g'=>CyWAt g' t B b k V)):=by
 unfold CyW.stepO at h;split at h
 · cases h
 rename_i hb
 simp only [Bool.not_eq_false,Bool.and_eq_true,beq_iff_eq] at hb;obtain ⟨hb1,hb2,he⟩:=hb;have hd:=CyW.bdB_of hb1;have hd1:=CyW.bdB_of hb2;by_cases s0:W.y.stage=0
 · rw [if_pos s0] at h;injection h with h;subst h;exact ybE A hd he s0 H
 rw [if_neg s0] at h;unfold CyW.stageO at h;rw [CyW.tick1_stage] at h;by_cases s1:W.y.stage=1
 · rw [if_pos s1] at h;injection h with h;subst h;exact ydU A hd hd1 he s1 H
 rw [if_neg s1] at h;by_cases s2:W.y.stage=2
 · rw [if_pos s2] at h;injection h with h;subst h;exact yeQ A hd hd1 he s2 H
 rw [if_neg s2] at h;by_cases s3:W.y.stage=3
 · rw [if_pos s3] at h;injection h with h;subst h;exact yfg A hd hd1 he s3 H
 rw [if_neg s3] at h;rw [if_neg h45.1,if_neg h45.2] at h;by_cases s6:W.y.stage=6
 · rw [if_pos s6] at h;injection h with h;subst h;exact yeR A hd hd1 he s6 H
 rw [if_neg s6] at h;by_cases s7:W.y.stage=7
 · rw [if_pos s7] at h;unfold CyW.haulsO at h;by_cases a0:W.tick1.y.at_=0
   · rw [if_pos a0] at h;split at h
     case isFalse=>cases h
     case isTrue hc=>
      injection h with h;subst h;exact ycv A hd hd1 he s7 a0 (Option.isNone_iff_eq_none.1 hc.1) hc.2.1 hc.2.2 H
   rw [if_neg a0] at h;by_cases a2:W.tick1.y.at_=2
   · rw [if_pos a2] at h;injection h with h;subst h;exact ycw A hd hd1 he s7 a2 H
   rw [if_neg a2] at h;cases h
 rw [if_neg s7] at h;by_cases s8:W.y.stage=8
 · rw [if_pos s8] at h;split at h
   case isFalse=>cases h
   case isTrue hc=>
    injection h with h;subst h;exact ydu A hd hd1 he s8 (fun hn=>hc.resolve_left hn) H
 rw [if_neg s8] at h;by_cases s9:W.y.stage=9
 · rw [if_pos s9] at h;injection h with h;subst h;exact ydV A hd hd1 he s9 H
 rw [if_neg s9] at h;by_cases s10:W.y.stage=10
 · rw [if_pos s10] at h;split at h
   case isFalse=>cases h
   case isTrue hc=>
    injection h with h;subst h;refine ydT A hd hd1 he s10 (fun e he=>?_) H;have h1:=List.all_eq_true.1 hc e he;unfold CyW.entOk at h1;have h2:=of_decide_eq_true h1;exact h2
 rw [if_neg s10] at h;cases h
end
end Go.Proofs.YtdhjjpnajjingaaGreat
namespace Go.Proofs.YtdhjjpnajjingaaGreat
open Go Go.RowKit
theorem Mod.ofExtT {w w':World} (h:Ext w w') (own:Nat→Nat): ∃own',Mod (fun _=>False) ⟨own,w⟩ ⟨own',w'⟩:=⟨_,Mod.ext (g:=⟨own,w⟩) h 0⟩
structure TraceS.Bd (S:TraceS):Prop where
 j:0≤S.j∧S.j≤1000
 n:0≤S.n∧S.n≤512
 base:0≤S.base∧S.base≤100000
 chk:S.c.check=0
 may:S.shp.may=true
theorem TraceS.Bd.j' {S:TraceS} (h:S.Bd):0≤S.j∧S.j≤1000000:=by have:=h.j;omega
theorem TraceS.Bd.base' {S:TraceS} (h:S.Bd):0≤S.base∧S.base≤1099511627776:=by have:=h.base;omega
theorem TraceIs.tail {g:GW} {t b:Nat} {S:TraceS} {P:TrPl} {x:Int} {l:List Int} {bq oq:Nat} (h:TraceIs g t b S P) (hw:S.words=x::l) (hA:P.wA=some ⟨bq,oq,none⟩):
 TraceIs ⟨g.own,g.w.setCell ⟨b,16,none⟩ (.slice (if P.wc=1 then some ⟨bq,oq,none⟩ else some ⟨bq,oq+1,none⟩) l.length (P.wc-1))⟩ t b { S with words:=l } ⟨P.sA,P.sc,if P.wc=1 then some ⟨bq,oq,none⟩ else some ⟨bq,oq+1,none⟩,P.wc-1⟩:=by
 have m2:Mod (fun x=>x=t) g ⟨g.own,g.w.setCell ⟨b,16,none⟩ (.slice (if P.wc=1 then some ⟨bq,oq,none⟩ else some ⟨bq,oq+1,none⟩) l.length (P.wc-1))⟩:=Mod.st Mod.self h.blk.own;have hl:=h.wlen;rw [hw] at hl;simp only [List.length_cons] at hl;refine ⟨h.blk.set 16 (.slice (if P.wc=1 then some ⟨bq,oq,none⟩ else some ⟨bq,oq+1,none⟩) l.length (P.wc-1)),h.cnf.keep m2 zo,h.shp.keep m2 zo,?_,⟨by show l.length≤P.wc-1;omega,by show P.wc-1≤_;omega⟩⟩;have hs:=h.words;rw [hw,hA] at hs;refine Seg.keep (S:=fun x=>x=t) (g:=g) ?_ m2 zo;by_cases hc:P.wc=1
 · have:l=[]:=by cases l with
    |nil=>rfl
    |cons y l=>simp at hl;omega
   rw [this];exact Seg.nil _ _ _
 · rw [if_neg hc];refine ⟨?_,fun a ha hv=>?_⟩
   · have:=hs.cells.sub 1;simpa [Addr.add] using this
   · injection ha with ha;subst ha;exact hs.own ⟨bq,oq,none⟩ rfl (by simp)
theorem ygv (g:GW) (t b tm bm bs:Nat) (S:TraceS) (P:TrPl) (m:MemS) (x:Int) (l:List Int) (h:TraceIs g t b S P) (hm:MemAt g tm bm m) (hc:0≤m.count∧m.count≤1099511627776) (ht:t≠tm) (ht1:t+1≠tm) (hpc:S.pc=1) (hw:S.words=x::l) (hB:S.Bd) (ok:Bool) (S':TraceS) (T:TabS) (p:PileS) (k:Int) (hf:TrW.field ⟨S,m,T,p,k⟩=(⟨S',S.rdM m S.frag x,T,p,k⟩,ok)):
 Calls prog 264 #[.pointer (some ⟨b,0,none⟩),.pointer (some ⟨bm,0,none⟩),.pointer (some ⟨bs,0,none⟩)] g.w (Does (.bool ok) g (fun x=>x=t∨x=tm) (fun g'=>TraceAt g' t b S'∧MemAt g' tm bm (S.rdM m S.frag x))):=by
 have c11:=h.blk.cell (i:=11) rfl;have hl:=h.blk.lt;rw [hpc] at c11;have HT:=zH (And.intro ht ht1);have HB:=zH hB;have c14:=h.blk.cell (i:=14) rfl;have c16:=h.blk.cell (i:=16) rfl;have HRD:=zH (fun X=>yaH (g.pt X) t b tm bm S m S.frag x ⟨P,h.keep (T:=fun _=>False) (Mod.pt (Mod.refl _ g) X) id id⟩ (hm.pt X) hc);have hWS:=h.words;rw [hw] at hWS c16;obtain ⟨bq,oq,hA,hbq,hcq⟩:=hWS.cells.cases (by simp);have z0:=hcq 0 (zI z6 x) rfl;rw [Nat.add_zero] at z0;rw [hA] at c16;simp only [List.length_cons] at c16;have H:=zH h;have HW:=zH hw;have HA:=zH hA;have hwl:=h.wlen;rw [hw] at hwl;simp only [List.length_cons] at hwl;obtain ⟨hwl1,hwl2⟩:=hwl;clear h hm hc hpc hw hB ht ht1 hWS hcq hA;unfold TrW.field at hf;simp only [HW.out,List.headD_cons,List.tail_cons] at hf;generalize hr:S.rd m S.frag x=r at *;generalize S.rdM m S.frag x=m' at *;clear hr;rcases r with _|v
 · simp only [Prod.mk.injEq,TrW.mk.injEq,and_true] at hf;obtain ⟨⟨rfl, -⟩,rfl⟩:=hf;unfold trdV at HRD;simp only [Option.getD_none,Option.isSome_none] at HRD;go_enter func264,ntmps264;go_wp2_with fail;refine yad 3 rfl ?_;go_wp2_with fail;refine yaB [zT,zT,zT,zT,zT,zT,zT,zT,zT,zT,zT,zT] 12 [zU,zU,zU,zU,zU,zU,zU,zU,zU,zU,zU,zU,zU,zT,zT,zT,zT,zT] ?_;intro X00;simp only [pickOps];repeat (go_big_quiet_step (fail))
   refine wpQuiet_nil ?_;intro X0 K Q' hK;clear X00;(try go_simp);refine (HRD.out _).mono ?_;rintro e w1 ⟨rfl,own1,m1,r1⟩;have M1:=zH ((Mod.pt (Mod.refl (fun x=>x=tm) _) _).trans m1);have R1:=zH r1;clear m1 r1 c11 c14 c16 hl z0 hbq;(try go_simp);refine hK _ _ (fun X00=>?_);clear hK K Q';(try simp only [pickOps]);repeat (go_big_quiet_step (fail))
   refine wpQuiet_nil (fun X2=>?_);clear X00;go_wp2_with fail;rw [Exit.jump_ret];go_ret;exact Does.ext ⟨own1,w1⟩ zE rfl (M1.out.mono (fun x hx=>Or.inr hx)) (fun g2 m=>⟨⟨P,(H.out.keep M1.out HT.out.1 HT.out.2).keep m id id⟩,R1.out.keep m id⟩)
 · unfold trdV at HRD;simp only [Option.getD_some,Option.isSome_some] at HRD;have HIS:=zH (fun w=>yi2 v w);obtain ⟨v1,v2⟩:=v;simp only at HRD HIS hf;cases hi:wIs (v1,v2)
   · rw [hi] at HIS hf;simp only [if_true,Prod.mk.injEq,TrW.mk.injEq,and_true] at hf;obtain ⟨⟨rfl, -⟩,rfl⟩:=hf;clear hi;go_enter func264,ntmps264;go_wp2_with fail;refine yad 3 rfl ?_;go_wp2_with fail;refine yaB [zT,zT,zT,zT,zT,zT,zT,zT,zT,zT,zT,zT] 12 [zU,zU,zU,zU,zU,zU,zU,zU,zU,zU,zU,zU,zU,zT,zT,zT,zT,zT] ?_;intro X00;simp only [pickOps];repeat (go_big_quiet_step (fail))
     refine wpQuiet_nil ?_;intro X0 K Q' hK;clear X00;(try go_simp);refine (HRD.out _).mono ?_;rintro e w1 ⟨rfl,own1,m1,r1⟩;have M1:=zH ((Mod.pt (Mod.refl (fun x=>x=tm) _) _).trans m1);have R1:=zH r1;clear m1 r1 c11 c14 c16 hl z0 hbq;(try go_simp);refine hK _ _ (fun X00=>?_);clear hK K Q';(try simp only [pickOps]);repeat (go_big_quiet_step (fail))
     refine wpQuiet_nil (fun X2=>?_);clear X00;go_wp2_with fail;refine (HIS.out _).mono ?_;rintro e w2 ⟨rfl,hE⟩;have HE2:=zH (show Ext w1 w2 from Ext.trans ⟨_,rfl⟩ (show Ext _ w2 from hE));clear hE;go_wp2_with fail;rw [Exit.jump_ret];go_ret;exact Does.ext ⟨own1,w1⟩ (HE2.out.trans zE) rfl (M1.out.mono (fun x hx=>Or.inr hx)) (fun g2 m=>⟨⟨P,(H.out.keep M1.out HT.out.1 HT.out.2).keep m id id⟩,R1.out.keep m id⟩)
   · rw [hi] at HIS hf;have HIX:=zH (fun w=>yao (v1,v2) w);unfold optV at HIX;simp only [Bool.true_eq_false,if_false] at hf HIX;clear hi;rcases hix:wIndex (v1,v2) with _|i
     · rw [hix] at hf HIX;simp only [Option.isSome_none,Bool.false_eq_true,if_false,Prod.mk.injEq,TrW.mk.injEq,and_true] at hf;obtain ⟨⟨rfl, -⟩,rfl⟩:=hf;simp only [Option.getD_none,Option.isSome_none] at HIX;clear hix;go_enter func264,ntmps264;go_wp2_with fail;refine yad 3 rfl ?_;go_wp2_with fail;refine yaB [zT,zT,zT,zT,zT,zT,zT,zT,zT,zT,zT,zT] 12 [zU,zU,zU,zU,zU,zU,zU,zU,zU,zU,zU,zU,zU,zT,zT,zT,zT,zT] ?_;intro X00;simp only [pickOps];repeat (go_big_quiet_step (fail))
       refine wpQuiet_nil ?_;intro X0 K Q' hK;clear X00;(try go_simp);refine (HRD.out _).mono ?_;rintro e w1 ⟨rfl,own1,m1,r1⟩;have M1:=zH ((Mod.pt (Mod.refl (fun x=>x=tm) _) _).trans m1);have R1:=zH r1;clear m1 r1 c11 c14 c16 hl z0 hbq;(try go_simp);refine hK _ _ (fun X00=>?_);clear hK K Q';(try simp only [pickOps]);repeat (go_big_quiet_step (fail))
       refine wpQuiet_nil (fun X2=>?_);clear X00;go_wp2_with fail;refine (HIS.out _).mono ?_;rintro e w2 ⟨rfl,hE⟩;have HE2:=zH (show Ext w1 w2 from Ext.trans ⟨_,rfl⟩ (show Ext _ w2 from hE));obtain ⟨own3,m2⟩:=Mod.ofExtT HE2.out own1;have M3:=zH ((M1.out.mono (S:=fun x=>x=t∨x=tm) (fun x hx=>Or.inr hx)).trans (m2.mono (fun _=>False.elim)));have H3:=zH ((H.out.keep M1.out HT.out.1 HT.out.2).keep m2 id id);have R3:=zH (R1.out.keep m2 id);clear hE m2 M1 R1 HE2;have HO3:=zH H3.out.blk.own;have c16:=H3.out.blk.cell (i:=16) rfl;have f16:=H3.out.blk.live 16;have hl:=H3.out.blk.lt;rw [HW.out,HA.out] at c16;simp only [List.length_cons] at c16 hl f16;have e1:l.length+1-1=l.length:=zo;have HTL:=zH (H3.out.tail HW.out HA.out)
       obtain ⟨wA2,wc2,HTL,hcase⟩: ∃wA2 wc2,Hid (TraceIs ⟨own3,w2.setCell ⟨b,16,none⟩ (.slice wA2 l.length wc2)⟩ t b { S with words:=l } ⟨P.sA,P.sc,wA2,wc2⟩)∧((P.wc=1∧wA2=some ⟨bq,oq,none⟩∧wc2=0)∨(P.wc≠1∧wA2=some ⟨bq,oq+1,none⟩∧wc2=P.wc-1)):=by
        by_cases hwc:P.wc=1
        · have h1:=HTL.out;rw [if_pos hwc,hwc] at h1;exact ⟨_,_,zH h1,Or.inl ⟨hwc,rfl,rfl⟩⟩
        · have h1:=HTL.out;rw [if_neg hwc] at h1;exact ⟨_,_,zH h1,Or.inr ⟨hwc,rfl,rfl⟩⟩
       rcases hcase with ⟨hwc,rfl,rfl⟩|⟨hwc,rfl,rfl⟩
       all_goals
        go_wp2_with fail;refine (HIX.out _).mono ?_;rintro e w4 ⟨rfl,hE⟩;obtain ⟨own5,m4⟩:=Mod.ofExtT (show Ext _ w4 from hE) own3;have M5:=zH (M3.out.trans ((Mod.st (T:=fun x=>x=t∨x=tm) Mod.self (Or.inl HO3.out)).trans (m4.mono (fun _=>False.elim))));have H5:=zH (HTL.out.keep m4 id id);have R5:=zH ((R3.out.keep (Mod.st (T:=fun x=>x=t) Mod.self HO3.out) (fun e=>HT.out.1 e.symm)).keep m4 id);clear hE m4 c16 f16 hl M3 H3 R3;have HO5:=zH H5.out.blk.own;have f17:=H5.out.blk.live 17;have f11:=H5.out.blk.live 11;have c17:=H5.out.blk.cell (i:=17) rfl;have c11:=H5.out.blk.cell (i:=11) rfl;have hl:=H5.out.blk.lt;simp only at f17 f11 c17 c11 hl;have H6:=zH (H5.out.st 17 (zI z6 0) { S with words:=l,next:=0 } rfl rfl rfl rfl rfl);have m6:Mod (fun x=>x=t) (⟨own5,w4⟩:GW) ⟨own5,w4.setCell ⟨b,17,none⟩ (zI z6 0)⟩:=Mod.st Mod.self HO5.out;have M6:=zH (M5.out.trans (m6.mono (fun x hx=>Or.inl hx)));have R6:=zH (R5.out.keep m6 (fun e=>HT.out.1 e.symm));clear m6;go_wp2_with fail;go_step3
        refine ⟨rfl,?_⟩;go_wp2_with fail;refine (ybu _ t b _ _ H6.out HB.out.base' HB.out.j').mono ?_;rintro e w7 ⟨rfl,own7,m7,r7⟩;have M7:=zH m7;have H7:=zH r7;clear m7 r7 f17 f11 c17 c11 hl;have f11:=H7.out.blk.live 11;have c11:=H7.out.blk.cell (i:=11) rfl;have hl:=H7.out.blk.lt;simp only at f11 c11 hl;have H8:=zH (TraceIs.st H7.out 11 (zI z6 (TraceS.goesPc { S with words:=l,next:=0 })) (TraceS.gone { S with words:=l,next:=0 }) rfl rfl rfl rfl rfl);have M8:=zH (M7.out.trans (Mod.st (T:=fun x=>x=t) (i:=11) (v:=.int .i64 (TraceS.goesPc { S with words:=l,next:=0 })) Mod.self H7.out.blk.own));go_wp2_with fail;rw [Exit.noGoto_ret];go_ret;exact ⟨rfl,own7,M6.out.trans (M8.out.mono (fun x hx=>Or.inl hx)),⟨_,H8.out⟩,R6.out.keep M8.out (fun e=>HT.out.1 e.symm)⟩
     · rw [hix] at hf HIX;simp only [Option.isSome_some,if_true,Option.getD_some,Prod.mk.injEq,TrW.mk.injEq,and_true] at hf;obtain ⟨⟨rfl, -⟩,rfl⟩:=hf;simp only [Option.getD_some,Option.isSome_some] at HIX;clear hix;go_enter func264,ntmps264;go_wp2_with fail;refine yad 3 rfl ?_;go_wp2_with fail;refine yaB [zT,zT,zT,zT,zT,zT,zT,zT,zT,zT,zT,zT] 12 [zU,zU,zU,zU,zU,zU,zU,zU,zU,zU,zU,zU,zU,zT,zT,zT,zT,zT] ?_;intro X00;simp only [pickOps];repeat (go_big_quiet_step (fail))
       refine wpQuiet_nil ?_;intro X0 K Q' hK;clear X00;(try go_simp);refine (HRD.out _).mono ?_;rintro e w1 ⟨rfl,own1,m1,r1⟩;have M1:=zH ((Mod.pt (Mod.refl (fun x=>x=tm) _) _).trans m1);have R1:=zH r1;clear m1 r1 c11 c14 c16 hl z0 hbq;(try go_simp);refine hK _ _ (fun X00=>?_);clear hK K Q';(try simp only [pickOps]);repeat (go_big_quiet_step (fail))
       refine wpQuiet_nil (fun X2=>?_);clear X00;go_wp2_with fail;refine (HIS.out _).mono ?_;rintro e w2 ⟨rfl,hE⟩;have HE2:=zH (show Ext w1 w2 from Ext.trans ⟨_,rfl⟩ (show Ext _ w2 from hE));obtain ⟨own3,m2⟩:=Mod.ofExtT HE2.out own1;have M3:=zH ((M1.out.mono (S:=fun x=>x=t∨x=tm) (fun x hx=>Or.inr hx)).trans (m2.mono (fun _=>False.elim)));have H3:=zH ((H.out.keep M1.out HT.out.1 HT.out.2).keep m2 id id);have R3:=zH (R1.out.keep m2 id);clear hE m2 M1 R1 HE2;have HO3:=zH H3.out.blk.own;have c16:=H3.out.blk.cell (i:=16) rfl;have f16:=H3.out.blk.live 16;have hl:=H3.out.blk.lt;rw [HW.out,HA.out] at c16;simp only [List.length_cons] at c16 hl f16;have e1:l.length+1-1=l.length:=zo;have HTL:=zH (H3.out.tail HW.out HA.out)
       obtain ⟨wA2,wc2,HTL,hcase⟩: ∃wA2 wc2,Hid (TraceIs ⟨own3,w2.setCell ⟨b,16,none⟩ (.slice wA2 l.length wc2)⟩ t b { S with words:=l } ⟨P.sA,P.sc,wA2,wc2⟩)∧((P.wc=1∧wA2=some ⟨bq,oq,none⟩∧wc2=0)∨(P.wc≠1∧wA2=some ⟨bq,oq+1,none⟩∧wc2=P.wc-1)):=by
        by_cases hwc:P.wc=1
        · have h1:=HTL.out;rw [if_pos hwc,hwc] at h1;exact ⟨_,_,zH h1,Or.inl ⟨hwc,rfl,rfl⟩⟩
        · have h1:=HTL.out;rw [if_neg hwc] at h1;exact ⟨_,_,zH h1,Or.inr ⟨hwc,rfl,rfl⟩⟩
       rcases hcase with ⟨hwc,rfl,rfl⟩|⟨hwc,rfl,rfl⟩
       all_goals
        go_wp2_with fail;refine (HIX.out _).mono ?_;rintro e w4 ⟨rfl,hE⟩;obtain ⟨own5,m4⟩:=Mod.ofExtT (show Ext _ w4 from hE) own3;have M5:=zH (M3.out.trans ((Mod.st (T:=fun x=>x=t∨x=tm) Mod.self (Or.inl HO3.out)).trans (m4.mono (fun _=>False.elim))));have H5:=zH (HTL.out.keep m4 id id);have R5:=zH ((R3.out.keep (Mod.st (T:=fun x=>x=t) Mod.self HO3.out) (fun e=>HT.out.1 e.symm)).keep m4 id);clear hE m4 c16 f16 hl M3 H3 R3;have HO5:=zH H5.out.blk.own;have f17:=H5.out.blk.live 17;have f11:=H5.out.blk.live 11;have c17:=H5.out.blk.cell (i:=17) rfl;have c11:=H5.out.blk.cell (i:=11) rfl;have hl:=H5.out.blk.lt;simp only at f17 f11 c17 c11 hl;have H6:=zH ((H5.out.st 17 (zI z6 i) { S with words:=l,next:=i } rfl rfl rfl rfl rfl).st 11 (zI z6 2) { S with words:=l,next:=i,pc:=2 } rfl rfl rfl rfl rfl);go_wp2_with fail;rw [Exit.jump_ret];go_ret;have m6:Mod (fun x=>x=t) (⟨own5,w4⟩:GW) ⟨own5,(w4.setCell ⟨b,17,none⟩ (zI z6 i)).setCell ⟨b,11,none⟩ (zI z6 2)⟩:=Mod.st (Mod.st Mod.self HO5.out) HO5.out;exact ⟨rfl,own5,M5.out.trans (m6.mono (fun x hx=>Or.inl hx)),⟨_,H6.out⟩,R5.out.keep m6 (fun e=>HT.out.1 e.symm)⟩
end Go.Proofs.YtdhjjpnajjingaaGreat
namespace Go
section
variable {P:Program} {a:Act} {w:World} {Q:Exit→Act→World→Prop}
theorem ybZ {c r0 r1:Code} (l0 l1:Nat) (h0:findLabel c l0=some r0) (h1:findLabel c l1=some r1) (first:c.wp P (Exit.via P Q [(l0,r0),(l1,r1)]) a w):(Code.scope c).wp P Q a w:=
 ya9 [(l0,r0),(l1,r1)] (by
  intro p hp;simp only [List.mem_cons,List.not_mem_nil,or_false] at hp;rcases hp with rfl|rfl
  · exact h0
  · exact h1) first
end
end Go
namespace Go.Proofs.YtdhjjpnajjingaaGreat
open Go Go.RowKit
theorem yh8 (g:GW) (t b bm ts bs bt tt bp tp:Nat) (S:TraceS) (P:TrPl) (T:TabS) (p:PileS) (k:Int) (h:TraceIs g t b S P) (hs:ShdAt g ts bs bt tt bp tp T p k) (hk:0≤k∧k≤1099511627776) (hpc:S.pc=2) (hB:S.Bd) (h1:ts≠tt) (h2:ts≠tp) (h3:tt≠tp) (h4:t≠ts) (h5:t≠tt) (h6:t≠tp) (h7:t+1≠ts) (h8:t+1≠tt) (h9:t+1≠tp):
 Calls prog 264 #[.pointer (some ⟨b,0,none⟩),.pointer (some ⟨bm,0,none⟩),.pointer (some ⟨bs,0,none⟩)] g.w (Does (.bool true) g (fun x=>x=t∨x=ts∨x=tt∨x=tp) (fun g'=>TraceAt g' t b S.gone∧ShdAt g' ts bs bt tt bp tp (T.grey S.next S.sense) (p.grey T S.next S.sense) (k+1))):=by
 have c11:=h.blk.cell (i:=11) rfl;have c10:=h.blk.cell (i:=10) rfl;have c17:=h.blk.cell (i:=17) rfl;have hl:=h.blk.lt;rw [hpc] at c11;have HB:=zH hB;have H:=zH h;have HN:=zH (And.intro h4 (And.intro h5 (And.intro h6 (And.intro h7 (And.intro h8 h9)))));have HG:=zH (fun X=>ycg (g.pt X) ts bs bt tt bp tp T p k S.next S.sense (hs.keep (S:=fun _=>False) (Mod.pt (Mod.refl _ g) X) id id id) hk h1 h2 h3);clear h hs hk hpc hB h1 h2 h3 h4 h5 h6 h7 h8 h9;go_enter func264,ntmps264;go_wp2_with fail;refine ybZ 0 3 rfl rfl ?_;go_wp2_with fail;go_step3
 refine yat ?_;go_wp2_with fail;refine yaB [zT,zT,zT,zT,zT,zT,zT,zT,zT] 9 [zU,zU,zU,zU,zU,zU,zU,zU,zU,zU] ?_;intro X00;simp only [pickOps];repeat (go_big_quiet_step (fail))
 refine wpQuiet_nil ?_;intro X0 K Q' hK;clear X00;(try go_simp);refine (HG.out _).mono ?_;rintro e w1 ⟨rfl,own1,m1,r1⟩;have M1:=zH ((Mod.pt (Mod.refl (fun x=>x=ts∨x=tt∨x=tp) _) _).trans m1);have R1:=zH r1;clear m1 r1 c11 c10 c17 hl;(try go_simp);refine hK _ _ (fun X00=>?_);clear hK K Q';(try simp only [pickOps]);repeat (go_big_quiet_step (fail))
 refine wpQuiet_nil (fun X2=>?_);clear X00;obtain ⟨own2,m2⟩:=Mod.ofExtT (show Ext w1 (w1.patch X2) from ⟨_,rfl⟩) own1;have H2:=zH ((H.out.keep M1.out (fun e=>by have:=HN.out;omega) (fun e=>by have:=HN.out;omega)).keep m2 id id);have R2:=zH (R1.out.keep m2 id id id);have M2:=zH (M1.out.trans (m2.mono (fun _=>False.elim)));clear m2 M1 R1;go_wp2_with fail;go_step3
 refine yat ?_;go_wp2_with fail;refine (ybu _ t b _ _ H2.out HB.out.base' HB.out.j').mono ?_;rintro e w7 ⟨rfl,own7,m7,r7⟩;have M7:=zH m7;have H7:=zH r7;clear m7 r7;have f11:=H7.out.blk.live 11;have c11:=H7.out.blk.cell (i:=11) rfl;have hl:=H7.out.blk.lt;simp only at f11 c11 hl;have H8:=zH (TraceIs.st H7.out 11 (zI z6 (TraceS.goesPc S)) (TraceS.gone S) rfl rfl rfl rfl rfl);have M8:=zH (M7.out.trans (Mod.st (T:=fun x=>x=t) (i:=11) (v:=.int .i64 (TraceS.goesPc S)) Mod.self H7.out.blk.own));go_wp2_with fail;rw [Exit.via_ret];go_ret;exact ⟨rfl,own7,(M2.out.mono (fun x hx=>Or.inr hx)).trans (M8.out.mono (fun x hx=>Or.inl hx)),⟨_,H8.out⟩,R2.out.keep M8.out (fun e=>by have:=HN.out;omega) (fun e=>by have:=HN.out;omega) (fun e=>by have:=HN.out;omega)⟩
theorem yia (g:GW) (t b bm ts bs bt tt bp tp:Nat) (S:TraceS) (P:TrPl) (T:TabS) (p:PileS) (k:Int) (h:TraceIs g t b S P) (hs:ShdAt g ts bs bt tt bp tp T p k) (hk:0≤k∧k≤1099511627776) (hpc:S.pc=4) (hB:S.Bd) (h1:ts≠tt) (h2:ts≠tp) (h3:tt≠tp) (h4:t≠ts) (h5:t≠tt) (h6:t≠tp) (h7:t+1≠ts) (h8:t+1≠tt) (h9:t+1≠tp):
 Calls prog 264 #[.pointer (some ⟨b,0,none⟩),.pointer (some ⟨bm,0,none⟩),.pointer (some ⟨bs,0,none⟩)] g.w (Does (.bool true) g (fun x=>x=t∨x=ts∨x=tt∨x=tp) (fun g'=>TraceAt g' t b (TraceS.gone { S with words:=S.refsL })∧ShdAt g' ts bs bt tt bp tp (T.mark S.frag S.sense) p (k+1))):=by
 have c11:=h.blk.cell (i:=11) rfl;have c10:=h.blk.cell (i:=10) rfl;have c14:=h.blk.cell (i:=14) rfl;have hl:=h.blk.lt;rw [hpc] at c11;have HB:=zH hB;have H:=zH h;have HN:=zH (And.intro h4 (And.intro h5 (And.intro h6 (And.intro h7 (And.intro h8 h9)))));have HG:=zH (fun X=>yhX (g.pt X) ts bs bt tt bp tp T p k S.frag S.sense (hs.keep (S:=fun _=>False) (Mod.pt (Mod.refl _ g) X) id id id) hk h1 h2 h3);clear h hs hk hpc hB h1 h2 h3 h4 h5 h6 h7 h8 h9;go_enter func264,ntmps264;go_wp2_with fail;refine yad 2 rfl ?_;go_wp2_with fail;go_step3
 refine ⟨rfl,?_⟩;go_wp2_with fail;refine yaB [zT,zT,zT,zT,zT,zT,zT,zT,zT] 9 [zU,zU,zU,zU,zU,zU,zU,zU,zU,zU] ?_;intro X00;simp only [pickOps];repeat (go_big_quiet_step (fail))
 refine wpQuiet_nil ?_;intro X0 K Q' hK;clear X00;(try go_simp);refine (HG.out _).mono ?_;rintro e w1 ⟨rfl,own1,m1,r1⟩;have M1:=zH ((Mod.pt (Mod.refl (fun x=>x=ts∨x=tt) _) _).trans m1);have R1:=zH r1;clear m1 r1 c11 c10 c14 hl;(try go_simp);refine hK _ _ (fun X00=>?_);clear hK K Q';(try simp only [pickOps]);repeat (go_big_quiet_step (fail))
 refine wpQuiet_nil (fun X2=>?_);clear X00;obtain ⟨own2,m2⟩:=Mod.ofExtT (show Ext w1 (w1.patch X2) from ⟨_,rfl⟩) own1;have H2:=zH ((H.out.keep M1.out (fun e=>by have:=HN.out;omega) (fun e=>by have:=HN.out;omega)).keep m2 id id);have R2:=zH (R1.out.keep m2 id id id);have M2:=zH (M1.out.trans (m2.mono (fun _=>False.elim)));clear m2 M1 R1;go_wp2_with fail;refine (ydJ _ t b _ _ H2.out HB.out.j' (by have:=HB.out.n;omega) HB.out.may).mono ?_;rintro e w4 ⟨A4,c4,rfl,hE4,hl4,hc4,hn4⟩;have H5:=zH (H2.out.wordsSet hE4 hl4 hc4 hn4);have m4:Mod (fun _=>False) (⟨own2,w1.patch X2⟩:GW) (GW.to ⟨own2,w1.patch X2⟩ (t+1) w4):=Mod.ext hE4 (t+1);have B4:=zH (H2.out.blk.keep m4 id);have M4:=zH (M2.out.trans (m4.mono (fun _=>False.elim)));have R4:=zH (R2.out.keep m4 id id id);clear hE4 hl4 hc4 hn4 m4;have c16:=B4.out.cell (i:=16) rfl;have f16:=B4.out.live 16;have hl:=B4.out.lt;simp only [GW.to] at c16 f16 hl;go_wp2_with fail;go_step3
 go_wp2_with fail;refine (ybu _ t b _ _ H5.out HB.out.base' HB.out.j').mono ?_;rintro e w7 ⟨rfl,own7,m7,r7⟩;have M7:=zH m7;have H7:=zH r7;clear m7 r7;have f11:=H7.out.blk.live 11;have c11:=H7.out.blk.cell (i:=11) rfl;have hl:=H7.out.blk.lt;simp only at f11 c11 hl;have H8:=zH (TraceIs.st H7.out 11 (zI z6 (TraceS.goesPc { S with words:=S.refsL })) (TraceS.gone { S with words:=S.refsL }) rfl rfl rfl rfl rfl);have M8:=zH (M7.out.trans (Mod.st (T:=fun x=>x=t) (i:=11) (v:=.int .i64 (TraceS.goesPc { S with words:=S.refsL })) Mod.self H7.out.blk.own));go_wp2_with fail;rw [Exit.noGoto_ret];go_ret;have M9:=zH ((Mod.st (T:=fun x=>x=t) (i:=16) (v:=.slice A4 S.refsL.length c4) Mod.self B4.out.own).trans M8.out);exact ⟨rfl,own7,(M4.out.mono (fun x hx=>by rcases hx with hx|hx<;>simp [hx])).trans (M9.out.mono (fun x hx=>Or.inl hx)),⟨_,H8.out⟩,R4.out.keep M9.out (fun e=>by have:=HN.out;omega) (fun e=>by have:=HN.out;omega) (fun e=>by have:=HN.out;omega)⟩
theorem yh9 (g:GW) (t b tm bm bs:Nat) (S:TraceS) (P:TrPl) (m:MemS) (h:TraceIs g t b S P) (hm:MemAt g tm bm m) (hc:0≤m.count∧m.count≤1099511627776) (ht:t≠tm) (ht1:t+1≠tm) (hpc:S.pc=3) (hB:S.Bd) (ok:Bool) (S':TraceS) (T:TabS) (p:PileS) (k:Int) (hf:TrW.link ⟨S,m,T,p,k⟩=(⟨S',S.rdM m S.frag 0,T,p,k⟩,ok)):
 Calls prog 264 #[.pointer (some ⟨b,0,none⟩),.pointer (some ⟨bm,0,none⟩),.pointer (some ⟨bs,0,none⟩)] g.w (Does (.bool ok) g (fun x=>x=t∨x=tm) (fun g'=>TraceAt g' t b S'∧MemAt g' tm bm (S.rdM m S.frag 0))):=by
 have c11:=h.blk.cell (i:=11) rfl;have c14:=h.blk.cell (i:=14) rfl;have hl:=h.blk.lt;rw [hpc] at c11;have HT:=zH (And.intro ht ht1);have HB:=zH hB;have H:=zH h;have HRD:=zH (yaH g t b tm bm S m S.frag 0 ⟨P,h⟩ hm hc);clear h hm hc hpc hB ht ht1;unfold TrW.link at hf;simp only at hf;generalize hr:S.rd m S.frag 0=r at *;generalize S.rdM m S.frag 0=m' at *;clear hr;rcases r with _|v
 · simp only [Prod.mk.injEq,TrW.mk.injEq,and_true] at hf;obtain ⟨⟨rfl, -⟩,rfl⟩:=hf;unfold trdV at HRD;simp only [Option.getD_none,Option.isSome_none] at HRD;go_enter func264,ntmps264;go_wp2_with fail;refine yad 1 rfl ?_;go_wp2_with fail;go_step3
   refine ⟨rfl,?_⟩;go_wp2_with fail;refine HRD.out.mono ?_;rintro e w1 ⟨rfl,own1,m1,r1⟩;have M1:=zH m1;have R1:=zH r1;clear m1 r1 c11 c14 hl;go_wp2_with fail;rw [Exit.noGoto_ret];go_ret;exact ⟨rfl,own1,M1.out.mono (fun x hx=>Or.inr hx),⟨P,H.out.keep M1.out HT.out.1 HT.out.2⟩,R1.out⟩
 · unfold trdV at HRD;simp only [Option.getD_some,Option.isSome_some] at HRD;have HIX:=zH (fun w=>yao v w);unfold optV at HIX;obtain ⟨v1,v2⟩:=v;simp only at HRD HIX hf;rcases hix:wIndex (v1,v2) with _|i
   · rw [hix] at hf HIX;simp only [Prod.mk.injEq,TrW.mk.injEq,and_true] at hf;obtain ⟨⟨rfl, -⟩,rfl⟩:=hf;simp only [Option.getD_none,Option.isSome_none] at HIX;clear hix;go_enter func264,ntmps264;go_wp2_with fail;refine yad 1 rfl ?_;go_wp2_with fail;go_step3
     refine ⟨rfl,?_⟩;go_wp2_with fail;refine HRD.out.mono ?_;rintro e w1 ⟨rfl,own1,m1,r1⟩;have M1:=zH m1;have R1:=zH r1;clear m1 r1 c11 c14 hl;go_wp2_with fail;refine (HIX.out _).mono ?_;rintro e w2 ⟨rfl,hE⟩;obtain ⟨own2,m2⟩:=Mod.ofExtT (show Ext w1 w2 from hE) own1;have M2:=zH m2;clear hE m2;go_wp2_with fail;rw [Exit.noGoto_ret];go_ret;exact ⟨rfl,own2,(M1.out.mono (fun x hx=>Or.inr hx)).trans (M2.out.mono (fun _=>False.elim)),⟨P,(H.out.keep M1.out HT.out.1 HT.out.2).keep M2.out id id⟩,R1.out.keep M2.out id⟩
   · rw [hix] at hf HIX;simp only at hf;simp only [Option.getD_some,Option.isSome_some] at HIX;clear hix;have e3:=IntWalk.i64_in (S.j+1) (by have:=HB.out.j;omega);by_cases hlt:i<S.c.frags
     · rw [if_pos hlt] at hf;simp only [Prod.mk.injEq,TrW.mk.injEq,and_true] at hf;obtain ⟨⟨rfl, -⟩,rfl⟩:=hf;have d1:decide (S.c.frags≤i)=false:=decide_eq_false zo;clear hlt;go_enter func264,ntmps264;go_wp2_with fail;refine yad 1 rfl ?_;go_wp2_with fail;go_step3
       refine ⟨rfl,?_⟩;go_wp2_with fail;refine HRD.out.mono ?_;rintro e w1 ⟨rfl,own1,m1,r1⟩;have M1:=zH m1;have R1:=zH r1;clear m1 r1 c11 c14 hl;go_wp2_with fail;refine (HIX.out _).mono ?_;rintro e w2 ⟨rfl,hE⟩;obtain ⟨own2,m2⟩:=Mod.ofExtT (show Ext w1 w2 from hE) own1;have M2:=zH ((M1.out.mono (S:=fun x=>x=t∨x=tm) (fun x hx=>Or.inr hx)).trans (m2.mono (fun _=>False.elim)));have H2:=zH ((H.out.keep M1.out HT.out.1 HT.out.2).keep m2 id id);have R2:=zH (R1.out.keep m2 id);clear hE m2 M1 R1;have c0:=H2.out.blk.cell (i:=0) rfl;have c11:=H2.out.blk.cell (i:=11) rfl;have c14:=H2.out.blk.cell (i:=14) rfl;have c15:=H2.out.blk.cell (i:=15) rfl;have f11:=H2.out.blk.live 11;have f14:=H2.out.blk.live 14;have f15:=H2.out.blk.live 15;have hl:=H2.out.blk.lt;simp only at c0 c11 c14 c15 f11 f14 f15 hl;have H3:=zH (((H2.out.st 14 (zI z6 i) { S with frag:=i } rfl rfl rfl rfl rfl).st 11 (zI z6 4) { S with frag:=i,pc:=4 } rfl rfl rfl rfl rfl).st 15 (zI z6 (S.j+1)) { S with frag:=i,pc:=4,j:=S.j+1 } rfl rfl rfl rfl rfl);go_wp2_with fail;rw [Exit.noGoto_ret];go_ret
       have m3:Mod (fun x=>x=t) (⟨own2,w2⟩:GW) ⟨own2,((w2.setCell ⟨b,14,none⟩ (zI z6 i)).setCell ⟨b,11,none⟩ (zI z6 4)).setCell ⟨b,15,none⟩ (zI z6 (S.j+1))⟩:=Mod.st (Mod.st (Mod.st Mod.self H2.out.blk.own) H2.out.blk.own) H2.out.blk.own;exact ⟨rfl,own2,M2.out.trans (m3.mono (fun x hx=>Or.inl hx)),⟨P,H3.out⟩,R2.out.keep m3 (fun e=>HT.out.1 e.symm)⟩
     · rw [if_neg hlt] at hf;simp only [Prod.mk.injEq,TrW.mk.injEq,and_true] at hf;obtain ⟨⟨rfl, -⟩,rfl⟩:=hf;have d1:decide (S.c.frags≤i)=true:=decide_eq_true zo;clear hlt;go_enter func264,ntmps264;go_wp2_with fail;refine yad 1 rfl ?_;go_wp2_with fail;go_step3
       refine ⟨rfl,?_⟩;go_wp2_with fail;refine HRD.out.mono ?_;rintro e w1 ⟨rfl,own1,m1,r1⟩;have M1:=zH m1;have R1:=zH r1;clear m1 r1 c11 c14 hl;go_wp2_with fail;refine (HIX.out _).mono ?_;rintro e w2 ⟨rfl,hE⟩;obtain ⟨own2,m2⟩:=Mod.ofExtT (show Ext w1 w2 from hE) own1;have M2:=zH ((M1.out.mono (S:=fun x=>x=t∨x=tm) (fun x hx=>Or.inr hx)).trans (m2.mono (fun _=>False.elim)));have H2:=zH ((H.out.keep M1.out HT.out.1 HT.out.2).keep m2 id id);have R2:=zH (R1.out.keep m2 id);clear hE m2 M1 R1;have c0:=H2.out.blk.cell (i:=0) rfl;have hl:=H2.out.blk.lt;simp only at c0 hl;go_wp2_with fail;rw [Exit.noGoto_ret];go_ret;exact ⟨rfl,own2,M2.out,⟨P,H2.out⟩,R2.out⟩
end Go.Proofs.YtdhjjpnajjingaaGreat
