import Derived.Test.YtdhjjpnajjingaaGreatKL23
set_option linter.unusedVariables false
set_option linter.unnecessarySimpa false
set_option linter.unusedSimpArgs false
open Bool renaming true→zT,false→zU
open Go.Value renaming int→zI
open Go.IntKind renaming i64→z6
set_option maxHeartbeats 8000000
set_option maxRecDepth 100000
open Go.Lib renaming hid→zH
open Go.Ext renaming alloc→zA,patch→zP,drew→zD,drewN→zN,more→zM,refl→zR,setCell→zS
open Nat renaming le_refl→zL,le_add_right→zK
namespace Go.Proofs.YtdhjjpnajjingaaGreat
open Go Go.RowKit
theorem yl0:(fun (s:Nat) A A1 A2=>tailOk 42 (s+1:Nat) A A1 A2)=fun _ _ _ _=>true:=zQ
theorem yl1:(fun (s:Nat) A A1 A2=>tailOk 43 (s+1:Nat) A A1 A2)=fun _ _ _ _=>true:=zQ
theorem yl2:(fun (s:Nat) A A1 A2=>tailOk 44 (s+1:Nat) A A1 A2)=fun _ _ _ _=>true:=zQ
theorem yl3:(fun (s:Nat) A A1 A2=>tailOk 45 (s+1:Nat) A A1 A2)=fun _ _ _ _=>true:=zQ
theorem yl4:(fun (s:Nat) A A1 A2=>tailOk 46 (s+1:Nat) A A1 A2)=fun _ _ _ _=>true:=zQ
theorem yl5:(fun (s:Nat) A A1 A2=>tailOk 47 (s+1:Nat) A A1 A2)=fun _ _ _ _=>true:=zQ
theorem yl6:(fun (s:Nat) A A1 A2=>tailOk 48 (s+1:Nat) A A1 A2)=fun _ _ _ _=>true:=zQ
theorem yl7:(fun (s:Nat) A A1 A2=>tailOk 49 (s+1:Nat) A A1 A2)=fun _ _ _ _=>true:=zQ
theorem yl8:(fun (s:Nat) A A1 A2=>tailOk 50 (s+1:Nat) A A1 A2)=fun _ _ _ _=>true:=zQ
theorem yl9:(fun (s:Nat) A A1 A2=>tailOk 51 (s+1:Nat) A A1 A2)=fun _ _ _ _=>true:=zQ
end Go.Proofs.YtdhjjpnajjingaaGreat
