import Derived.Test.YtdhjjpnajjingaaGreatKL23
set_option linter.unusedVariables false
set_option linter.unnecessarySimpa false
set_option linter.unusedSimpArgs false
open Bool renaming true→zT,false→zU
open Go.Value renaming int→zI
open Go.IntKind renaming i64→z6
set_option maxHeartbeats 8000000
set_option maxRecDepth 100000
open Go.Lib renaming hid→zH
open Go.Ext renaming alloc→zA,patch→zP,drew→zD,drewN→zN,more→zM,refl→zR,setCell→zS
open Nat renaming le_refl→zL,le_add_right→zK
namespace Go.Proofs.YtdhjjpnajjingaaGreat
open Go Go.RowKit
theorem ymD:(fun (s:Nat) A A1 A2=>tailOk 1 (s+1:Nat) A A1 A2)=fun _ _ _ _=>true:=zQ
theorem ymE:(fun (s:Nat) A A1 A2=>tailOk 2 (s+1:Nat) A A1 A2)=fun _ _ _ _=>true:=zQ
theorem ymF:(fun (s:Nat) A A1 A2=>tailOk 3 (s+1:Nat) A A1 A2)=fun _ _ _ _=>true:=zQ
theorem ymG:(fun (s:Nat) A A1 A2=>tailOk 4 (s+1:Nat) A A1 A2)=fun _ _ _ _=>true:=zQ
theorem ymH:(fun (s:Nat) A A1 A2=>tailOk 5 (s+1:Nat) A A1 A2)=fun _ _ _ _=>true:=zQ
theorem ymI:(fun (s:Nat) A A1 A2=>tailOk 6 (s+1:Nat) A A1 A2)=fun _ _ _ _=>true:=zQ
theorem ymJ:(fun (s:Nat) A A1 A2=>tailOk 7 (s+1:Nat) A A1 A2)=fun _ _ _ _=>true:=zQ
theorem ymK:(fun (s:Nat) A A1 A2=>tailOk 8 (s+1:Nat) A A1 A2)=fun _ _ _ _=>true:=zQ
theorem ymL:(fun (s:Nat) A A1 A2=>tailOk 9 (s+1:Nat) A A1 A2)=fun _ _ _ _=>true:=zQ
theorem ylu:(fun (s:Nat) A A1 A2=>tailOk 10 (s+1:Nat) A A1 A2)=fun _ _ _ _=>true:=zQ
theorem ylv:(fun (s:Nat) A A1 A2=>tailOk 11 (s+1:Nat) A A1 A2)=fun _ _ _ _=>true:=zQ
theorem ylw:(fun (s:Nat) A A1 A2=>tailOk 12 (s+1:Nat) A A1 A2)=fun _ _ _ _=>true:=zQ
end Go.Proofs.YtdhjjpnajjingaaGreat
