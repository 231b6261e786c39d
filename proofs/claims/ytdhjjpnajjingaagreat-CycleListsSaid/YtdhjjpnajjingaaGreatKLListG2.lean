import Derived.Test.YtdhjjpnajjingaaGreatKL23
set_option linter.unusedVariables false
set_option linter.unnecessarySimpa false
set_option linter.unusedSimpArgs false
open Bool renaming true→zT,false→zU
open Go.Value renaming int→zI
open Go.IntKind renaming i64→z6
set_option maxHeartbeats 8000000
set_option maxRecDepth 100000
open Go.Lib renaming hid→zH
open Go.Ext renaming alloc→zA,patch→zP,drew→zD,drewN→zN,more→zM,refl→zR,setCell→zS
open Nat renaming le_refl→zL,le_add_right→zK
namespace Go.Proofs.YtdhjjpnajjingaaGreat
open Go Go.RowKit
theorem ylx:(fun (s:Nat) A A1 A2=>tailOk 13 (s+1:Nat) A A1 A2)=fun _ _ _ _=>true:=zQ
theorem yly:(fun (s:Nat) A A1 A2=>tailOk 14 (s+1:Nat) A A1 A2)=fun _ _ _ _=>true:=zQ
theorem ylz:(fun (s:Nat) A A1 A2=>tailOk 15 (s+1:Nat) A A1 A2)=fun _ _ _ _=>true:=zQ
theorem ylA:(fun (s:Nat) A A1 A2=>tailOk 16 (s+1:Nat) A A1 A2)=fun _ _ _ _=>true:=zQ
theorem ylB:(fun (s:Nat) A A1 A2=>tailOk 17 (s+1:Nat) A A1 A2)=fun _ _ _ _=>true:=zQ
theorem ylC:(fun (s:Nat) A A1 A2=>tailOk 18 (s+1:Nat) A A1 A2)=fun _ _ _ _=>true:=zQ
theorem ylD:(fun (s:Nat) A A1 A2=>tailOk 19 (s+1:Nat) A A1 A2)=fun _ _ _ _=>true:=zQ
theorem ylE:(fun (s:Nat) A A1 A2=>tailOk 20 (s+1:Nat) A A1 A2)=fun _ _ _ _=>true:=zQ
theorem ylF:(fun (s:Nat) A A1 A2=>tailOk 21 (s+1:Nat) A A1 A2)=fun _ _ _ _=>true:=zQ
theorem ylG:(fun (s:Nat) A A1 A2=>tailOk 22 (s+1:Nat) A A1 A2)=fun _ _ _ _=>true:=zQ
end Go.Proofs.YtdhjjpnajjingaaGreat
