import Derived.Test.YtdhjjpnajjingaaGreatKL23
set_option linter.unusedVariables false
set_option linter.unnecessarySimpa false
set_option linter.unusedSimpArgs false
open Bool renaming true→zT,false→zU
open Go.Value renaming int→zI
open Go.IntKind renaming i64→z6
set_option maxHeartbeats 8000000
set_option maxRecDepth 100000
open Go.Lib renaming hid→zH
open Go.Ext renaming alloc→zA,patch→zP,drew→zD,drewN→zN,more→zM,refl→zR,setCell→zS
open Nat renaming le_refl→zL,le_add_right→zK
namespace Go.Proofs.YtdhjjpnajjingaaGreat
open Go Go.RowKit
theorem ylR:(fun (s:Nat) A A1 A2=>tailOk 33 (s+1:Nat) A A1 A2)=fun _ _ _ _=>true:=zQ
theorem ylS:(fun (s:Nat) A A1 A2=>tailOk 34 (s+1:Nat) A A1 A2)=fun _ _ _ _=>true:=zQ
theorem ylT:(fun (s:Nat) A A1 A2=>tailOk 35 (s+1:Nat) A A1 A2)=fun _ _ _ _=>true:=zQ
theorem ylU:(fun (s:Nat) A A1 A2=>tailOk 36 (s+1:Nat) A A1 A2)=fun _ _ _ _=>true:=zQ
theorem ylV:(fun (s:Nat) A A1 A2=>tailOk 37 (s+1:Nat) A A1 A2)=fun _ _ _ _=>true:=zQ
theorem ylW:(fun (s:Nat) A A1 A2=>tailOk 38 (s+1:Nat) A A1 A2)=fun _ _ _ _=>true:=zQ
theorem ylX:(fun (s:Nat) A A1 A2=>tailOk 39 (s+1:Nat) A A1 A2)=fun _ _ _ _=>true:=zQ
theorem ylY:(fun (s:Nat) A A1 A2=>tailOk 40 (s+1:Nat) A A1 A2)=fun _ _ _ _=>true:=zQ
theorem ylZ:(fun (s:Nat) A A1 A2=>tailOk 41 (s+1:Nat) A A1 A2)=fun _ _ _ _=>true:=zQ
end Go.Proofs.YtdhjjpnajjingaaGreat
