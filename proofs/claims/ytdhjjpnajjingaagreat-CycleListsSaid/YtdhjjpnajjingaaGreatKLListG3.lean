import Derived.Test.YtdhjjpnajjingaaGreatKL23
set_option linter.unusedVariables false
set_option linter.unnecessarySimpa false
set_option linter.unusedSimpArgs false
open Bool renaming true→zT,false→zU
open Go.Value renaming int→zI
open Go.IntKind renaming i64→z6
set_option maxHeartbeats 8000000
set_option maxRecDepth 100000
open Go.Lib renaming hid→zH
open Go.Ext renaming alloc→zA,patch→zP,drew→zD,drewN→zN,more→zM,refl→zR,setCell→zS
open Nat renaming le_refl→zL,le_add_right→zK
namespace Go.Proofs.YtdhjjpnajjingaaGreat
open Go Go.RowKit
theorem ylH:(fun (s:Nat) A A1 A2=>tailOk 23 (s+1:Nat) A A1 A2)=fun _ _ _ _=>true:=zQ
theorem ylI:(fun (s:Nat) A A1 A2=>tailOk 24 (s+1:Nat) A A1 A2)=fun _ _ _ _=>true:=zQ
theorem ylJ:(fun (s:Nat) A A1 A2=>tailOk 25 (s+1:Nat) A A1 A2)=fun _ _ _ _=>true:=zQ
theorem ylK:(fun (s:Nat) A A1 A2=>tailOk 26 (s+1:Nat) A A1 A2)=fun _ _ _ _=>true:=zQ
theorem ylL:(fun (s:Nat) A A1 A2=>tailOk 27 (s+1:Nat) A A1 A2)=fun _ _ _ _=>true:=zQ
theorem ylM:(fun (s:Nat) A A1 A2=>tailOk 28 (s+1:Nat) A A1 A2)=fun _ _ _ _=>true:=zQ
theorem ylN:(fun (s:Nat) A A1 A2=>tailOk 29 (s+1:Nat) A A1 A2)=fun _ _ _ _=>true:=zQ
theorem ylO:(fun (s:Nat) A A1 A2=>tailOk 30 (s+1:Nat) A A1 A2)=fun _ _ _ _=>true:=zQ
theorem ylP:(fun (s:Nat) A A1 A2=>tailOk 31 (s+1:Nat) A A1 A2)=fun _ _ _ _=>true:=zQ
theorem ylQ:(fun (s:Nat) A A1 A2=>tailOk 32 (s+1:Nat) A A1 A2)=fun _ _ _ _=>true:=zQ
end Go.Proofs.YtdhjjpnajjingaaGreat
