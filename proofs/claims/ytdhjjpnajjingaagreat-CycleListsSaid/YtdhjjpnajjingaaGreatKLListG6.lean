import Derived.Test.YtdhjjpnajjingaaGreatKL23
set_option linter.unusedVariables false
set_option linter.unnecessarySimpa false
set_option linter.unusedSimpArgs false
open Bool renaming true→zT,false→zU
open Go.Value renaming int→zI
open Go.IntKind renaming i64→z6
set_option maxHeartbeats 8000000
set_option maxRecDepth 100000
open Go.Lib renaming hid→zH
open Go.Ext renaming alloc→zA,patch→zP,drew→zD,drewN→zN,more→zM,refl→zR,setCell→zS
open Nat renaming le_refl→zL,le_add_right→zK
namespace Go.Proofs.YtdhjjpnajjingaaGreat
open Go Go.RowKit
theorem yma:(fun (s:Nat) A A1 A2=>tailOk 52 (s+1:Nat) A A1 A2)=fun _ _ _ _=>true:=zQ
theorem ymb:(fun (s:Nat) A A1 A2=>tailOk 53 (s+1:Nat) A A1 A2)=fun _ _ _ _=>true:=zQ
theorem ymc:(fun (s:Nat) A A1 A2=>tailOk 54 (s+1:Nat) A A1 A2)=fun _ _ _ _=>true:=zQ
theorem ymd:(fun (s:Nat) A A1 A2=>tailOk 55 (s+1:Nat) A A1 A2)=fun _ _ _ _=>true:=zQ
theorem yme:(fun (s:Nat) A A1 A2=>tailOk 56 (s+1:Nat) A A1 A2)=fun _ _ _ _=>true:=zQ
theorem ymf:(fun (s:Nat) A A1 A2=>tailOk 57 (s+1:Nat) A A1 A2)=fun _ _ _ _=>true:=zQ
theorem ymg:(fun (s:Nat) A A1 A2=>tailOk 58 (s+1:Nat) A A1 A2)=fun _ _ _ _=>true:=zQ
theorem ymh:(fun (s:Nat) A A1 A2=>tailOk 59 (s+1:Nat) A A1 A2)=fun _ _ _ _=>true:=zQ
theorem ymi:(fun (s:Nat) A A1 A2=>tailOk 60 (s+1:Nat) A A1 A2)=fun _ _ _ _=>true:=zQ
end Go.Proofs.YtdhjjpnajjingaaGreat
