import Derived.Test.YtdhjjpnajjingaaGreatKQ14
set_option linter.unusedVariables false
set_option linter.unnecessarySimpa false
set_option linter.unusedSimpArgs false
open Bool renaming true→zT,false→zU
open Go.Value renaming int→zI
open Go.IntKind renaming i64→z6
set_option maxHeartbeats 8000000
set_option maxRecDepth 100000
open Go.Lib renaming hid→zH
open Go.Ext renaming alloc→zA,patch→zP,drew→zD,drewN→zN,more→zM,refl→zR,setCell→zS
open Nat renaming le_refl→zL,le_add_right→zK
namespace Go.Proofs.YtdhjjpnajjingaaGreat
open Go Go.RowKit
theorem yhM:quietChk 0=fun _ _ _ _=>true:=zQ
theorem yhN:quietChk 1=fun _ _ _ _=>true:=zQ
theorem yhO:quietChk 2=fun _ _ _ _=>true:=zQ
theorem yhP:quietChk 3=fun _ _ _ _=>true:=zQ
theorem yhQ:quietChk 4=fun _ _ _ _=>true:=zQ
theorem yhR:quietChk 5=fun _ _ _ _=>true:=zQ
theorem yhS:quietChk 6=fun _ _ _ _=>true:=zQ
theorem yhT:quietChk 7=fun _ _ _ _=>true:=zQ
theorem yhU:quietChk 8=fun _ _ _ _=>true:=zQ
theorem yhV:quietChk 9=fun _ _ _ _=>true:=zQ
theorem ygU:quietChk 10=fun _ _ _ _=>true:=zQ
theorem ygV:quietChk 11=fun _ _ _ _=>true:=zQ
theorem ygW:quietChk 12=fun _ _ _ _=>true:=zQ
theorem ygX:quietChk 13=fun _ _ _ _=>true:=zQ
theorem ygY:quietChk 14=fun _ _ _ _=>true:=zQ
theorem ygZ:quietChk 15=fun _ _ _ _=>true:=zQ
theorem yg0:quietChk 16=fun _ _ _ _=>true:=zQ
theorem yg1:quietChk 17=fun _ _ _ _=>true:=zQ
theorem yg2:quietChk 18=fun _ _ _ _=>true:=zQ
theorem yg3:quietChk 19=fun _ _ _ _=>true:=zQ
end Go.Proofs.YtdhjjpnajjingaaGreat
