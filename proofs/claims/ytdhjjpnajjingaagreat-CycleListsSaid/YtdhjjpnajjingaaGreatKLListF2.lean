import Derived.Test.YtdhjjpnajjingaaGreatKL23
set_option linter.unusedVariables false
set_option linter.unnecessarySimpa false
set_option linter.unusedSimpArgs false
open Bool renaming true→zT,false→zU
open Go.Value renaming int→zI
open Go.IntKind renaming i64→z6
set_option maxHeartbeats 8000000
set_option maxRecDepth 100000
open Go.Lib renaming hid→zH
open Go.Ext renaming alloc→zA,patch→zP,drew→zD,drewN→zN,more→zM,refl→zR,setCell→zS
open Nat renaming le_refl→zL,le_add_right→zK
namespace Go.Proofs.YtdhjjpnajjingaaGreat
open Go Go.RowKit
theorem ymY:itChk 20=itWant 20:=zQ
theorem ymZ:itChk 21=itWant 21:=zQ
theorem ym0:itChk 22=itWant 22:=zQ
theorem ym1:itChk 23=itWant 23:=zQ
theorem ym2:itChk 24=itWant 24:=zQ
theorem ym3:itChk 25=itWant 25:=zQ
theorem ym4:itChk 26=itWant 26:=zQ
theorem ym5:itChk 27=itWant 27:=zQ
theorem ym6:itChk 28=itWant 28:=zQ
theorem ym7:itChk 29=itWant 29:=zQ
theorem ym8:itChk 30=itWant 30:=zQ
theorem ym9:itChk 31=itWant 31:=zQ
theorem yna:itChk 32=itWant 32:=zQ
theorem ynb:itChk 33=itWant 33:=zQ
theorem ync:itChk 34=itWant 34:=zQ
theorem ynd:itChk 35=itWant 35:=zQ
theorem yne:itChk 36=itWant 36:=zQ
theorem ynf:itChk 37=itWant 37:=zQ
theorem yng:itChk 38=itWant 38:=zQ
theorem ynh:itChk 39=itWant 39:=zQ
end Go.Proofs.YtdhjjpnajjingaaGreat
