import Derived.Test.YtdhjjpnajjingaaGreatKL23
set_option linter.unusedVariables false
set_option linter.unnecessarySimpa false
set_option linter.unusedSimpArgs false
open Bool renaming true→zT,false→zU
open Go.Value renaming int→zI
open Go.IntKind renaming i64→z6
set_option maxHeartbeats 8000000
set_option maxRecDepth 100000
open Go.Lib renaming hid→zH
open Go.Ext renaming alloc→zA,patch→zP,drew→zD,drewN→zN,more→zM,refl→zR,setCell→zS
open Nat renaming le_refl→zL,le_add_right→zK
namespace Go.Proofs.YtdhjjpnajjingaaGreat
open Go Go.RowKit
theorem it_0:itChk 0=itWant 0:=zQ
theorem it_1:itChk 1=itWant 1:=zQ
theorem it_2:itChk 2=itWant 2:=zQ
theorem it_3:itChk 3=itWant 3:=zQ
theorem it_4:itChk 4=itWant 4:=zQ
theorem it_5:itChk 5=itWant 5:=zQ
theorem it_6:itChk 6=itWant 6:=zQ
theorem it_7:itChk 7=itWant 7:=zQ
theorem it_8:itChk 8=itWant 8:=zQ
theorem it_9:itChk 9=itWant 9:=zQ
theorem ymO:itChk 10=itWant 10:=zQ
theorem ymP:itChk 11=itWant 11:=zQ
theorem ymQ:itChk 12=itWant 12:=zQ
theorem ymR:itChk 13=itWant 13:=zQ
theorem ymS:itChk 14=itWant 14:=zQ
theorem ymT:itChk 15=itWant 15:=zQ
theorem ymU:itChk 16=itWant 16:=zQ
theorem ymV:itChk 17=itWant 17:=zQ
theorem ymW:itChk 18=itWant 18:=zQ
theorem ymX:itChk 19=itWant 19:=zQ
end Go.Proofs.YtdhjjpnajjingaaGreat
