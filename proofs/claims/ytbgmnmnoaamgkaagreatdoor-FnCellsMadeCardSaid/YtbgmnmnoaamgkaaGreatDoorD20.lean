/-
  Own texts, joined by mkclaim.py: Facts.
-/
import Derived.Test.YtbgmnmnoaamgkaaGreatDoorProg
import Derived.Test.YtbgmnmnoaamgkaaGreatDoorD07
set_option linter.unusedSimpArgs false
set_option linter.unusedVariables false
set_option maxRecDepth 100000
set_option maxHeartbeats 4000000

section
namespace Go.Proofs.YtbgmnmnoaamgkaaGreatDoor
open Go Go.Hm Go.Proofs
theorem qWC:tsz Tryz.prog 3=1:=by kernel_rfl
theorem qY5:(Tryz.prog.info? 3).isSome=true:=by kernel_rfl
theorem qYd:uF Tryz.prog 3=some false:=by kernel_rfl
theorem qYY:tce Tryz.prog 3=[0]:=by kernel_rfl
theorem qYX:qVT Tryz.prog 3=some .i64:=by kernel_rfl
theorem qYV:tsz Tryz.prog 4=1:=by kernel_rfl
theorem qY4:(Tryz.prog.info? 4).isSome=true:=by kernel_rfl
theorem qYc:uF Tryz.prog 4=some false:=by kernel_rfl
theorem qYU:tsz Tryz.prog 5=1:=by kernel_rfl
theorem qYb:uF Tryz.prog 5=some false:=by kernel_rfl
theorem qWE:tsz Tryz.prog 27=1:=by kernel_rfl
theorem qXg:(Tryz.prog.info? 27).isSome=true:=by kernel_rfl
theorem qYI:uF Tryz.prog 27=some false:=by kernel_rfl
theorem qWj:tel Tryz.prog 27=some 45:=by kernel_rfl
theorem qWR:jx Tryz.prog 27=true:=by kernel_rfl
theorem qXO:uw Tryz.prog 27=some 45:=by kernel_rfl
theorem qWD:tsz Tryz.prog 29=1:=by kernel_rfl
theorem qXf:(Tryz.prog.info? 29).isSome=true:=by kernel_rfl
theorem qYH:uF Tryz.prog 29=some true:=by kernel_rfl
theorem qWw:tce Tryz.prog 29=[4]:=by kernel_rfl
theorem qV4:jg Tryz.prog 29=some [.sc (Value.slice none 0 0)]:=by kernel_rfl
theorem qQ7:tfo Tryz.prog 29 0=some (0,27):=by kernel_rfl
theorem qW0:y6 Tryz.prog 29=true:=by kernel_rfl
theorem qVf:ji Tryz.prog 29=some [Value.slice none 0 0]:=by kernel_rfl
theorem qWB:tsz Tryz.prog 35=1:=by kernel_rfl
theorem qYG:uF Tryz.prog 35=some false:=by kernel_rfl
theorem qWi:tel Tryz.prog 35=some 5:=by kernel_rfl
theorem qWQ:jx Tryz.prog 35=true:=by kernel_rfl
theorem qWA:tsz Tryz.prog 38=1:=by kernel_rfl
theorem qXe:(Tryz.prog.info? 38).isSome=true:=by kernel_rfl
theorem qYF:uF Tryz.prog 38=some false:=by kernel_rfl
theorem qWh:tel Tryz.prog 38=some 47:=by kernel_rfl
theorem qWP:jx Tryz.prog 38=true:=by kernel_rfl
theorem qXN:uw Tryz.prog 38=some 47:=by kernel_rfl
theorem qVz:tsz Tryz.prog 41=4:=by kernel_rfl
theorem qXd:(Tryz.prog.info? 41).isSome=true:=by kernel_rfl
theorem qYE:uF Tryz.prog 41=some true:=by kernel_rfl
theorem qWv:tce Tryz.prog 41=[0,0,0,0]:=by kernel_rfl
theorem qV3:jg Tryz.prog 41=some [.sc (Value.int IntKind.i64 0),.sc (Value.int IntKind.i64 0),.sc (Value.int IntKind.i64 0),.sc (Value.int IntKind.i64 0)]:=by kernel_rfl
theorem qQ6:tfo Tryz.prog 41 0=some (0,3):=by kernel_rfl
theorem qQ5:tfo Tryz.prog 41 1=some (1,3):=by kernel_rfl
theorem qQ4:tfo Tryz.prog 41 2=some (2,3):=by kernel_rfl
theorem qQ3:tfo Tryz.prog 41 3=some (3,3):=by kernel_rfl
theorem qWZ:y6 Tryz.prog 41=true:=by kernel_rfl
theorem qVe:ji Tryz.prog 41=some [Value.int IntKind.i64 0,Value.int IntKind.i64 0,Value.int IntKind.i64 0,Value.int IntKind.i64 0]:=by kernel_rfl
theorem qVy:tsz Tryz.prog 42=1:=by kernel_rfl
theorem qXc:(Tryz.prog.info? 42).isSome=true:=by kernel_rfl
theorem qYD:uF Tryz.prog 42=some false:=by kernel_rfl
theorem qWu:tce Tryz.prog 42=[1]:=by kernel_rfl
theorem qWg:tel Tryz.prog 42=some 3:=by kernel_rfl
theorem qWO:jx Tryz.prog 42=true:=by kernel_rfl
theorem qXM:uw Tryz.prog 42=some 3:=by kernel_rfl
theorem qVx:tsz Tryz.prog 43=1:=by kernel_rfl
theorem qXb:(Tryz.prog.info? 43).isSome=true:=by kernel_rfl
theorem qYC:uF Tryz.prog 43=some false:=by kernel_rfl
theorem qWf:tel Tryz.prog 43=some 41:=by kernel_rfl
theorem qWN:jx Tryz.prog 43=true:=by kernel_rfl
theorem qXL:uw Tryz.prog 43=some 41:=by kernel_rfl
theorem qVw:tsz Tryz.prog 45=4:=by kernel_rfl
theorem qXa:(Tryz.prog.info? 45).isSome=true:=by kernel_rfl
theorem qYB:uF Tryz.prog 45=some true:=by kernel_rfl
theorem qWt:tce Tryz.prog 45=[0,0,1,4]:=by kernel_rfl
theorem qV2:jg Tryz.prog 45=some [.sc (Value.int IntKind.i64 0),.sc (Value.int IntKind.i64 0),.sc (Value.slice none 0 0),.sc (Value.slice none 0 0)]:=by kernel_rfl
theorem qQ2:tfo Tryz.prog 45 0=some (0,3):=by kernel_rfl
theorem qQ1:tfo Tryz.prog 45 1=some (1,3):=by kernel_rfl
theorem qQ0:tfo Tryz.prog 45 2=some (2,42):=by kernel_rfl
theorem qQZ:tfo Tryz.prog 45 3=some (3,43):=by kernel_rfl
theorem qWY:y6 Tryz.prog 45=true:=by kernel_rfl
theorem qVd:ji Tryz.prog 45=some [Value.int IntKind.i64 0,Value.int IntKind.i64 0,Value.slice none 0 0,Value.slice none 0 0]:=by kernel_rfl
theorem qVv:tsz Tryz.prog 47=2:=by kernel_rfl
theorem qWs:tce Tryz.prog 47=[0,0]:=by kernel_rfl
theorem qQY:tfo Tryz.prog 47 0=some (0,3):=by kernel_rfl
theorem qQX:tfo Tryz.prog 47 1=some (1,3):=by kernel_rfl
theorem qWX:y6 Tryz.prog 47=true:=by kernel_rfl
theorem qVc:ji Tryz.prog 47=some [Value.int IntKind.i64 0,Value.int IntKind.i64 0]:=by kernel_rfl
theorem qTB:tsz Tryz.prog 59=1:=by kernel_rfl
theorem qYA:uF Tryz.prog 59=some false:=by kernel_rfl
theorem qWe:tel Tryz.prog 59=some 152:=by kernel_rfl
theorem qXK:uw Tryz.prog 59=some 152:=by kernel_rfl
theorem qVu:tsz Tryz.prog 60=1:=by kernel_rfl
theorem qX9:(Tryz.prog.info? 60).isSome=true:=by kernel_rfl
theorem qXz:uF Tryz.prog 60=some false:=by kernel_rfl
theorem qWd:tel Tryz.prog 60=some 42:=by kernel_rfl
theorem qXJ:uw Tryz.prog 60=some 42:=by kernel_rfl
theorem qVt:tsz Tryz.prog 61=1:=by kernel_rfl
theorem qX8:(Tryz.prog.info? 61).isSome=true:=by kernel_rfl
theorem qXy:uF Tryz.prog 61=some false:=by kernel_rfl
theorem qWr:tce Tryz.prog 61=[3]:=by kernel_rfl
theorem qWc:tel Tryz.prog 61=some 75:=by kernel_rfl
theorem qWM:jx Tryz.prog 61=true:=by kernel_rfl
theorem qXI:uw Tryz.prog 61=some 75:=by kernel_rfl
theorem qVs:tsz Tryz.prog 62=1:=by kernel_rfl
theorem qX7:(Tryz.prog.info? 62).isSome=true:=by kernel_rfl
theorem qXx:uF Tryz.prog 62=some false:=by kernel_rfl
theorem qWb:tel Tryz.prog 62=some 193:=by kernel_rfl
theorem qWL:jx Tryz.prog 62=true:=by kernel_rfl
theorem qXH:uw Tryz.prog 62=some 193:=by kernel_rfl
theorem qVr:tsz Tryz.prog 63=1:=by kernel_rfl
theorem qX6:(Tryz.prog.info? 63).isSome=true:=by kernel_rfl
theorem qXw:uF Tryz.prog 63=some false:=by kernel_rfl
theorem qWa:tel Tryz.prog 63=some 61:=by kernel_rfl
theorem qWK:jx Tryz.prog 63=true:=by kernel_rfl
theorem qXG:uw Tryz.prog 63=some 61:=by kernel_rfl
theorem qVq:tsz Tryz.prog 64=1:=by kernel_rfl
theorem qX5:(Tryz.prog.info? 64).isSome=true:=by kernel_rfl
theorem qXv:uF Tryz.prog 64=some false:=by kernel_rfl
theorem qW9:tel Tryz.prog 64=some 121:=by kernel_rfl
theorem qWJ:jx Tryz.prog 64=true:=by kernel_rfl
theorem qXF:uw Tryz.prog 64=some 121:=by kernel_rfl
theorem qVp:tsz Tryz.prog 66=13:=by kernel_rfl
theorem qWq:tce Tryz.prog 66=[6,1,3,3,2,1,7,0,0,1,2,0,0]:=by kernel_rfl
theorem qQW:tfo Tryz.prog 66 0=some (0,59):=by kernel_rfl
theorem qQV:tfo Tryz.prog 66 1=some (1,60):=by kernel_rfl
theorem qQU:tfo Tryz.prog 66 2=some (2,61):=by kernel_rfl
theorem qQT:tfo Tryz.prog 66 3=some (3,61):=by kernel_rfl
theorem qQS:tfo Tryz.prog 66 4=some (4,62):=by kernel_rfl
theorem qQR:tfo Tryz.prog 66 5=some (5,63):=by kernel_rfl
theorem qQQ:tfo Tryz.prog 66 6=some (6,64):=by kernel_rfl
theorem qQP:tfo Tryz.prog 66 7=some (7,3):=by kernel_rfl
theorem qQO:tfo Tryz.prog 66 8=some (8,3):=by kernel_rfl
theorem qQN:tfo Tryz.prog 66 9=some (9,42):=by kernel_rfl
theorem qMv:tfo Tryz.prog 66 10=some (10,38):=by kernel_rfl
theorem qMu:tfo Tryz.prog 66 11=some (11,3):=by kernel_rfl
theorem qMt:tfo Tryz.prog 66 12=some (12,3):=by kernel_rfl
theorem qWW:y6 Tryz.prog 66=true:=by kernel_rfl
theorem qVb:ji Tryz.prog 66=some [Value.slice none 0 0,Value.slice none 0 0,Value.slice none 0 0,Value.slice none 0 0,Value.slice none 0 0,Value.slice none 0 0,Value.slice none 0 0,Value.int IntKind.i64 0,Value.int IntKind.i64 0,Value.slice none 0 0,Value.slice none 0 0,Value.int IntKind.i64 0,Value.int IntKind.i64 0]:=by kernel_rfl
theorem qVo:tsz Tryz.prog 73=2:=by kernel_rfl
theorem qX4:(Tryz.prog.info? 73).isSome=true:=by kernel_rfl
theorem qXu:uF Tryz.prog 73=some true:=by kernel_rfl
theorem qWp:tce Tryz.prog 73=[0,0]:=by kernel_rfl
theorem qV1:jg Tryz.prog 73=some [.sc (Value.int IntKind.i64 0),.sc (Value.int IntKind.i64 0)]:=by kernel_rfl
theorem qQM:tfo Tryz.prog 73 0=some (0,3):=by kernel_rfl
theorem qQL:tfo Tryz.prog 73 1=some (1,3):=by kernel_rfl
theorem qWV:y6 Tryz.prog 73=true:=by kernel_rfl
theorem qVa:ji Tryz.prog 73=some [Value.int IntKind.i64 0,Value.int IntKind.i64 0]:=by kernel_rfl
theorem qVn:tsz Tryz.prog 75=3:=by kernel_rfl
theorem qX3:(Tryz.prog.info? 75).isSome=true:=by kernel_rfl
theorem qXt:uF Tryz.prog 75=some true:=by kernel_rfl
theorem qWo:tce Tryz.prog 75=[0,0,0]:=by kernel_rfl
theorem qV0:jg Tryz.prog 75=some [.sc (Value.bool false),.sc (Value.int IntKind.i64 0),.sc (Value.int IntKind.i64 0)]:=by kernel_rfl
theorem qQK:tfo Tryz.prog 75 0=some (0,4):=by kernel_rfl
theorem qQJ:tfo Tryz.prog 75 1=some (1,73):=by kernel_rfl
theorem qWU:y6 Tryz.prog 75=true:=by kernel_rfl
theorem qV9:ji Tryz.prog 75=some [Value.bool false,Value.int IntKind.i64 0,Value.int IntKind.i64 0]:=by kernel_rfl
theorem qVm:tsz Tryz.prog 77=24:=by kernel_rfl
theorem qXs:uF Tryz.prog 77=some true:=by kernel_rfl
theorem qWn:tce Tryz.prog 77=[0,0,0,0,0,0,0,0,0,0,0,0,0,0,0,0,0,0,0,0,0,0,0,0]:=by kernel_rfl
theorem qW8:tel Tryz.prog 77=none:=by kernel_rfl
theorem qWz:qKJ Tryz.prog 77=some (8,75):=by kernel_rfl
theorem qVl:tsz Tryz.prog 78=1:=by kernel_rfl
theorem qX2:(Tryz.prog.info? 78).isSome=true:=by kernel_rfl
theorem qXr:uF Tryz.prog 78=some false:=by kernel_rfl
theorem qW7:tel Tryz.prog 78=some 238:=by kernel_rfl
theorem qWI:jx Tryz.prog 78=true:=by kernel_rfl
theorem qXE:uw Tryz.prog 78=some 238:=by kernel_rfl
theorem qVk:tsz Tryz.prog 79=1:=by kernel_rfl
theorem qX1:(Tryz.prog.info? 79).isSome=true:=by kernel_rfl
theorem qXq:uF Tryz.prog 79=some false:=by kernel_rfl
theorem qW6:tel Tryz.prog 79=some 77:=by kernel_rfl
theorem qWH:jx Tryz.prog 79=true:=by kernel_rfl
theorem qXD:uw Tryz.prog 79=some 77:=by kernel_rfl
theorem qVj:tsz Tryz.prog 80=1:=by kernel_rfl
theorem qX0:(Tryz.prog.info? 80).isSome=true:=by kernel_rfl
theorem qXp:uF Tryz.prog 80=some false:=by kernel_rfl
theorem qW5:tel Tryz.prog 80=some 189:=by kernel_rfl
theorem qXC:uw Tryz.prog 80=some 189:=by kernel_rfl
theorem qVi:tsz Tryz.prog 81=1:=by kernel_rfl
theorem qXZ:(Tryz.prog.info? 81).isSome=true:=by kernel_rfl
theorem qXo:uF Tryz.prog 81=some false:=by kernel_rfl
theorem qW4:tel Tryz.prog 81=some 73:=by kernel_rfl
theorem qWG:jx Tryz.prog 81=true:=by kernel_rfl
theorem qXB:uw Tryz.prog 81=some 73:=by kernel_rfl
theorem qVh:tsz Tryz.prog 83=29:=by kernel_rfl
theorem qXY:(Tryz.prog.info? 83).isSome=true:=by kernel_rfl
theorem qXn:uF Tryz.prog 83=some true:=by kernel_rfl
theorem qWm:tce Tryz.prog 83=[0,0,3,1,0,0,0,0,0,0,0,0,0,0,0,0,0,0,0,0,0,0,0,0,0,0,0,0,2]:=by kernel_rfl
theorem qVZ:jg Tryz.prog 83=some [.sc (Value.int IntKind.i64 0),.sc (Value.int IntKind.i64 0),.sc (Value.slice none 0 0),.sc (Value.slice none 0 0),.sc (Value.bool false),.sc (Value.int IntKind.i64 0),.sc (Value.int IntKind.i64 0),.sc (Value.bool false),.sc (Value.int IntKind.i64 0),.sc (Value.int IntKind.i64 0),.sc (Value.bool false),.sc (Value.int IntKind.i64 0),.sc (Value.int IntKind.i64 0),.sc (Value.bool false),.sc (Value.int IntKind.i64 0),.sc (Value.int IntKind.i64 0),.sc (Value.bool false),.sc (Value.int IntKind.i64 0),.sc (Value.int IntKind.i64 0),.sc (Value.bool false),.sc (Value.int IntKind.i64 0),.sc (Value.int IntKind.i64 0),.sc (Value.bool false),.sc (Value.int IntKind.i64 0),.sc (Value.int IntKind.i64 0),.sc (Value.bool false),.sc (Value.int IntKind.i64 0),.sc (Value.int IntKind.i64 0),.sc (Value.slice none 0 0)]:=by kernel_rfl
theorem qQI:tfo Tryz.prog 83 0=some (0,3):=by kernel_rfl
theorem qQH:tfo Tryz.prog 83 1=some (1,3):=by kernel_rfl
theorem qQG:tfo Tryz.prog 83 2=some (2,61):=by kernel_rfl
theorem qQF:tfo Tryz.prog 83 3=some (3,80):=by kernel_rfl
theorem qQE:tfo Tryz.prog 83 4=some (4,77):=by kernel_rfl
theorem qQD:tfo Tryz.prog 83 5=some (28,81):=by kernel_rfl
theorem qWT:y6 Tryz.prog 83=true:=by kernel_rfl
theorem qV8:ji Tryz.prog 83=some [Value.int IntKind.i64 0,Value.int IntKind.i64 0,Value.slice none 0 0,Value.slice none 0 0,Value.bool false,Value.int IntKind.i64 0,Value.int IntKind.i64 0,Value.bool false,Value.int IntKind.i64 0,Value.int IntKind.i64 0,Value.bool false,Value.int IntKind.i64 0,Value.int IntKind.i64 0,Value.bool false,Value.int IntKind.i64 0,Value.int IntKind.i64 0,Value.bool false,Value.int IntKind.i64 0,Value.int IntKind.i64 0,Value.bool false,Value.int IntKind.i64 0,Value.int IntKind.i64 0,Value.bool false,Value.int IntKind.i64 0,Value.int IntKind.i64 0,Value.bool false,Value.int IntKind.i64 0,Value.int IntKind.i64 0,Value.slice none 0 0]:=by kernel_rfl
theorem qW3:tel Tryz.prog 84=none:=by kernel_rfl
theorem qWy:qKJ Tryz.prog 84=some (151,83):=by kernel_rfl
theorem qTA:tsz Tryz.prog 86=4415:=by kernel_rfl
theorem qKZ:tfo Tryz.prog 86 0=some (0,59):=by kernel_rfl
theorem qQC:tfo Tryz.prog 86 1=some (1,60):=by kernel_rfl
theorem qKY:tfo Tryz.prog 86 2=some (2,3):=by kernel_rfl
theorem qKX:tfo Tryz.prog 86 3=some (3,3):=by kernel_rfl
theorem qQB:tfo Tryz.prog 86 4=some (4,42):=by kernel_rfl
theorem qQA:tfo Tryz.prog 86 5=some (5,38):=by kernel_rfl
theorem qPz:tfo Tryz.prog 86 6=some (6,77):=by kernel_rfl
theorem qPy:tfo Tryz.prog 86 7=some (30,78):=by kernel_rfl
theorem qPx:tfo Tryz.prog 86 8=some (31,79):=by kernel_rfl
theorem qPw:tfo Tryz.prog 86 9=some (32,84):=by kernel_rfl
theorem qMs:tfo Tryz.prog 86 10=some (4411,3):=by kernel_rfl
theorem qMr:tfo Tryz.prog 86 11=some (4412,3):=by kernel_rfl
theorem qMq:tfo Tryz.prog 86 12=some (4413,3):=by kernel_rfl
theorem qMp:tfo Tryz.prog 86 13=some (4414,3):=by kernel_rfl
theorem qVg:tsz Tryz.prog 94=8:=by kernel_rfl
theorem qXX:(Tryz.prog.info? 94).isSome=true:=by kernel_rfl
theorem qXm:uF Tryz.prog 94=some true:=by kernel_rfl
theorem qWl:tce Tryz.prog 94=[0,0,0,0,0,0,0,0]:=by kernel_rfl
theorem qVY:jg Tryz.prog 94=some [.sc (Value.bool false),.sc (Value.bool false),.sc (Value.bool false),.sc (Value.bool false),.sc (Value.bool false),.sc (Value.bool false),.sc (Value.bool false),.sc (Value.bool false)]:=by kernel_rfl
theorem qW2:tel Tryz.prog 94=none:=by kernel_rfl
theorem qWx:qKJ Tryz.prog 94=some (8,4):=by kernel_rfl
theorem qW1:tel Tryz.prog 96=some 125:=by kernel_rfl
theorem qWF:jx Tryz.prog 96=true:=by kernel_rfl
theorem qXA:uw Tryz.prog 96=some 125:=by kernel_rfl
theorem qTW:tsz Tryz.prog 121=7:=by kernel_rfl
theorem qUi:(Tryz.prog.info? 121).isSome=true:=by kernel_rfl
theorem qVM:uF Tryz.prog 121=some true:=by kernel_rfl
theorem qUC:tce Tryz.prog 121=[0,0,0,3,1,3,2]:=by kernel_rfl
theorem qSO:jg Tryz.prog 121=some [.sc (Value.int IntKind.i64 0),.sc (Value.int IntKind.i64 0),.sc (Value.int IntKind.i64 0),.sc (Value.slice none 0 0),.sc (Value.slice none 0 0),.sc (Value.slice none 0 0),.sc (Value.slice none 0 0)]:=by kernel_rfl
theorem qNa:tfo Tryz.prog 121 0=some (0,3):=by kernel_rfl
theorem qN9:tfo Tryz.prog 121 1=some (1,3):=by kernel_rfl
theorem qN8:tfo Tryz.prog 121 2=some (2,3):=by kernel_rfl
theorem qN7:tfo Tryz.prog 121 3=some (3,61):=by kernel_rfl
theorem qN6:tfo Tryz.prog 121 4=some (4,42):=by kernel_rfl
theorem qN5:tfo Tryz.prog 121 5=some (5,61):=by kernel_rfl
theorem qN4:tfo Tryz.prog 121 6=some (6,81):=by kernel_rfl
theorem qTg:y6 Tryz.prog 121=true:=by kernel_rfl
theorem qSz:ji Tryz.prog 121=some [Value.int IntKind.i64 0,Value.int IntKind.i64 0,Value.int IntKind.i64 0,Value.slice none 0 0,Value.slice none 0 0,Value.slice none 0 0,Value.slice none 0 0]:=by kernel_rfl
theorem qTV:tsz Tryz.prog 125=1:=by kernel_rfl
theorem qUh:(Tryz.prog.info? 125).isSome=true:=by kernel_rfl
theorem qVL:uF Tryz.prog 125=some false:=by kernel_rfl
theorem qSN:jg Tryz.prog 125=some [.sc (Value.pointer none)]:=by kernel_rfl
theorem qTY:qBf Tryz.prog 125=true:=by kernel_rfl
theorem qTU:tsz Tryz.prog 134=2:=by kernel_rfl
theorem qUB:tce Tryz.prog 134=[1,0]:=by kernel_rfl
theorem qN3:tfo Tryz.prog 134 0=some (0,35):=by kernel_rfl
theorem qN2:tfo Tryz.prog 134 1=some (1,3):=by kernel_rfl
theorem qTf:y6 Tryz.prog 134=true:=by kernel_rfl
theorem qSy:ji Tryz.prog 134=some [Value.slice none 0 0,Value.int IntKind.i64 0]:=by kernel_rfl
theorem qTT:tsz Tryz.prog 136=43:=by kernel_rfl
theorem qUA:tce Tryz.prog 136=[0,0,0,0,0,0,0,0,0,0,0,0,0,0,0,0,0,0,0,0,0,0,0,0,0,0,0,0,0,0,0,0,0,0,0,0,0,0,0,0,0,0,0]:=by kernel_rfl
theorem qN1:tfo Tryz.prog 136 0=some (0,3):=by kernel_rfl
theorem qN0:tfo Tryz.prog 136 1=some (1,3):=by kernel_rfl
theorem qNZ:tfo Tryz.prog 136 2=some (2,125):=by kernel_rfl
theorem qNY:tfo Tryz.prog 136 3=some (3,94):=by kernel_rfl
theorem qNX:tfo Tryz.prog 136 4=some (11,94):=by kernel_rfl
theorem qNW:tfo Tryz.prog 136 5=some (19,94):=by kernel_rfl
theorem qNV:tfo Tryz.prog 136 6=some (27,94):=by kernel_rfl
theorem qNU:tfo Tryz.prog 136 7=some (35,94):=by kernel_rfl
theorem qTe:y6 Tryz.prog 136=true:=by kernel_rfl
theorem qSx:ji Tryz.prog 136=some [Value.int IntKind.i64 0,Value.int IntKind.i64 0,Value.pointer none,Value.bool false,Value.bool false,Value.bool false,Value.bool false,Value.bool false,Value.bool false,Value.bool false,Value.bool false,Value.bool false,Value.bool false,Value.bool false,Value.bool false,Value.bool false,Value.bool false,Value.bool false,Value.bool false,Value.bool false,Value.bool false,Value.bool false,Value.bool false,Value.bool false,Value.bool false,Value.bool false,Value.bool false,Value.bool false,Value.bool false,Value.bool false,Value.bool false,Value.bool false,Value.bool false,Value.bool false,Value.bool false,Value.bool false,Value.bool false,Value.bool false,Value.bool false,Value.bool false,Value.bool false,Value.bool false,Value.bool false]:=by kernel_rfl
theorem qTS:tsz Tryz.prog 150=1:=by kernel_rfl
theorem qUg:(Tryz.prog.info? 150).isSome=true:=by kernel_rfl
theorem qVK:uF Tryz.prog 150=some false:=by kernel_rfl
theorem qTj:tel Tryz.prog 150=some 157:=by kernel_rfl
theorem qTX:jx Tryz.prog 150=true:=by kernel_rfl
theorem qUG:uw Tryz.prog 150=some 157:=by kernel_rfl
theorem qTR:tsz Tryz.prog 152=6:=by kernel_rfl
theorem qUf:(Tryz.prog.info? 152).isSome=true:=by kernel_rfl
theorem qVJ:uF Tryz.prog 152=some true:=by kernel_rfl
theorem qTz:tce Tryz.prog 152=[0,1,1,1,1,2]:=by kernel_rfl
theorem qSM:jg Tryz.prog 152=some [.sc (Value.int IntKind.i64 0),.sc (Value.slice none 0 0),.sc (Value.slice none 0 0),.sc (Value.slice none 0 0),.sc (Value.slice none 0 0),.sc (Value.slice none 0 0)]:=by kernel_rfl
theorem qNT:tfo Tryz.prog 152 0=some (0,3):=by kernel_rfl
theorem qNS:tfo Tryz.prog 152 1=some (1,42):=by kernel_rfl
theorem qNR:tfo Tryz.prog 152 2=some (2,42):=by kernel_rfl
theorem qNQ:tfo Tryz.prog 152 3=some (3,42):=by kernel_rfl
theorem qNP:tfo Tryz.prog 152 4=some (4,42):=by kernel_rfl
theorem qNO:tfo Tryz.prog 152 5=some (5,150):=by kernel_rfl
theorem qTd:y6 Tryz.prog 152=true:=by kernel_rfl
theorem qSw:ji Tryz.prog 152=some [Value.int IntKind.i64 0,Value.slice none 0 0,Value.slice none 0 0,Value.slice none 0 0,Value.slice none 0 0,Value.slice none 0 0]:=by kernel_rfl
theorem qTQ:tsz Tryz.prog 157=2:=by kernel_rfl
theorem qUe:(Tryz.prog.info? 157).isSome=true:=by kernel_rfl
theorem qVI:uF Tryz.prog 157=some true:=by kernel_rfl
theorem qTy:tce Tryz.prog 157=[0,0]:=by kernel_rfl
theorem qSL:jg Tryz.prog 157=some [.sc (Value.int IntKind.i64 0),.sc (Value.int IntKind.i64 0)]:=by kernel_rfl
theorem qNN:tfo Tryz.prog 157 0=some (0,3):=by kernel_rfl
theorem qNM:tfo Tryz.prog 157 1=some (1,3):=by kernel_rfl
theorem qTc:y6 Tryz.prog 157=true:=by kernel_rfl
theorem qSv:ji Tryz.prog 157=some [Value.int IntKind.i64 0,Value.int IntKind.i64 0]:=by kernel_rfl
theorem qTP:tsz Tryz.prog 165=7:=by kernel_rfl
theorem qTx:tce Tryz.prog 165=[0,0,0,0,0,0,0]:=by kernel_rfl
theorem qSK:jg Tryz.prog 165=some [.sc (Value.int IntKind.i64 0),.sc (Value.int IntKind.i64 0),.sc (Value.int IntKind.i64 0),.sc (Value.int IntKind.i64 0),.sc (Value.int IntKind.i64 0),.sc (Value.int IntKind.i64 0),.sc (Value.int IntKind.i64 0)]:=by kernel_rfl
theorem qTi:tel Tryz.prog 165=none:=by kernel_rfl
theorem qUF:qKJ Tryz.prog 165=some (7,3):=by kernel_rfl
theorem qTO:tsz Tryz.prog 168=2:=by kernel_rfl
theorem qUd:(Tryz.prog.info? 168).isSome=true:=by kernel_rfl
theorem qUs:j6 Tryz.prog 168=some false:=by kernel_rfl
theorem qTw:tce Tryz.prog 168=[0,0]:=by kernel_rfl
theorem qSJ:jg Tryz.prog 168=some [.sc (Value.int IntKind.i64 0),.sc (Value.int IntKind.i64 0)]:=by kernel_rfl
theorem qSY:kE Tryz.prog 168=some (.agg [.sc (Value.int IntKind.i64 0),.sc (Value.int IntKind.i64 0)]):=by kernel_rfl
theorem qNL:tfo Tryz.prog 168 0=some (0,3):=by kernel_rfl
theorem qNK:tfo Tryz.prog 168 1=some (1,3):=by kernel_rfl
theorem qTb:y6 Tryz.prog 168=true:=by kernel_rfl
theorem qSu:ji Tryz.prog 168=some [Value.int IntKind.i64 0,Value.int IntKind.i64 0]:=by kernel_rfl
theorem qTN:tsz Tryz.prog 189=1:=by kernel_rfl
theorem qVH:uF Tryz.prog 189=some false:=by kernel_rfl
theorem qTv:tce Tryz.prog 189=[0]:=by kernel_rfl
theorem qTM:tsz Tryz.prog 193=2:=by kernel_rfl
theorem qUc:(Tryz.prog.info? 193).isSome=true:=by kernel_rfl
theorem qVG:uF Tryz.prog 193=some true:=by kernel_rfl
theorem qTu:tce Tryz.prog 193=[0,1]:=by kernel_rfl
theorem qSI:jg Tryz.prog 193=some [.sc (Value.int IntKind.i64 0),.sc (Value.slice none 0 0)]:=by kernel_rfl
theorem qNJ:tfo Tryz.prog 193 0=some (0,3):=by kernel_rfl
theorem qNI:tfo Tryz.prog 193 1=some (1,42):=by kernel_rfl
theorem qTa:y6 Tryz.prog 193=true:=by kernel_rfl
theorem qSt:ji Tryz.prog 193=some [Value.int IntKind.i64 0,Value.slice none 0 0]:=by kernel_rfl
theorem qTL:tsz Tryz.prog 198=1:=by kernel_rfl
theorem qUb:(Tryz.prog.info? 198).isSome=true:=by kernel_rfl
theorem qUr:j6 Tryz.prog 198=some false:=by kernel_rfl
theorem qTt:tce Tryz.prog 198=[0]:=by kernel_rfl
theorem qSH:jg Tryz.prog 198=some [.sc (Value.int IntKind.i64 0)]:=by kernel_rfl
theorem qSX:kE Tryz.prog 198=some (.agg [.sc (Value.int IntKind.i64 0)]):=by kernel_rfl
theorem qNH:tfo Tryz.prog 198 0=some (0,3):=by kernel_rfl
theorem qT9:y6 Tryz.prog 198=true:=by kernel_rfl
theorem qSs:ji Tryz.prog 198=some [Value.int IntKind.i64 0]:=by kernel_rfl
theorem qTK:tsz Tryz.prog 200=1:=by kernel_rfl
theorem qUa:(Tryz.prog.info? 200).isSome=true:=by kernel_rfl
theorem qUq:j6 Tryz.prog 200=some false:=by kernel_rfl
theorem qTs:tce Tryz.prog 200=[0]:=by kernel_rfl
theorem qSG:jg Tryz.prog 200=some [.sc (Value.int IntKind.i64 0)]:=by kernel_rfl
theorem qSW:kE Tryz.prog 200=some (.agg [.sc (Value.int IntKind.i64 0)]):=by kernel_rfl
theorem qNG:tfo Tryz.prog 200 0=some (0,3):=by kernel_rfl
theorem qT8:y6 Tryz.prog 200=true:=by kernel_rfl
theorem qSr:ji Tryz.prog 200=some [Value.int IntKind.i64 0]:=by kernel_rfl
theorem qTJ:tsz Tryz.prog 202=2:=by kernel_rfl
theorem qU9:(Tryz.prog.info? 202).isSome=true:=by kernel_rfl
theorem qUp:j6 Tryz.prog 202=some false:=by kernel_rfl
theorem qTr:tce Tryz.prog 202=[0,0]:=by kernel_rfl
theorem qSF:jg Tryz.prog 202=some [.sc (Value.int IntKind.i64 0),.sc (Value.int IntKind.i64 0)]:=by kernel_rfl
theorem qSV:kE Tryz.prog 202=some (.agg [.sc (Value.int IntKind.i64 0),.sc (Value.int IntKind.i64 0)]):=by kernel_rfl
theorem qNF:tfo Tryz.prog 202 0=some (0,3):=by kernel_rfl
theorem qNE:tfo Tryz.prog 202 1=some (1,3):=by kernel_rfl
theorem qT7:y6 Tryz.prog 202=true:=by kernel_rfl
theorem qSq:ji Tryz.prog 202=some [Value.int IntKind.i64 0,Value.int IntKind.i64 0]:=by kernel_rfl
theorem qTI:tsz Tryz.prog 204=2:=by kernel_rfl
theorem qU8:(Tryz.prog.info? 204).isSome=true:=by kernel_rfl
theorem qVF:uF Tryz.prog 204=some true:=by kernel_rfl
theorem qUo:j6 Tryz.prog 204=some false:=by kernel_rfl
theorem qTq:tce Tryz.prog 204=[0,0]:=by kernel_rfl
theorem qSE:jg Tryz.prog 204=some [.sc (Value.int IntKind.i64 0),.sc (Value.int IntKind.i64 0)]:=by kernel_rfl
theorem qSU:kE Tryz.prog 204=some (.agg [.sc (Value.int IntKind.i64 0),.sc (Value.int IntKind.i64 0)]):=by kernel_rfl
theorem qND:tfo Tryz.prog 204 0=some (0,3):=by kernel_rfl
theorem qNC:tfo Tryz.prog 204 1=some (1,3):=by kernel_rfl
theorem qT6:y6 Tryz.prog 204=true:=by kernel_rfl
theorem qSp:ji Tryz.prog 204=some [Value.int IntKind.i64 0,Value.int IntKind.i64 0]:=by kernel_rfl
theorem qTH:tsz Tryz.prog 206=2:=by kernel_rfl
theorem qU7:(Tryz.prog.info? 206).isSome=true:=by kernel_rfl
theorem qUn:j6 Tryz.prog 206=some false:=by kernel_rfl
theorem qTp:tce Tryz.prog 206=[0,0]:=by kernel_rfl
theorem qSD:jg Tryz.prog 206=some [.sc (Value.int IntKind.i64 0),.sc (Value.int IntKind.i64 0)]:=by kernel_rfl
theorem qST:kE Tryz.prog 206=some (.agg [.sc (Value.int IntKind.i64 0),.sc (Value.int IntKind.i64 0)]):=by kernel_rfl
theorem qNB:tfo Tryz.prog 206 0=some (0,3):=by kernel_rfl
theorem qNA:tfo Tryz.prog 206 1=some (1,3):=by kernel_rfl
theorem qT5:y6 Tryz.prog 206=true:=by kernel_rfl
theorem qSo:ji Tryz.prog 206=some [Value.int IntKind.i64 0,Value.int IntKind.i64 0]:=by kernel_rfl
theorem qTG:tsz Tryz.prog 208=1:=by kernel_rfl
theorem qU6:(Tryz.prog.info? 208).isSome=true:=by kernel_rfl
theorem qUm:j6 Tryz.prog 208=some false:=by kernel_rfl
theorem qTo:tce Tryz.prog 208=[0]:=by kernel_rfl
theorem qSC:jg Tryz.prog 208=some [.sc (Value.int IntKind.i64 0)]:=by kernel_rfl
theorem qSS:kE Tryz.prog 208=some (.agg [.sc (Value.int IntKind.i64 0)]):=by kernel_rfl
theorem qMz:tfo Tryz.prog 208 0=some (0,3):=by kernel_rfl
theorem qT4:y6 Tryz.prog 208=true:=by kernel_rfl
theorem qSn:ji Tryz.prog 208=some [Value.int IntKind.i64 0]:=by kernel_rfl
theorem qTF:tsz Tryz.prog 209=1:=by kernel_rfl
theorem qU5:(Tryz.prog.info? 209).isSome=true:=by kernel_rfl
theorem qUl:j6 Tryz.prog 209=some false:=by kernel_rfl
theorem qTn:tce Tryz.prog 209=[0]:=by kernel_rfl
theorem qSB:jg Tryz.prog 209=some [.sc (Value.int IntKind.i64 0)]:=by kernel_rfl
theorem qSR:kE Tryz.prog 209=some (.agg [.sc (Value.int IntKind.i64 0)]):=by kernel_rfl
theorem qMy:tfo Tryz.prog 209 0=some (0,3):=by kernel_rfl
theorem qT3:y6 Tryz.prog 209=true:=by kernel_rfl
theorem qSm:ji Tryz.prog 209=some [Value.int IntKind.i64 0]:=by kernel_rfl
theorem qTE:tsz Tryz.prog 211=0:=by kernel_rfl
theorem qU4:(Tryz.prog.info? 211).isSome=true:=by kernel_rfl
theorem qUk:j6 Tryz.prog 211=some false:=by kernel_rfl
theorem qTm:tce Tryz.prog 211=[]:=by kernel_rfl
theorem qSA:jg Tryz.prog 211=some []:=by kernel_rfl
theorem qSQ:kE Tryz.prog 211=some (.agg []):=by kernel_rfl
theorem qT2:y6 Tryz.prog 211=true:=by kernel_rfl
theorem qSl:ji Tryz.prog 211=some []:=by kernel_rfl
theorem qTD:tsz Tryz.prog 212=0:=by kernel_rfl
theorem qU3:(Tryz.prog.info? 212).isSome=true:=by kernel_rfl
theorem qUj:j6 Tryz.prog 212=some false:=by kernel_rfl
theorem qTl:tce Tryz.prog 212=[]:=by kernel_rfl
theorem qRz:jg Tryz.prog 212=some []:=by kernel_rfl
theorem qSP:kE Tryz.prog 212=some (.agg []):=by kernel_rfl
theorem qT1:y6 Tryz.prog 212=true:=by kernel_rfl
theorem qSk:ji Tryz.prog 212=some []:=by kernel_rfl
theorem qTC:tsz Tryz.prog 238=2:=by kernel_rfl
theorem qU2:(Tryz.prog.info? 238).isSome=true:=by kernel_rfl
theorem qVE:uF Tryz.prog 238=some true:=by kernel_rfl
theorem qTk:tce Tryz.prog 238=[0,1]:=by kernel_rfl
theorem qRy:jg Tryz.prog 238=some [.sc (Value.int IntKind.i64 0),.sc (Value.slice none 0 0)]:=by kernel_rfl
theorem qMx:tfo Tryz.prog 238 0=some (0,3):=by kernel_rfl
theorem qMw:tfo Tryz.prog 238 1=some (1,80):=by kernel_rfl
theorem qT0:y6 Tryz.prog 238=true:=by kernel_rfl
theorem qSj:ji Tryz.prog 238=some [Value.int IntKind.i64 0,Value.slice none 0 0]:=by kernel_rfl
theorem qTh:tel Tryz.prog 246=none:=by kernel_rfl
theorem qUE:qKJ Tryz.prog 246=some (5,3):=by kernel_rfl
attribute [simp] qWC qY5 qYd qYY qYX qYV qY4 qYc qYU qYb qWE qXg qYI qWj qWR qXO qWD qXf qYH qWw qV4 qQ7 qW0 qVf qWB qYG qWi qWQ qWA qXe qYF qWh qWP qXN qVz qXd qYE qWv qV3 qQ6 qQ5 qQ4 qQ3 qWZ qVe qVy qXc qYD qWu qWg qWO qXM qVx qXb qYC qWf qWN qXL qVw qXa qYB qWt qV2 qQ2 qQ1 qQ0 qQZ qWY qVd qVv qWs qQY qQX qWX qVc qTB qYA qWe qXK qVu qX9 qXz qWd qXJ qVt qX8 qXy qWr qWc qWM qXI qVs qX7 qXx qWb qWL qXH qVr qX6 qXw qWa qWK qXG qVq qX5 qXv qW9 qWJ qXF qVp qWq qQW qQV qQU qQT qQS qQR qQQ qQP qQO qQN qMv qMu qMt qWW qVb qVo qX4 qXu qWp qV1 qQM qQL qWV qVa qVn qX3 qXt qWo qV0 qQK qQJ qWU qV9 qVm qXs qWn qW8 qWz qVl qX2 qXr qW7 qWI qXE qVk qX1 qXq qW6 qWH qXD qVj qX0 qXp qW5 qXC qVi qXZ qXo qW4 qWG qXB qVh qXY qXn qWm qVZ qQI qQH qQG qQF qQE qQD qWT qV8 qW3 qWy qTA qKZ qQC qKY qKX qQB qQA qPz qPy qPx qPw qMs qMr qMq qMp qVg qXX qXm qWl qVY qW2 qWx qW1 qWF qXA qTW qUi qVM qUC qSO qNa qN9 qN8 qN7 qN6 qN5 qN4 qTg qSz qTV qUh qVL qSN qTY qTU qUB qN3 qN2 qTf qSy qTT qUA qN1 qN0 qNZ qNY qNX qNW qNV qNU qTe qSx qTS qUg qVK qTj qTX qUG qTR qUf qVJ qTz qSM qNT qNS qNR qNQ qNP qNO qTd qSw qTQ qUe qVI qTy qSL qNN qNM qTc qSv qTP qTx qSK qTi qUF qTO qUd qUs qTw qSJ qSY qNL qNK qTb qSu qTN qVH qTv qTM qUc qVG qTu qSI qNJ qNI qTa qSt qTL qUb qUr qTt qSH qSX qNH qT9 qSs qTK qUa qUq qTs qSG qSW qNG qT8 qSr qTJ qU9 qUp qTr qSF qSV qNF qNE qT7 qSq qTI qU8 qVF qUo qTq qSE qSU qND qNC qT6 qSp qTH qU7 qUn qTp qSD qST qNB qNA qT5 qSo qTG qU6 qUm qTo qSC qSS qMz qT4 qSn qTF qU5 qUl qTn qSB qSR qMy qT3 qSm qTE qU4 qUk qTm qSA qSQ qT2 qSl qTD qU3 qUj qTl qRz qSP qT1 qSk qTC qU2 qVE qTk qRy qMx qMw qT0 qSj qTh qUE
theorem qA:Tryz.prog.follows .mixedOrders=true:=by kernel_rfl
end Go.Proofs.YtbgmnmnoaamgkaaGreatDoor
end
