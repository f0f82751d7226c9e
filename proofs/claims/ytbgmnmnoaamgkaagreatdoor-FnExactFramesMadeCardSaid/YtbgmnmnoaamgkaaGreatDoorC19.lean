/-
  Own texts, joined by mkclaim.py: Facts.
-/
import Derived.Test.YtbgmnmnoaamgkaaGreatDoorProg
import Derived.Test.YtbgmnmnoaamgkaaGreatDoorC07
set_option linter.unusedSimpArgs false
set_option linter.unusedVariables false
set_option maxRecDepth 100000
set_option maxHeartbeats 4000000

section
namespace Go.Proofs.YtbgmnmnoaamgkaaGreatDoor
open Go Go.Hm Go.Proofs
theorem qWF:tsz Tryz.prog 3=1:=by kernel_rfl
theorem qYb:(Tryz.prog.info? 3).isSome=true:=by kernel_rfl
theorem qYi:va Tryz.prog 3=some false:=by kernel_rfl
theorem qY4:tce Tryz.prog 3=[0]:=by kernel_rfl
theorem qY0:jX Tryz.prog 3=some [.sc (Value.int IntKind.i64 0)]:=by kernel_rfl
theorem qY2:tsz Tryz.prog 4=1:=by kernel_rfl
theorem qYa:(Tryz.prog.info? 4).isSome=true:=by kernel_rfl
theorem qYh:va Tryz.prog 4=some false:=by kernel_rfl
theorem qYR:va Tryz.prog 22=some false:=by kernel_rfl
theorem qWm:tel Tryz.prog 22=some 116:=by kernel_rfl
theorem qWV:jp Tryz.prog 22=true:=by kernel_rfl
theorem qWI:tsz Tryz.prog 24=1:=by kernel_rfl
theorem qYQ:va Tryz.prog 24=some true:=by kernel_rfl
theorem qXB:tce Tryz.prog 24=[4]:=by kernel_rfl
theorem qQ3:tfo Tryz.prog 24 0=some (0,22):=by kernel_rfl
theorem qWH:tsz Tryz.prog 27=1:=by kernel_rfl
theorem qXm:(Tryz.prog.info? 27).isSome=true:=by kernel_rfl
theorem qYP:va Tryz.prog 27=some false:=by kernel_rfl
theorem qWl:tel Tryz.prog 27=some 45:=by kernel_rfl
theorem qWU:jp Tryz.prog 27=true:=by kernel_rfl
theorem qXT:kJ Tryz.prog 27=some 45:=by kernel_rfl
theorem qWG:tsz Tryz.prog 29=1:=by kernel_rfl
theorem qXl:(Tryz.prog.info? 29).isSome=true:=by kernel_rfl
theorem qYO:va Tryz.prog 29=some true:=by kernel_rfl
theorem qXA:tce Tryz.prog 29=[4]:=by kernel_rfl
theorem qV8:jX Tryz.prog 29=some [.sc (Value.slice none 0 0)]:=by kernel_rfl
theorem qQ2:tfo Tryz.prog 29 0=some (0,27):=by kernel_rfl
theorem qWE:tsz Tryz.prog 38=1:=by kernel_rfl
theorem qXk:(Tryz.prog.info? 38).isSome=true:=by kernel_rfl
theorem qYN:va Tryz.prog 38=some false:=by kernel_rfl
theorem qWk:tel Tryz.prog 38=some 47:=by kernel_rfl
theorem qWT:jp Tryz.prog 38=true:=by kernel_rfl
theorem qXS:kJ Tryz.prog 38=some 47:=by kernel_rfl
theorem qWD:tsz Tryz.prog 41=4:=by kernel_rfl
theorem qXj:(Tryz.prog.info? 41).isSome=true:=by kernel_rfl
theorem qYM:va Tryz.prog 41=some true:=by kernel_rfl
theorem qWz:tce Tryz.prog 41=[0,0,0,0]:=by kernel_rfl
theorem qV7:jX Tryz.prog 41=some [.sc (Value.int IntKind.i64 0),.sc (Value.int IntKind.i64 0),.sc (Value.int IntKind.i64 0),.sc (Value.int IntKind.i64 0)]:=by kernel_rfl
theorem qQ1:tfo Tryz.prog 41 0=some (0,3):=by kernel_rfl
theorem qQ0:tfo Tryz.prog 41 1=some (1,3):=by kernel_rfl
theorem qQZ:tfo Tryz.prog 41 2=some (2,3):=by kernel_rfl
theorem qQY:tfo Tryz.prog 41 3=some (3,3):=by kernel_rfl
theorem qWC:tsz Tryz.prog 42=1:=by kernel_rfl
theorem qXi:(Tryz.prog.info? 42).isSome=true:=by kernel_rfl
theorem qYL:va Tryz.prog 42=some false:=by kernel_rfl
theorem qWy:tce Tryz.prog 42=[1]:=by kernel_rfl
theorem qWj:tel Tryz.prog 42=some 3:=by kernel_rfl
theorem qWS:jp Tryz.prog 42=true:=by kernel_rfl
theorem qXR:kJ Tryz.prog 42=some 3:=by kernel_rfl
theorem qWB:tsz Tryz.prog 43=1:=by kernel_rfl
theorem qXh:(Tryz.prog.info? 43).isSome=true:=by kernel_rfl
theorem qYK:va Tryz.prog 43=some false:=by kernel_rfl
theorem qWi:tel Tryz.prog 43=some 41:=by kernel_rfl
theorem qWR:jp Tryz.prog 43=true:=by kernel_rfl
theorem qXQ:kJ Tryz.prog 43=some 41:=by kernel_rfl
theorem qWA:tsz Tryz.prog 45=4:=by kernel_rfl
theorem qXg:(Tryz.prog.info? 45).isSome=true:=by kernel_rfl
theorem qYJ:va Tryz.prog 45=some true:=by kernel_rfl
theorem qWx:tce Tryz.prog 45=[0,0,1,4]:=by kernel_rfl
theorem qV6:jX Tryz.prog 45=some [.sc (Value.int IntKind.i64 0),.sc (Value.int IntKind.i64 0),.sc (Value.slice none 0 0),.sc (Value.slice none 0 0)]:=by kernel_rfl
theorem qQX:tfo Tryz.prog 45 0=some (0,3):=by kernel_rfl
theorem qQW:tfo Tryz.prog 45 1=some (1,3):=by kernel_rfl
theorem qQV:tfo Tryz.prog 45 2=some (2,42):=by kernel_rfl
theorem qQU:tfo Tryz.prog 45 3=some (3,43):=by kernel_rfl
theorem qVz:tsz Tryz.prog 47=2:=by kernel_rfl
theorem qYI:va Tryz.prog 47=some true:=by kernel_rfl
theorem qWw:tce Tryz.prog 47=[0,0]:=by kernel_rfl
theorem qQT:tfo Tryz.prog 47 0=some (0,3):=by kernel_rfl
theorem qQS:tfo Tryz.prog 47 1=some (1,3):=by kernel_rfl
theorem qW3:yr Tryz.prog 47=true:=by kernel_rfl
theorem qVi:ju Tryz.prog 47=some [Value.int IntKind.i64 0,Value.int IntKind.i64 0]:=by kernel_rfl
theorem qVy:tsz Tryz.prog 53=4:=by kernel_rfl
theorem qXf:(Tryz.prog.info? 53).isSome=true:=by kernel_rfl
theorem qYH:va Tryz.prog 53=some true:=by kernel_rfl
theorem qWv:tce Tryz.prog 53=[1,0,0,1]:=by kernel_rfl
theorem qV5:jX Tryz.prog 53=some [.sc (Value.slice none 0 0),.sc (Value.int IntKind.i64 0),.sc (Value.int IntKind.i64 0),.sc (Value.slice none 0 0)]:=by kernel_rfl
theorem qQR:tfo Tryz.prog 53 0=some (0,42):=by kernel_rfl
theorem qQQ:tfo Tryz.prog 53 1=some (1,3):=by kernel_rfl
theorem qQP:tfo Tryz.prog 53 2=some (2,3):=by kernel_rfl
theorem qQO:tfo Tryz.prog 53 3=some (3,42):=by kernel_rfl
theorem qW2:yr Tryz.prog 53=true:=by kernel_rfl
theorem qVh:ju Tryz.prog 53=some [Value.slice none 0 0,Value.int IntKind.i64 0,Value.int IntKind.i64 0,Value.slice none 0 0]:=by kernel_rfl
theorem qSx:tsz Tryz.prog 59=1:=by kernel_rfl
theorem qYG:va Tryz.prog 59=some false:=by kernel_rfl
theorem qWh:tel Tryz.prog 59=some 152:=by kernel_rfl
theorem qXP:kJ Tryz.prog 59=some 152:=by kernel_rfl
theorem qVx:tsz Tryz.prog 60=1:=by kernel_rfl
theorem qXe:(Tryz.prog.info? 60).isSome=true:=by kernel_rfl
theorem qYF:va Tryz.prog 60=some false:=by kernel_rfl
theorem qWg:tel Tryz.prog 60=some 42:=by kernel_rfl
theorem qXO:kJ Tryz.prog 60=some 42:=by kernel_rfl
theorem qVw:tsz Tryz.prog 61=1:=by kernel_rfl
theorem qXd:(Tryz.prog.info? 61).isSome=true:=by kernel_rfl
theorem qYE:va Tryz.prog 61=some false:=by kernel_rfl
theorem qWu:tce Tryz.prog 61=[3]:=by kernel_rfl
theorem qWf:tel Tryz.prog 61=some 75:=by kernel_rfl
theorem qWQ:jp Tryz.prog 61=true:=by kernel_rfl
theorem qXN:kJ Tryz.prog 61=some 75:=by kernel_rfl
theorem qVv:tsz Tryz.prog 62=1:=by kernel_rfl
theorem qXc:(Tryz.prog.info? 62).isSome=true:=by kernel_rfl
theorem qYD:va Tryz.prog 62=some false:=by kernel_rfl
theorem qWe:tel Tryz.prog 62=some 193:=by kernel_rfl
theorem qWP:jp Tryz.prog 62=true:=by kernel_rfl
theorem qXM:kJ Tryz.prog 62=some 193:=by kernel_rfl
theorem qVu:tsz Tryz.prog 63=1:=by kernel_rfl
theorem qXb:(Tryz.prog.info? 63).isSome=true:=by kernel_rfl
theorem qYC:va Tryz.prog 63=some false:=by kernel_rfl
theorem qWd:tel Tryz.prog 63=some 61:=by kernel_rfl
theorem qWO:jp Tryz.prog 63=true:=by kernel_rfl
theorem qXL:kJ Tryz.prog 63=some 61:=by kernel_rfl
theorem qVt:tsz Tryz.prog 64=1:=by kernel_rfl
theorem qXa:(Tryz.prog.info? 64).isSome=true:=by kernel_rfl
theorem qYB:va Tryz.prog 64=some false:=by kernel_rfl
theorem qWc:tel Tryz.prog 64=some 121:=by kernel_rfl
theorem qWN:jp Tryz.prog 64=true:=by kernel_rfl
theorem qXK:kJ Tryz.prog 64=some 121:=by kernel_rfl
theorem qVs:tsz Tryz.prog 66=13:=by kernel_rfl
theorem qWt:tce Tryz.prog 66=[6,1,3,3,2,1,7,0,0,1,2,0,0]:=by kernel_rfl
theorem qQN:tfo Tryz.prog 66 0=some (0,59):=by kernel_rfl
theorem qQM:tfo Tryz.prog 66 1=some (1,60):=by kernel_rfl
theorem qQL:tfo Tryz.prog 66 2=some (2,61):=by kernel_rfl
theorem qQK:tfo Tryz.prog 66 3=some (3,61):=by kernel_rfl
theorem qQJ:tfo Tryz.prog 66 4=some (4,62):=by kernel_rfl
theorem qQI:tfo Tryz.prog 66 5=some (5,63):=by kernel_rfl
theorem qQH:tfo Tryz.prog 66 6=some (6,64):=by kernel_rfl
theorem qQG:tfo Tryz.prog 66 7=some (7,3):=by kernel_rfl
theorem qQF:tfo Tryz.prog 66 8=some (8,3):=by kernel_rfl
theorem qQE:tfo Tryz.prog 66 9=some (9,42):=by kernel_rfl
theorem qMw:tfo Tryz.prog 66 10=some (10,38):=by kernel_rfl
theorem qMv:tfo Tryz.prog 66 11=some (11,3):=by kernel_rfl
theorem qMu:tfo Tryz.prog 66 12=some (12,3):=by kernel_rfl
theorem qW1:yr Tryz.prog 66=true:=by kernel_rfl
theorem qVg:ju Tryz.prog 66=some [Value.slice none 0 0,Value.slice none 0 0,Value.slice none 0 0,Value.slice none 0 0,Value.slice none 0 0,Value.slice none 0 0,Value.slice none 0 0,Value.int IntKind.i64 0,Value.int IntKind.i64 0,Value.slice none 0 0,Value.slice none 0 0,Value.int IntKind.i64 0,Value.int IntKind.i64 0]:=by kernel_rfl
theorem qVr:tsz Tryz.prog 73=2:=by kernel_rfl
theorem qX9:(Tryz.prog.info? 73).isSome=true:=by kernel_rfl
theorem qYA:va Tryz.prog 73=some true:=by kernel_rfl
theorem qWs:tce Tryz.prog 73=[0,0]:=by kernel_rfl
theorem qV4:jX Tryz.prog 73=some [.sc (Value.int IntKind.i64 0),.sc (Value.int IntKind.i64 0)]:=by kernel_rfl
theorem qQD:tfo Tryz.prog 73 0=some (0,3):=by kernel_rfl
theorem qQC:tfo Tryz.prog 73 1=some (1,3):=by kernel_rfl
theorem qW0:yr Tryz.prog 73=true:=by kernel_rfl
theorem qVf:ju Tryz.prog 73=some [Value.int IntKind.i64 0,Value.int IntKind.i64 0]:=by kernel_rfl
theorem qVq:tsz Tryz.prog 75=3:=by kernel_rfl
theorem qX8:(Tryz.prog.info? 75).isSome=true:=by kernel_rfl
theorem qXz:va Tryz.prog 75=some true:=by kernel_rfl
theorem qWr:tce Tryz.prog 75=[0,0,0]:=by kernel_rfl
theorem qV3:jX Tryz.prog 75=some [.sc (Value.bool false),.sc (Value.int IntKind.i64 0),.sc (Value.int IntKind.i64 0)]:=by kernel_rfl
theorem qQB:tfo Tryz.prog 75 0=some (0,4):=by kernel_rfl
theorem qQA:tfo Tryz.prog 75 1=some (1,73):=by kernel_rfl
theorem qWZ:yr Tryz.prog 75=true:=by kernel_rfl
theorem qVe:ju Tryz.prog 75=some [Value.bool false,Value.int IntKind.i64 0,Value.int IntKind.i64 0]:=by kernel_rfl
theorem qVp:tsz Tryz.prog 77=24:=by kernel_rfl
theorem qXy:va Tryz.prog 77=some true:=by kernel_rfl
theorem qWq:tce Tryz.prog 77=[0,0,0,0,0,0,0,0,0,0,0,0,0,0,0,0,0,0,0,0,0,0,0,0]:=by kernel_rfl
theorem qWb:tel Tryz.prog 77=none:=by kernel_rfl
theorem qXE:qKH Tryz.prog 77=some (8,75):=by kernel_rfl
theorem qVo:tsz Tryz.prog 78=1:=by kernel_rfl
theorem qX7:(Tryz.prog.info? 78).isSome=true:=by kernel_rfl
theorem qXx:va Tryz.prog 78=some false:=by kernel_rfl
theorem qWa:tel Tryz.prog 78=some 238:=by kernel_rfl
theorem qWM:jp Tryz.prog 78=true:=by kernel_rfl
theorem qXJ:kJ Tryz.prog 78=some 238:=by kernel_rfl
theorem qVn:tsz Tryz.prog 79=1:=by kernel_rfl
theorem qX6:(Tryz.prog.info? 79).isSome=true:=by kernel_rfl
theorem qXw:va Tryz.prog 79=some false:=by kernel_rfl
theorem qW9:tel Tryz.prog 79=some 77:=by kernel_rfl
theorem qWL:jp Tryz.prog 79=true:=by kernel_rfl
theorem qXI:kJ Tryz.prog 79=some 77:=by kernel_rfl
theorem qVm:tsz Tryz.prog 80=1:=by kernel_rfl
theorem qX5:(Tryz.prog.info? 80).isSome=true:=by kernel_rfl
theorem qXv:va Tryz.prog 80=some false:=by kernel_rfl
theorem qW8:tel Tryz.prog 80=some 189:=by kernel_rfl
theorem qXH:kJ Tryz.prog 80=some 189:=by kernel_rfl
theorem qVl:tsz Tryz.prog 81=1:=by kernel_rfl
theorem qX4:(Tryz.prog.info? 81).isSome=true:=by kernel_rfl
theorem qXu:va Tryz.prog 81=some false:=by kernel_rfl
theorem qW7:tel Tryz.prog 81=some 73:=by kernel_rfl
theorem qWK:jp Tryz.prog 81=true:=by kernel_rfl
theorem qXG:kJ Tryz.prog 81=some 73:=by kernel_rfl
theorem qVk:tsz Tryz.prog 83=29:=by kernel_rfl
theorem qX3:(Tryz.prog.info? 83).isSome=true:=by kernel_rfl
theorem qXt:va Tryz.prog 83=some true:=by kernel_rfl
theorem qWp:tce Tryz.prog 83=[0,0,3,1,0,0,0,0,0,0,0,0,0,0,0,0,0,0,0,0,0,0,0,0,0,0,0,0,2]:=by kernel_rfl
theorem qV2:jX Tryz.prog 83=some [.sc (Value.int IntKind.i64 0),.sc (Value.int IntKind.i64 0),.sc (Value.slice none 0 0),.sc (Value.slice none 0 0),.sc (Value.bool false),.sc (Value.int IntKind.i64 0),.sc (Value.int IntKind.i64 0),.sc (Value.bool false),.sc (Value.int IntKind.i64 0),.sc (Value.int IntKind.i64 0),.sc (Value.bool false),.sc (Value.int IntKind.i64 0),.sc (Value.int IntKind.i64 0),.sc (Value.bool false),.sc (Value.int IntKind.i64 0),.sc (Value.int IntKind.i64 0),.sc (Value.bool false),.sc (Value.int IntKind.i64 0),.sc (Value.int IntKind.i64 0),.sc (Value.bool false),.sc (Value.int IntKind.i64 0),.sc (Value.int IntKind.i64 0),.sc (Value.bool false),.sc (Value.int IntKind.i64 0),.sc (Value.int IntKind.i64 0),.sc (Value.bool false),.sc (Value.int IntKind.i64 0),.sc (Value.int IntKind.i64 0),.sc (Value.slice none 0 0)]:=by kernel_rfl
theorem qPz:tfo Tryz.prog 83 0=some (0,3):=by kernel_rfl
theorem qPy:tfo Tryz.prog 83 1=some (1,3):=by kernel_rfl
theorem qPx:tfo Tryz.prog 83 2=some (2,61):=by kernel_rfl
theorem qPw:tfo Tryz.prog 83 3=some (3,80):=by kernel_rfl
theorem qPv:tfo Tryz.prog 83 4=some (4,77):=by kernel_rfl
theorem qPu:tfo Tryz.prog 83 5=some (28,81):=by kernel_rfl
theorem qWY:yr Tryz.prog 83=true:=by kernel_rfl
theorem qVd:ju Tryz.prog 83=some [Value.int IntKind.i64 0,Value.int IntKind.i64 0,Value.slice none 0 0,Value.slice none 0 0,Value.bool false,Value.int IntKind.i64 0,Value.int IntKind.i64 0,Value.bool false,Value.int IntKind.i64 0,Value.int IntKind.i64 0,Value.bool false,Value.int IntKind.i64 0,Value.int IntKind.i64 0,Value.bool false,Value.int IntKind.i64 0,Value.int IntKind.i64 0,Value.bool false,Value.int IntKind.i64 0,Value.int IntKind.i64 0,Value.bool false,Value.int IntKind.i64 0,Value.int IntKind.i64 0,Value.bool false,Value.int IntKind.i64 0,Value.int IntKind.i64 0,Value.bool false,Value.int IntKind.i64 0,Value.int IntKind.i64 0,Value.slice none 0 0]:=by kernel_rfl
theorem qW6:tel Tryz.prog 84=none:=by kernel_rfl
theorem qXD:qKH Tryz.prog 84=some (151,83):=by kernel_rfl
theorem qSw:tsz Tryz.prog 86=4415:=by kernel_rfl
theorem qKX:tfo Tryz.prog 86 0=some (0,59):=by kernel_rfl
theorem qPt:tfo Tryz.prog 86 1=some (1,60):=by kernel_rfl
theorem qKW:tfo Tryz.prog 86 2=some (2,3):=by kernel_rfl
theorem qKV:tfo Tryz.prog 86 3=some (3,3):=by kernel_rfl
theorem qPs:tfo Tryz.prog 86 4=some (4,42):=by kernel_rfl
theorem qPr:tfo Tryz.prog 86 5=some (5,38):=by kernel_rfl
theorem qPq:tfo Tryz.prog 86 6=some (6,77):=by kernel_rfl
theorem qPp:tfo Tryz.prog 86 7=some (30,78):=by kernel_rfl
theorem qPo:tfo Tryz.prog 86 8=some (31,79):=by kernel_rfl
theorem qPn:tfo Tryz.prog 86 9=some (32,84):=by kernel_rfl
theorem qMt:tfo Tryz.prog 86 10=some (4411,3):=by kernel_rfl
theorem qMs:tfo Tryz.prog 86 11=some (4412,3):=by kernel_rfl
theorem qMr:tfo Tryz.prog 86 12=some (4413,3):=by kernel_rfl
theorem qMq:tfo Tryz.prog 86 13=some (4414,3):=by kernel_rfl
theorem qVj:tsz Tryz.prog 94=8:=by kernel_rfl
theorem qX2:(Tryz.prog.info? 94).isSome=true:=by kernel_rfl
theorem qXs:va Tryz.prog 94=some true:=by kernel_rfl
theorem qWo:tce Tryz.prog 94=[0,0,0,0,0,0,0,0]:=by kernel_rfl
theorem qV1:jX Tryz.prog 94=some [.sc (Value.bool false),.sc (Value.bool false),.sc (Value.bool false),.sc (Value.bool false),.sc (Value.bool false),.sc (Value.bool false),.sc (Value.bool false),.sc (Value.bool false)]:=by kernel_rfl
theorem qW5:tel Tryz.prog 94=none:=by kernel_rfl
theorem qXC:qKH Tryz.prog 94=some (8,4):=by kernel_rfl
theorem qW4:tel Tryz.prog 96=some 125:=by kernel_rfl
theorem qWJ:jp Tryz.prog 96=true:=by kernel_rfl
theorem qXF:kJ Tryz.prog 96=some 125:=by kernel_rfl
theorem qVQ:va Tryz.prog 114=some false:=by kernel_rfl
theorem qTh:tel Tryz.prog 114=some 196:=by kernel_rfl
theorem qTV:jp Tryz.prog 114=true:=by kernel_rfl
theorem qTT:tsz Tryz.prog 116=4:=by kernel_rfl
theorem qVP:va Tryz.prog 116=some true:=by kernel_rfl
theorem qUB:tce Tryz.prog 116=[0,0,1,4]:=by kernel_rfl
theorem qNh:tfo Tryz.prog 116 0=some (0,3):=by kernel_rfl
theorem qNg:tfo Tryz.prog 116 1=some (1,3):=by kernel_rfl
theorem qNf:tfo Tryz.prog 116 2=some (2,42):=by kernel_rfl
theorem qNe:tfo Tryz.prog 116 3=some (3,114):=by kernel_rfl
theorem qTS:tsz Tryz.prog 121=7:=by kernel_rfl
theorem qUi:(Tryz.prog.info? 121).isSome=true:=by kernel_rfl
theorem qVO:va Tryz.prog 121=some true:=by kernel_rfl
theorem qUA:tce Tryz.prog 121=[0,0,0,3,1,3,2]:=by kernel_rfl
theorem qSL:jX Tryz.prog 121=some [.sc (Value.int IntKind.i64 0),.sc (Value.int IntKind.i64 0),.sc (Value.int IntKind.i64 0),.sc (Value.slice none 0 0),.sc (Value.slice none 0 0),.sc (Value.slice none 0 0),.sc (Value.slice none 0 0)]:=by kernel_rfl
theorem qNd:tfo Tryz.prog 121 0=some (0,3):=by kernel_rfl
theorem qNc:tfo Tryz.prog 121 1=some (1,3):=by kernel_rfl
theorem qNb:tfo Tryz.prog 121 2=some (2,3):=by kernel_rfl
theorem qNa:tfo Tryz.prog 121 3=some (3,61):=by kernel_rfl
theorem qN9:tfo Tryz.prog 121 4=some (4,42):=by kernel_rfl
theorem qN8:tfo Tryz.prog 121 5=some (5,61):=by kernel_rfl
theorem qN7:tfo Tryz.prog 121 6=some (6,81):=by kernel_rfl
theorem qTd:yr Tryz.prog 121=true:=by kernel_rfl
theorem qSv:ju Tryz.prog 121=some [Value.int IntKind.i64 0,Value.int IntKind.i64 0,Value.int IntKind.i64 0,Value.slice none 0 0,Value.slice none 0 0,Value.slice none 0 0,Value.slice none 0 0]:=by kernel_rfl
theorem qTR:tsz Tryz.prog 125=1:=by kernel_rfl
theorem qUh:(Tryz.prog.info? 125).isSome=true:=by kernel_rfl
theorem qVN:va Tryz.prog 125=some false:=by kernel_rfl
theorem qSK:jX Tryz.prog 125=some [.sc (Value.pointer none)]:=by kernel_rfl
theorem qTW:qBa Tryz.prog 125=true:=by kernel_rfl
theorem qTQ:tsz Tryz.prog 136=43:=by kernel_rfl
theorem qTz:tce Tryz.prog 136=[0,0,0,0,0,0,0,0,0,0,0,0,0,0,0,0,0,0,0,0,0,0,0,0,0,0,0,0,0,0,0,0,0,0,0,0,0,0,0,0,0,0,0]:=by kernel_rfl
theorem qN6:tfo Tryz.prog 136 0=some (0,3):=by kernel_rfl
theorem qN5:tfo Tryz.prog 136 1=some (1,3):=by kernel_rfl
theorem qN4:tfo Tryz.prog 136 2=some (2,125):=by kernel_rfl
theorem qN3:tfo Tryz.prog 136 3=some (3,94):=by kernel_rfl
theorem qN2:tfo Tryz.prog 136 4=some (11,94):=by kernel_rfl
theorem qN1:tfo Tryz.prog 136 5=some (19,94):=by kernel_rfl
theorem qN0:tfo Tryz.prog 136 6=some (27,94):=by kernel_rfl
theorem qNZ:tfo Tryz.prog 136 7=some (35,94):=by kernel_rfl
theorem qTc:yr Tryz.prog 136=true:=by kernel_rfl
theorem qSu:ju Tryz.prog 136=some [Value.int IntKind.i64 0,Value.int IntKind.i64 0,Value.pointer none,Value.bool false,Value.bool false,Value.bool false,Value.bool false,Value.bool false,Value.bool false,Value.bool false,Value.bool false,Value.bool false,Value.bool false,Value.bool false,Value.bool false,Value.bool false,Value.bool false,Value.bool false,Value.bool false,Value.bool false,Value.bool false,Value.bool false,Value.bool false,Value.bool false,Value.bool false,Value.bool false,Value.bool false,Value.bool false,Value.bool false,Value.bool false,Value.bool false,Value.bool false,Value.bool false,Value.bool false,Value.bool false,Value.bool false,Value.bool false,Value.bool false,Value.bool false,Value.bool false,Value.bool false,Value.bool false,Value.bool false]:=by kernel_rfl
theorem qTP:tsz Tryz.prog 150=1:=by kernel_rfl
theorem qUg:(Tryz.prog.info? 150).isSome=true:=by kernel_rfl
theorem qVM:va Tryz.prog 150=some false:=by kernel_rfl
theorem qTg:tel Tryz.prog 150=some 157:=by kernel_rfl
theorem qTU:jp Tryz.prog 150=true:=by kernel_rfl
theorem qUF:kJ Tryz.prog 150=some 157:=by kernel_rfl
theorem qTO:tsz Tryz.prog 152=6:=by kernel_rfl
theorem qUf:(Tryz.prog.info? 152).isSome=true:=by kernel_rfl
theorem qVL:va Tryz.prog 152=some true:=by kernel_rfl
theorem qTy:tce Tryz.prog 152=[0,1,1,1,1,2]:=by kernel_rfl
theorem qSJ:jX Tryz.prog 152=some [.sc (Value.int IntKind.i64 0),.sc (Value.slice none 0 0),.sc (Value.slice none 0 0),.sc (Value.slice none 0 0),.sc (Value.slice none 0 0),.sc (Value.slice none 0 0)]:=by kernel_rfl
theorem qNY:tfo Tryz.prog 152 0=some (0,3):=by kernel_rfl
theorem qNX:tfo Tryz.prog 152 1=some (1,42):=by kernel_rfl
theorem qNW:tfo Tryz.prog 152 2=some (2,42):=by kernel_rfl
theorem qNV:tfo Tryz.prog 152 3=some (3,42):=by kernel_rfl
theorem qNU:tfo Tryz.prog 152 4=some (4,42):=by kernel_rfl
theorem qNT:tfo Tryz.prog 152 5=some (5,150):=by kernel_rfl
theorem qTb:yr Tryz.prog 152=true:=by kernel_rfl
theorem qSt:ju Tryz.prog 152=some [Value.int IntKind.i64 0,Value.slice none 0 0,Value.slice none 0 0,Value.slice none 0 0,Value.slice none 0 0,Value.slice none 0 0]:=by kernel_rfl
theorem qTN:tsz Tryz.prog 157=2:=by kernel_rfl
theorem qUe:(Tryz.prog.info? 157).isSome=true:=by kernel_rfl
theorem qVK:va Tryz.prog 157=some true:=by kernel_rfl
theorem qTx:tce Tryz.prog 157=[0,0]:=by kernel_rfl
theorem qSI:jX Tryz.prog 157=some [.sc (Value.int IntKind.i64 0),.sc (Value.int IntKind.i64 0)]:=by kernel_rfl
theorem qNS:tfo Tryz.prog 157 0=some (0,3):=by kernel_rfl
theorem qNR:tfo Tryz.prog 157 1=some (1,3):=by kernel_rfl
theorem qTa:yr Tryz.prog 157=true:=by kernel_rfl
theorem qSs:ju Tryz.prog 157=some [Value.int IntKind.i64 0,Value.int IntKind.i64 0]:=by kernel_rfl
theorem qTM:tsz Tryz.prog 165=7:=by kernel_rfl
theorem qTw:tce Tryz.prog 165=[0,0,0,0,0,0,0]:=by kernel_rfl
theorem qSH:jX Tryz.prog 165=some [.sc (Value.int IntKind.i64 0),.sc (Value.int IntKind.i64 0),.sc (Value.int IntKind.i64 0),.sc (Value.int IntKind.i64 0),.sc (Value.int IntKind.i64 0),.sc (Value.int IntKind.i64 0),.sc (Value.int IntKind.i64 0)]:=by kernel_rfl
theorem qTf:tel Tryz.prog 165=none:=by kernel_rfl
theorem qUE:qKH Tryz.prog 165=some (7,3):=by kernel_rfl
theorem qTL:tsz Tryz.prog 168=2:=by kernel_rfl
theorem qUd:(Tryz.prog.info? 168).isSome=true:=by kernel_rfl
theorem qUs:j7 Tryz.prog 168=some false:=by kernel_rfl
theorem qTv:tce Tryz.prog 168=[0,0]:=by kernel_rfl
theorem qSG:jX Tryz.prog 168=some [.sc (Value.int IntKind.i64 0),.sc (Value.int IntKind.i64 0)]:=by kernel_rfl
theorem qSV:kM Tryz.prog 168=some (.agg [.sc (Value.int IntKind.i64 0),.sc (Value.int IntKind.i64 0)]):=by kernel_rfl
theorem qNQ:tfo Tryz.prog 168 0=some (0,3):=by kernel_rfl
theorem qNP:tfo Tryz.prog 168 1=some (1,3):=by kernel_rfl
theorem qT9:yr Tryz.prog 168=true:=by kernel_rfl
theorem qSr:ju Tryz.prog 168=some [Value.int IntKind.i64 0,Value.int IntKind.i64 0]:=by kernel_rfl
theorem qTK:tsz Tryz.prog 189=1:=by kernel_rfl
theorem qVJ:va Tryz.prog 189=some false:=by kernel_rfl
theorem qTu:tce Tryz.prog 189=[0]:=by kernel_rfl
theorem qTJ:tsz Tryz.prog 193=2:=by kernel_rfl
theorem qUc:(Tryz.prog.info? 193).isSome=true:=by kernel_rfl
theorem qVI:va Tryz.prog 193=some true:=by kernel_rfl
theorem qTt:tce Tryz.prog 193=[0,1]:=by kernel_rfl
theorem qSF:jX Tryz.prog 193=some [.sc (Value.int IntKind.i64 0),.sc (Value.slice none 0 0)]:=by kernel_rfl
theorem qNO:tfo Tryz.prog 193 0=some (0,3):=by kernel_rfl
theorem qNN:tfo Tryz.prog 193 1=some (1,42):=by kernel_rfl
theorem qT8:yr Tryz.prog 193=true:=by kernel_rfl
theorem qSq:ju Tryz.prog 193=some [Value.int IntKind.i64 0,Value.slice none 0 0]:=by kernel_rfl
theorem qTI:tsz Tryz.prog 196=4:=by kernel_rfl
theorem qVH:va Tryz.prog 196=some true:=by kernel_rfl
theorem qTs:tce Tryz.prog 196=[0,0,0,0]:=by kernel_rfl
theorem qNM:tfo Tryz.prog 196 0=some (0,3):=by kernel_rfl
theorem qNL:tfo Tryz.prog 196 1=some (1,3):=by kernel_rfl
theorem qNK:tfo Tryz.prog 196 2=some (2,3):=by kernel_rfl
theorem qNJ:tfo Tryz.prog 196 3=some (3,3):=by kernel_rfl
theorem qTH:tsz Tryz.prog 198=1:=by kernel_rfl
theorem qUb:(Tryz.prog.info? 198).isSome=true:=by kernel_rfl
theorem qUr:j7 Tryz.prog 198=some false:=by kernel_rfl
theorem qTr:tce Tryz.prog 198=[0]:=by kernel_rfl
theorem qSE:jX Tryz.prog 198=some [.sc (Value.int IntKind.i64 0)]:=by kernel_rfl
theorem qSU:kM Tryz.prog 198=some (.agg [.sc (Value.int IntKind.i64 0)]):=by kernel_rfl
theorem qNI:tfo Tryz.prog 198 0=some (0,3):=by kernel_rfl
theorem qT7:yr Tryz.prog 198=true:=by kernel_rfl
theorem qSp:ju Tryz.prog 198=some [Value.int IntKind.i64 0]:=by kernel_rfl
theorem qTG:tsz Tryz.prog 200=1:=by kernel_rfl
theorem qUa:(Tryz.prog.info? 200).isSome=true:=by kernel_rfl
theorem qUq:j7 Tryz.prog 200=some false:=by kernel_rfl
theorem qTq:tce Tryz.prog 200=[0]:=by kernel_rfl
theorem qSD:jX Tryz.prog 200=some [.sc (Value.int IntKind.i64 0)]:=by kernel_rfl
theorem qST:kM Tryz.prog 200=some (.agg [.sc (Value.int IntKind.i64 0)]):=by kernel_rfl
theorem qNH:tfo Tryz.prog 200 0=some (0,3):=by kernel_rfl
theorem qT6:yr Tryz.prog 200=true:=by kernel_rfl
theorem qSo:ju Tryz.prog 200=some [Value.int IntKind.i64 0]:=by kernel_rfl
theorem qTF:tsz Tryz.prog 202=2:=by kernel_rfl
theorem qU9:(Tryz.prog.info? 202).isSome=true:=by kernel_rfl
theorem qUp:j7 Tryz.prog 202=some false:=by kernel_rfl
theorem qTp:tce Tryz.prog 202=[0,0]:=by kernel_rfl
theorem qSC:jX Tryz.prog 202=some [.sc (Value.int IntKind.i64 0),.sc (Value.int IntKind.i64 0)]:=by kernel_rfl
theorem qSS:kM Tryz.prog 202=some (.agg [.sc (Value.int IntKind.i64 0),.sc (Value.int IntKind.i64 0)]):=by kernel_rfl
theorem qNG:tfo Tryz.prog 202 0=some (0,3):=by kernel_rfl
theorem qNF:tfo Tryz.prog 202 1=some (1,3):=by kernel_rfl
theorem qT5:yr Tryz.prog 202=true:=by kernel_rfl
theorem qSn:ju Tryz.prog 202=some [Value.int IntKind.i64 0,Value.int IntKind.i64 0]:=by kernel_rfl
theorem qTE:tsz Tryz.prog 204=2:=by kernel_rfl
theorem qU8:(Tryz.prog.info? 204).isSome=true:=by kernel_rfl
theorem qVG:va Tryz.prog 204=some true:=by kernel_rfl
theorem qUo:j7 Tryz.prog 204=some false:=by kernel_rfl
theorem qTo:tce Tryz.prog 204=[0,0]:=by kernel_rfl
theorem qSB:jX Tryz.prog 204=some [.sc (Value.int IntKind.i64 0),.sc (Value.int IntKind.i64 0)]:=by kernel_rfl
theorem qSR:kM Tryz.prog 204=some (.agg [.sc (Value.int IntKind.i64 0),.sc (Value.int IntKind.i64 0)]):=by kernel_rfl
theorem qNE:tfo Tryz.prog 204 0=some (0,3):=by kernel_rfl
theorem qND:tfo Tryz.prog 204 1=some (1,3):=by kernel_rfl
theorem qT4:yr Tryz.prog 204=true:=by kernel_rfl
theorem qSm:ju Tryz.prog 204=some [Value.int IntKind.i64 0,Value.int IntKind.i64 0]:=by kernel_rfl
theorem qTD:tsz Tryz.prog 206=2:=by kernel_rfl
theorem qU7:(Tryz.prog.info? 206).isSome=true:=by kernel_rfl
theorem qUn:j7 Tryz.prog 206=some false:=by kernel_rfl
theorem qTn:tce Tryz.prog 206=[0,0]:=by kernel_rfl
theorem qSA:jX Tryz.prog 206=some [.sc (Value.int IntKind.i64 0),.sc (Value.int IntKind.i64 0)]:=by kernel_rfl
theorem qSQ:kM Tryz.prog 206=some (.agg [.sc (Value.int IntKind.i64 0),.sc (Value.int IntKind.i64 0)]):=by kernel_rfl
theorem qNC:tfo Tryz.prog 206 0=some (0,3):=by kernel_rfl
theorem qNB:tfo Tryz.prog 206 1=some (1,3):=by kernel_rfl
theorem qT3:yr Tryz.prog 206=true:=by kernel_rfl
theorem qSl:ju Tryz.prog 206=some [Value.int IntKind.i64 0,Value.int IntKind.i64 0]:=by kernel_rfl
theorem qTC:tsz Tryz.prog 208=1:=by kernel_rfl
theorem qU6:(Tryz.prog.info? 208).isSome=true:=by kernel_rfl
theorem qUm:j7 Tryz.prog 208=some false:=by kernel_rfl
theorem qTm:tce Tryz.prog 208=[0]:=by kernel_rfl
theorem qRz:jX Tryz.prog 208=some [.sc (Value.int IntKind.i64 0)]:=by kernel_rfl
theorem qSP:kM Tryz.prog 208=some (.agg [.sc (Value.int IntKind.i64 0)]):=by kernel_rfl
theorem qNA:tfo Tryz.prog 208 0=some (0,3):=by kernel_rfl
theorem qT2:yr Tryz.prog 208=true:=by kernel_rfl
theorem qSk:ju Tryz.prog 208=some [Value.int IntKind.i64 0]:=by kernel_rfl
theorem qTB:tsz Tryz.prog 209=1:=by kernel_rfl
theorem qU5:(Tryz.prog.info? 209).isSome=true:=by kernel_rfl
theorem qUl:j7 Tryz.prog 209=some false:=by kernel_rfl
theorem qTl:tce Tryz.prog 209=[0]:=by kernel_rfl
theorem qRy:jX Tryz.prog 209=some [.sc (Value.int IntKind.i64 0)]:=by kernel_rfl
theorem qSO:kM Tryz.prog 209=some (.agg [.sc (Value.int IntKind.i64 0)]):=by kernel_rfl
theorem qMz:tfo Tryz.prog 209 0=some (0,3):=by kernel_rfl
theorem qT1:yr Tryz.prog 209=true:=by kernel_rfl
theorem qSj:ju Tryz.prog 209=some [Value.int IntKind.i64 0]:=by kernel_rfl
theorem qTA:tsz Tryz.prog 211=0:=by kernel_rfl
theorem qU4:(Tryz.prog.info? 211).isSome=true:=by kernel_rfl
theorem qUk:j7 Tryz.prog 211=some false:=by kernel_rfl
theorem qTk:tce Tryz.prog 211=[]:=by kernel_rfl
theorem qRx:jX Tryz.prog 211=some []:=by kernel_rfl
theorem qSN:kM Tryz.prog 211=some (.agg []):=by kernel_rfl
theorem qT0:yr Tryz.prog 211=true:=by kernel_rfl
theorem qSi:ju Tryz.prog 211=some []:=by kernel_rfl
theorem qSz:tsz Tryz.prog 212=0:=by kernel_rfl
theorem qU3:(Tryz.prog.info? 212).isSome=true:=by kernel_rfl
theorem qUj:j7 Tryz.prog 212=some false:=by kernel_rfl
theorem qTj:tce Tryz.prog 212=[]:=by kernel_rfl
theorem qRw:jX Tryz.prog 212=some []:=by kernel_rfl
theorem qSM:kM Tryz.prog 212=some (.agg []):=by kernel_rfl
theorem qTZ:yr Tryz.prog 212=true:=by kernel_rfl
theorem qSh:ju Tryz.prog 212=some []:=by kernel_rfl
theorem qSy:tsz Tryz.prog 238=2:=by kernel_rfl
theorem qU2:(Tryz.prog.info? 238).isSome=true:=by kernel_rfl
theorem qVF:va Tryz.prog 238=some true:=by kernel_rfl
theorem qTi:tce Tryz.prog 238=[0,1]:=by kernel_rfl
theorem qRv:jX Tryz.prog 238=some [.sc (Value.int IntKind.i64 0),.sc (Value.slice none 0 0)]:=by kernel_rfl
theorem qMy:tfo Tryz.prog 238 0=some (0,3):=by kernel_rfl
theorem qMx:tfo Tryz.prog 238 1=some (1,80):=by kernel_rfl
theorem qTY:yr Tryz.prog 238=true:=by kernel_rfl
theorem qSg:ju Tryz.prog 238=some [Value.int IntKind.i64 0,Value.slice none 0 0]:=by kernel_rfl
theorem qTe:tel Tryz.prog 246=none:=by kernel_rfl
theorem qUD:qKH Tryz.prog 246=some (5,3):=by kernel_rfl
attribute [simp] qWF qYb qYi qY4 qY0 qY2 qYa qYh qYR qWm qWV qWI qYQ qXB qQ3 qWH qXm qYP qWl qWU qXT qWG qXl qYO qXA qV8 qQ2 qWE qXk qYN qWk qWT qXS qWD qXj qYM qWz qV7 qQ1 qQ0 qQZ qQY qWC qXi qYL qWy qWj qWS qXR qWB qXh qYK qWi qWR qXQ qWA qXg qYJ qWx qV6 qQX qQW qQV qQU qVz qYI qWw qQT qQS qW3 qVi qVy qXf qYH qWv qV5 qQR qQQ qQP qQO qW2 qVh qSx qYG qWh qXP qVx qXe qYF qWg qXO qVw qXd qYE qWu qWf qWQ qXN qVv qXc qYD qWe qWP qXM qVu qXb qYC qWd qWO qXL qVt qXa qYB qWc qWN qXK qVs qWt qQN qQM qQL qQK qQJ qQI qQH qQG qQF qQE qMw qMv qMu qW1 qVg qVr qX9 qYA qWs qV4 qQD qQC qW0 qVf qVq qX8 qXz qWr qV3 qQB qQA qWZ qVe qVp qXy qWq qWb qXE qVo qX7 qXx qWa qWM qXJ qVn qX6 qXw qW9 qWL qXI qVm qX5 qXv qW8 qXH qVl qX4 qXu qW7 qWK qXG qVk qX3 qXt qWp qV2 qPz qPy qPx qPw qPv qPu qWY qVd qW6 qXD qSw qKX qPt qKW qKV qPs qPr qPq qPp qPo qPn qMt qMs qMr qMq qVj qX2 qXs qWo qV1 qW5 qXC qW4 qWJ qXF qVQ qTh qTV qTT qVP qUB qNh qNg qNf qNe qTS qUi qVO qUA qSL qNd qNc qNb qNa qN9 qN8 qN7 qTd qSv qTR qUh qVN qSK qTW qTQ qTz qN6 qN5 qN4 qN3 qN2 qN1 qN0 qNZ qTc qSu qTP qUg qVM qTg qTU qUF qTO qUf qVL qTy qSJ qNY qNX qNW qNV qNU qNT qTb qSt qTN qUe qVK qTx qSI qNS qNR qTa qSs qTM qTw qSH qTf qUE qTL qUd qUs qTv qSG qSV qNQ qNP qT9 qSr qTK qVJ qTu qTJ qUc qVI qTt qSF qNO qNN qT8 qSq qTI qVH qTs qNM qNL qNK qNJ qTH qUb qUr qTr qSE qSU qNI qT7 qSp qTG qUa qUq qTq qSD qST qNH qT6 qSo qTF qU9 qUp qTp qSC qSS qNG qNF qT5 qSn qTE qU8 qVG qUo qTo qSB qSR qNE qND qT4 qSm qTD qU7 qUn qTn qSA qSQ qNC qNB qT3 qSl qTC qU6 qUm qTm qRz qSP qNA qT2 qSk qTB qU5 qUl qTl qRy qSO qMz qT1 qSj qTA qU4 qUk qTk qRx qSN qT0 qSi qSz qU3 qUj qTj qRw qSM qTZ qSh qSy qU2 qVF qTi qRv qMy qMx qTY qSg qTe qUD
theorem qA:Tryz.prog.follows .mixedOrders=true:=by kernel_rfl
end Go.Proofs.YtbgmnmnoaamgkaaGreatDoor
end
