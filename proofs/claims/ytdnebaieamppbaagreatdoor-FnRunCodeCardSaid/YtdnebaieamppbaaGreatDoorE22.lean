import Derived.Test.YtdnebaieamppbaaGreatDoorE19
set_option linter.unusedSimpArgs false
set_option linter.unusedVariables false
set_option maxRecDepth 100000
set_option maxHeartbeats 4000000

section
namespace Go.Hm
open Go Go.RowKit
section
variable {p:Z0} {f:Int}
theorem Un (hs:Sml p):JK p f=Re p f:=by
 grind[JK,Re,jl,qBW.tr,Fa,Zm.of]
theorem Rj (hs:Sml p):C9 p f=Ay p f:=by
 grind[C9,Ay,jl,Fa,Zm.of,Oo,On,qBW.en,qBW.out,qBW.left,qBW.Zg]
theorem Ss (hs:Sml p):(C9 p f).gl.length=if jT p f=true then 8 else 0:=by
 grind[C9,jl,Oo,yd,og,Zm.of]
end
end Go.Hm
end
