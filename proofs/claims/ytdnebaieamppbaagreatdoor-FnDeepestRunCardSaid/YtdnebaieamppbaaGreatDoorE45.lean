import Derived.Test.YtdnebaieamppbaaGreatDoorE13
import Derived.Test.YtdnebaieamppbaaGreatDoorProg
import Derived.Test.YtdnebaieamppbaaGreatDoorChecked
set_option linter.unusedSimpArgs false
set_option linter.unusedVariables false
set_option maxRecDepth 100000
set_option maxHeartbeats 4000000

section
namespace Go.Proofs.YtdnebaieamppbaaGreatDoor
open Go Go.Hm Go.Proofs Tryz
theorem TW:laidOutB prog=true:=qI
theorem TU:mapsRowed prog=true:=qI
theorem QB:(prog.stops==[])=true:=qI
theorem QD:(prog.stopKnobs==[])=true:=qI
theorem TX:prog.plainKeys=true:=qI
theorem QE:prog.stopsHeard=true:=qI
theorem Vn:prog.mayEnter=true:=qI
theorem QC:prog.liftsFinal=false:=qI
theorem TV:(prog.make==some .cut)=true:=qI
theorem mM:qC2 prog:=⟨TW,TU,QB,QD,TX,QE,Vn,QC,TV⟩
end Go.Proofs.YtdnebaieamppbaaGreatDoor
end
