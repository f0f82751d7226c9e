import Derived.Test.YtdnebaieamppbaaGreatDoorE53
import Derived.Test.YtdnebaieamppbaaGreatDoorE40
import Derived.Test.YtdnebaieamppbaaGreatDoorE49
import Derived.Test.YtdnebaieamppbaaGreatDoorE54
import Derived.Test.YtdnebaieamppbaaGreatDoorE46
import Derived.Test.YtdnebaieamppbaaGreatDoorE22
set_option linter.unusedSimpArgs false
set_option linter.unusedVariables false
set_option maxRecDepth 100000
set_option maxHeartbeats 4000000

section
namespace Go.Proofs.YtdnebaieamppbaaGreatDoor
open Go Go.Hm Go.Proofs Tryz
attribute [local simp] mF bg
theorem pS (gl:Nat->Option (List AV)) (hgl:gl 0=some dH) (code:List Int) (hcode:∀ v∈code,0<=v/\v<=255) (hbig:code.length<=1152921504606846976) :
  qb prog gl 3 [bsl code] (λ_ z _=>z=bv true):=by
 refine qb.Zl func3 [.tmp 2] ntmps3 λC w g root=>?_;by_cases hlen:1048576<code.length
 .have hl1:(1048576:Int)<code.length:=qA;refine qC ?_<| hl1;refine qD [] .nil qE qB
 have hl1:¬ (1048576:Int)<code.length:=qA;have hc:qBK code:=⟨qA,hcode⟩;have fx:= hl1;have e1:=nB gl code hc;refine qG ?_;clear fx e1;rintro K hK z H1 ⟨p,f,rfl,hO,hs⟩;obtain⟨ho1,ho2,ho3⟩:=hO.qAH;refine⟨qB,?_⟩;have hpl:=hs.len;have hio:=lK gl hgl p f hs;have hso:=io gl p f hs;have him:=fE gl p f hs;have hll:=PQ (f:=f) hs;rw [<- Un hs] at him;rw [M5,<- LO] at hio hso him;rw [<- LO] at hll;have heq:=Ba gl (trI (JK p f)) qA;generalize trI (JK p f)=L at *;refine qC ?_<| ho1;intro K hK;refine uJ (λst=>qCW st 3 p/\st.tm 4=iv f/\st.tm 14=.agg [.hs (.c (.s 3) 0 0) 4 0 p.length]/\st.tm 15=iv f) ⟨⟨qB,qB,⟨zp,λj r hj=>yu,λj r hj=>yv⟩⟩,qB,qB,qB⟩ ?_;clear hO ho1 ho2 ho3;rintro st ⟨⟨h3,hp3,⟨a1,a2,a3⟩⟩,h4,h14,h15⟩;have fx:=yS h3 hp3 h4 h14<|h15;have c1:=heq;have d1:=hio;have d2:=hso;have d3:=him;refine qG ?_;clear fx c1 d1 d2 d3;refine qD [] .nil qE qB
end Go.Proofs.YtdnebaieamppbaaGreatDoor
end
