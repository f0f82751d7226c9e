import Derived.Test.YtdnebaieamppbaaGreatDoorE34
set_option linter.unusedSimpArgs false
set_option linter.unusedVariables false
set_option maxRecDepth 100000
set_option maxHeartbeats 4000000

section
namespace Go.Proofs.YtdnebaieamppbaaGreatDoor
open Go Go.Hm Go.Proofs Tryz
theorem fE (gl) (p:Z0) (f:Int) (hs:Sml p):qb prog gl 13 [pav p,iv f] (λr y H'=>y=.hs r 2 0 (Re p f).length/\H' r=some (.row 2 (yw (Re p f)))):=by
 refine qb.Zl func13 [.tmp 4] ntmps13 λC w g root=>?_
 cases hv0:jF p
 .have hv:jT p f=false:=lZ;have fx:= hv0;have c1:=hv0 ▸ qM gl p hs;refine qG ?_;clear fx c1;refine qD [(.s 4,root)] (.one rfl) qE (by simp [Re,hv])
 cases hv:jT p f
 .have hf:(decide (0<=f)&&decide (f<=150))=false:=bz;have fx:=aI hv0<|hf;have c1:=hv0 ▸ qM gl p hs;have c2:=hf ▸ yl gl f;refine qG ?_;clear fx c1 c2;refine qD [(.s 4,root)] (.one rfl) qE (by simp [Re,hv])
 .obtain⟨hpo,n,rfl,hn⟩:=jl hv;have hP:=Zm.of hs hpo;have hf:(decide (0<=(n:Int))&&decide ((n:Int)<=150))=true:=bz;have hm:=lD hP.sh hn;have hol:=hm.tr;have hol':(yI p n).trace.length<=1000:=qA;have hG:Re p n=(yI p n).trace:=by simp [Re,hv]
  rw [hG];have fx:=aI hv0<|hf;have c1:=hv0 ▸ qM gl p hs;have c2:=hf ▸ yl gl n;refine qG ?_;clear fx c1 c2;intro K hK;have fx:=Zk;refine yP (.c Mn 0 5) (.s 15) (.inl rfl) (.inl rfl) ?_;refine eZ (λk i j he=>cO) (hF:=bj gl _ p n hP hn cN) (h:=?_);rintro y H1 ⟨rfl,hO1⟩;clear fx;have hT1:=hO1.top;have hU1:=hO1.trc;simp only [uU] at hT1;refine qC ?_<|jI hT1 hU1<|hol';refine qD [(.s 4,root)] (.one rfl) qE ⟨qB,by simp [hU1]⟩
end Go.Proofs.YtdnebaieamppbaaGreatDoor
end
