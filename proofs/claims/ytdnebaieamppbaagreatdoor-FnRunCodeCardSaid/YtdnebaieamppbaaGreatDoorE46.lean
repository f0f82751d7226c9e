import Derived.Test.YtdnebaieamppbaaGreatDoorE35
set_option linter.unusedSimpArgs false
set_option linter.unusedVariables false
set_option maxRecDepth 100000
set_option maxHeartbeats 4000000

section
namespace Go.Proofs.YtdnebaieamppbaaGreatDoor
open Go Go.Hm Go.Proofs Tryz
abbrev TK:Zh:=wo<|.done
attribute [local simp] mF bg
theorem ie (gl) (r:Rsl) (h1:r.out.length<=1048576) (h2:r.gl.length<=1048576):qb prog gl 16 [.agg [isl r.out,iv r.en,iv r.left,isl r.gl],.agg [isl r.out,iv r.en,iv r.left,isl r.gl]] (λ_ z _=>z=bv true):=by
 have q1:=fu gl r.out r.out h1 h1;have q2:=fu gl r.gl r.gl h2 h2;simp only [decide_true] at q1 q2;refine qb.Zl func16 [.tmp 4] ntmps16 λC w g root=>?_;have fx:= @qL;have c1:=q1;have c2:=q2;refine qG ?_;clear fx c1 c2;refine qD [] .nil qE qB
theorem Ba (gl) (l:List (Int×Int)) (hl:l.length<=1048576):qb prog gl 11 [osl l,osl l] (λ_ z _=>z=bv true):=by
 refine qb.Zl func11 [.tmp 4] ntmps11 λC w g root=>?_;have fx:= @qL;refine qG ?_
 repeat ((first|refine Ze (id:=6) TK mixed ?_);refine qZ ?_;refine qG ?_)
 clear fx;refine qX (λn st=>∃ i:Nat,n=l.length - i/\i<=l.length/\st.tm 0=osl l/\st.tm 1=osl l/\st.tm 5=iv i) l.length ⟨0,qB⟩ ?_;rintro n st - - ⟨i,rfl,hi,h0,h1,h5⟩;by_cases hil:i<l.length
 .obtain⟨o,ho⟩:=gX hil;obtain⟨_,hoE⟩:=gS ho;have fx:=u4 h0 h1 h5 hil ho hoE<|@qL;refine qG ?_
  repeat ((first|refine Ze (id:=6) TK mixed ?_);refine qZ ?_;refine qG ?_)
  clear fx;exact⟨l.length - (i+1),qA,i+1,rfl,qA,zR,qy,zD⟩
 .skip
  have fx:=yE h0 h1 h5<|hil;refine qG ?_
  repeat ((first|refine Ze (id:=6) TK mixed ?_);refine qZ ?_;refine qG ?_)
  clear fx;refine qD [] .nil qE qB
end Go.Proofs.YtdnebaieamppbaaGreatDoor
end
