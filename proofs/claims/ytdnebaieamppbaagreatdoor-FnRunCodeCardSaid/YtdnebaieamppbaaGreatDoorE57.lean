import Derived.Test.YtdnebaieamppbaaGreatDoorE53
import Derived.Test.YtdnebaieamppbaaGreatDoorE40
import Derived.Test.YtdnebaieamppbaaGreatDoorE49
import Derived.Test.YtdnebaieamppbaaGreatDoorE50
import Derived.Test.YtdnebaieamppbaaGreatDoorE46
import Derived.Test.YtdnebaieamppbaaGreatDoorE22
set_option linter.unusedSimpArgs false
set_option linter.unusedVariables false
set_option maxRecDepth 100000
set_option maxHeartbeats 4000000

section
namespace Go.Proofs.YtdnebaieamppbaaGreatDoor
open Go Go.Hm Go.Proofs Tryz
abbrev VK:Zh:=.q 0<|.q 1<|.q 2<|.l 3 [0]<|.l 4 []<|.q 5<|.q 6<|.q 7<|.q 8<|.q 9<|.q 10<|.q 11<|.done
abbrev VJ:Zh:=.q 0<|.q 1<|.q 2<|.l 3 [0]<|.l 4 []<|.l 5 []<|.done
abbrev VI:Zh:=.q 0<|.q 1<|.q 3<|.l 2 [3]<|.l 4 []<|.l 5 []<|.done
theorem v8 {A G G2:Prop} (k:G2) (x:A) (h:A->Zx G2->G:=by
 intro fx kk;refine qG ?_
 repeat ((first|refine Ze (id:=5) VK mixed ?_|refine Ze (id:=6) VJ mixed ?_|refine Ze (id:=7) VI mixed ?_);refine qZ ?_;refine qG ?_)
 exact kk.h):G:=h x ⟨k⟩
theorem Er (gl:Nat->Option (List AV)) (hgl:gl 0=some dH) (code:List Int) (hcode:∀ v∈code,0<=v/\v<=255) (hbig:code.length<=1152921504606846976) :
  qb prog gl 4 [bsl code] (λ_ z _=>z=bv true):=by
 refine qb.Zl func4 [.tmp 2] ntmps4 λC w g root=>?_;by_cases hlen:1048576<code.length
 .have hl1:(1048576:Int)<code.length:=qA;refine v8 ?_<| hl1;refine qD [] .nil qE qB
 have hl1:¬ (1048576:Int)<code.length:=qA;have hc:qBK code:=⟨qA,hcode⟩;have fx:= hl1;have e1:=xZ gl code hc;refine v8 ?_<|fx;clear fx e1;rintro K hK z H1 ⟨p,f,rfl,hO,hs⟩;obtain⟨ho1,ho2,ho3⟩:=hO.qAH;refine⟨qB,?_⟩;have hpl:=hs.len;have hia:=fq gl hgl p f hs;have hsa:=rH gl p f hs;have hib:=kf gl p f hs;rw [<- Rj hs] at hib;obtain⟨hl1,hl2⟩:=Pj (f:=f) hs;have hg0:=Ss (f:=f) hs;generalize C9 p f=R at *;have heq:=ie gl R qA qA;have fx:= ho1;have e1:=hia;refine v8 ?_<|fx;clear fx e1;rintro K hK y H2 ⟨rfl,hR⟩;obtain⟨r1,r2⟩:=hR.qAH;refine⟨qB,?_⟩;refine v8 ?_<|jI ho1 r1<|r2;intro K hK
 refine uJ (λst=>qCW st 3 p/\st.tm 4=iv f/\st.tm 5=.pt (.s 5) 0/\st.hp (.s 5)=some (.row 4 [R.own (.s 16)])/\qBf st.hp (.s 16) R/\st.tm 17=.agg (R.own (.s 16))/\st.tm 18=.agg [.hs (.c (.s 3) 0 0) 4 0 p.length]/\st.tm 19=iv f)
  ⟨⟨qB,qB,⟨zp,λj r hj=>yu,λj r hj=>yv⟩⟩,qB,qB,qB,⟨eN,eI⟩,qB,qB,qB⟩ ?_
 clear hO ho1 ho2 ho3 hR r1 r2;rintro st ⟨⟨h3,hp3,⟨a1,a2,a3⟩⟩,h4,h5,hp5,⟨r1,r2⟩,h17,h18,h19⟩;rw [Rsl.qB1] at hp5 h17;have fx:=kO h3 hp3 h4 h5 hp5 h17 h18<|h19;have e1:=hsa;refine v8 ?_<|fx;clear fx e1;rintro y H3 ⟨rfl,hR⟩;obtain⟨s1,s2⟩:=hR.qAH;refine⟨qB,?_⟩;refine v8 ?_<|kO h3 hp3 h4 h5 hp5 h17 h18<|h19;have fx:=aI h17 h17;refine zl (hB:=.cons (ik (n:=.s 16) (r:=R) ⟨eN,eI⟩) (.cons (ik (n:=.s 20) (r:=R) ⟨by simp [s1],by simp [s2]⟩) .nil)) (hF:=heq) (h:=?_);clear fx;by_cases hv:jT p f=true
 case neg =>
  have hg1:((R.gl.length:Int)==0)=true:=by rw [hg0,if_neg hv];rfl
  have fx:=bA h3 hp3 h4 h5 hp5 h17 h18 h19<|hg1;have e1:=hsa;refine v8 ?_<|fx;clear fx e1;rintro K hK y H4 ⟨rfl,hRR⟩;obtain⟨t1,t2⟩:=hRR.qAH;refine⟨qB,?_⟩;refine v8 ?_<|yS h3 hp3 h4 h5<|hp5;have fx:=aI hp5 h5;refine zl (hB:=.cons (ik (n:=.s 16) (r:=R) ⟨eN,eI⟩) (.cons (ik (n:=.s 32) (r:=R) ⟨gH,yt⟩) .nil)) (hF:=heq) (h:=?_);clear fx;refine v8 ?_<|yS h3 hp3 h4 h5<|hp5;refine qD [] .nil qE qB
 have hg1:((R.gl.length:Int)==0)=false:=by rw [hg0,if_pos hv];rfl
 have fx:=bA h3 hp3 h4 h5 hp5 h17 h18 h19<|hg1;have e1:=hib;refine v8 ?_<|fx;clear fx e1;rintro K hK y H4 ⟨rfl,hRR⟩;obtain⟨t1,t2⟩:=hRR.qAH;refine⟨qB,?_⟩;refine v8 ?_<|yS h3 hp3 h4 h5<|hp5;have fx:=aI hp5 h5;refine zl (hB:=.cons (ik (n:=.s 36) (r:=R) ⟨gH,yt⟩) (.cons (ik (n:=.s 16) (r:=R) ⟨eN,eI⟩) .nil)) (hF:=heq) (h:=?_);clear fx;refine v8 ?_<|yS h3 hp3 h4 h5<|hp5;refine qD [] .nil qE qB
end Go.Proofs.YtdnebaieamppbaaGreatDoor
end
