import Derived.Test.YtdnebaieamppbaaGreatDoorE40
import Derived.Test.YtdnebaieamppbaaGreatDoorE63
import Derived.Test.YtdnebaieamppbaaGreatDoorE49
import Derived.Test.YtdnebaieamppbaaGreatDoorE23
set_option linter.unusedSimpArgs false
set_option linter.unusedVariables false
set_option maxRecDepth 100000
set_option maxHeartbeats 4000000

section
namespace Go.Proofs.YtdnebaieamppbaaGreatDoor
open Go Go.Hm Go.Proofs Tryz
attribute [local simp] mF bg
theorem o6 (gl) (code:List Int) (hc:qBK code):qb prog gl 31 [bsl code] (λr z H'=>∃ (p:Z0) (b:Int),z=.tup [.agg [.hs r 4 0 p.length],iv b]/\qAb H' r p/\Sml p):=by
 have hb:=hc.bytes;refine qb.Zl func31 [.cell 2 25,.tmp 3] ntmps31 λC w g root=>?_;refine qC ?_<|Zk;intro K hK;refine LF (ha:=qB) (hF:=bh _ code hc.len) (h:=?_);rintro z H1 ⟨rfl,hR⟩;refine qC ?_<| hR;intro K hK;refine pI (.s 4) (.u 1 0 0) (.inl rfl) (.inr rfl) ?_;refine fI (bs:=code.take 2000) (hs:=eK) (ha:=j2) (hF:=eU _ _ (code.take 2000) 0 hb qA eK qB qB qB) (h:=?_);rintro z H2 ⟨p,q,rfl,⟨ho1,ho2,ho3⟩,⟨hs,hpl,hq⟩,hU⟩;refine⟨q,hU,?_⟩;refine qC ?_<| ho1;refine iV (hs:=qB) (ha:=j2) (hF:=vU _ _ (code.take 2000) q 30 hb qA qA qB) (h:=?_);rintro y py ⟨hy,rfl⟩;refine qC ?_<| ho1;refine wk (wu _) 12 [10,20,(y:Int),0,151,-1] (bs:=code.take 2000) (pos:=q+1) hb qA (hV:=qB) (h0:=qB) (h1:=qB) (hH:=qB) (hL:=zd) (h:=?_);intro v hv;refine qC ?_<| ho1;refine qD [(.c (.s 2) 0 0,root)] (.one rfl) qE ⟨p,v,qB,⟨?_,λj r hj=>?_,λj r hj=>?_⟩,hs⟩
 .simp [ho1,zA (n:=.c (.s 2) 0 0) (m:=root) (f:=jc noD [(.c (.s 2) 0 0,root)]) (p:=p) qB]
 .simp [ho2 j r hj]
 .simp [ho3 j r hj]
end Go.Proofs.YtdnebaieamppbaaGreatDoor
end
section
namespace Go.Proofs.YtdnebaieamppbaaGreatDoor
open Go Go.Hm Go.Proofs Tryz
theorem xK (gl:Nat->Option (List AV)) (hgl:gl 0=some dH) (code:List Int) (hcode:∀ v∈code,0<=v/\v<=255) (hbig:code.length<=1152921504606846976) :
  qb prog gl 7 [bsl code] (λ_ z _=>z=bv true):=by
 refine qb.Zl func7 [.tmp 2] ntmps7 λC w g root=>?_;by_cases hlen:1048576<code.length
 .have hl1:(1048576:Int)<code.length:=qA;refine qC ?_<| hl1;refine qD [] .nil qE qB
 have hl1:¬ (1048576:Int)<code.length:=qA;have hc:qBK code:=⟨qA,hcode⟩;have fx:= hl1;have e1:=o6 gl code hc;refine qG ?_;clear fx e1;rintro K hK z H1 ⟨p,f,rfl,hO,hs⟩;obtain⟨ho1,ho2,ho3⟩:=hO.qAH;refine⟨qB,?_⟩;have hpl:=hs.len;refine qC ?_<| ho1;intro K hK;refine uJ (λst=>qCW st 3 p/\st.tm 4=iv f/\st.tm 16=.agg [.hs (.c (.s 3) 0 0) 4 0 p.length]/\st.tm 17=iv f) ⟨⟨qB,qB,⟨zp,λj r hj=>yu,λj r hj=>yv⟩⟩,qB,qB,qB⟩ ?_;clear hO ho1 ho2 ho3;rintro st ⟨⟨h3,hp3,⟨a1,a2,a3⟩⟩,h4,h16,h17⟩;have hia:=bo gl p f hs;have hsa:=mE gl p f hs;have hif:=mh gl hgl p f hs;have hiv:=fD gl p f hs;have hib:=bo gl p (f - 1) hs
 cases hv:jT p f
 .have e1:Bc p f=-1:=l6;rw [e1] at hia hsa;have fx:=uD h3 hp3 h4 h16 h17<|@qL;have c1:=hia;have c2:=hsa;refine qG ?_;clear fx c1 c2;refine qD [] .nil qE qB
 obtain⟨d,e,m,e1,e2,g1,g2,g3,g4,g5,g6⟩:=N6 hs hv;rw [e1] at hia hsa;rw [e2] at hif;have g0:¬ (d:Int)<0:=qA;have g1':(d:Int)<=m:=qA;have g2':((ea p f).length:Int)<=d:=qA;have hw:IntKind.i64.wrap (f - 1)=f - 1:=Zv qA qA;generalize ea p f=R at hiv g2 g2';have fx:=u4 h3 hp3 h4 h16 h17 @qL<|g0;have c1:=hia;have c2:=hsa;have c3:=hif;have e1:=hiv;refine qG ?_;clear fx c1 c2 c3 e1;rintro K hK y H3 ⟨rfl,hR3⟩;refine⟨qB,?_⟩;clear hR3;rcases g6 with rfl|⟨c,e3,g7⟩
 .skip
  refine qC ?_<|uD h3 hp3 h4 @qL g1'<|g2';refine qD [] .nil qE qB
 .by_cases hf0:f=0
  .subst hf0;refine qC ?_<|uD h3 hp3 h4 @qL g1'<|g2';refine qD [] .nil qE qB
  have hf0':(f==0)=false:=by rw [beq_eq_false_iff_ne];exact hf0
  rw [e3] at hib;have g7':(c:Int)<=d:=qA;have fx:=bA h3 hp3 h4 @qL g1' g2' hf0' hw<|g7';have c1:=hib;refine qG ?_;clear fx c1;refine qD [] .nil qE qB
end Go.Proofs.YtdnebaieamppbaaGreatDoor
end
