import Derived.Test.YtdnebaieamppbaaGreatDoorE44
set_option linter.unusedSimpArgs false
set_option linter.unusedVariables false
set_option maxRecDepth 100000
set_option maxHeartbeats 4000000

section
namespace Go.Proofs.YtdnebaieamppbaaGreatDoor
open Go Go.Hm Go.Proofs Tryz
attribute [local simp] mF bg
theorem IB (gl) (H:Nm->Option AO) (bs:List Int) (pos:Nat) (hb:qAL bs) (hpos:pos<=500000) (hH:H (.u 1 0 0)=some (rdO bs pos)) (hV:H (.u 2 0 0)=none) (hV4:H (.u 4 0 0)=none) (hV5:H (.u 5 0 0)=none) :
  Zj prog gl 40 (Nm.under (.u 1 0 0)) [.pt (.u 1 0 0) 0] H (Et bs (pos+4000)) noE:=by
 refine Zj.Zl func40 [.cell 2 25,.tmp 3] ntmps40 (λ_=>qR rfl) λC w g root hroot=>?_;have hr0:=hroot root (Nm.Z6 _)
 all_goals have fx:=Zk
 repeat' (first|refine qK ?_|refine λ(K:St->Prop) hK=>?_)
 all_goals try clear fx
 refine fI (bs:=bs) (hs:=jM) (ha:=j2) (hF:=eU _ _ bs pos hb qA jM qB qB qB) (h:=?_);rintro z H1 ⟨p,q,rfl,⟨ho1,ho2,ho3⟩,⟨hs,hpl,hq⟩,hU⟩;refine⟨q,hU,?_⟩
 all_goals have fx:= ho1
 repeat' (first|refine qK ?_|refine λ(K:St->Prop) hK=>?_)
 all_goals try clear fx
 refine iV (hs:=qB) (ha:=j2) (hF:=vU _ _ bs q 40 hb qA qA qB) (h:=?_);rintro y py ⟨hy,rfl⟩
 all_goals have fx:= ho1
 repeat' (first|refine qK ?_|refine λ(K:St->Prop) hK=>?_)
 all_goals try clear fx
 refine wk (wu _) 9 [150,150,(y:Int),0,20,151,-1] (bs:=bs) (pos:=q+1) hb qA (hV:=hV) (h0:=qB) (h1:=qB) (hH:=qB) (hL:=zd) (h:=?_);intro v hv
 all_goals have fx:= ho1
 repeat' (first|refine qK ?_|refine λ(K:St->Prop) hK=>?_)
 all_goals try clear fx
 refine qD [(.c (.s 2) 0 0,root)] (.one rfl) qE ⟨p,v,q+1+1,qB,⟨?_,λj r hj=>?_,λj r hj=>?_⟩,hs,hpl,qA,qB⟩
 .simp [ho1,hr0,zA (n:=.c (.s 2) 0 0) (m:=root) (f:=jc (Nm.under (.u 1 0 0)) [(.c (.s 2) 0 0,root)]) (p:=p) ki]
 .simp [ho2 j r hj,hr0]
 .simp [ho3 j r hj,hr0]
theorem xZ (gl) (code:List Int) (hc:qBK code):qb prog gl 14 [bsl code] (λr z H'=>∃ (p:Z0) (b:Int),z=.tup [.agg [.hs r 4 0 p.length],iv b]/\qAb H' r p/\Sml p):=by
 have hb:=hc.bytes;refine qb.Zl func14 [.cell 2 25,.tmp 3] ntmps14 λC w g root=>?_;refine qC ?_<|Zk;intro K hK;refine LF (ha:=qB) (hF:=bh _ code hc.len) (h:=?_);rintro z H1 ⟨rfl,hR⟩;refine qC ?_<| hR;refine pI (.s 5) (.u 1 0 0) (.inl rfl) (.inr rfl) ?_;refine fI (bs:=code.take 2000) (hs:=eK) (ha:=j2) (hF:=IB _ _ (code.take 2000) 0 hb qA eK qB qB qB) (h:=?_);rintro z H2 ⟨p,b,q,rfl,⟨ho1,ho2,ho3⟩,hs,hpl,hq,hU⟩;refine⟨q,hU,?_⟩;refine qC ?_<| ho1;refine qD [(.c (.s 2) 0 0,root)] (.one rfl) qE ⟨p,b,qB,⟨?_,λj r hj=>?_,λj r hj=>?_⟩,hs⟩
 .simp [ho1,zA (n:=.c (.s 2) 0 0) (m:=root) (f:=jc noD [(.c (.s 2) 0 0,root)]) (p:=p) qB]
 .simp [ho2 j r hj]
 .simp [ho3 j r hj]
theorem nB (gl) (code:List Int) (hc:qBK code):qb prog gl 9 [bsl code] (λr z H'=>∃ (p:Z0) (b:Int),z=.tup [.agg [.hs r 4 0 p.length],iv b]/\qAb H' r p/\Sml p):=by
 have hb:=hc.bytes;refine qb.Zl func9 [.cell 2 25,.tmp 3] ntmps9 λC w g root=>?_;refine qC ?_<|Zk;intro K hK;refine LF (ha:=qB) (hF:=bh _ code hc.len) (h:=?_);rintro z H1 ⟨rfl,hR⟩;refine qC ?_<| hR;refine pI (.s 5) (.u 1 0 0) (.inl rfl) (.inr rfl) ?_;refine fI (bs:=code.take 2000) (hs:=eK) (ha:=j2) (hF:=IB _ _ (code.take 2000) 0 hb qA eK qB qB qB) (h:=?_);rintro z H2 ⟨p,b,q,rfl,⟨ho1,ho2,ho3⟩,hs,hpl,hq,hU⟩;refine⟨q,hU,?_⟩;refine qC ?_<| ho1;refine qD [(.c (.s 2) 0 0,root)] (.one rfl) qE ⟨p,b,qB,⟨?_,λj r hj=>?_,λj r hj=>?_⟩,hs⟩
 .simp [ho1,zA (n:=.c (.s 2) 0 0) (m:=root) (f:=jc noD [(.c (.s 2) 0 0,root)]) (p:=p) qB]
 .simp [ho2 j r hj]
 .simp [ho3 j r hj]
end Go.Proofs.YtdnebaieamppbaaGreatDoor
end
