import Derived.Test.YtdnebaieamppbaaGreatDoorE42
set_option linter.unusedSimpArgs false
set_option linter.unusedVariables false
set_option maxRecDepth 100000
set_option maxHeartbeats 4000000

section
set_option maxHeartbeats 20000000
namespace Go.Proofs.YtdnebaieamppbaaGreatDoor
open Go Go.Hm Go.Proofs
abbrev Ve:Zh:=aS<|.l 8 []<|.q 9<|.q 10<|.q 11<|.q 12<|.q 13<|.q 14<|.q 15<|.q 16<|.q 17<|.q 18<|.l 19 [11]<|.q 20<|.q 21<|.q 22<|.q 23<|.q 24<|.q 25<|.q 26<|.q 27<|.q 28<|.q 29<|.q 30<|.q 31<|.q 32<|.q 33<|.q 34<|.l 35 [27,11]<|.q 36<|.q 37<|.q 38<|.q 40<|.q 41<|.l 39 [41,40,27,11]<|.l 42 [27,11]<|.q 43<|.q 44<|.q 45<|.l 46 []<|.done
theorem yM {A G G2:Prop} (k:G2) (x:A) (h:A->Zx G2->G:=by
 intro fx kk;refine qG ?_
 repeat ((first|refine Ze (id:=10) Ve mixed ?_);refine qZ ?_;refine qG ?_)
 exact kk.h):G:=h x ⟨k⟩
theorem xR (gl) (H:Nm->Option AO) (bs:List Int) (pos:Nat) (hb:qAL bs) (hpos:pos<=700000) (hH:H (.u 1 0 0)=some (rdO bs pos)) (hV:H (.u 2 0 0)=none) (hV4:H (.u 4 0 0)=none) (hV5:H (.u 5 0 0)=none) :
  Zj Tryz.prog gl 117 (Nm.under (.u 1 0 0)) [.pt (.u 1 0 0) 0] H (HZ bs (λp pos'=>qB3 p/\pos'<=pos+1000)) noE:=by
 refine Zj.Zl Tryz.func117 [.cell 2 25] Tryz.ntmps117 (λ_=>qR rfl) λC w g root hroot=>?_;have hr0:=hroot root (Nm.Z6 _)
 all_goals have fx:=Zk
 repeat' (first
  | refine vH ?_|refine jd ?_|refine yH ?_|refine kL λK hK=>?_
  | ((with_reducible refine vA hK ?_);clear hK K)
  | (with_reducible first|refine qV ?_|refine jS ?_|refine jQ ?_|refine vW ?_|refine j6 ?_|refine kH ?_|refine kz ?_|refine jx qO ?_)
  | refine kR ?_
  | refine aM ?_
  | (with_reducible refine jL ?_)
  | ((with_reducible refine NO ?_);refine bC (h:=?_))
  | (with_reducible first|refine sW ?_|refine BX ?_|refine Oy (h:=?_)|refine PC (h:=?_)|refine x_u (h:=?_)|refine zL (h:=?_)|refine u5 (h:=?_)|refine jA (h:=?_)|refine jW (T:=134) (h:=?_)|refine jw (T:=134) (h:=?_)|refine bB (h:=?_)|refine yV (h:=?_))
  | (with_reducible refine x_q (h:=?_))
  | (with_reducible refine dX (λht=>?_) (λht=>?_))
  | refine jr (h1:=?_)|refine yF (h1:=?_)
  | (refine Ze (id:=10) Ve mixed λK hK=>?_)
  | ((with_reducible refine u7 hK ?_);clear hK K)
  | ((with_reducible refine dZ ?_);first|refine nC (h:=?_)|refine pC (h:=?_)|refine pD (h:=?_)|refine pB (h:=?_))
  | ((with_reducible refine dZ ?_);refine pE (h1:=λht=>?_) (h2:=λht=>?_))
  | refine a_l rfl ?_|refine Kq ?_ ?_|refine Kp ?_ ?_ ?_|(with_reducible refine aI ?_ ?_)|exact vL|refine wj (h2:=?_)
  | fail)
 all_goals try clear fx
 refine fI (bs:=bs) (hs:=jM) (ha:=j2) (hF:=ec _ _ bs pos hb hpos jM qB qB qB) (h:=?_);rintro z H1 ⟨p0,q,rfl,⟨ho1,ho2,ho3⟩,⟨hg0,hq⟩,hU⟩;refine⟨q,hU,?_⟩;refine yM ?_<| ho1
 refine qX (λn st=>∃ (p:Z0) (b:Nat),n=p.length - b/\1<=b/\b<=p.length/\qB3 p/\st.hp (.u 1 0 0)=some (rdO bs q)/\st.tm 2=.pt (.s 2) 0/\st.hp (.s 2)=some (.row 1 [[.hs (.c (.s 2) 0 0) 4 0 0]])/\st.hp (.c (.s 2) 0 0)=some (.row 4 []) /\
  st.tm 3=.pt (.s 3) 0/\st.hp (.s 3)=some (.row 1 [[.hs (.c (.s 3) 0 0) 4 0 p.length]])/\st.tm 4=iv b/\qAb st.hp (.c (.s 3) 0 0) p) (p0.length - 1) ?_ ?_
 .have:=hg0.len;refine⟨p0,1,rfl,qf _,qA,hg0,qB,qB,qB,qB,qB,qB,qB,⟨zp,λj r hj=>yu,λj r hj=>yv⟩⟩
 clear ho1 ho2 ho3 hU;rintro n st - - ⟨p,b,rfl,hb1,Zs,hg,hU,h2,hp2,hp2',h3,hp3,h4,⟨ho1,ho2,ho3⟩⟩;have hs:=hg.sml;have hgl:=hg.len
 have hbr:(b<p.length/\jF p=false)\/¬ (b<p.length/\jF p=false):=by
  by_cases h:b<p.length/\jF p=false
  .exact .inl h
  .exact .inr h
 rcases hbr with⟨hbp,hpo⟩|hstop
 .obtain⟨k,hk⟩:=gX hbp;obtain⟨_,hkE⟩:=gS hk;have hkp:=hg.params k (gM hk);have hkb:=hg.body k (gM hk);have hdcl:=k.qBb 10;have fx:=yS h3 hp3 h4 hbp<|hpo;have c1:=qr gl p hs;refine yM ?_<|fx;clear fx c1;refine qX (λn st=>∃ (j:Nat) (L:List Z9),n=k.body.length - j/\j<=k.body.length/\L.length<=j/\(∀ s∈L,qAv s)/\st.hp (.u 1 0 0)=some (rdO bs q)/\st.tm 2=.pt (.s 2) 0/\st.hp (.s 2)=some (.row 1 [[.hs (.c (.s 2) 0 0) 4 0 0]])/\st.hp (.c (.s 2) 0 0)=some (.row 4 []) /\
  st.tm 3=.pt (.s 3) 0/\st.hp (.s 3)=some (.row 1 [[.hs (.c (.s 3) 0 0) 4 0 p.length]])/\st.tm 4=iv b/\qAb st.hp (.c (.s 3) 0 0) p/\st.tm 6=iv j/\st.tm 5=.hs (.s 5) 4 0 L.length/\st.hp (.s 5)=some (.row 4 (jg L))) k.body.length ?_ ?_
  .exact⟨0,[],qA,qA,qB,qB,zb,ql,zF,ul,qt,jv,jp,⟨zp,λj r hj=>yu,λj r hj=>yv⟩,qB,qB,qB⟩
  clear hU h2 hp2 hp2' h3 hp3 h4 ho1 ho2 ho3;rintro n st - - ⟨j,L,rfl,hj,hL,hLT,hU,h2,hp2,hp2',h3,hp3,h4,⟨ho1,ho2,ho3⟩,h6,h5,hp5⟩;have hob:=ho3 b k hk;have hpa:=ho2 b k hk;refine yM ?_<|kO h3 hp3 h4 h6 ho1 hk hkE<|hbp;refine w9 zU (λht=>?_) (λhf=>?_)
  .have hjl:j<k.body.length:=zJ;obtain⟨s,hsi⟩:=gX hjl;obtain⟨_,hsE⟩:=gS hsi;clear ht
   cases h10:(s.kind==10)
   .cases h9:(s.kind==9)
    .skip
     have fx:=qU h3 hp3 h4 h6 ho1 hk hkE hbp hob hpa hsi hsE<|yS hjl h10 h9 h5<|hp5;have c1:=ae gl p b k s.to hk hs hg.Zc;have c2:=vM gl k.params s.to qA;have c3:=vM gl (k.dc 10) s.to qA;have d1:=jt gl p b k 10 hk (hs.bsm hk);refine yM ?_<|fx;clear fx c1 c2 c3 d1;refine⟨k.body.length - (j+1),qA,j+1,L++[s],rfl,qA,qc,rD hLT (hg.txt.qCk k (gM hk) s (gM hsi)),zb,ql,zF,ul,qt,jv,jp,⟨zp,λj r hj=>yu,λj r hj=>yv⟩,zD,qB,?_⟩;rw [<- aq];simp [hp5]
    .by_cases hin:s.to∈k.params
     .skip
      have fx:=qU h3 hp3 h4 h6 ho1 hk hkE hbp hob hpa hsi hsE<|yE hjl h10 h9<|hin;have c1:=ae gl p b k s.to hk hs hg.Zc;have c2:=vM gl k.params s.to qA;have c3:=vM gl (k.dc 10) s.to qA;have d1:=jt gl p b k 10 hk (hs.bsm hk);refine yM ?_<|fx;clear fx c1 c2 c3 d1;exact⟨k.body.length - (j+1),qA,j+1,L,rfl,qA,qA,hLT,zb,ql,zF,ul,qt,jv,jp,⟨zp,λj r hj=>yu,λj r hj=>yv⟩,zD,z7,kh⟩
     .by_cases hdc:s.to∈k.dc 10
      .skip
       have fx:=qU h3 hp3 h4 h6 ho1 hk hkE hbp hob hpa hsi hsE<|yS hjl h10 h9 hin<|hdc;have c1:=ae gl p b k s.to hk hs hg.Zc;have c2:=vM gl k.params s.to qA;have c3:=vM gl (k.dc 10) s.to qA;have d1:=jt gl p b k 10 hk (hs.bsm hk);refine yM ?_<|fx;clear fx c1 c2 c3 d1;exact⟨k.body.length - (j+1),qA,j+1,L,rfl,qA,qA,hLT,zb,ql,zF,ul,qt,jv,jp,⟨zp,λj r hj=>yu,λj r hj=>yv⟩,zD,z7,kh⟩
      .skip
       have fx:=qU h3 hp3 h4 h6 ho1 hk hkE hbp hob hpa hsi hsE<|u4 hjl h10 h9 hin hdc h5<|hp5;have c1:=ae gl p b k s.to hk hs hg.Zc;have c2:=vM gl k.params s.to qA;have c3:=vM gl (k.dc 10) s.to qA;have d1:=jt gl p b k 10 hk (hs.bsm hk);refine yM ?_<|fx;clear fx c1 c2 c3 d1;refine⟨k.body.length - (j+1),qA,j+1,L++[s],rfl,qA,qc,rD hLT (hg.txt.qCk k (gM hk) s (gM hsi)),zb,ql,zF,ul,qt,jv,jp,⟨zp,λj r hj=>yu,λj r hj=>yv⟩,zD,qB,?_⟩;rw [<- aq];simp [hp5]
   .have h9:(s.kind==9)=false:=by
     have:s.kind=10:=by simpa using h10
     simp [this]
    by_cases hou:outer p b s.to<0
    .skip
     have fx:=qU h3 hp3 h4 h6 ho1 hk hkE hbp hob hpa hsi hsE<|yE hjl h10 h9<|hou;have c1:=ae gl p b k s.to hk hs hg.Zc;have c2:=vM gl k.params s.to qA;have c3:=vM gl (k.dc 10) s.to qA;have d1:=jt gl p b k 10 hk (hs.bsm hk);refine yM ?_<|fx;clear fx c1 c2 c3 d1;exact⟨k.body.length - (j+1),qA,j+1,L,rfl,qA,qA,hLT,zb,ql,zF,ul,qt,jv,jp,⟨zp,λj r hj=>yu,λj r hj=>yv⟩,zD,z7,kh⟩
    .by_cases hin:s.to∈k.params
     .skip
      have fx:=qU h3 hp3 h4 h6 ho1 hk hkE hbp hob hpa hsi hsE<|yS hjl h10 h9 hou<|hin;have c1:=ae gl p b k s.to hk hs hg.Zc;have c2:=vM gl k.params s.to qA;have c3:=vM gl (k.dc 10) s.to qA;have d1:=jt gl p b k 10 hk (hs.bsm hk);refine yM ?_<|fx;clear fx c1 c2 c3 d1;exact⟨k.body.length - (j+1),qA,j+1,L,rfl,qA,qA,hLT,zb,ql,zF,ul,qt,jv,jp,⟨zp,λj r hj=>yu,λj r hj=>yv⟩,zD,z7,kh⟩
     .skip
      have fx:=qU h3 hp3 h4 h6 ho1 hk hkE hbp hob hpa hsi hsE<|u4 hjl h10 h9 hou hin h5<|hp5;have c1:=ae gl p b k s.to hk hs hg.Zc;have c2:=vM gl k.params s.to qA;have c3:=vM gl (k.dc 10) s.to qA;have d1:=jt gl p b k 10 hk (hs.bsm hk);refine yM ?_<|fx;clear fx c1 c2 c3 d1;refine⟨k.body.length - (j+1),qA,j+1,L++[s],rfl,qA,qc,rD hLT (hg.txt.qCk k (gM hk) s (gM hsi)),zb,ql,zF,ul,qt,jv,jp,⟨zp,λj r hj=>yu,λj r hj=>yv⟩,zD,qB,?_⟩;rw [<- aq];simp [hp5]
  .have hge:j=k.body.length:=by
    have:¬ j<k.body.length:=ze;omega
   subst hge;clear hf;have wF:=fZ (n:=.c (.s 3) 0 0) (a:=5) (i:=b) (len:=L.length) (p:=p) (L:=L) rfl qB qB;have hsl:(setBody p b L).length=p.length:=uv;refine yM ?_<|aJ h3 hp3 h4 h5 hp5 ho1 hk hkE hbp<|wF;refine⟨p.length - (b+1),qA,setBody p b L,b+1,by rw [hsl],qA,by rw [hsl];omega,hg.setBody qA hLT,zb,ql,zF,ul,qt,jv,zD,⟨by simp [wF],λd r hd=>?_,λd r hd=>?_⟩⟩
   all_goals
    have hl:d<p.length:=by
     have:=(gS hd).1
     rwa [uv] at this
    obtain⟨r0,hr0'⟩:∃ r0,p[d]?=some r0:=⟨_,gE hl⟩;rw [wO hr0'] at hd;obtain rfl:=sI hd;by_cases hbd:b=d
   .subst hbd;simp [ho2 b r0 hr0']
   .simp [ho2 d r0 hr0',hbd,show ¬ d=b from λe=>hbd e.symm]
   .subst hbd;simp [hp5]
   .simp [ho3 d r0 hr0',hbd,show ¬ d=b from λe=>hbd e.symm]
 .by_cases hbp:b<p.length
  .have hpo:jF p=true:=by
    cases h:jF p
    .exact absurd ⟨hbp,h⟩ hstop
    .rfl
   have fx:=kO h2 hp2 hp2' h3 hp3 h4 hbp<|hpo;have c1:=qr gl p hs;refine yM ?_<|fx;clear fx c1;refine qD [(.c (.s 3) 0 0,root)] (.one rfl) wJ ⟨p,q,qB,⟨?_,λj r hj=>?_,λj r hj=>?_⟩,⟨hg,qA⟩,zb⟩
   .simp [ho1,hr0,zA (n:=.c (.s 3) 0 0) (m:=root) (f:=jc (Nm.under (.u 1 0 0)) [(.c (.s 3) 0 0,root)]) (p:=p) ki]
   .simp [ho2 j r hj,hr0]
   .simp [ho3 j r hj,hr0]
  .cases hpo:jF p
   .skip
    have fx:=kO h2 hp2 hp2' h3 hp3 h4 hbp<|hpo;have c1:=qr gl p hs;have e1:=UB gl p hs;refine yM ?_<|fx;clear fx c1 e1;rintro K hK z H2 ⟨rfl,hB⟩;obtain⟨hc1,hc2,hc3⟩:=hB.qAH;refine⟨qB,?_⟩;refine yM ?_<|yE h2 hp2 hp2'<|hc1;have hbl2:(my p).length=p.length:=by simp [my]
    refine qD [(.c (.s 2) 0 0,root)] (.one rfl) wJ ⟨my p,q,by simp [hbl2],⟨?_,λj r hj=>?_,λj r hj=>?_⟩,⟨hg.bare,qA⟩,zb⟩
    .simp [hc1,hr0,zA (n:=.c (.s 2) 0 0) (m:=root) (f:=jc (Nm.under (.u 1 0 0)) [(.c (.s 2) 0 0,root)]) (p:=my p) ki]
    .simp [hc2 j r hj,hr0]
    .simp [hc3 j r hj,hr0]
   .skip
    have fx:=kO h2 hp2 hp2' h3 hp3 h4 hbp<|hpo;have c1:=qr gl p hs;refine yM ?_<|fx;clear fx c1;refine qD [(.c (.s 3) 0 0,root)] (.one rfl) wJ ⟨p,q,qB,⟨?_,λj r hj=>?_,λj r hj=>?_⟩,⟨hg,qA⟩,zb⟩
    .simp [ho1,hr0,zA (n:=.c (.s 3) 0 0) (m:=root) (f:=jc (Nm.under (.u 1 0 0)) [(.c (.s 3) 0 0,root)]) (p:=p) ki]
    .simp [ho2 j r hj,hr0]
    .simp [ho3 j r hj,hr0]
end Go.Proofs.YtdnebaieamppbaaGreatDoor
end
