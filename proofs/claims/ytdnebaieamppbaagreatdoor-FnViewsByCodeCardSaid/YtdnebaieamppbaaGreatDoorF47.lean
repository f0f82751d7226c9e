import Derived.Test.YtdnebaieamppbaaGreatDoorF46
set_option linter.unusedSimpArgs false
set_option linter.unusedVariables false
set_option maxRecDepth 100000
set_option maxHeartbeats 4000000

section
set_option maxHeartbeats 20000000
namespace Go.Proofs.YtdnebaieamppbaaGreatDoor
open Go Go.Hm Go.Proofs
abbrev Ue:Y8:=kr<|.l 8 []<|.q 9<|.q 10<|.q 11<|.q 12<|.q 13<|.q 14<|.q 15<|.q 16<|.q 17<|.q 18<|.l 19 [11]<|.q 20<|.q 21<|.q 22<|.q 23<|.q 24<|.q 25<|.q 26<|.q 27<|.q 28<|.q 29<|.q 30<|.q 31<|.q 32<|.q 33<|.q 34<|.l 35 [27,11]<|.q 36<|.q 37<|.q 38<|.q 40<|.q 41<|.l 39 [41,40,27,11]<|.l 42 [27,11]<|.q 43<|.q 44<|.q 45<|.l 46 []<|.done
theorem jj {A G G2:Prop} (k:G2) (x:A) (h:A->Yr G2->G:=by
 intro fx kk;refine qI ?_
 repeat ((first|refine Y7 (id:=10) Ue mixed ?_);refine qW ?_;refine qI ?_)
 exact kk.h):G:=h x ⟨k⟩
theorem s9 (gl) (H:Nm->Option AO) (bs:List Int) (pos:Nat) (hb:ZL bs) (hpos:pos<=700000) (hH:H (.u 1 0 0)=some (Zo bs pos)) (hV:H (.u 2 0 0)=none) (hV4:H (.u 4 0 0)=none) (hV5:H (.u 5 0 0)=none) :
  Yc Tryz.prog gl 117 (Nm.under (.u 1 0 0)) [.pt (.u 1 0 0) 0] H (G5 bs (λp pos'=>qAO p/\pos'<=pos+1000)) Yz:=by
 refine Yc.Yb Tryz.func117 [.cell 2 25] Tryz.ntmps117 (λ_=>qZ rfl) λC w g root hroot=>?_;have hr0:=hroot root (Nm.Y0 _)
 all_goals have fx:=Ya
 repeat' (first
  | refine uZ ?_|refine ja ?_|refine yH ?_|refine kJ λK hK=>?_
  | ((with_reducible refine vX hK ?_);clear hK K)
  | (with_reducible first|refine q9 ?_|refine jC ?_|refine jB ?_|refine vI ?_|refine za ?_|refine vk ?_|refine w5 ?_|refine jo qL ?_)
  | refine kN ?_
  | refine kV ?_
  | (with_reducible refine jg ?_)
  | ((with_reducible refine Ha ?_);refine uj (h:=?_))
  | (with_reducible first|refine lL ?_|refine mD ?_|refine IF (h:=?_)|refine IG (h:=?_)|refine x_u (h:=?_)|refine zO (h:=?_)|refine vu (h:=?_)|refine yM (h:=?_)|refine jA (T:=134) (h:=?_)|refine jm (T:=134) (h:=?_)|refine uY (h:=?_)|refine vG (h:=?_))
  | (with_reducible refine x_q (h:=?_))
  | (with_reducible refine bq (λht=>?_) (λht=>?_))
  | refine j8 (h1:=?_)|refine jr (h1:=?_)
  | (refine Y7 (id:=10) Ue mixed λK hK=>?_)
  | ((with_reducible refine wI hK ?_);clear hK K)
  | ((with_reducible refine em ?_);first|refine su (h:=?_)|refine gL (h:=?_)|refine gN (h:=?_)|refine gK (h:=?_))
  | ((with_reducible refine em ?_);refine gO (h1:=λht=>?_) (h2:=λht=>?_))
  | refine a_l rfl ?_|refine G3 ?_ ?_|refine G1 ?_ ?_ ?_|(with_reducible refine aI ?_ ?_)|exact vi|refine cM (h2:=?_)
  | fail)
 all_goals try clear fx
 refine oK (bs:=bs) (hs:=jU) (ha:=yK) (hF:=dA _ _ bs pos hb hpos jU qB qB qB) (h:=?_);rintro z H1 ⟨p0,q,rfl,⟨ho1,ho2,ho3⟩,⟨hg0,hq⟩,hU⟩;refine⟨q,hU,?_⟩;refine jj ?_<| ho1
 refine qR (λn st=>∃ (p:YU) (b:Nat),n=p.length - b/\1<=b/\b<=p.length/\qAO p/\st.hp (.u 1 0 0)=some (Zo bs q)/\st.tm 2=.pt (.s 2) 0/\st.hp (.s 2)=some (.row 1 [[.hs (.c (.s 2) 0 0) 4 0 0]])/\st.hp (.c (.s 2) 0 0)=some (.row 4 []) /\
  st.tm 3=.pt (.s 3) 0/\st.hp (.s 3)=some (.row 1 [[.hs (.c (.s 3) 0 0) 4 0 p.length]])/\st.tm 4=iv b/\Z3 st.hp (.c (.s 3) 0 0) p) (p0.length - 1) ?_ ?_
 .have:=hg0.len;refine⟨p0,1,rfl,qp _,qA,hg0,qB,qB,qB,qB,qB,qB,qB,⟨vE,λj r hj=>uP,λj r hj=>uO⟩⟩
 clear ho1 ho2 ho3 hU;rintro n st - - ⟨p,b,rfl,hb1,Ym,hg,hU,h2,hp2,hp2',h3,hp3,h4,⟨ho1,ho2,ho3⟩⟩;have hs:=hg.sml;have hgl:=hg.len
 have hbr:(b<p.length/\vL p=false)\/¬ (b<p.length/\vL p=false):=by
  by_cases h:b<p.length/\vL p=false
  .exact .inl h
  .exact .inr h
 rcases hbr with⟨hbp,hpo⟩|hstop
 .obtain⟨k,hk⟩:=gX hbp;obtain⟨_,hkE⟩:=gS hk;have hkp:=hg.params k (gM hk);have hkb:=hg.body k (gM hk);have hdcl:=k.qAW 10;have fx:=yl h3 hp3 h4 hbp<|hpo;have c1:=yO gl p hs;refine jj ?_<|fx;clear fx c1;refine qR (λn st=>∃ (j:Nat) (L:List Y5),n=k.body.length - j/\j<=k.body.length/\L.length<=j/\(∀ s∈L,Zj s)/\st.hp (.u 1 0 0)=some (Zo bs q)/\st.tm 2=.pt (.s 2) 0/\st.hp (.s 2)=some (.row 1 [[.hs (.c (.s 2) 0 0) 4 0 0]])/\st.hp (.c (.s 2) 0 0)=some (.row 4 []) /\
  st.tm 3=.pt (.s 3) 0/\st.hp (.s 3)=some (.row 1 [[.hs (.c (.s 3) 0 0) 4 0 p.length]])/\st.tm 4=iv b/\Z3 st.hp (.c (.s 3) 0 0) p/\st.tm 6=iv j/\st.tm 5=.hs (.s 5) 4 0 L.length/\st.hp (.s 5)=some (.row 4 (jI L))) k.body.length ?_ ?_
  .exact⟨0,[],qA,qA,qB,qB,zo,qj,qn,ug,zN,yJ,jW,⟨vE,λj r hj=>uP,λj r hj=>uO⟩,qB,qB,qB⟩
  clear hU h2 hp2 hp2' h3 hp3 h4 ho1 ho2 ho3;rintro n st - - ⟨j,L,rfl,hj,hL,hLT,hU,h2,hp2,hp2',h3,hp3,h4,⟨ho1,ho2,ho3⟩,h6,h5,hp5⟩;have hob:=ho3 b k hk;have hpa:=ho2 b k hk;refine jj ?_<|ko h3 hp3 h4 h6 ho1 hk hkE<|hbp;refine wJ zK (λht=>?_) (λhf=>?_)
  .have hjl:j<k.body.length:=zE;obtain⟨s,hsi⟩:=gX hjl;obtain⟨_,hsE⟩:=gS hsi;clear ht
   cases h10:(s.kind==10)
   .cases h9:(s.kind==9)
    .skip
     have fx:=qQ h3 hp3 h4 h6 ho1 hk hkE hbp hob hpa hsi hsE<|yl hjl h10 h9 h5<|hp5;have c1:=wc gl p b k s.to hk hs hg.Y9;have c2:=uK gl k.params s.to qA;have c3:=uK gl (k.dc 10) s.to qA;have d1:=jV gl p b k 10 hk (hs.bsm hk);refine jj ?_<|fx;clear fx c1 c2 c3 d1;refine⟨k.body.length - (j+1),qA,j+1,L++[s],rfl,qA,qv,oV hLT (hg.txt.qBZ k (gM hk) s (gM hsi)),zo,qj,qn,ug,zN,yJ,jW,⟨vE,λj r hj=>uP,λj r hj=>uO⟩,q8,qB,?_⟩;rw [<- wm];simp [hp5]
    .by_cases hin:s.to∈k.params
     .skip
      have fx:=qQ h3 hp3 h4 h6 ho1 hk hkE hbp hob hpa hsi hsE<|j4 hjl h10 h9<|hin;have c1:=wc gl p b k s.to hk hs hg.Y9;have c2:=uK gl k.params s.to qA;have c3:=uK gl (k.dc 10) s.to qA;have d1:=jV gl p b k 10 hk (hs.bsm hk);refine jj ?_<|fx;clear fx c1 c2 c3 d1;exact⟨k.body.length - (j+1),qA,j+1,L,rfl,qA,qA,hLT,zo,qj,qn,ug,zN,yJ,jW,⟨vE,λj r hj=>uP,λj r hj=>uO⟩,q8,zA,uz⟩
     .by_cases hdc:s.to∈k.dc 10
      .skip
       have fx:=qQ h3 hp3 h4 h6 ho1 hk hkE hbp hob hpa hsi hsE<|yl hjl h10 h9 hin<|hdc;have c1:=wc gl p b k s.to hk hs hg.Y9;have c2:=uK gl k.params s.to qA;have c3:=uK gl (k.dc 10) s.to qA;have d1:=jV gl p b k 10 hk (hs.bsm hk);refine jj ?_<|fx;clear fx c1 c2 c3 d1;exact⟨k.body.length - (j+1),qA,j+1,L,rfl,qA,qA,hLT,zo,qj,qn,ug,zN,yJ,jW,⟨vE,λj r hj=>uP,λj r hj=>uO⟩,q8,zA,uz⟩
      .skip
       have fx:=qQ h3 hp3 h4 h6 ho1 hk hkE hbp hob hpa hsi hsE<|kG hjl h10 h9 hin hdc h5<|hp5;have c1:=wc gl p b k s.to hk hs hg.Y9;have c2:=uK gl k.params s.to qA;have c3:=uK gl (k.dc 10) s.to qA;have d1:=jV gl p b k 10 hk (hs.bsm hk);refine jj ?_<|fx;clear fx c1 c2 c3 d1;refine⟨k.body.length - (j+1),qA,j+1,L++[s],rfl,qA,qv,oV hLT (hg.txt.qBZ k (gM hk) s (gM hsi)),zo,qj,qn,ug,zN,yJ,jW,⟨vE,λj r hj=>uP,λj r hj=>uO⟩,q8,qB,?_⟩;rw [<- wm];simp [hp5]
   .have h9:(s.kind==9)=false:=by
     have:s.kind=10:=by simpa using h10
     simp [this]
    by_cases hou:outer p b s.to<0
    .skip
     have fx:=qQ h3 hp3 h4 h6 ho1 hk hkE hbp hob hpa hsi hsE<|j4 hjl h10 h9<|hou;have c1:=wc gl p b k s.to hk hs hg.Y9;have c2:=uK gl k.params s.to qA;have c3:=uK gl (k.dc 10) s.to qA;have d1:=jV gl p b k 10 hk (hs.bsm hk);refine jj ?_<|fx;clear fx c1 c2 c3 d1;exact⟨k.body.length - (j+1),qA,j+1,L,rfl,qA,qA,hLT,zo,qj,qn,ug,zN,yJ,jW,⟨vE,λj r hj=>uP,λj r hj=>uO⟩,q8,zA,uz⟩
    .by_cases hin:s.to∈k.params
     .skip
      have fx:=qQ h3 hp3 h4 h6 ho1 hk hkE hbp hob hpa hsi hsE<|yl hjl h10 h9 hou<|hin;have c1:=wc gl p b k s.to hk hs hg.Y9;have c2:=uK gl k.params s.to qA;have c3:=uK gl (k.dc 10) s.to qA;have d1:=jV gl p b k 10 hk (hs.bsm hk);refine jj ?_<|fx;clear fx c1 c2 c3 d1;exact⟨k.body.length - (j+1),qA,j+1,L,rfl,qA,qA,hLT,zo,qj,qn,ug,zN,yJ,jW,⟨vE,λj r hj=>uP,λj r hj=>uO⟩,q8,zA,uz⟩
     .skip
      have fx:=qQ h3 hp3 h4 h6 ho1 hk hkE hbp hob hpa hsi hsE<|kG hjl h10 h9 hou hin h5<|hp5;have c1:=wc gl p b k s.to hk hs hg.Y9;have c2:=uK gl k.params s.to qA;have c3:=uK gl (k.dc 10) s.to qA;have d1:=jV gl p b k 10 hk (hs.bsm hk);refine jj ?_<|fx;clear fx c1 c2 c3 d1;refine⟨k.body.length - (j+1),qA,j+1,L++[s],rfl,qA,qv,oV hLT (hg.txt.qBZ k (gM hk) s (gM hsi)),zo,qj,qn,ug,zN,yJ,jW,⟨vE,λj r hj=>uP,λj r hj=>uO⟩,q8,qB,?_⟩;rw [<- wm];simp [hp5]
  .have hge:j=k.body.length:=by
    have:¬ j<k.body.length:=zS;omega
   subst hge;clear hf;have yF:=dn (n:=.c (.s 3) 0 0) (a:=5) (i:=b) (len:=L.length) (p:=p) (L:=L) rfl qB qB;have hsl:(setBody p b L).length=p.length:=u4;refine jj ?_<|gJ h3 hp3 h4 h5 hp5 ho1 hk hkE hbp<|yF;refine⟨p.length - (b+1),qA,setBody p b L,b+1,by rw [hsl],qA,by rw [hsl];omega,hg.setBody qA hLT,zo,qj,qn,ug,zN,yJ,q8,⟨by simp [yF],λd r hd=>?_,λd r hd=>?_⟩⟩
   all_goals
    have hl:d<p.length:=by
     have:=(gS hd).1
     rwa [u4] at this
    obtain⟨r0,hr0'⟩:∃ r0,p[d]?=some r0:=⟨_,gE hl⟩;rw [kX hr0'] at hd;obtain rfl:=sI hd;by_cases hbd:b=d
   .subst hbd;simp [ho2 b r0 hr0']
   .simp [ho2 d r0 hr0',hbd,show ¬ d=b from λe=>hbd e.symm]
   .subst hbd;simp [hp5]
   .simp [ho3 d r0 hr0',hbd,show ¬ d=b from λe=>hbd e.symm]
 .by_cases hbp:b<p.length
  .have hpo:vL p=true:=by
    cases h:vL p
    .exact absurd ⟨hbp,h⟩ hstop
    .rfl
   have fx:=ko h2 hp2 hp2' h3 hp3 h4 hbp<|hpo;have c1:=yO gl p hs;refine jj ?_<|fx;clear fx c1;refine qE [(.c (.s 3) 0 0,root)] (.one rfl) aR ⟨p,q,qB,⟨?_,λj r hj=>?_,λj r hj=>?_⟩,⟨hg,qA⟩,zo⟩
   .simp [ho1,hr0,zW (n:=.c (.s 3) 0 0) (m:=root) (f:=jY (Nm.under (.u 1 0 0)) [(.c (.s 3) 0 0,root)]) (p:=p) eP]
   .simp [ho2 j r hj,hr0]
   .simp [ho3 j r hj,hr0]
  .cases hpo:vL p
   .skip
    have fx:=ko h2 hp2 hp2' h3 hp3 h4 hbp<|hpo;have c1:=yO gl p hs;have e1:=Sw gl p hs;refine jj ?_<|fx;clear fx c1 e1;rintro K hK z H2 ⟨rfl,hB⟩;obtain⟨hc1,hc2,hc3⟩:=hB.Yv;refine⟨qB,?_⟩;refine jj ?_<|j4 h2 hp2 hp2'<|hc1;have hbl2:(lY p).length=p.length:=by simp [lY]
    refine qE [(.c (.s 2) 0 0,root)] (.one rfl) aR ⟨lY p,q,by simp [hbl2],⟨?_,λj r hj=>?_,λj r hj=>?_⟩,⟨hg.bare,qA⟩,zo⟩
    .simp [hc1,hr0,zW (n:=.c (.s 2) 0 0) (m:=root) (f:=jY (Nm.under (.u 1 0 0)) [(.c (.s 2) 0 0,root)]) (p:=lY p) eP]
    .simp [hc2 j r hj,hr0]
    .simp [hc3 j r hj,hr0]
   .skip
    have fx:=ko h2 hp2 hp2' h3 hp3 h4 hbp<|hpo;have c1:=yO gl p hs;refine jj ?_<|fx;clear fx c1;refine qE [(.c (.s 3) 0 0,root)] (.one rfl) aR ⟨p,q,qB,⟨?_,λj r hj=>?_,λj r hj=>?_⟩,⟨hg,qA⟩,zo⟩
    .simp [ho1,hr0,zW (n:=.c (.s 3) 0 0) (m:=root) (f:=jY (Nm.under (.u 1 0 0)) [(.c (.s 3) 0 0,root)]) (p:=p) eP]
    .simp [ho2 j r hj,hr0]
    .simp [ho3 j r hj,hr0]
end Go.Proofs.YtdnebaieamppbaaGreatDoor
end
