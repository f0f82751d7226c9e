import Derived.Test.YtjgpejikjhojcaaGreatDoorT39
set_option linter.unusedSimpArgs false
set_option linter.unusedVariables false
set_option maxRecDepth 100000
set_option maxHeartbeats 4000000

section
set_option maxHeartbeats 20000000
namespace Go.Proofs.YtjgpejikjhojcaaGreatDoor
open Go Go.Hm Go.Proofs
abbrev LP:qb:=iI<|.l 8 []<|.q 9<|.q 10<|.q 11<|.q 12<|.q 13<|.q 14<|.q 15<|.q 16<|.q 17<|.q 18<|.l 19 [11]<|.q 20<|.q 21<|.q 22<|.q 23<|.q 24<|.q 25<|.q 26<|.q 27<|.q 28<|.q 29<|.q 30<|.q 31<|.q 32<|.q 33<|.q 34<|.l 35 [27,11]<|.q 36<|.q 37<|.q 38<|.q 40<|.q 41<|.l 39 [41,40,27,11]<|.l 42 [27,11]<|.q 43<|.q 44<|.q 45<|.l 46 []<|.done
theorem bp {A G G2:Prop} (k:G2) (x:A) (h:A->jP G2->G:=by
 intro fx kk;refine qQ ?_
 repeat ((first|refine qf (id:=10) LP mixed ?_);refine zQ ?_;refine qQ ?_)
 exact kk.h):G:=h x ⟨k⟩
theorem RR (gl) (H:Nm->Option AO) (bs:List Int) (pos:Nat) (hb:aA bs) (hpos:pos<=700000) (hH:H (.u 1 0 0)=some (jA bs pos)) (hV:H (.u 2 0 0)=none) (hV4:H (.u 4 0 0)=none) (hV5:H (.u 5 0 0)=none) :
  qV Tryz.prog gl 58 (Nm.under (.u 1 0 0)) [.pt (.u 1 0 0) 0] H (HK bs (λp pos'=>wC p/\pos'<=pos+1000)) qy:=by
 refine qV.qa Tryz.func58 [.cell 2 34] Tryz.ntmps58 (λ_=>yq rfl) λC w g root hroot=>?_;have hr0:=hroot root (Nm.uH _)
 all_goals have fx:=qS
 repeat' (first
  | refine wu ?_|refine bV ?_|refine au ?_|refine bW λK hK=>?_
  | ((with_reducible refine kJ hK ?_);clear hK K)
  | (with_reducible first|refine wt ?_|refine bm ?_|refine cE ?_|refine bl ?_|refine aq ?_|refine bN ?_|refine fp ?_|refine bn qc ?_)
  | refine cF ?_
  | refine bX ?_
  | (with_reducible refine wQ ?_)
  | ((with_reducible refine lD ?_);refine lg (h:=?_))
  | (with_reducible first|refine lF ?_|refine lE ?_|refine li (h:=?_)|refine lf (h:=?_)|refine lj (h:=?_)|refine bY (h:=?_)|refine fw (h:=?_)|refine fz (h:=?_)|refine cG (T:=80) (h:=?_)|refine dC (T:=80) (h:=?_)|refine iP (h:=?_)|refine dD (h:=?_))
  | (with_reducible refine ww (h:=?_))
  | (with_reducible refine yd (λht=>?_) (λht=>?_))
  | refine cI (h1:=?_)|refine cH (h1:=?_)
  | (refine qf (id:=10) LP mixed λK hK=>?_)
  | ((with_reducible refine cO hK ?_);clear hK K)
  | ((with_reducible refine aV ?_);first|refine ll (h:=?_)|refine nT (h:=?_)|refine nS (h:=?_)|refine nU (h:=?_))
  | ((with_reducible refine aV ?_);refine nR (h1:=λht=>?_) (h2:=λht=>?_))
  | refine iY rfl ?_|refine lw ?_ ?_|refine lz ?_ ?_ ?_|(with_reducible refine aI ?_ ?_)|exact iK|refine iQ (h2:=?_)
  | fail)
 all_goals try clear fx
 refine nQ (bs:=bs) (hs:=zb) (ha:=uK) (hF:=YS _ _ bs pos hb hpos zb qB qB qB) (h:=?_);rintro z H1 ⟨p0,q,rfl,⟨ho1,ho2,ho3⟩,⟨hg0,hq⟩,hU⟩;refine⟨q,hU,?_⟩;refine bp ?_<| ho1
 refine zU (λn st=>∃ (p:qC) (b:Nat),n=p.length - b/\1<=b/\b<=p.length/\wC p/\st.hp (.u 1 0 0)=some (jA bs q)/\st.tm 2=.pt (.s 2) 0/\st.hp (.s 2)=some (.row 1 [[.hs (.c (.s 2) 0 0) 4 0 0]])/\st.hp (.c (.s 2) 0 0)=some (.row 4 []) /\
  st.tm 3=.pt (.s 3) 0/\st.hp (.s 3)=some (.row 1 [[.hs (.c (.s 3) 0 0) 4 0 p.length]])/\st.tm 4=iv b/\uf st.hp (.c (.s 3) 0 0) p) (p0.length - 1) ?_ ?_
 .have:=hg0.len;refine⟨p0,1,rfl,qX _,qA,hg0,qB,qB,qB,qB,qB,qB,qB,⟨uw,λj r hj=>wF,λj r hj=>wG⟩⟩
 clear ho1 ho2 ho3 hU;rintro n st - - ⟨p,b,rfl,hb1,zF,hg,hU,h2,hp2,hp2',h3,hp3,h4,⟨ho1,ho2,ho3⟩⟩;have hs:=hg.ft;have hgl:=hg.len
 have hbr:(b<p.length/\ye p=false)\/¬ (b<p.length/\ye p=false):=by
  by_cases h:b<p.length/\ye p=false
  .exact .inl h
  .exact .inr h
 rcases hbr with⟨hbp,hpo⟩|hstop
 .obtain⟨k,hk⟩:=gX hbp;obtain⟨_,hkE⟩:=gS hk;have hkp:=hg.params k (gM hk);have hkb:=hg.body k (gM hk);have hdcl:=k.xK 10;have fx:=zM h3 hp3 h4 hbp<|hpo;have c1:=AW gl p hs;refine bp ?_<|@fx;clear fx c1;refine zU (λn st=>∃ (j:Nat) (L:List qP),n=k.body.length - j/\j<=k.body.length/\L.length<=j/\(∀ s∈L,vG s)/\st.hp (.u 1 0 0)=some (jA bs q)/\st.tm 2=.pt (.s 2) 0/\st.hp (.s 2)=some (.row 1 [[.hs (.c (.s 2) 0 0) 4 0 0]])/\st.hp (.c (.s 2) 0 0)=some (.row 4 []) /\
  st.tm 3=.pt (.s 3) 0/\st.hp (.s 3)=some (.row 1 [[.hs (.c (.s 3) 0 0) 4 0 p.length]])/\st.tm 4=iv b/\uf st.hp (.c (.s 3) 0 0) p/\st.tm 6=iv j/\st.tm 5=.hs (.s 5) 4 0 L.length/\st.hp (.s 5)=some (.row 4 (yL L))) k.body.length ?_ ?_
  .exact⟨0,[],qA,qA,qB,qB,vC,jp,jq,uh,jj,uJ,yr,⟨uw,λj r hj=>wF,λj r hj=>wG⟩,qB,qB,qB⟩
  clear hU h2 hp2 hp2' h3 hp3 h4 ho1 ho2 ho3;rintro n st - - ⟨j,L,rfl,hj,hL,hLT,hU,h2,hp2,hp2',h3,hp3,h4,⟨ho1,ho2,ho3⟩,h6,h5,hp5⟩;have hob:=ho3 b k hk;have hpa:=ho2 b k hk;refine bp ?_<|jJ h3 hp3 h4 h6 ho1 hk hkE<|hbp;refine y8 ya (λht=>?_) (λhf=>?_)
  .have hjl:j<k.body.length:=yE;obtain⟨s,hsi⟩:=gX hjl;obtain⟨_,hsE⟩:=gS hsi;clear ht
   cases h10:(s.kind==10)
   .cases h9:(s.kind==9)
    .skip
     have fx:=qr h3 hp3 h4 h6 ho1 hk hkE hbp hob hpa hsi hsE<|zM hjl h10 h9 h5<|hp5;have c1:=lS gl p b k s.to hk hs hg.jR;have c2:=aM gl k.params s.to qA;have c3:=aM gl (k.dc 10) s.to qA;have d1:=fU gl p b k 10 hk (hs.uu hk);refine bp ?_<|@fx;clear fx c1 c2 c3 d1;refine⟨k.body.length - (j+1),qA,j+1,L++[s],rfl,qA,qn,AM hLT (hg.ar.cx k (gM hk) s (gM hsi)),vC,jp,jq,uh,jj,uJ,yr,⟨uw,λj r hj=>wF,λj r hj=>wG⟩,zw,qB,?_⟩;rw [<- sr];simp [hp5]
    .by_cases hin:s.to∈k.params
     .skip
      have fx:=qr h3 hp3 h4 h6 ho1 hk hkE hbp hob hpa hsi hsE<|zC hjl h10 h9<|hin;have c1:=lS gl p b k s.to hk hs hg.jR;have c2:=aM gl k.params s.to qA;have c3:=aM gl (k.dc 10) s.to qA;have d1:=fU gl p b k 10 hk (hs.uu hk);refine bp ?_<|@fx;clear fx c1 c2 c3 d1;exact⟨k.body.length - (j+1),qA,j+1,L,rfl,qA,qA,hLT,vC,jp,jq,uh,jj,uJ,yr,⟨uw,λj r hj=>wF,λj r hj=>wG⟩,zw,yV,be⟩
     .by_cases hdc:s.to∈k.dc 10
      .skip
       have fx:=qr h3 hp3 h4 h6 ho1 hk hkE hbp hob hpa hsi hsE<|zM hjl h10 h9 hin<|hdc;have c1:=lS gl p b k s.to hk hs hg.jR;have c2:=aM gl k.params s.to qA;have c3:=aM gl (k.dc 10) s.to qA;have d1:=fU gl p b k 10 hk (hs.uu hk);refine bp ?_<|@fx;clear fx c1 c2 c3 d1;exact⟨k.body.length - (j+1),qA,j+1,L,rfl,qA,qA,hLT,vC,jp,jq,uh,jj,uJ,yr,⟨uw,λj r hj=>wF,λj r hj=>wG⟩,zw,yV,be⟩
      .skip
       have fx:=qr h3 hp3 h4 h6 ho1 hk hkE hbp hob hpa hsi hsE<|jQ hjl h10 h9 hin hdc h5<|hp5;have c1:=lS gl p b k s.to hk hs hg.jR;have c2:=aM gl k.params s.to qA;have c3:=aM gl (k.dc 10) s.to qA;have d1:=fU gl p b k 10 hk (hs.uu hk);refine bp ?_<|@fx;clear fx c1 c2 c3 d1;refine⟨k.body.length - (j+1),qA,j+1,L++[s],rfl,qA,qn,AM hLT (hg.ar.cx k (gM hk) s (gM hsi)),vC,jp,jq,uh,jj,uJ,yr,⟨uw,λj r hj=>wF,λj r hj=>wG⟩,zw,qB,?_⟩;rw [<- sr];simp [hp5]
   .have h9:(s.kind==9)=false:=by
     have:s.kind=10:=by simpa using h10
     simp [this]
    by_cases hou:outer p b s.to<0
    .skip
     have fx:=qr h3 hp3 h4 h6 ho1 hk hkE hbp hob hpa hsi hsE<|zC hjl h10 h9<|hou;have c1:=lS gl p b k s.to hk hs hg.jR;have c2:=aM gl k.params s.to qA;have c3:=aM gl (k.dc 10) s.to qA;have d1:=fU gl p b k 10 hk (hs.uu hk);refine bp ?_<|@fx;clear fx c1 c2 c3 d1;exact⟨k.body.length - (j+1),qA,j+1,L,rfl,qA,qA,hLT,vC,jp,jq,uh,jj,uJ,yr,⟨uw,λj r hj=>wF,λj r hj=>wG⟩,zw,yV,be⟩
    .by_cases hin:s.to∈k.params
     .skip
      have fx:=qr h3 hp3 h4 h6 ho1 hk hkE hbp hob hpa hsi hsE<|zM hjl h10 h9 hou<|hin;have c1:=lS gl p b k s.to hk hs hg.jR;have c2:=aM gl k.params s.to qA;have c3:=aM gl (k.dc 10) s.to qA;have d1:=fU gl p b k 10 hk (hs.uu hk);refine bp ?_<|@fx;clear fx c1 c2 c3 d1;exact⟨k.body.length - (j+1),qA,j+1,L,rfl,qA,qA,hLT,vC,jp,jq,uh,jj,uJ,yr,⟨uw,λj r hj=>wF,λj r hj=>wG⟩,zw,yV,be⟩
     .skip
      have fx:=qr h3 hp3 h4 h6 ho1 hk hkE hbp hob hpa hsi hsE<|jQ hjl h10 h9 hou hin h5<|hp5;have c1:=lS gl p b k s.to hk hs hg.jR;have c2:=aM gl k.params s.to qA;have c3:=aM gl (k.dc 10) s.to qA;have d1:=fU gl p b k 10 hk (hs.uu hk);refine bp ?_<|@fx;clear fx c1 c2 c3 d1;refine⟨k.body.length - (j+1),qA,j+1,L++[s],rfl,qA,qn,AM hLT (hg.ar.cx k (gM hk) s (gM hsi)),vC,jp,jq,uh,jj,uJ,yr,⟨uw,λj r hj=>wF,λj r hj=>wG⟩,zw,qB,?_⟩;rw [<- sr];simp [hp5]
  .have hge:j=k.body.length:=by
    have:¬ j<k.body.length:=vH;omega
   subst hge;clear hf;have yG:=xk (n:=.c (.s 3) 0 0) (a:=5) (i:=b) (len:=L.length) (p:=p) (L:=L) rfl qB qB;have hsl:(setBody p b L).length=p.length:=pK;refine bp ?_<|vA h3 hp3 h4 h5 hp5 ho1 hk hkE hbp<|yG;refine⟨p.length - (b+1),qA,setBody p b L,b+1,by rw [hsl],qA,by rw [hsl];omega,hg.setBody qA hLT,vC,jp,jq,uh,jj,uJ,zw,⟨by simp [yG],λd r hd=>?_,λd r hd=>?_⟩⟩
   all_goals
    have hl:d<p.length:=by
     have:=(gS hd).1
     rwa [pK] at this
    obtain⟨r0,hr0'⟩:∃ r0,p[d]?=some r0:=⟨_,gE hl⟩;rw [s9 hr0'] at hd;obtain rfl:=sI hd;by_cases hbd:b=d
   .subst hbd;simp [ho2 b r0 hr0']
   .simp [ho2 d r0 hr0',hbd,show ¬ d=b from λe=>hbd e.symm]
   .subst hbd;simp [hp5]
   .simp [ho3 d r0 hr0',hbd,show ¬ d=b from λe=>hbd e.symm]
 .by_cases hbp:b<p.length
  .have hpo:ye p=true:=by
    cases h:ye p
    .exact absurd ⟨hbp,h⟩ hstop
    .rfl
   have fx:=jJ h2 hp2 hp2' h3 hp3 h4 hbp<|hpo;have c1:=AW gl p hs;refine bp ?_<|@fx;clear fx c1;refine qG [(.c (.s 3) 0 0,root)] (.one rfl) bI ⟨p,q,qB,⟨?_,λj r hj=>?_,λj r hj=>?_⟩,⟨hg,qA⟩,vC⟩
   .simp [ho1,hr0,kr (n:=.c (.s 3) 0 0) (m:=root) (f:=zE (Nm.under (.u 1 0 0)) [(.c (.s 3) 0 0,root)]) (p:=p) rD]
   .simp [ho2 j r hj,hr0]
   .simp [ho3 j r hj,hr0]
  .cases hpo:ye p
   .skip
    have fx:=jJ h2 hp2 hp2' h3 hp3 h4 hbp<|hpo;have c1:=AW gl p hs;have e1:=Oh gl p hs;refine bp ?_<|@fx;clear fx c1 e1;rintro K hK z H2 ⟨rfl,hB⟩;obtain⟨hc1,hc2,hc3⟩:=hB.uC;refine⟨qB,?_⟩;refine bp ?_<|zC h2 hp2 hp2'<|hc1;have hbl2:(cU p).length=p.length:=by simp [cU]
    refine qG [(.c (.s 2) 0 0,root)] (.one rfl) bI ⟨cU p,q,by simp [hbl2],⟨?_,λj r hj=>?_,λj r hj=>?_⟩,⟨hg.bare,qA⟩,vC⟩
    .simp [hc1,hr0,kr (n:=.c (.s 2) 0 0) (m:=root) (f:=zE (Nm.under (.u 1 0 0)) [(.c (.s 2) 0 0,root)]) (p:=cU p) rD]
    .simp [hc2 j r hj,hr0]
    .simp [hc3 j r hj,hr0]
   .skip
    have fx:=jJ h2 hp2 hp2' h3 hp3 h4 hbp<|hpo;have c1:=AW gl p hs;refine bp ?_<|@fx;clear fx c1;refine qG [(.c (.s 3) 0 0,root)] (.one rfl) bI ⟨p,q,qB,⟨?_,λj r hj=>?_,λj r hj=>?_⟩,⟨hg,qA⟩,vC⟩
    .simp [ho1,hr0,kr (n:=.c (.s 3) 0 0) (m:=root) (f:=zE (Nm.under (.u 1 0 0)) [(.c (.s 3) 0 0,root)]) (p:=p) rD]
    .simp [ho2 j r hj,hr0]
    .simp [ho3 j r hj,hr0]
end Go.Proofs.YtjgpejikjhojcaaGreatDoor
end
