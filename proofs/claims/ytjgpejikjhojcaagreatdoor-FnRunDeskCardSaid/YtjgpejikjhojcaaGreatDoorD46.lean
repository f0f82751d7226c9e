import Derived.Test.YtjgpejikjhojcaaGreatDoorD45
set_option linter.all false
set_option maxRecDepth 100000
set_option maxHeartbeats 4000000
open Option renaming some->Z,none->Y
open Bool renaming true->B,false->M
open List renaming length->O

section
set_option maxHeartbeats 20000000
namespace Go.Proofs.YtjgpejikjhojcaaGreatDoor
open Go Go.Hm Go.Proofs
abbrev Ns:qV:=bB<|.l 8 []<|.q 9<|.q 10<|.q 11<|.q 12<|.q 13<|.q 14<|.q 15<|.q 16<|.q 17<|.q 18<|.l 19 [11]<|.q 20<|.q 21<|.q 22<|.q 23<|.q 24<|.q 25<|.q 26<|.q 27<|.q 28<|.q 29<|.q 30<|.q 31<|.q 32<|.q 33<|.q 34<|.l 35 [27,11]<|.q 36<|.q 37<|.q 38<|.q 40<|.q 41<|.l 39 [41,40,27,11]<|.l 42 [27,11]<|.q 43<|.q 44<|.q 45<|.l 46 []<|.done
def cz{A G G2:Prop}(k:G2)(x:A)(h:A->jH G2->G:=by
 intro fx kk;refine qK ?_
 repeat((first|refine qP (id:=10) Ns mixed ?_);refine zC ?_;refine qK ?_)
 exact kk.h):G:=h x ⟨k⟩
def UN(gl)(H:Nm->Option AO)(bs:List Int)(pos:Nat)(hb:ab bs)(hpos:pos<=700000)(hH:H (.u 1 0 0)=Z (jT bs pos))(hV:H (.u 2 0 0)=Y)(hV4:H (.u 4 0 0)=Y)(hV5:H (.u 5 0 0)=Y):
  qX Tryz.prog gl 58 (Nm.under (.u 1 0 0)) [.pt (.u 1 0 0) 0] H (JX bs (λp pos'=>wg p/\pos'<=pos+1000)) qw:=by
 refine qX.q9 Tryz.func58 [.cell 2 34] Tryz.ntmps58 (λ_=>y8 rfl) λC w g root hroot=>?_;have hr0:=hroot root (Nm.uQ _)
 all_goals have fx:=qW
 repeat'(first
  |refine wL ?_|refine bF ?_|refine aZ ?_|refine aY λK hK=>?_
  |((with_reducible refine uu hK ?_);clear hK K)
  |(with_reducible first|refine wK ?_|refine cD ?_|refine cO ?_|refine cC ?_|refine bE ?_|refine bU ?_|refine fC ?_|refine cE qf ?_)
  |refine cQ ?_
  |refine bG ?_
  |(with_reducible refine kh ?_)
  |((with_reducible refine lP ?_);refine lw (h:=?_))
  |(with_reducible first|refine lQ ?_|refine mc ?_|refine nV (h:=?_)|refine nR (h:=?_)|refine nW (h:=?_)|refine a6 (h:=?_)|refine gL (h:=?_)|refine gN (h:=?_)|refine bh (T:=80) (h:=?_)|refine bH (T:=80) (h:=?_)|refine ii (h:=?_)|refine cR (h:=?_))
  |(with_reducible refine wc (h:=?_))
  |(with_reducible refine yr (λht=>?_) (λht=>?_))
  |refine bi (h1:=?_)|refine cS (h1:=?_)
  |(refine qP (id:=10) Ns mixed λK hK=>?_)
  |((with_reducible refine bk hK ?_);clear hK K)
  |((with_reducible refine wh ?_);first|refine ij (h:=?_)|refine ng (h:=?_)|refine na (h:=?_)|refine nh (h:=?_))
  |((with_reducible refine wh ?_);refine nZ (h1:=λht=>?_) (h2:=λht=>?_))
  |refine gZ rfl ?_|refine mE ?_ ?_|refine mF ?_ ?_ ?_|(with_reducible refine aI ?_ ?_)|exact gF|refine gO (h2:=?_)
  |fail)
 all_goals try clear fx
 refine pU (bs:=bs) (hs:=zo) (ha:=uq) (hF:=qBX _ _ bs pos hb hpos zo qB qB qB) (h:=?_);rintro z H1 ⟨p0,q,rfl,⟨ho1,ho2,ho3⟩,⟨hg0,hq⟩,hU⟩;refine⟨q,hU,?_⟩;refine cz ?_<| ho1
 refine zK (λn st=>∃(p:qC)(b:Nat),n=O p-b/\1<=b/\b<=O p/\wg p/\st.hp (.u 1 0 0)=Z (jT bs q)/\st.tm 2=.pt (.s 2) 0/\st.hp (.s 2)=Z (.row 1 [[.hs (.c (.s 2) 0 0) 4 0 0]])/\st.hp (.c (.s 2) 0 0)=Z (.row 4 []) /\
  st.tm 3=.pt (.s 3) 0/\st.hp (.s 3)=Z (.row 1 [[.hs (.c (.s 3) 0 0) 4 0 (O p)]])/\st.tm 4=iv b/\uz st.hp (.c (.s 3) 0 0) p) (O p0-1) ?_ ?_
 .have:=hg0.len;refine⟨p0,1,rfl,qb _,qA,hg0,qB,qB,qB,qB,qB,qB,qB,⟨kR,λj r hj=>wm,λj r hj=>wl⟩⟩
 clear ho1 ho2 ho3 hU;rintro n st - - ⟨p,b,rfl,hb1,qv,hg,hU,h2,hp2,hp2',h3,hp3,h4,⟨ho1,ho2,ho3⟩⟩;have hs:=hg.bc;have hgl:=hg.len
 have hbr:(b<O p/\j2 p=M)\/¬(b<O p/\j2 p=M):=by
  by_cases h:b<O p/\j2 p=M
  .exact .inl h
  .exact .inr h
 rcases hbr with⟨hbp,hpo⟩|hstop
 .obtain⟨k,hk⟩:=gX hbp;obtain⟨_,hkE⟩:=gS hk;have hkp:=hg.params k (gM hk);have hkb:=hg.body k (gM hk);have hdcl:=k.rb 10;have fx:=zJ h3 hp3 h4 hbp<|hpo;have c1:=lu gl p hs;refine cz ?_<|@fx;clear fx c1;refine zK (λn st=>∃(j:Nat)(L:List qT),n=O k.body-j/\j<=O k.body/\O L<=j/\(∀s∈L,vb s)/\st.hp (.u 1 0 0)=Z (jT bs q)/\st.tm 2=.pt (.s 2) 0/\st.hp (.s 2)=Z (.row 1 [[.hs (.c (.s 2) 0 0) 4 0 0]])/\st.hp (.c (.s 2) 0 0)=Z (.row 4 []) /\
  st.tm 3=.pt (.s 3) 0/\st.hp (.s 3)=Z (.row 1 [[.hs (.c (.s 3) 0 0) 4 0 (O p)]])/\st.tm 4=iv b/\uz st.hp (.c (.s 3) 0 0) p/\st.tm 6=iv j/\st.tm 5=.hs (.s 5) 4 0 (O L)/\st.hp (.s 5)=Z (.row 4 (yd L))) (O k.body) ?_ ?_
  .exact⟨0,[],qA,qA,qB,qB,vH,jS,jV,kD,jr,uo,vO,⟨kR,λj r hj=>wm,λj r hj=>wl⟩,qB,qB,qB⟩
  clear hU h2 hp2 hp2' h3 hp3 h4 ho1 ho2 ho3;rintro n st - - ⟨j,L,rfl,hj,hL,hLT,hU,h2,hp2,hp2',h3,hp3,h4,⟨ho1,ho2,ho3⟩,h6,h5,hp5⟩;have hob:=ho3 b k hk;have hpa:=ho2 b k hk;refine cz ?_<|jA h3 hp3 h4 h6 ho1 hk hkE<|hbp;refine yk yq (λht=>?_) (λhf=>?_)
  .have hjl:j<O k.body:=yJ;obtain⟨s,hsi⟩:=gX hjl;obtain⟨_,hsE⟩:=gS hsi;clear ht
   cases h10:(s.kind==10)
   .cases h9:(s.kind==9)
    .skip
     have fx:=qg h3 hp3 h4 h6 ho1 hk hkE hbp hob hpa hsi hsE<|zJ hjl h10 h9 h5<|hp5;have c1:=my gl p b k s.to hk hs hg.jK;have c2:=wT gl k.params s.to qA;have c3:=wT gl (k.dc 10) s.to qA;have d1:=fZ gl p b k 10 hk (hs.vu hk);refine cz ?_<|@fx;clear fx c1 c2 c3 d1;refine⟨O k.body-(j+1),qA,j+1,L++[s],rfl,qA,qp,CF hLT (hg.bg.eM k (gM hk) s (gM hsi)),vH,jS,jV,kD,jr,uo,vO,⟨kR,λj r hj=>wm,λj r hj=>wl⟩,zr,qB,?_⟩;rw[<- xz];simp[hp5]
    .by_cases hin:s.to∈k.params
     .skip
      have fx:=qg h3 hp3 h4 h6 ho1 hk hkE hbp hob hpa hsi hsE<|qz hjl h10 h9<|hin;have c1:=my gl p b k s.to hk hs hg.jK;have c2:=wT gl k.params s.to qA;have c3:=wT gl (k.dc 10) s.to qA;have d1:=fZ gl p b k 10 hk (hs.vu hk);refine cz ?_<|@fx;clear fx c1 c2 c3 d1;exact⟨O k.body-(j+1),qA,j+1,L,rfl,qA,qA,hLT,vH,jS,jV,kD,jr,uo,vO,⟨kR,λj r hj=>wm,λj r hj=>wl⟩,zr,jh,kw⟩
     .by_cases hdc:s.to∈k.dc 10
      .skip
       have fx:=qg h3 hp3 h4 h6 ho1 hk hkE hbp hob hpa hsi hsE<|zJ hjl h10 h9 hin<|hdc;have c1:=my gl p b k s.to hk hs hg.jK;have c2:=wT gl k.params s.to qA;have c3:=wT gl (k.dc 10) s.to qA;have d1:=fZ gl p b k 10 hk (hs.vu hk);refine cz ?_<|@fx;clear fx c1 c2 c3 d1;exact⟨O k.body-(j+1),qA,j+1,L,rfl,qA,qA,hLT,vH,jS,jV,kD,jr,uo,vO,⟨kR,λj r hj=>wm,λj r hj=>wl⟩,zr,jh,kw⟩
      .skip
       have fx:=qg h3 hp3 h4 h6 ho1 hk hkE hbp hob hpa hsi hsE<|zy hjl h10 h9 hin hdc h5<|hp5;have c1:=my gl p b k s.to hk hs hg.jK;have c2:=wT gl k.params s.to qA;have c3:=wT gl (k.dc 10) s.to qA;have d1:=fZ gl p b k 10 hk (hs.vu hk);refine cz ?_<|@fx;clear fx c1 c2 c3 d1;refine⟨O k.body-(j+1),qA,j+1,L++[s],rfl,qA,qp,CF hLT (hg.bg.eM k (gM hk) s (gM hsi)),vH,jS,jV,kD,jr,uo,vO,⟨kR,λj r hj=>wm,λj r hj=>wl⟩,zr,qB,?_⟩;rw[<- xz];simp[hp5]
   .have h9:(s.kind==9)=M:=by
     have:s.kind=10:=by simpa using h10
     simp[this]
    by_cases hou:outer p b s.to<0
    .skip
     have fx:=qg h3 hp3 h4 h6 ho1 hk hkE hbp hob hpa hsi hsE<|qz hjl h10 h9<|hou;have c1:=my gl p b k s.to hk hs hg.jK;have c2:=wT gl k.params s.to qA;have c3:=wT gl (k.dc 10) s.to qA;have d1:=fZ gl p b k 10 hk (hs.vu hk);refine cz ?_<|@fx;clear fx c1 c2 c3 d1;exact⟨O k.body-(j+1),qA,j+1,L,rfl,qA,qA,hLT,vH,jS,jV,kD,jr,uo,vO,⟨kR,λj r hj=>wm,λj r hj=>wl⟩,zr,jh,kw⟩
    .by_cases hin:s.to∈k.params
     .skip
      have fx:=qg h3 hp3 h4 h6 ho1 hk hkE hbp hob hpa hsi hsE<|zJ hjl h10 h9 hou<|hin;have c1:=my gl p b k s.to hk hs hg.jK;have c2:=wT gl k.params s.to qA;have c3:=wT gl (k.dc 10) s.to qA;have d1:=fZ gl p b k 10 hk (hs.vu hk);refine cz ?_<|@fx;clear fx c1 c2 c3 d1;exact⟨O k.body-(j+1),qA,j+1,L,rfl,qA,qA,hLT,vH,jS,jV,kD,jr,uo,vO,⟨kR,λj r hj=>wm,λj r hj=>wl⟩,zr,jh,kw⟩
     .skip
      have fx:=qg h3 hp3 h4 h6 ho1 hk hkE hbp hob hpa hsi hsE<|zy hjl h10 h9 hou hin h5<|hp5;have c1:=my gl p b k s.to hk hs hg.jK;have c2:=wT gl k.params s.to qA;have c3:=wT gl (k.dc 10) s.to qA;have d1:=fZ gl p b k 10 hk (hs.vu hk);refine cz ?_<|@fx;clear fx c1 c2 c3 d1;refine⟨O k.body-(j+1),qA,j+1,L++[s],rfl,qA,qp,CF hLT (hg.bg.eM k (gM hk) s (gM hsi)),vH,jS,jV,kD,jr,uo,vO,⟨kR,λj r hj=>wm,λj r hj=>wl⟩,zr,qB,?_⟩;rw[<- xz];simp[hp5]
  .have hge:j=O k.body:=by
    have:¬j<O k.body:=vP;omega
   subst hge;clear hf;have jz:=B8 (n:=.c (.s 3) 0 0) (a:=5) (i:=b) (len:=O L) (p:=p) (L:=L) rfl qB qB;have hsl:O (setBody p b L)=O p:=sG;refine cz ?_<|ya h3 hp3 h4 h5 hp5 ho1 hk hkE hbp<|jz;refine⟨O p-(b+1),qA,setBody p b L,b+1,by rw[hsl],qA,by rw[hsl];omega,hg.setBody qA hLT,vH,jS,jV,kD,jr,uo,zr,⟨by simp[jz],λd r hd=>?_,λd r hd=>?_⟩⟩
   all_goals
    have hl:d<O p:=by
     have:=(gS hd).1
     rwa[sG]at this
    obtain⟨r0,hr0'⟩:∃r0,p[d]?=Z r0:=⟨_,gE hl⟩;rw[xt hr0']at hd;obtain rfl:=sI hd;by_cases hbd:b=d
   .subst hbd;simp[ho2 b r0 hr0']
   .simp [ho2 d r0 hr0',hbd,show ¬d=b from λe=>hbd e.symm]
   .subst hbd;simp[hp5]
   .simp [ho3 d r0 hr0',hbd,show ¬d=b from λe=>hbd e.symm]
 .by_cases hbp:b<O p
  .have hpo:j2 p=B:=by
    cases h:j2 p
    .exact absurd ⟨hbp,h⟩ hstop
    .rfl
   have fx:=jA h2 hp2 hp2' h3 hp3 h4 hbp<|hpo;have c1:=lu gl p hs;refine cz ?_<|@fx;clear fx c1;refine qE [(.c (.s 3) 0 0,root)] (.one rfl) bp ⟨p,q,qB,⟨?_,λj r hj=>?_,λj r hj=>?_⟩,⟨hg,qA⟩,vH⟩
   .simp [ho1,hr0,wV (n:=.c (.s 3) 0 0) (m:=root) (f:=zH (Nm.under (.u 1 0 0)) [(.c (.s 3) 0 0,root)]) (p:=p) tE]
   .simp [ho2 j r hj,hr0]
   .simp [ho3 j r hj,hr0]
  .cases hpo:j2 p
   .skip
    have fx:=jA h2 hp2 hp2' h3 hp3 h4 hbp<|hpo;have c1:=lu gl p hs;have e1:=RU gl p hs;refine cz ?_<|@fx;clear fx c1 e1;rintro K hK z H2 ⟨rfl,hB⟩;obtain⟨hc1,hc2,hc3⟩:=hB.vj;refine⟨qB,?_⟩;refine cz ?_<|qz h2 hp2 hp2'<|hc1;have hbl2:O (dQ p)=O p:=by simp[dQ]
    refine qE [(.c (.s 2) 0 0,root)] (.one rfl) bp ⟨dQ p,q,by simp[hbl2],⟨?_,λj r hj=>?_,λj r hj=>?_⟩,⟨hg.bare,qA⟩,vH⟩
    .simp [hc1,hr0,wV (n:=.c (.s 2) 0 0) (m:=root) (f:=zH (Nm.under (.u 1 0 0)) [(.c (.s 2) 0 0,root)]) (p:=dQ p) tE]
    .simp [hc2 j r hj,hr0]
    .simp [hc3 j r hj,hr0]
   .skip
    have fx:=jA h2 hp2 hp2' h3 hp3 h4 hbp<|hpo;have c1:=lu gl p hs;refine cz ?_<|@fx;clear fx c1;refine qE [(.c (.s 3) 0 0,root)] (.one rfl) bp ⟨p,q,qB,⟨?_,λj r hj=>?_,λj r hj=>?_⟩,⟨hg,qA⟩,vH⟩
    .simp [ho1,hr0,wV (n:=.c (.s 3) 0 0) (m:=root) (f:=zH (Nm.under (.u 1 0 0)) [(.c (.s 3) 0 0,root)]) (p:=p) tE]
    .simp [ho2 j r hj,hr0]
    .simp [ho3 j r hj,hr0]
end Go.Proofs.YtjgpejikjhojcaaGreatDoor
end
