import Derived.Test.YtjgpejikjhojcaaGreatDoorD23
set_option linter.all false
set_option maxRecDepth 100000
set_option maxHeartbeats 4000000
open Option renaming some->Z
open Bool renaming true->B,false->M
open List renaming length->O

section
namespace Go.Proofs.YtjgpejikjhojcaaGreatDoor
open Go Go.Hm Go.Proofs Tryz
variable{A G G2:Prop}{b c:Nat}{p:qC}{s:qT}
abbrev ED:qV:=bB<|.q 10<|.q 11<|.l2 8 [11,10,5,4,3,2,1,0] (.l 9 [11,10,5,4,3,2,1,0]<|.l 12 [5,4,3,2,1,0]<|.q 13<|.l 14 [1,0]<|.l 15 []<|.q 16<|.l 17 []<|.done) 9 [11,10,7,6,5,4,3,2,1,0] (.l 8 [11,10,5,4,3,2,1,0]<|.l 12 [5,4,3,2,1,0]<|.q 13<|.l 14 [1,0]<|.l 15 []<|.q 16<|.l 17 []<|.done)
def S9(gl)(p:qC)(hs:jm p):qL prog gl 141 [jB p] (λr y H'=>y=.agg [.hs r 4 0 (O p)]/\uz H' r p):=by
 have hpl:=hs.len;refine qL.q9 func141 [.cell 2 34] ntmps141 λC w g root=>?_;have fx:=qW;refine qK ?_
 repeat((first|refine qP (id:=6) ED mixed ?_);refine zC ?_;refine qK ?_)
 clear fx;refine zK (λn st=>∃i:Nat,n=O p-i/\i<=O p/\st.tm 1=.pt (.s 1) 0/\st.hp (.s 1)=Z (.row 1 [[j6 p]])/\st.tm 2=.pt (.s 2) 0/\st.hp (.s 2)=Z (.row 1 [[.hs (.c (.s 2) 0 0) 4 0 0]])/\st.tm 3=.pt (.s 3) 0/\st.tm 4=iv i/\∃q:qC,q=p.take i/\O q=i/\st.hp (.s 3)=Z (.row 1 [[.hs (.c (.s 3) 0 0) 4 0 (O q)]])/\uz st.hp (.c (.s 3) 0 0) q) (O p) ?_ ?_
 .refine⟨0,qA,qA,qB,qB,qB,qB,qB,qB,[],rfl,rfl,qB,qB,qB,qB⟩
 rintro n st - - ⟨i,rfl,hi,h1,hp1,h2,hp2,h3,h4,q,hq,hql,hp3,⟨ht1,ht2,ht3⟩⟩;have fx:=ql h1 hp1<|h4;refine qK ?_
 repeat((first|refine qP (id:=6) ED mixed ?_);refine zC ?_;refine qK ?_)
 clear fx;refine yk yq (λht=>?_) (λhf=>?_)
 .have hlt:i<O p:=yJ;obtain⟨k,hk⟩:=gX hlt;obtain⟨hkp,hkb⟩:=hs.vu hk;clear ht
  all_goals have fx:=zy h1 hp1 h4 h3 hp3 ht1<|hk
  repeat'(first
   |refine wL ?_|refine bF ?_|refine aZ ?_|refine aY λK hK=>?_
   |((with_reducible refine uu hK ?_);clear hK K)
   |(with_reducible first|refine wK ?_|refine cD ?_|refine cO ?_|refine cC ?_|refine bE ?_|refine bU ?_|refine fC ?_|refine cE qf ?_)
   |refine cQ ?_
   |refine bG ?_
   |(with_reducible first|refine kh ?_|refine a6 (h:=?_)|refine eQ (h:=?_)|refine gL (h:=?_)|refine gN (h:=?_)|refine bh (T:=80) (h:=?_)|refine bH (T:=80) (h:=?_)|refine bh (T:=32) (h:=?_)|refine qEO (T:=32) (h:=?_)|refine ii (h:=?_)|refine cR (h:=?_))
   |((with_reducible refine dB 190 rfl ?_);refine w8 (hF:=GK _ k.params qA) (h:=?_))
   |(with_reducible refine wc (h:=?_))
   |refine bi (h1:=?_)|refine cS (h1:=?_)
   |(refine qP (id:=6) ED mixed λK hK=>?_)
   |((with_reducible refine bk hK ?_);clear hK K)
   |((with_reducible refine wh ?_);first|refine ij (h:=?_)|refine ng (h:=?_)|refine na (h:=?_)|refine nh (h:=?_))
   |((with_reducible refine wh ?_);refine nZ (h1:=λht=>?_) (h2:=λht=>?_))
   |refine gZ rfl ?_|refine mE ?_ ?_|refine mF ?_ ?_ ?_|(with_reducible refine aI ?_ ?_)|exact gF|refine gO (h2:=?_)
   |fail)
  all_goals try clear fx
  all_goals
   refine⟨O p-(i+1),qA,i+1,rfl,qA,zY,vY,jS,jV,jr,zr,q++[k],by rw[vd,hk,hq];rfl,by simp[hql],qB,⟨?_,?_,?_⟩⟩
   .simp [ht1,Dz]
   .intro j r hj;rcases dN j (O q)with hlj|hgj
    .rw [ua hlj]at hj;have hne:¬j=O q:=qA;simp[ht2 j r hj,hne]
    .rw [bn hgj]at hj
     obtain rfl:j=O q:=by
      have:=(gS hj).1;simp at this;omega
     simp at hj;subst hj;simp
   .intro j r hj;rcases dN j (O q)with hlj|hgj
    .rw [ua hlj]at hj;have hne:¬j=O q:=qA;simp[ht3 j r hj,hne]
    .rw [bn hgj]at hj
     obtain rfl:j=O q:=by
      have:=(gS hj).1;simp at this;omega
     simp at hj;subst hj;simp
 .have hge:i=O p:=by
   have:¬i<O p:=vP;omega
  have hqp:q=p:=by rw[hq,hge,kC]
  subst hqp;have fx:=zJ h1 h2 hp2 h3<|hp3;refine qK ?_
  repeat((first|refine qP (id:=6) ED mixed ?_);refine zC ?_;refine qK ?_)
  clear fx;refine qE [(.c (.s 3) 0 0,root)] (.one rfl) bp ⟨qB,⟨?_,λj r hj=>?_,λj r hj=>?_⟩⟩
  .simp [ht1,wV (n:=.c (.s 3) 0 0) (m:=root) (f:=zH zl [(.c (.s 3) 0 0,root)]) (p:=q) qB]
  .simp [ht2 j r hj]
  .simp [ht3 j r hj]
def xK(gl)(p:qC)(c b:Nat)(hs:jm p)(hh:ze p)(hc:c<O p):qL prog gl 220 [jB p,iv c,iv b] (λ_ z _=>z=bv (j8 p c b)):=by
 refine qL.q9 func220 [.tmp 6] ntmps220 λC w g root=>?_;refine qH ?_<|qW;refine zK (λn st=>∃j:Int,n=(j+1).toNat /\ -1<=j/\j<O p/\j8 p j b=j8 p c b/\st.tm 1=iv j/\st.tm 2=iv b/\st.tm 3=.pt (.s 3) 0/\st.hp (.s 3)=Z (.row 1 [[j6 p]])) (c+1) ?_ ?_
 .exact⟨c,qA,qA,qA,rfl,qB⟩
 rintro n st - - ⟨j,rfl,hj1,hj2,ho,h1,h2,h3,hp3⟩;refine qH ?_<|qz h1 h2 h3<|hp3;refine yk yq (λht=>?_) (λhf=>?_)
 .have hj0:(b:Int)<j:=yJ;obtain⟨j,rfl⟩:∃i:Nat,j=i:=⟨j.toNat,qA⟩;obtain⟨q,hq⟩:∃q,p[j]?=Z q:=⟨_,gE qA⟩;obtain⟨hq1,hq2,_⟩:=hh j q hq;refine qH ?_<|zJ h1 h2 h3 hp3<|hq;refine⟨(q.parent+1).toNat,qA,q.parent,rfl,hq1,qA,?_,by simp[h2,h3,hp3]⟩;rw[<- ho,eh hh qA hq hj0]
 .have hj:j<=b:=vP
  all_goals have fx:=aI h1<|h2
  repeat'(first|refine zf ?_|refine λ(K:St->Prop)hK=>?_)
  all_goals try clear fx
  rw[cF hj]at ho;refine qE [] .nil qD ?_;rw[<- ho]
  rfl
def Φ(gl)(p:qC)(b:Nat)(k:qY)(hk:p[b]?=Z k)(hs:lx k):qL prog gl 237 [jB p,iv b] (λr y H'=>y=.hs r 1 0 (O k.rd)/\H' r=Z (.row 1 (qh k.rd))):=Ξ gl p b k hk hs.body
def Il(gl)(p:qC)(b:Nat)(k:qY)(hk:p[b]?=Z k)(hs:lx k):qL prog gl 219 [jB p,iv b] (λr y H'=>y=.hs r 1 0 (O k.us)/\H' r=Z (.row 1 (qh k.us))):=by
 have l1:=k.OE;have l2:=k.Je;have l3:=k.rb 9;have l4:=k.rb 10;have t1:(k.rd++k.bd).take (O k.rd+O k.bd)=k.rd++k.bd:=jg qB;have t2:(k.rd++(k.bd++k.dc 9)).take (O k.rd+O k.bd+O (k.dc 9))=k.rd++(k.bd++k.dc 9):=jg qp;have hu:k.us=sorted (k.rd++(k.bd++(k.dc 9++k.dc 10))):=by simp[qY.us]
 rw[hu];refine qL.q9 func219 [.tmp 4] ntmps219 λC w g root=>?_
 all_goals have fx:=ql hk t1<|t2
 repeat'(first
  |refine wL ?_|refine aY λK hK=>?_
  |((with_reducible refine uu hK ?_);clear hK K)
  |(with_reducible first|refine wK ?_|refine fC ?_)
  |refine bG ?_
  |(with_reducible first|refine kh ?_|refine a6 (h:=?_)|refine eQ (h:=?_)|refine bH (T:=38) (h:=?_))
  |((with_reducible refine dB 237 rfl ?_);refine w8 (hF:=Φ _ p b k hk hs) (h:=?_))
  |((with_reducible refine dB 174 rfl ?_);refine w8 (hF:=Jw _ p b k hk hs) (h:=?_))
  |((with_reducible refine dB 81 rfl ?_);refine w8 (hF:=fZ _ p b k _ hk hs) (h:=?_))
  |((with_reducible refine dB 123 rfl ?_);refine w8 (hF:=pN _ (k.rd++(k.bd++(k.dc 9++k.dc 10))) qp) (h:=?_))
  |(refine qP (id:=1) (.q 0<|.q 1<|.q 3<|.q 4<|.q 7<|.q 8<|.q 11<|.q 12<|.l 2 [12,11,8,7,4,3]<|.l 5 [12,11,8,7]<|.l 6 [12,11,8,7]<|.l 9 [12,11]<|.l 10 [12,11]<|.l 13 []<|.l 14 []<|.l 15 []<|.l 16 []<|.done) mixed λK hK=>?_)
  |((with_reducible refine bk hK ?_);clear hK K)
  |((with_reducible refine wh ?_);first|refine ij (h:=?_))
  |refine gZ rfl ?_|(with_reducible refine aI ?_ ?_)|exact gF|refine gO (h2:=?_)
  |fail)
 all_goals try clear fx
 all_goals
  exact yg (t:=4) ji ji qB
theorem qDh(gl)(p:qC)(b:Int)(hs:jm p):qL prog gl 126 [jB p,iv b] (λ_ y _=>y=bv (kL p&&(decide (0<=b)&&decide (b<=(O p:Int)-1)))):=by
 have hpl:=hs.len;have w2:IntKind.i64.wrap ((O p:Int)-1)=O p-1:=qk qA qA;refine qL.q9 func126 [.tmp 4] ntmps126 λC w g root=>?_
 all_goals have fx:=w2
 repeat'(first|refine zf ?_|refine λ(K:St->Prop)hK=>?_|refine zL (hF:=Pf _ p hs) (h:=?_)|refine zL (hF:=cu _ _ _ _) (h:=?_)|(with_reducible refine yr (λht=>?_) (λht=>?_))|refine vr (h1:=λht=>?_) (h2:=λht=>?_))
 all_goals try clear fx
 all_goals refine qE [] .nil qD ?_
 all_goals simp_all
theorem qDm(gl)(p:qC)(b x:Int)(hs:jm p):qL prog gl 84 [jB p,iv b,iv x] (λ_ y _=>y=bv ((kL p&&(decide (0<=b)&&decide (b<=(O p:Int)-1)))&&(decide (0<=x)&&decide (x<=7)))):=by
 refine qL.q9 func84 [.tmp 6] ntmps84 λC w g root=>?_
 all_goals have fx:=qW
 repeat'(first|refine zf ?_|refine λ(K:St->Prop)hK=>?_|refine zL (hF:=qDh _ p b hs) (h:=?_)|refine zL (hF:=CB _ _) (h:=?_)|(with_reducible refine yr (λht=>?_) (λht=>?_))|refine vr (h1:=λht=>?_) (h2:=λht=>?_))
 all_goals try clear fx
 all_goals refine qE [] .nil qD ?_
 all_goals simp_all
 all_goals(intro h1 h2 h3;have:=ht h1 h2;omega)
abbrev YB:qV:=bA<|.q 7<|.l 6 [7]<|.q 8<|.done
abbrev YC:qV:=bA<|.l 6 []<|.l 7 []<|.done
def SN(h:b+1<=c):aj p b (c+1-(b+1))=aj p b (c-(b+1))++fX p b c:=by
 rw[show c+1-(b+1)=c-(b+1)+1 by omega,SO,show b+1+(c-(b+1))=c by omega]
def Tl(h:b<=c):wt p b (c+1-b)=wt p b (c-b)++ct p b c:=by
 rw[show c+1-b=c-b+1 by omega,Tm,show b+(c-b)=c by omega]
def mi(k:G2)(x:A)(h:A->jH G2->G:=by
 intro fx kk;refine qK ?_
 repeat((first|refine qP (id:=9) YB mixed ?_);refine zC ?_;refine qK ?_)
 exact kk.h):G:=h x ⟨k⟩
def xB(gl)(p:qC)(b:Nat)(k:qY)(hk:p[b]?=Z k)(hs:jm p)(hh:ze p)(hl7:O p<=7):qL prog gl 217 [jB p,iv b] (λr y H'=>y=.hs r 1 0 (O (qa p b))/\H' r=Z (.row 1 (qh (qa p b)))):=by
 obtain⟨qv,hbE⟩:=gS hk;have hka:jk p b=k.kind:=iF;have hw:IntKind.i64.wrap ((b:Int)+1)=((b+1:Nat):Int):=by rw[qk qA qA];rfl
 refine qL.q9 func217 [.tmp 4] ntmps217 λC w g root=>?_
 cases hkd:(k.kind==1)
 .have hc:qa p b=sorted []:=by
   have:¬k.kind=1:=lI;simp[qa,hka,this]
   rfl
  rw[hc];refine mi ?_<| hw;refine zK (λn st=>n=0/\st.tm 1=iv b/\st.tm 2=.pt (.s 2) 0/\st.hp (.s 2)=Z (.row 1 [[j6 p]])/\st.tm 6=iv ((b+1:Nat):Int)/\st.tm 5=.hs (.s 5) 1 0 0/\st.hp (.s 5)=Z (.row 1 [])) 0 ?_ ?_
  .exact⟨rfl,qB⟩
  rintro n st - - ⟨rfl,h1,h2,hp2,h6,h5,hp5⟩;generalize hc0:b+1=c at h6;by_cases hlt:c<O p
  .skip
   have fx:=jU h1 h2 hp2 h6 h5 hp5 hk hbE hkd hlt<|qv;have d1:=pN gl [] qB;refine mi ?_<|@fx;clear fx d1;exact yg (t:=4) ji ji qB
  .skip
   have fx:=jU h1 h2 hp2 h6 h5 hp5 hk hbE hkd hlt<|qv;have d1:=pN gl [] qB;refine mi ?_<|@fx;clear fx d1;exact yg (t:=4) ji ji qB
 have hc:qa p b=sorted (aj p b (O p-(b+1))):=by
  have:k.kind=1:=lI;simp[qa,hka,this]
 rw[hc];refine mi ?_<| hw;refine zK (λn st=>∃c:Nat,n=O p-c/\b+1<=c/\c<=O p/\st.tm 1=iv b/\st.tm 2=.pt (.s 2) 0/\st.hp (.s 2)=Z (.row 1 [[j6 p]])/\st.tm 6=iv c/\st.tm 5=.hs (.s 5) 1 0 (O (aj p b (c-(b+1))))/\st.hp (.s 5)=Z (.row 1 (qh (aj p b (c-(b+1)))))) (O p-(b+1)) ?_ ?_
 .exact⟨b+1,rfl,qA,qA,qB,qB,qB,qB,by simp[aj,cw],by simp[aj,cw]⟩
 rintro n st - - ⟨c,rfl,hc1,hc2,h1,h2,hp2,h6,h5,hp5⟩;have hcl:=L6 (p:=p) (b:=b) (n:=c);have hrl:=SM (p:=p) (b:=b) (n:=c-(b+1));by_cases hlt:c<O p
 .obtain⟨q,hq⟩:=gX hlt;have hul:=q.E9;have hnext:=SN (p:=p) hc1;have hat:fX p b c=q.us.filter (bQ p b c):=by simp[fX,hq]
  rw[hat]at hnext;generalize hR:aj p b (c-(b+1))=R at h5 hp5 hnext hrl;have fx:=jU h1 h2 hp2 h6 h5 hp5 hk hbE hkd hlt<|aI qv<|hq;have d1:=Il gl p c q hq (hs.vu hq);refine mi ?_<|@fx;clear fx d1;refine zK (λn st=>∃i:Nat,n=O q.us-i/\i<=O q.us/\st.tm 1=iv b/\st.tm 2=.pt (.s 2) 0/\st.hp (.s 2)=Z (.row 1 [[j6 p]])/\st.tm 6=iv c/\st.tm 7=.hs (.s 7) 1 0 (O q.us)/\st.hp (.s 7)=Z (.row 1 (qh q.us))/\st.tm 8=iv i/\st.tm 5=.hs (.s 5) 1 0 (O (R++(q.us.take i).filter (bQ p b c)))/\st.hp (.s 5)=Z (.row 1 (qh (R++(q.us.take i).filter (bQ p b c))))) (O q.us) ?_ ?_
  .exact⟨0,qA,qA,zY,jS,jV,vZ,qB,qB,qB,jh,kw⟩
  clear h1 h2 hp2 h6 h5 hp5;rintro n st - - ⟨i,rfl,hi,h1,h2,hp2,h6,h7,hp7,h8,h5,hp5⟩;have hfl:O ((q.us.take i).filter (bQ p b c))<=8:=LL (uV (List.length_take_le' _ _) hul);have hLl:O (R++(q.us.take i).filter (bQ p b c))<=1000:=qp;by_cases hil:i<O q.us
  .obtain⟨u,hu⟩:=gX hil;obtain⟨_,huE⟩:=gS hu;have hnx:R++(q.us.take (i+1)).filter (bQ p b c)=R++(q.us.take i).filter (bQ p b c)++(if bQ p b c u=B then[u]else[]):=by rw[lp hu,gm]
   generalize hL:R++(q.us.take i).filter (bQ p b c)=L at h5 hp5 hnx hLl
   cases ho:(zN p c u==(b:Int))
   .rw [if_neg (by simp only[bQ,ho];decide),mK]at hnx;have fx:=qg h1 h2 hp2 h6 h7 hp7 h8 h5 hp5 hq hu huE<|aI hil<|ho;have c1:=fw gl p c q u hq hs hh;refine mi ?_<|@fx;clear fx c1;exact⟨O q.us-(i+1),qA,i+1,rfl,qA,zY,jS,jV,vZ,bP,oQ,zr,by simp[hnx,h5],by simp[hnx,hp5]⟩
   .rw [if_pos (by simp only[bQ,ho])]at hnx;have fx:=qg h1 h2 hp2 h6 h7 hp7 h8 h5 hp5 hq hu huE<|ql hil ho<|hLl;have c1:=fw gl p c q u hq hs hh;refine mi ?_<|@fx;clear fx c1;refine⟨O q.us-(i+1),qA,i+1,rfl,qA,zY,jS,jV,vZ,bP,oQ,zr,by simp[hnx,h5],?_⟩;rw[hnx];simp[hp5,qh]
  .have hge:i=O q.us:=qA;rw[hge,kC,<- hnext]at h5 hp5;refine mi ?_<|jA h1 h2 hp2 h6 h7 hp7 h8<|hil;exact⟨O p-(c+1),qA,c+1,rfl,qA,qA,zY,jS,jV,Ag,jh,kw⟩
 .have hge:c=O p:=qA;subst hge;have fx:=jU h1 h2 hp2 h6 h5 hp5 hk hbE hkd hlt<|qv;have d1:=pN gl (aj p b (O p-(b+1))) qA;refine mi ?_<|@fx;clear fx d1;exact yg (t:=4) ji ji qB
def lX(k:G2)(x:A)(h:A->jH G2->G:=by
 intro fx kk;refine qK ?_
 repeat((first|refine qP (id:=9) YC mixed ?_);refine zC ?_;refine qK ?_)
 exact kk.h):G:=h x ⟨k⟩
def G7(gl)(p:qC)(b:Nat)(qv:b<O p)(hs:jm p)(hh:ze p)(hl7:O p<=7):qL prog gl 176 [jB p,iv b] (λr y H'=>y=.hs r 1 0 (O (za p b))/\H' r=Z (.row 1 (qh (za p b)))):=by
 have hc:za p b=sorted (wt p b (O p-b)):=rfl;rw[hc];refine qL.q9 func176 [.tmp 4] ntmps176 λC w g root=>?_;refine lX ?_<|qW;refine zK (λn st=>∃c:Nat,n=O p-c/\b<=c/\c<=O p/\st.tm 1=iv b/\st.tm 2=.pt (.s 2) 0/\st.hp (.s 2)=Z (.row 1 [[j6 p]])/\st.tm 6=iv c/\st.tm 5=.hs (.s 5) 1 0 (O (wt p b (c-b)))/\st.hp (.s 5)=Z (.row 1 (qh (wt p b (c-b))))) (O p-b) ?_ ?_
 .exact⟨b,rfl,qA,qA,qB,qB,qB,qB,by simp[wt,cw],by simp[wt,cw]⟩
 rintro n st - - ⟨c,rfl,hc1,hc2,h1,h2,hp2,h6,h5,hp5⟩;have hrl:=L6 (p:=p) (b:=b) (n:=c-b);by_cases hlt:c<O p
 .obtain⟨q,hq⟩:=gX hlt;have hul:=q.E9;have hnext:=Tl (p:=p) hc1
  cases hin:j8 p c b
  .have hat:ct p b c=[]:=by simp[ct,hq,hin]
   rw[hat,mK]at hnext;generalize hR:wt p b (c-b)=R at h5 hp5 hnext hrl;have fx:=jA h1 h2 hp2 h6 h5 hp5 hlt<|hq;have d1:=Il gl p c q hq (hs.vu hq);refine lX ?_<|@fx;clear fx d1;refine zK (λn st=>n=0/\st.tm 1=iv b/\st.tm 2=.pt (.s 2) 0/\st.hp (.s 2)=Z (.row 1 [[j6 p]])/\st.tm 6=iv c/\st.tm 7=.hs (.s 7) 1 0 (O q.us)/\st.hp (.s 7)=Z (.row 1 (qh q.us))/\st.tm 8=iv 0/\st.tm 5=.hs (.s 5) 1 0 (O R)/\st.hp (.s 5)=Z (.row 1 (qh R))) 0 ?_ ?_
   .exact⟨rfl,zY,jS,jV,vZ,qB,qB,qB,jh,kw⟩
   clear h1 h2 hp2 h6 h5 hp5;rintro n st - - ⟨rfl,h1,h2,hp2,h6,h7,hp7,h8,h5,hp5⟩;by_cases hu0:0<O q.us
   .skip
    have fx:=jU h1 h2 hp2 h6 h7 hp7 h8 h5 hp5 hq<|aI hu0<|hin;have c1:=xK gl p c b hs hh hlt;refine lX ?_<|@fx;clear fx c1;exact⟨O p-(c+1),qA,c+1,rfl,qA,qA,zY,jS,jV,Ag,An,Ci⟩
   .skip
    have fx:=jU h1 h2 hp2 h6 h7 hp7 h8 h5 hp5 hq<|aI hu0<|hin;have c1:=xK gl p c b hs hh hlt;refine lX ?_<|@fx;clear fx c1;exact⟨O p-(c+1),qA,c+1,rfl,qA,qA,zY,jS,jV,Ag,An,Ci⟩
  have hat:ct p b c=q.us.filter (wR p b c):=by simp[ct,hq,hin]
  rw[hat]at hnext;generalize hR:wt p b (c-b)=R at h5 hp5 hnext hrl;have fx:=jA h1 h2 hp2 h6 h5 hp5 hlt<|hq;have d1:=Il gl p c q hq (hs.vu hq);refine lX ?_<|@fx;clear fx d1;refine zK (λn st=>∃i:Nat,n=O q.us-i/\i<=O q.us/\st.tm 1=iv b/\st.tm 2=.pt (.s 2) 0/\st.hp (.s 2)=Z (.row 1 [[j6 p]])/\st.tm 6=iv c/\st.tm 7=.hs (.s 7) 1 0 (O q.us)/\st.hp (.s 7)=Z (.row 1 (qh q.us))/\st.tm 8=iv i/\st.tm 5=.hs (.s 5) 1 0 (O (R++(q.us.take i).filter (wR p b c)))/\st.hp (.s 5)=Z (.row 1 (qh (R++(q.us.take i).filter (wR p b c))))) (O q.us) ?_ ?_
  .exact⟨0,qA,qA,zY,jS,jV,vZ,qB,qB,qB,jh,kw⟩
  clear h1 h2 hp2 h6 h5 hp5;rintro n st - - ⟨i,rfl,hi,h1,h2,hp2,h6,h7,hp7,h8,h5,hp5⟩;have hfl:O ((q.us.take i).filter (wR p b c))<=8:=LL (uV (List.length_take_le' _ _) hul);have hLl:O (R++(q.us.take i).filter (wR p b c))<=1000:=qp;by_cases hil:i<O q.us
  .obtain⟨u,hu⟩:=gX hil;obtain⟨_,huE⟩:=gS hu;have hnx:R++(q.us.take (i+1)).filter (wR p b c)=R++(q.us.take i).filter (wR p b c)++(if wR p b c u=B then[u]else[]):=by rw[lp hu,gm]
   generalize hL:R++(q.us.take i).filter (wR p b c)=L at h5 hp5 hnx hLl;have no:wR p b c u=M->R++(q.us.take (i+1)).filter (wR p b c)=L:=λh=>by rw[hnx,h,if_neg qf,mK]
   cases ho:decide (0<zN p c u)
   .have hno:=no (by simp only[wR,ho];rfl);have fx:=qg h1 h2 hp2 h6 h7 hp7 h8 h5 hp5 hq hu huE<|ql hil hin<|ho;have c1:=xK gl p c b hs hh hlt;have c2:=fw gl p c q u hq hs hh;refine lX ?_<|@fx;clear fx c1 c2;exact⟨O q.us-(i+1),qA,i+1,rfl,qA,zY,jS,jV,vZ,bP,oQ,zr,by simp[hno,h5],by simp[hno,hp5]⟩
   cases ho2:decide (zN p c u<b)
   .have hno:=no (by simp only[wR,ho2];simp);have fx:=qg h1 h2 hp2 h6 h7 hp7 h8 h5 hp5 hq hu huE<|qz hil hin ho<|ho2;have c1:=xK gl p c b hs hh hlt;have c2:=fw gl p c q u hq hs hh;refine lX ?_<|@fx;clear fx c1 c2;exact⟨O q.us-(i+1),qA,i+1,rfl,qA,zY,jS,jV,vZ,bP,oQ,zr,by simp[hno,h5],by simp[hno,hp5]⟩
   .rw [if_pos (by simp only[wR,ho,ho2];rfl)]at hnx;have fx:=qg h1 h2 hp2 h6 h7 hp7 h8 h5 hp5 hq hu huE<|zJ hil hin ho ho2<|hLl;have c1:=xK gl p c b hs hh hlt;have c2:=fw gl p c q u hq hs hh;refine lX ?_<|@fx;clear fx c1 c2;refine⟨O q.us-(i+1),qA,i+1,rfl,qA,zY,jS,jV,vZ,bP,oQ,zr,by simp[hnx,h5],?_⟩;rw[hnx];simp[hp5,qh]
  .have hge:i=O q.us:=qA;rw[hge,kC,<- hnext]at h5 hp5;have fx:=y9 h1 h2 hp2 h6 h7 hp7 h8 hil<|hin;have c1:=xK gl p c b hs hh hlt;refine lX ?_<|@fx;clear fx c1;exact⟨O p-(c+1),qA,c+1,rfl,qA,qA,zY,jS,jV,Ag,jh,kw⟩
 .have hge:c=O p:=qA;subst hge;have fx:=zy h1 h2 hp2 h6 h5 hp5<|hlt;have d1:=pN gl (wt p b (O p-b)) qA;refine lX ?_<|@fx;clear fx d1;exact yg (t:=4) ji ji qB
structure bL(p:qC):Prop where
 bc:jm p
 sh:zw p
def bL.jK{p:qC}(h:bL p):ze p:=h.sh.jK
theorem bL.len{p:qC}(h:bL p):O p<=7:=h.sh.len.2
def LK(gl)(p:qC)(b:Nat)(k:qY)(hk:p[b]?=Z k)(hP:bL p):qL prog gl 216 [jB p,iv b] (λr y H'=>y=.hs r 1 0 (O (zB p b))/\H' r=Z (.row 1 (qh (zB p b)))):=by
 have hs:=hP.bc;have hh:=hP.jK;have hl7:=hP.len;obtain⟨qv,hbE⟩:=gS hk;have hka:jk p b=k.kind:=iF;have hcl:=da (p:=p) (b:=b);refine qL.q9 func216 [.tmp 4] ntmps216 λC w g root=>?_
 cases hkd:(k.kind==1)
 .have hc:zB p b=[]:=by
   have:¬k.kind=1:=lI;simp[zB,hka,this]
  rw[hc];have fx:=qW;have d1:=xB gl p b k hk hs hh hl7;refine qK ?_;clear fx d1;refine zK (λn st=>n=0/\st.tm 1=iv b/\st.tm 2=.pt (.s 2) 0/\st.hp (.s 2)=Z (.row 1 [[j6 p]])/\st.tm 7=iv 0/\st.tm 5=.hs (.s 5) 1 0 0/\st.hp (.s 5)=Z (.row 1 [])) 0 ?_ ?_
  .exact⟨rfl,qB⟩
  rintro n st - - ⟨rfl,h1,h2,hp2,h7,h5,hp5⟩;refine qH ?_<|ya h1 h2 hp2 h7 h5 hp5 hk hbE hkd<|qv;exact yg (t:=4) Cc Cc qB
 have hc:zB p b=jl (kz p b) 8:=by
  have:k.kind=1:=lI;simp[zB,hka,this]
 rw[hc];have fx:=qW;have d1:=xB gl p b k hk hs hh hl7;refine qK ?_;clear fx d1;refine zK (λn st=>∃x:Nat,n=8-x/\x<=8/\st.tm 1=iv b/\st.tm 2=.pt (.s 2) 0/\st.hp (.s 2)=Z (.row 1 [[j6 p]])/\st.tm 7=iv x/\st.tm 6=.hs (.s 6) 1 0 (O (qa p b))/\st.hp (.s 6)=Z (.row 1 (qh (qa p b)))/\st.tm 5=.hs (.s 5) 1 0 (O (jl (kz p b) x))/\st.hp (.s 5)=Z (.row 1 (qh (jl (kz p b) x)))) 8 ?_ ?_
 .exact⟨0,qA,qA,qB,qB,qB,qB,qB,qB,by simp[jl],by simp[jl]⟩
 rintro n st - - ⟨x,rfl,hx,h1,h2,hp2,h7,h6,hp6,h5,hp5⟩;have hll:=H5 (f:=kz p b) x;by_cases hlt:x<8
 .have hx7:(x:Int)<=7:=qA;have hfi:kz p b x=(uW b k x&&!decide ((x:Int)∈qa p b)):=by simp only[kz,hk]
  have hnext:jl (kz p b) (x+1)=if kz p b x=B then jl (kz p b) x++[(x:Int)]else jl (kz p b) x:=rfl
  generalize hL:jl (kz p b) x=L at h5 hp5 hnext hll
  cases hlo:uW b k x
  .rw [if_neg (by rw[hfi,hlo];simp)]at hnext
   all_goals have fx:=qg h1 h2 hp2 h7 h6 hp6 h5 hp5 hk hbE hkd qv<|aI hx7<|hlo
   repeat'(first|refine zf ?_|refine λ(K:St->Prop)hK=>?_|refine zL (hF:=BL _ p b k x hk (hs.vu hk)) (h:=?_))
   all_goals try clear fx
   exact⟨8-(x+1),qA,x+1,rfl,qA,zY,jS,jV,FM,vZ,dU,An,Ci⟩
  cases hce:decide ((x:Int)∈qa p b)
  rotate_left
  .rw [if_neg (by rw[hfi,hlo,hce];decide)]at hnext
   all_goals have fx:=qg h1 h2 hp2 h7 h6 hp6 h5 hp5 hk hbE hkd qv<|ql hx7 hlo<|hce
   repeat'(first|refine zf ?_|refine λ(K:St->Prop)hK=>?_|refine zL (hF:=BL _ p b k x hk (hs.vu hk)) (h:=?_)|refine zL (hF:=wT _ _ _ (uV da qf)) (h:=?_))
   all_goals try clear fx
   exact⟨8-(x+1),qA,x+1,rfl,qA,zY,jS,jV,FM,vZ,dU,An,Ci⟩
  .rw [if_pos (by rw[hfi,hlo,hce];rfl)]at hnext
   all_goals have fx:=qg h1 h2 hp2 h7 h6 hp6 h5 hp5 hk hbE hkd qv<|ql hx7 hlo<|hce
   repeat'(first
    |refine wL ?_|refine bF ?_|refine aZ ?_|refine aY λK hK=>?_
    |((with_reducible refine uu hK ?_);clear hK K)
    |(with_reducible first|refine wK ?_)
    |(with_reducible refine kh ?_)
    |((with_reducible refine lP ?_);refine lw (h:=?_))
    |(with_reducible first|refine lQ ?_|refine a6 (h:=?_)|refine bH (T:=38) (h:=?_)|refine cR (h:=?_))
    |((with_reducible refine dB 125 rfl ?_);refine zL (hF:=BL _ p b k x hk (hs.vu hk)) (h:=?_))
    |((with_reducible refine dB 82 rfl ?_);refine zL (hF:=wT _ _ _ (uV da qf)) (h:=?_))
    |(with_reducible refine wc (h:=?_))
    |refine bi (h1:=?_)
    |fail)
   all_goals try clear fx
   refine⟨8-(x+1),qA,x+1,rfl,qA,zY,jS,jV,FM,vZ,dU,An,?_⟩;rw[hnext];simp[hp5,qh]
 .have hge:x=8:=qA;subst hge;refine qH ?_<|ya h1 h2 hp2 h7 h5 hp5 hk hbE hkd<|qv;exact yg (t:=4) Cc Cc qB
def Kf(gl)(p:qC)(b:Nat)(k:qY)(x:Int)(hk:p[b]?=Z k)(hP:bL p):qL prog gl 177 [jB p,iv b,iv x] (λ_ y _=>y=iv (cn p b x)):=by
 have hs:=hP.bc;have hh:=hP.jK;have hl7:=hP.len;have qv:=(gS hk).1;have hcl:=da (p:=p) (b:=b);have hfl:=iL (p:=p) (b:=b);have hbd:=EB (xs:=za p b) (x:=x);have hw:IntKind.i64.wrap ((O (qa p b):Int)+yz (za p b) x)=O (qa p b)+yz (za p b) x:=qk qA qA;refine qL.q9 func177 [.tmp 6] ntmps177 λC w g root=>?_;by_cases hm:x∈qa p b
 .have h0:0<=yz (qa p b) x:=nD.2 hm
  all_goals have fx:=h0
  repeat'(first|refine zf ?_|refine λ(K:St->Prop)hK=>?_|refine w8 (hF:=xB _ p b k hk hs hh hl7) (h:=?_)|refine zL (hF:=pE _ (qa p b) _ qA) (h:=?_))
  all_goals try clear fx
  refine qE [] .nil qD ?_;simp[cn,hm]
 .have h0:¬0<=yz (qa p b) x:=λh=>hm (nD.1 h)
  all_goals have fx:=aI h0<|hw
  repeat'(first|refine zf ?_|refine λ(K:St->Prop)hK=>?_|refine w8 (hF:=xB _ p b k hk hs hh hl7) (h:=?_)|refine w8 (hF:=G7 _ p b qv hs hh hl7) (h:=?_)|refine zL (hF:=pE _ (qa p b) _ qA) (h:=?_)|refine zL (hF:=pE _ (za p b) _ qA) (h:=?_))
  all_goals try clear fx
  refine qE [] .nil qD ?_;simp[cn,hm]
def EX(gl)(p:qC)(b:Nat)(k:qY)(x:Int)(hk:p[b]?=Z k)(hP:bL p):qL prog gl 241 [jB p,iv b,iv x] (λ_ y _=>y=iv (jc p b x)):=by
 have hs:=hP.bc;have hh:=hP.jK;have hl7:=hP.len;obtain⟨qv,hbE⟩:=gS hk;have hka:jk p b=k.kind:=iF;refine qL.q9 func241 [.tmp 6] ntmps241 λC w g root=>?_
 cases ho:decide (zN p b x<0)
 rotate_left
 .skip
  have fx:=ho;have c1:=fw gl p b k x hk hs hh;refine qK ?_;clear fx c1;refine qE [] .nil qD ?_;have ho':zN p b x<0:=by simpa using ho
  simp[jc,ho']
 cases hb:(zN p b x==(b:Int))
 .skip
  have fx:=ql ho hb<|@zA;have c1:=fw gl p b k x hk hs hh;refine qK ?_;clear fx c1;refine qE [] .nil qD ?_;have ho':¬zN p b x<0:=by simpa using ho
  have hb':¬zN p b x=b:=by simpa using hb
  simp only[jc,if_neg ho',if_pos hb']
  rfl
 have hb':zN p b x=b:=by simpa using hb
 have hnl:¬zN p b x<0:=qA;have hnn:¬zN p b x≠b:=λh=>h hb'
 cases hkd:(k.kind==2)
 rotate_left
 .skip
  have fx:=zy ho hb @zA hk hbE qv<|hkd;have c1:=fw gl p b k x hk hs hh;refine qK ?_;clear fx c1;refine qE [] .nil qD ?_;have hkd':k.kind=2:=lI;simp only[jc,if_neg hnl,if_neg hnn,hka,if_pos hkd']
  rfl
 have hkd':¬k.kind=2:=lI
 cases hce:decide (x∈qa p b)
 all_goals
  all_goals have fx:=jA ho hb @zA hk hbE qv hkd<|hce
  repeat'(first|refine zf ?_|refine λ(K:St->Prop)hK=>?_|refine zL (hF:=fw _ p b k x hk hs hh) (h:=?_)|refine w8 (hF:=xB _ p b k hk hs hh hl7) (h:=?_)|refine zL (hF:=wT _ _ _ (uV da qf)) (h:=?_))
  all_goals try clear fx
  refine qE [] .nil qD ?_;simp at hce;simp only[jc,if_neg hnl,if_neg hnn,hka,if_neg hkd',hce]
  rfl
def HF(gl)(p:qC)(b:Nat)(k:qY)(x w:Int)(hk:p[b]?=Z k)(hP:bL p)(hw0:0<=w)(hw2:w<=2):qL prog gl 236 [jB p,iv b,iv x,iv w] (λ_ y _=>y=.agg [iv (yM p b x w).1,iv (yM p b x w).2]):=by
 have hw8:IntKind.i64.wrap (8+w)=8+w:=qk qA qA;have hw11:IntKind.i64.wrap (11+w)=11+w:=qk qA qA;have hw22:IntKind.i64.wrap (2+w)=2+w:=qk qA qA;have hw5:IntKind.i64.wrap (5+w)=5+w:=qk qA qA;refine qL.q9 func236 [.cell 8 207] ntmps236 λC w g root=>?_
 cases h0:(jc p b x==0)
 rotate_left
 .have h0':jc p b x=0:=by simpa using h0
  have fx:=aI h0<|hw8;have c1:=EX gl p b k x hk hP;refine qK ?_;clear fx c1;refine qE [] .nil qD ?_;simp[yM,h0']
 have h0':¬jc p b x=0:=by simpa using h0
 cases h2:(jc p b x==2)
 rotate_left
 .have h2':jc p b x=2:=lH;have fx:=ql h0 h2<|hw11;have c1:=EX gl p b k x hk hP;refine qK ?_;clear fx c1;refine qE [] .nil qD ?_;simp[yM,h2']
 have h2':¬jc p b x=2:=lH
 cases h4:(jc p b x==4)
 rotate_left
 .have h4':jc p b x=4:=by simpa using h4
  all_goals have fx:=qz h0 h2 h4<|hw22
  repeat'(first|refine zf ?_|refine λ(K:St->Prop)hK=>?_|refine zL (hF:=EX _ p b k x hk hP) (h:=?_)|refine w8 (hF:=LK _ p b k hk hP) (h:=?_)|refine zL (hF:=pE _ (zB p b) _ (uV rf qf)) (h:=?_))
  all_goals try clear fx
  refine qE [] .nil qD ?_;simp[yM,h4']
 have h4':¬jc p b x=4:=by simpa using h4
 have fx:=qz h0 h2 h4<|hw5;have c1:=EX gl p b k x hk hP;have c2:=Kf gl p b k x hk hP;refine qK ?_;clear fx c1 c2;refine qE [] .nil qD ?_;simp only[yM,if_neg h0',if_neg h2',if_neg h4']
 rfl
abbrev Hd:qV:=ba<|.l 7 [0]<|.l 8 [0]<|.l 9 []<|.l 10 []<|.done
def MI{k:Int}(h:0<=k/\k<=11):k=0\/k=1\/k=2\/k=3\/k=4\/k=5\/k=6\/k=7\/k=8\/k=9\/k=10\/k=11:=qA
abbrev dD(p:qC)(b:Nat)(s:qT)(i:Nat):List (Int×Int):=(0,0)::(s.reads.take i).map λx=>yM p b x 0
def N9{i:Nat}{u:Int}(h:s.reads[i]?=Z u):dD p b s (i+1)=dD p b s i++[yM p b u 0]:=by
 simp[dD,vd,h]
def PS:kj p b s=dD p b s (O s.reads)++(vg s++vq p b s):=by simp[kj,dD,kJ]
def qBv(gl)(p:qC)(b:Nat)(k:qY)(s:qT)(hk:p[b]?=Z k)(hP:bL p)(hkd:0<=s.kind/\s.kind<=11):qL prog gl 218 [jB p,iv b,s.av] (λr y H'=>y=.hs r 2 0 (O (kj p b s))/\H' r=Z (.row 2 (uF (kj p b s)))):=by
 have hrl:=s.lf;rw[PS];refine qL.q9 func218 [.tmp 6] ntmps218 λC w g root=>?_;have fx:=qW;have d1:=EF gl s;refine qK ?_
 repeat((first|refine qP (id:=6) Hd mixed ?_);refine zC ?_;refine qK ?_)
 clear fx d1;refine zK (λn st=>∃i:Nat,n=O s.reads-i/\i<=O s.reads/\st.tm 1=iv b/\st.tm 3=.pt (.s 3) 0/\st.hp (.s 3)=Z (.row 1 [[j6 p]])/\st.tm 5=.pt (.s 5) 0/\st.hp (.s 5)=Z (.row 4 [s.cells])/\st.tm 8=.hs (.s 8) 1 0 (O s.reads)/\st.hp (.s 8)=Z (.row 1 (qh s.reads))/\st.tm 9=iv i/\st.tm 7=.hs (.s 7) 2 0 (O (dD p b s i))/\st.hp (.s 7)=Z (.row 2 (uF (dD p b s i)))) (O s.reads) ?_ ?_
 .exact⟨0,qA,qA,qB,qB,qB,qB,qB,qB,qB,qB,qB,lJ⟩
 rintro n st - - ⟨i,rfl,hi,h1,h3,hp3,h5,hp5,h8,hp8,h9,h7,hp7⟩;have hll:O (dD p b s i)<=10:=qp;by_cases hil:i<O s.reads
 .obtain⟨u,hu⟩:=gX hil;obtain⟨_,huE⟩:=gS hu;have hnx:=N9 (p:=p) (b:=b) hu;generalize hL:dD p b s i=L at h7 hp7 hnx hll;have fx:=qg h1 h3 hp3 h5 hp5 h8 hp8 h9 h7 hp7 hu huE<|aI hil<|hll;have c1:=HF gl p b k u 0 hk hP qf qf;refine qK ?_
  repeat((first|refine qP (id:=6) Hd mixed ?_);refine zC ?_;refine qK ?_)
  clear fx c1;refine⟨O s.reads-(i+1),qA,i+1,rfl,qA,zY,jr,uo,jh,kw,by simp[h8],by simp[hp8],zr,by simp[hnx],?_⟩;rw[hnx];simp[B4]
 .have hge:i=O s.reads:=qA;rw[hge]at h7 hp7 hll;generalize hL:dD p b s (O s.reads)=L at h7 hp7 hll;have hw5:s.kind=5->IntKind.i64.wrap ((O s.reads:Int)-1)=(O s.reads:Int)-1:=λ_=>qk qA qA;obtain⟨kd,to,a,c⟩:=s;simp only at hkd hw5;rcases MI hkd with rfl|rfl|rfl|rfl|rfl|rfl|rfl|rfl|rfl|rfl|rfl|rfl
  all_goals
   have fx:=qg h1 h3 hp3 h5 hp5 h8 hp8 h9 h7 hp7 hil hge<|aI hll<|hw5;have c1:=HF gl p b k to 1 hk hP qf qf;have c2:=HF gl p b k to 2 hk hP qf qf;refine qK ?_
   repeat((first|refine qP (id:=6) Hd mixed ?_);refine zC ?_;refine qK ?_)
   clear fx c1 c2;refine yg (t:=6) ?_ ?_ ?_
   all_goals simp[vg,vq,B4,lA,jg,h7,hp7]
end Go.Proofs.YtjgpejikjhojcaaGreatDoor
end
