import Derived.Test.YtjgpejikjhojcaaGreatDoorD27
import Derived.Test.YtjgpejikjhojcaaGreatDoorD12
import Derived.Shelf.SlMaps.Clone
set_option linter.all false
set_option maxRecDepth 100000
set_option maxHeartbeats 4000000
open Option renaming some->Z,none->Y
open Bool renaming true->B,false->M
open List renaming length->O

section
namespace Go.Proofs.YtjgpejikjhojcaaGreatDoor
open Go Go.Hm Go.Proofs Tryz
variable{A G G2:Prop}{b i up:Nat}{f:Fn}{p:qC}{vs:List q8}{w:qM}{xs ys:List AV}
abbrev YR:qV:=wG<|.l 11 [5,4,1,0]<|.l 12 []<|.done
def Gb(gl)(v:q8):qL prog gl 62 [q8.av v] (λ_ y _=>y=iv (Hm.shown v)):=by
 refine qL.q9 func62 [.tmp 2] ntmps62 λC w g root=>?_;by_cases h1:v.1=1
 .skip
  refine qH ?_<| h1;refine qE [] .nil qD (by simp[Hm.shown,h1])
 by_cases h2:v.1=2
 .skip
  refine qH ?_<|aI h1<|h2;refine qE [] .nil qD (by simp[Hm.shown,h1,h2])
 by_cases h3:v.1=3
 .skip
  refine qH ?_<|ql h1 h2<|h3;refine qE [] .nil qD Ch
 .skip
  refine qH ?_<|ql h1 h2<|h3;refine qE [] .nil qD Ch
theorem lm(gl)(H:Nm->Option AO)(F:Nat)(p:qC)(W:qM)(e:Int)(hO:qd H F p W):
  qX prog gl 99 DM [.pt Mn 0,iv e] H (λ_ y H'=>y=bv M/\qd H' F p {W with en:=e}) qw:=by
 have hT:=hO.top;simp only[jE]at hT;refine qX.q9 func99 [.tmp 4] ntmps99 (λ_=>zF) λC w g root hroot=>?_;refine qH ?_<| hT;refine qE [] .nil qD ⟨qB,qd.fin ⟨by simp[hO.top,jE,hT],⟨by simp[hO.wH.top,hT],λj k hj hk=>by simp[hO.wH.sc j k hj hk,hT]⟩,rN,rT,hO.run.imp λl hl=>⟨hl.1,by simp[hl.2,hT]⟩,rO,λk g hg=>by simp[hO.bx k g hg,hT],rQ,λk c hc=>(hO.cls k c hc).imp λms hm=>⟨by simp[hm.1,hT],hm.2⟩,λi a ha=>by simp[hO.env i a ha,hT],λi hi=>(hO.yS i hi).imp λms hm=>⟨by simp[hm.1,hT],hm.2⟩,λk i j hk hn=>if e:k=1/\i=0/\j=0 then .inl e else hO.only k i j hk oN⟩⟩
def xQ(k:G2)(x:A)(h:A->jH G2->G:=by
 intro fx kk;refine qK ?_
 repeat((first|refine qP (id:=1) YR mixed ?_);refine zC ?_;refine qK ?_)
 exact kk.h):G:=h x ⟨k⟩
def Ga(gl)(H:Nm->Option AO)(F:Nat)(p:qC)(W:qM)(a x:Nat)(hP:zw p)(hw:zI p W)(ha:a<O W.qJ)(hx:x<8)(hO:qd H F p W):
  qX prog gl 146 DM [.pt Mn 0,uH a,iv x] H (λ_ y H'=>y=.zT [uH (aP (W.loc p a x)),iv (Hm.yw p (W.qG a) (zN p (W.qG a) x))]/\qd H' F p W) qw:=by
 have hh:=hP.jK;obtain⟨c,hc⟩:=gX ha;have qv:=hw.af a c hc;obtain⟨k,hk⟩:=gX qv;obtain⟨_,hkE⟩:=gS hk;have hbk:=wk hc;have hT:=hO.top;have hc1:=hO.wH.top;have hc2:=hO.wH.sc;have hE:=hO.env a c hc;simp only[jE]at hT;simp only[kF]at hE;have hsr:=Bo (n:=.c Mn 0 1) (len:=O p) (i:=O p) qv;rw[if_pos qv]at hsr;obtain⟨_,hsE⟩:=gS hsr;have hka:jk p c.qG=k.kind:=iF;refine qX.q9 func146 [.tmp 6,.tmp 7] ntmps146 (λ_=>zF) λC w g root hroot=>?_;rcases xX (x:=(x:Int)) hh hw ha with⟨h1,h2⟩|⟨o,i,d,ho,h1,h2,h3,hd,hdb,hins⟩
 .rw [hbk]at h1;have hl:Hm.yw p (W.qG a) (zN p (W.qG a) x)=4:=by rw[hbk,h1];simp[Hm.yw]
  rw[hl,h2];have fx:=zy hT hE hc1 hsr hsE qv<|h1;have c1:=eJ gl p hP c.qG k hk x hx;refine xQ ?_<|@fx;clear fx c1;refine qE [] .nil qD ⟨by simp[aP],qd.fin (have om:=hO;qd.re om)⟩
 .rw [hbk]at h1;have hon:((o:Int) == -1)=M:=kQ;have hol:o<O p:=by rw[<- hdb];exact hw.af i d hd
  rw[h2];by_cases hob:o=c.qG
  .have hai:i=a:=by rw[h3,xC hc hob.symm]
   have hsame:((c.qG:Int)==(c.qG:Int))=B:=qB;subst hob;by_cases hk2:k.kind=2
   .have hl:Hm.yw p (W.qG a) (zN p (W.qG a) x)=4:=by
     rw[hbk,h1];simp[Hm.yw,hka,hk2]
    rw[hl];have hkb:(k.kind==2)=B:=by simpa using hk2
    have hsc:=hc2 c.qG k qv hk;have fx:=jU hT hE hc1 hsr hsE qv h1 hon hsame hsc<|aI hkb<|@zA;have c1:=eJ gl p hP c.qG k hk x hx;refine xQ ?_<|@fx;clear fx c1;refine qE [] .nil qD ⟨by simp[aP,hai],qd.fin (have om:=hO;qd.re om)⟩
   .have hl:Hm.yw p (W.qG a) (zN p (W.qG a) x)=2:=by
     rw[hbk,h1];simp[Hm.yw,hka,hk2]
    rw[hl];have hkb:(k.kind==2)=M:=by simpa using hk2
    have hsc:=hc2 c.qG k qv hk;have fx:=jU hT hE hc1 hsr hsE qv h1 hon hsame hsc<|aI hkb<|@zA;have c1:=eJ gl p hP c.qG k hk x hx;refine xQ ?_<|@fx;clear fx c1;refine qE [] .nil qD ⟨by simp[aP,hai],qd.fin (have om:=hO;qd.re om)⟩
  .have hl:Hm.yw p (W.qG a) (zN p (W.qG a) x)=3:=by
    have e1:¬(o:Int)<0:=qA;have e2:¬(o:Int)=c.qG:=qA;rw[hbk,h1];simp[Hm.yw,e1,e2]
   rw[hl];have hne:((o:Int)==(c.qG:Int))=M:=kQ;obtain⟨u1,u2,u3⟩:=oh hh hw hc (λe=>hob e.symm) ho hins;have ha0:¬a=0:=qA;rw[if_neg ha0]at hE;have fx:=ya hT hE hc1 hsr hsE qv h1 hon hne<|@zA;have c1:=eJ gl p hP c.qG k hk x hx;refine xQ ?_<|@fx;clear fx c1;refine zK (λn st=>∃b:Nat,n=b/\b<O W.qJ/\ak W.qJ o b b=i/\j8 p (W.qG b) o=B/\st.tm 8=iv o/\st.tm 9=uH b/\qd st.hp F p W) c.up ?_ ?_
   .exact⟨c.up,rfl,qA,by rw[<- DO hh hw ho hc (λe=>hob e.symm) hins];exact h3.symm,u3,qB,qB,(have om:=hO;qd.re om)⟩
   clear hT hc1 hc2 hE hO;rintro n st - - ⟨b,rfl,hb,hcl,hib,t8,t9,hO⟩;obtain⟨e,he⟩:=gX hb;have hE:=hO.env n e he;simp only[kF]at hE;by_cases heb:e.qG=o
   .have hni:n=i:=by rw[<- hcl,xC he heb]
    subst hni;subst heb;have hsame:((e.qG:Int)==(e.qG:Int))=B:=qB;refine xQ ?_<|zJ t8 t9 hE hsame<|@zA;refine qE [] .nil qD ⟨by simp[aP],qd.fin (have om:=hO;qd.re om)⟩
   .obtain⟨e1,e2,e3⟩:=oh hh hw he heb ho hib;have hneb:((e.qG:Int)==(o:Int))=M:=kQ;have hn0:¬n=0:=qA;rw[if_neg hn0]at hE;refine xQ ?_<|zJ t8 t9 hE hneb<|@zA;refine⟨e.up,qA,e.up,rfl,qA,?_,e3,iD,qB,(have om:=hO;qd.re om)⟩;rw[<- hcl,DO hh hw ho he heb hib]
def σ(gl)(H:Nm->Option AO)(F:Nat)(p:qC)(W:qM)(a x:Nat)(hP:zw p)(hw:zI p W)(ha:a<O W.qJ)(hx:x<8)(h0:W.en=0)(hO:qd H F p W):
  qX prog gl 143 DM [.pt Mn 0,uH a,iv x] H (λ_ y H'=>y=.zT [q8.av (j9 p W a x).2,bv (decide ((j9 p W a x).1.en=0))]/\qd H' F p (j9 p W a x).1) qw:=by
 have hh:=hP.jK;have hx7:0<=(x:Int)/\(x:Int)<=7:=qA;obtain⟨hnm,hil⟩:=Dp (x:=(x:Int)) hh hw ha;have hT:=hO.top;simp only[jE]at hT;obtain⟨c,hc⟩:=gX ha;have hE:=hO.env a c hc;refine qX.q9 func143 [.cell 6 115,.tmp 7] ntmps143 (λ_=>zF) λC w g root hroot=>?_;refine qH ?_<|qW;intro K hK;have fx:=qW;refine km hO (have om:=hO;qd.re om) (qb _) (qb _) (hF:=λhs=>Ga _ _ F p W a x hP hw ha hx hs) (h:=?_);rintro y H1 ⟨rfl,hO1⟩;clear fx;have hT1:=hO1.top;simp only[jE]at hT1;obtain⟨o,ho⟩:∃o,zN p (W.qG a) x=o:=⟨_,rfl⟩;obtain⟨l,hl⟩:∃l,W.loc p a x=l:=⟨_,rfl⟩;rw[hl]at hnm hil ⊢;rw[ho];obtain⟨i,hi⟩:∃i,aP l=i:=⟨_,rfl⟩;rw[hi]at hnm hil ⊢;obtain⟨d,hd⟩:=gX hil;have hE1:=hO1.env i d hd;simp only[kF]at hE1;obtain⟨ms,hms,hmo⟩:=hO1.yS i hil;rw[hnm]at hmo;have hlk:=hmo.get' hx7
 cases hg:W.get l x with
 |some v=>
  rw[hg]at hlk;have hlw:j9 p W a x=(W,v):=by simp only[j9,hl,hg]
  refine qH ?_<|zx hT hE hT1 hE1 hms<|hlk;rw[hlw];refine qE [] .nil qD ⟨yL,qd.fin (have om:=hO1;qd.re om)⟩
 |none=>
  rw[hg]at hlk;by_cases h4:Hm.yw p (W.qG a) o=4
  .have h4b:(Hm.yw p (W.qG a) o==4)=B:=by simpa using h4
   obtain⟨a0,h00,hb0⟩:=hw.a0;have hl0:=(gS h00).1;have hE0:=hO1.env 0 a0 h00;simp only[kF]at hE0;obtain⟨mg,hmg,hgo⟩:=hO1.yS 0 hl0;have hgo':wN mg (W.vars Y):=by simpa[qM.yS,qM.vars]using hgo
   have hlg:=hgo'.get' hx7
   cases hg2:W.get Y x with
   |some v=>
    rw[hg2]at hlg;have hlw:j9 p W a x=(W,v):=by simp only[j9,hl,ho,hg,h4,if_true,hg2]
    refine qH ?_<|jU hT hE hT1 hE1 hms hlk h4b hE0 hmg hlg<|@zA;rw[hlw];refine qE [] .nil qD ⟨yL,qd.fin (have om:=hO1;qd.re om)⟩
   |none=>
    rw[hg2]at hlg;by_cases h7:x=7
    .subst h7;have hlw:j9 p W a ((7:Nat):Int)=(W,(1,70)):=by simp only[j9,hl,ho,hg,h4,if_true,hg2];simp
     have hlk7:lk (7:Int) ms=Y:=hlk;have hlg7:lk (7:Int) mg=Y:=hlg;refine qH ?_<|jU hT hE hT1 hE1 hms hlk7 h4b hE0 hmg hlg7<|@zA;rw[hlw];refine qE [] .nil qD ⟨yL,qd.fin (have om:=hO1;qd.re om)⟩
    .have h7i:¬(x:Int)=7:=qA;have h7b:((x:Int)==7)=M:=by simpa using h7i
     have hlw:j9 p W a x=({W with en:=4},(0,0)):=by
      simp only[j9,hl,ho,hg,h4,if_true,hg2,h7i,if_false]
     refine qH ?_<|jU hT hE hT1 hE1 hms hlk h4b hE0 hmg hlg<|aI h7b<|@zA;intro K hK;have fx:=aI hT (aI hE hT1);refine km hO (have om:=hO1;qd.re om) (qb _) (qb _) (hF:=λhs=>lm _ _ F p W 4 hs) (h:=?_);rintro y H2 ⟨rfl,hO2⟩;clear fx;have hT2:=hO2.top;simp only[jE]at hT2;refine qH ?_<|zJ hT hE hT1 hE1<|hT2;rw[hlw];refine qE [] .nil qD ⟨qB,qd.fin (have om:=hO2;qd.re om)⟩
  .have h4b:(Hm.yw p (W.qG a) o==4)=M:=by simpa using h4
   have hlw:j9 p W a x=({W with en:=Hm.yw p (W.qG a) o},(0,0)):=by simp only[j9,hl,ho,hg,h4,if_false]
   have hne:¬Hm.yw p (W.qG a) o=0:=BV;refine qH ?_<|jA hT hE hT1 hE1 hms hlk h4b<|@zA;intro K hK;have fx:=aI hT (aI hE hT1);refine km hO (have om:=hO1;qd.re om) (qb _) (qb _) (hF:=λhs=>lm _ _ F p W (Hm.yw p (W.qG a) o) hs) (h:=?_);rintro y H2 ⟨rfl,hO2⟩;clear fx;have hT2:=hO2.top;simp only[jE]at hT2;refine qH ?_<|zJ hT hE hT1 hE1<|hT2;rw[hlw];refine qE [] .nil qD ⟨by simp[hne],qd.fin (have om:=hO2;qd.re om)⟩
def Sq(gl)(H:Nm->Option AO)(F:Nat)(p:qC)(W:qM)(a x:Nat)(hP:zw p)(hw:zI p W)(ha:a<O W.qJ)(hx:x<8)(h0:W.en=0)(hO:qd H F p W):
  qX prog gl 144 DM [.pt Mn 0,uH a,iv x] H (λ_ y H'=>y=bv (decide ((bD p W a x).en=0))/\qd H' F p (bD p W a x)) qw:=by
 have hh:=hP.jK;have hx7:0<=(x:Int)/\(x:Int)<=7:=qA;obtain⟨hnm,hil⟩:=Dp (x:=(x:Int)) hh hw ha;have hT:=hO.top;simp only[jE]at hT;obtain⟨c,hc⟩:=gX ha;have hE:=hO.env a c hc;refine qX.q9 func144 [.tmp 6] ntmps144 (λ_=>zF) λC w g root hroot=>?_;refine qH ?_<|qW;intro K hK;have fx:=qW;refine km hO (have om:=hO;qd.re om) (qb _) (qb _) (hF:=λhs=>Ga _ _ F p W a x hP hw ha hx hs) (h:=?_);rintro y H1 ⟨rfl,hO1⟩;clear fx;have hT1:=hO1.top;simp only[jE]at hT1;obtain⟨o,ho⟩:∃o,zN p (W.qG a) x=o:=⟨_,rfl⟩;obtain⟨l,hl⟩:∃l,W.loc p a x=l:=⟨_,rfl⟩;have hnm0:=hnm;rw[hl]at hnm hil ⊢;rw[ho];obtain⟨i,hi⟩:∃i,aP l=i:=⟨_,rfl⟩;rw[hi]at hnm hil ⊢;obtain⟨d,hd⟩:=gX hil;have hE1:=hO1.env i d hd;simp only[kF]at hE1;obtain⟨ms,hms,hmo⟩:=hO1.yS i hil;rw[hnm]at hmo;have hlk:=hmo.get' hx7
 cases hg:W.get l x with
 |none=>
  rw[hg]at hlk
  have hlw:bD p W a x={W with en:=Hm.yw p (W.qG a) o}:=by
   unfold bD;rw[hl,hg,ho]
  have hne:¬Hm.yw p (W.qG a) o=0:=BV;refine qH ?_<|zy hT hE hT1 hE1 hms hlk<|@zA;intro K hK;have fx:=aI hT (aI hE hT1);refine km hO (have om:=hO1;qd.re om) (qb _) (qb _) (hF:=λhs=>lm _ _ F p W (Hm.yw p (W.qG a) o) hs) (h:=?_);rintro y H2 ⟨rfl,hO2⟩;clear fx;have hT2:=hO2.top;simp only[jE]at hT2;refine qH ?_<|zJ hT hE hT1 hE1<|hT2;rw[hlw];refine qE [] .nil qD ⟨by simp[hne],qd.fin (have om:=hO2;qd.re om)⟩
 |some v=>
  rw[hg]at hlk
  have hlw:bD p W a x=W.set l x Y:=by
   unfold bD;rw[hl,hg]
  refine qH ?_<|zy hT hE hT1 hE1 hms hlk<|@zA;intro K hK;refine uM (λst=>st.tm 35=.mp (.c (En i) 0 1)/\st.tm 36=iv x/\st.hp (.c (En i) 0 1)=Z (.map (ud ms))/\qd st.hp F p W) ⟨by simp[hT,hE],qB,by simp[hms],(have om:=hO1;qd.re om)⟩ ?_;rintro st ⟨t35,t36,hms',hO2⟩;have fx:=aI t35 (aI t36 hms');refine qES (h:=?_);clear fx;refine qH ?_<| hT;rw[hlw];refine qE [] .nil qD ⟨by rw[pL.2.2.2.2.2.2];simp[h0],qd.fin (HT hh hw ha hx hl hnm0 hO2 (hmo.del hx7) λm hm=>?_)⟩;rw[hi];simp
abbrev YS:qV:=xp<|.l 13 [12,11,10,9,8,7,6,5,4,3,2,1,0]<|.l 14 [12]<|.l 15 []<|.done
def qDQ{v:Int}(hv:0<=v):∃k:Nat,v.tmod 1000=k/\k<1000:=by
 have h1:=AY 1000 hv;have h2:=AZ v (show(0:Int)<1000 by omega);exact⟨(v.tmod 1000).toNat,qA,qA⟩
def Qs(gl)(H:Nm->Option AO)(F:Nat)(p:qC)(W:qM)(u v:q8)(h0:W.en=0)(hu:zh (O W.qI) (O W.qU) u)(hv:zh (O W.qI) (O W.qU) v)(hO:qd H F p W):
  qX prog gl 191 DM [.pt Mn 0,q8.av u,q8.av v] H (λ_ y H'=>y=.zT [q8.av (uf W u v).2,bv (decide ((uf W u v).1.en=0))]/\qd H' F p (uf W u v).1) qw:=by
 have hT:=hO.top;simp only[jE]at hT;obtain⟨u1,u2⟩:=u;obtain⟨v1,v2⟩:=v;have hu2:=hu.num;have hv2:=hv.num;simp only at hu2 hv2;have hwr:IntKind.i64.wrap (u2+v2)=u2+v2:=qk qA qA;obtain⟨q,hq,hql⟩:=qDQ (v:=u2+v2) qA;have hwq:IntKind.i64.wrap (q:Int)=q:=qk qA qA;refine qX.q9 func191 [.cell 6 115,.tmp 7] ntmps191 (λ_=>zF) λC w g root hroot=>?_;by_cases h1:u1=1
 .by_cases h2:v1=1
  .subst h1;subst h2;have hlw:uf W (1,u2) (1,v2)=(W,(1,(q:Int))):=by simp[uf,hq]
   refine qH ?_<|zJ hT hwr hq hwq<|@zA;rw[hlw];refine qE [] .nil qD ⟨yL,qd.fin (have om:=hO;qd.re om)⟩
  .subst h1;have hb2:(v1==1)=M:=lH;have hlw:uf W (1,u2) (v1,v2)=({W with en:=5},(0,0)):=by simp[uf,h2]
   refine qH ?_<|ql hT hb2<|@zA;intro K hK;have fx:=hT;refine km hO (have om:=hO;qd.re om) (qb _) (qb _) (hF:=λhs=>lm _ _ F p W 5 hs) (h:=?_);rintro y H2 ⟨rfl,hO2⟩;clear fx;have hT2:=hO2.top;simp only[jE]at hT2;refine qH ?_<|aI hT<|hT2;rw[hlw];refine qE [] .nil qD ⟨qB,qd.fin (have om:=hO2;qd.re om)⟩
 .have hb1:(u1==1)=M:=Aj;have hlw:uf W (u1,u2) (v1,v2)=({W with en:=5},(0,0)):=by simp[uf,h1]
  refine qH ?_<|ql hT hb1<|@zA;intro K hK;have fx:=hT;refine km hO (have om:=hO;qd.re om) (qb _) (qb _) (hF:=λhs=>lm _ _ F p W 5 hs) (h:=?_);rintro y H2 ⟨rfl,hO2⟩;clear fx;have hT2:=hO2.top;simp only[jE]at hT2;refine qH ?_<|aI hT<|hT2;rw[hlw];refine qE [] .nil qD ⟨qB,qd.fin (have om:=hO2;qd.re om)⟩
def BQ(k:G2)(x:A)(h:A->jH G2->G:=by
 intro fx kk;refine qK ?_
 repeat((first|refine qP (id:=3) YS mixed ?_);refine zC ?_;refine qK ?_)
 exact kk.h):G:=h x ⟨k⟩
def RQ(gl)(H:Nm->Option AO)(F:Nat)(p:qC)(W:qM)(v:q8)(x:Nat)(h0:W.en=0)(hw:zI p W)(hv:zh (O W.qI) (O W.qU) v)(hx:x<8)(hO:qd H F p W):
  qX prog gl 195 DM [.pt Mn 0,q8.av v,iv x] H (λ_ y H'=>y=.zT [q8.av (kO W v x).2,bv (decide ((kO W v x).1.en=0))]/\qd H' F p (kO W v x).1) qw:=by
 have hT:=hO.top;simp only[jE]at hT;obtain⟨v1,v2⟩:=v;refine qX.q9 func195 [.cell 6 115,.tmp 7] ntmps195 (λ_=>zF) λC w g root hroot=>?_;by_cases h1:v1=3
 .subst h1;have hv2:=hv.num;have hv3:=hv.cls rfl;simp only at hv2 hv3;obtain⟨i,rfl⟩:∃i:Nat,v2=i:=⟨v2.toNat,qA⟩;have hil:i<O W.qU:=qA;obtain⟨c,hc⟩:=gX hil;have hC:=hO.jG;obtain⟨ms,hms,hmo⟩:=hO.cls i c hc;have hcl:=(hw.cls c (gM hc)).1;obtain⟨s,hs⟩:∃s,c[x]?=Z s:=⟨_,gE qA⟩
  have hlk:lk (x:Int) ms=s:=by
   rw[hmo.at qA];simp[hs]
  cases s with
  |some u=>
   have hlw:kO W (3,(i:Int)) x=(W,u):=Cr;refine BQ ?_<|zx hT hC hms hil hlk<|@zA;rw[hlw];refine qE [] .nil qD ⟨yL,qd.fin (have om:=hO;qd.re om)⟩
  |none=>
   have hlw:kO W (3,(i:Int)) x=({W with en:=7},(0,0)):=Cr;refine BQ ?_<|zx hT hC hms hil hlk<|@zA;intro K hK;have fx:=hT;refine km hO (have om:=hO;qd.re om) (qb _) (qb _) (hF:=λhs=>lm _ _ F p W 7 hs) (h:=?_);rintro y H2 ⟨rfl,hO2⟩;clear fx;have hT2:=hO2.top;simp only[jE]at hT2;refine BQ ?_<|aI hT<|hT2;rw[hlw];refine qE [] .nil qD ⟨qB,qd.fin (have om:=hO2;qd.re om)⟩
 .have hb1:(v1==3)=M:=Aj;have hlw:kO W (v1,v2) x=({W with en:=5},(0,0)):=by simp[kO,h1]
  refine BQ ?_<|ql hT hb1<|@zA;intro K hK;have fx:=hT;refine km hO (have om:=hO;qd.re om) (qb _) (qb _) (hF:=λhs=>lm _ _ F p W 5 hs) (h:=?_);rintro y H2 ⟨rfl,hO2⟩;clear fx;have hT2:=hO2.top;simp only[jE]at hT2;refine BQ ?_<|aI hT<|hT2;rw[hlw];refine qE [] .nil qD ⟨qB,qd.fin (have om:=hO2;qd.re om)⟩
def ι(gl)(H:Nm->Option AO)(F:Nat)(p:qC)(W:qM)(a:Nat)(s:qT)(hP:zw p)(hw:zI p W)(ha:a<O W.qJ)(h0:W.en=0)(hkd:0<=s.kind/\s.kind<=11)(hrd:∀x∈s.reads,0<=x/\x<=7)(hO:qd H F p W):
  qX prog gl 100 DM [.pt Mn 0,uH a,s.av] H (λr y H'=>qd H' F p (z7 p W a s.reads).1/\(((z7 p W a s.reads).1.en=0/\y=.zT [.hs r 2 0 (O (z7 p W a s.reads).2),bv B]/\H' r=Z (.row 2 (zm (z7 p W a s.reads).2)))\/((z7 p W a s.reads).1.en≠0/\y=.zT [.hs r 2 0 0,bv M]))) qw:=by
 have hT:=hO.top;simp only[jE]at hT;obtain⟨c,hc⟩:=gX ha;have hE:=hO.env a c hc;have hrl:=qT.lf s;refine qX.q9 func100 [.tmp 6,.tmp 7] ntmps100 (λ_=>zF) λC w g root hroot=>?_;have hr0:=hroot root (Nm.uQ _);have fx:=qW;have c1:=cq gl s;refine qK ?_;clear fx c1;intro K hK;have fx:=qW;refine Iu (hF:=Hy _ qc s hkd) (h:=?_);clear fx;refine qH ?_<|qW;refine zK (λn st=>∃(i:Nat)(V:qM)(vs:List q8),n=O s.reads-i/\i<=O s.reads/\O vs=i/\z7 p W a s.reads=((z7 p V a (s.reads.drop i)).1,vs++(z7 p V a (s.reads.drop i)).2)/\zI p V/\V.en=0/\a<O V.qJ/\O W.qJ<=O V.qJ/\O W.qI<=O V.qI/\st.tm 0=.pt Mn 0/\st.tm 1=uH a/\st.tm 15=.hs (.s 15) 1 0 (O s.reads)/\st.hp (.s 15)=Z (.row 1 (qh s.reads))/\st.tm 16=iv (O s.reads)/\st.tm 17=iv i/\st.tm 8=.hs (.s 8) 2 0 (O vs)/\st.hp (.s 8)=Z (.row 2 (zm vs))/\qd st.hp F p V) (O s.reads) ?_ ?_
 .exact⟨0,W,[],qA,qA,rfl,qB,hw,h0,ha,qb _,qb _,qB,qB,qB,qB,qB,qB,qB,qB,(have om:=hO;qd.re om)⟩
 rintro n st - - ⟨i,V,vs,rfl,hi,hvl,hres,hV,hen,haV,hl1,hl2,t0,t1,t15,hp15,t16,t17,t8,hp8,hO1⟩;have hT1:=hO1.top;simp only[jE]at hT1;obtain⟨d,hd⟩:=gX haV;have hE1:=hO1.env a d hd;by_cases hil:i<O s.reads
 .obtain⟨x,hx⟩:=gX hil;obtain⟨_,hxE⟩:=gS hx;obtain⟨hx0,hx7⟩:=hrd x (gM hx);obtain⟨X,rfl⟩:∃X:Nat,x=X:=⟨x.toNat,qA⟩;have hdr:s.reads.drop i=(X:Int)::s.reads.drop (i+1):=by rw[iz hil,hxE]
  have hstep:z7 p V a (s.reads.drop i)=((z7 p (j9 p V a X).1 a (s.reads.drop (i+1))).1,(j9 p V a X).2::(z7 p (j9 p V a X).1 a (s.reads.drop (i+1))).2):=by
   rw[hdr];simp only[z7];rw[if_neg (by rw[hen];decide)]
  obtain⟨hA,_,_⟩:=Dn (a:=a) (x:=(X:Int)) hV;have hl3:O vs<=2:=qA;have hrf:=σ gl (F:=F) (p:=p) (W:=V) (a:=a) (x:=X);generalize hq:j9 p V a X=q at hstep hA hrf;obtain⟨V',v⟩:=q;simp only at hstep hA hrf;refine qH ?_<|jU t0 t1 t15 hp15 t16 t17 t8 hp8 hil hx<|hxE;intro K hK;have fx:=aI t0 (aI t1 hT1);refine km hO (have om:=hO1;qd.re om) hl1 hl2 (hF:=λhs=>hrf _ hP hV haV qA hen hs) (h:=?_);rintro y H2 ⟨rfl,hO2⟩;clear fx;have hT2:=hO2.top;simp only[jE]at hT2;by_cases hen2:V'.en=0
  .obtain⟨v1,v2⟩:=v;refine qH ?_<|qg t0 t1 t15 hp15 t16 t17 t8 hp8 hT1 hE1 hT2 hen2<|hl3;refine⟨O s.reads-(i+1),qA,i+1,V',vs++[(v1,v2)],rfl,qA,by simp[hvl],?_,hA.ok,hen2,um haV hA.grow.aq,uV hl1 hA.grow.aq,uV hl2 hA.grow.Dl,by simp[t0,hT1],by simp[t1,hE1],by simp[t15],by simp[hp15],by simp[t16],by simp[t17];exact qk qA qA,qB,oO,⟨by simp[hO2.top,jE,hen2],⟨by simp[hO2.wH.top,hen2],λj k hj hk=>by simp[hO2.wH.sc j k hj hk,hen2]⟩,by simp[hO2.out,hen2],by simp[hO2.zt,hen2],hO2.run.imp λl hl=>⟨hl.1,by simp[hl.2,hen2]⟩,by simp[hO2.qI,hen2],λk g hg=>by simp[hO2.bx k g hg,hen2],by simp[hO2.jG,hen2],λk c hc=>(hO2.cls k c hc).imp λms hm=>⟨DB,hm.2⟩,λi a ha=>by simp[hO2.env i a ha,hen2],λi hi=>(hO2.yS i hi).imp λms hm=>⟨DB,hm.2⟩,λk i j hk hn=>if e:k=1/\i=0/\j=0 then .inl e else hO2.only k i j hk oN⟩⟩;rw[hres,hstep];simp
  .have hend:(z7 p W a s.reads).1=V':=by
    rw[hres,hstep]
    cases hl:s.reads.drop (i+1)with
    |nil=>rfl
    |cons y l=>simp only[z7];rw[if_pos hen2]
   obtain⟨v1,v2⟩:=v;refine qH ?_<|qg t0 t1 t15 hp15 t16 t17 t8 hp8 hT1 hE1 hT2 hen2<|hl3;refine qE [(.s 6,root)] (.one rfl) qD ⟨by rw[hend];exact qd.fin (have om:=hO2;qd.re om),.inr ⟨by rw[hend];exact hen2,qB⟩⟩
 .have hge:i=O s.reads:=qA
  have hend:z7 p W a s.reads=(V,vs):=by
   rw[hres,hge];simp[z7]
  rw[hend];refine qH ?_<|y9 t0 t1 t15 hp15 t16 t17 t8 hp8<|hil;refine qE [(.s 6,root)] (.one rfl) qD ⟨qd.fin (have om:=hO1;qd.re om),.inl ⟨hen,qB,by simp[hp8,hr0]⟩⟩
abbrev Hj:qV:=gA<|.l 14 []<|.done
def mC(gl:Nat->Option (List AV))(F:Nat)(p:qC)(n:Nat):Prop:=∀(H:Nm->Option AO)(W:qM)(a:Nat),qd H F p W->zI p W->W.left<n->a<O W.qJ->W.en=0->H (.u 2 0 0)=Y ->
 qX prog gl 61 DM [.pt Mn 0,uH a] H (λ_ y H'=>y=.zT [q8.av (qm p n W a).2,bv (decide ((qm p n W a).1.en=0))]/\qd H' F p (qm p n W a).1) qw
def Kz(gl)(F:Nat)(p:qC)(n:Nat)(hR:mC gl F p n)(H:Nm->Option AO)(W:qM)(b up:Nat)(vs:List q8)(hP:zi p)(hw:zI p W)(hn:W.left<n)(h0:W.en=0)(hm:kH p W.qJ b up)(hv:∀v∈vs,zh (O W.qI) (O W.qU) v)(hr:Room 1 W)
  (hO:qd H F p {ja p W b up vs with stack:=W.stack})(hV:H (.u 2 0 0)=Y):
  qX prog gl 230 DM [.pt Mn 0,uH (O W.qJ)] H (λ_ y H'=>y=.zT [q8.av (jj p (qm p n) W b up vs).2,bv (decide ((jj p (qm p n) W b up vs).1.en=0))]/\qd H' F p (jj p (qm p n) W b up vs).1) qw:=by
 have hT:=hO.top;obtain⟨sl,hslb,hS⟩:=hO.run;simp only[jE]at hT;obtain⟨hok,hgr⟩:=sm hw hm hv hr;have hl2:=hr.jw;have hsl:O W.stack<=1000:=qA;have hlen:O W.qJ<O (ja p W b up vs).qJ:=tB;obtain⟨c,hc⟩:=gX hlen;have hE:=hO.env (O W.qJ) c hc;have hap:zd W.stack++[[uH (O W.qJ)]]=zd (W.stack++[O W.qJ]):=TF;have hst:(ja p W b up vs).stack=W.stack++[O W.qJ]:=rfl;refine qX.q9 func230 [.cell 4 115,.tmp 5] ntmps230 (λ_=>zF) λC w g root hroot=>?_;have fx:=ql hT hS<|hsl;refine qK ?_
 repeat((first|refine qP (id:=4) Hj mixed ?_);refine zC ?_;refine qK ?_)
 clear fx;intro K hK;have fx:=aI hT hE;have hBo:∀hp:Nm->Option AO,qd hp F p (ja p W b up vs)->qd hp F p (ja p W b up vs):=λ_ h=>h;refine km hO (w:=ja p W b up vs) ⟨by simp[jE,hT,hst],⟨te,λj k hj hk=>tA⟩,rP,tq,⟨[],qB,by simp[hst,<- hap]⟩,tJ,λk g hg=>by simp[hO.bx k g hg],A5,λk c hc=>(hO.cls k c hc).imp λms hm=>⟨dX,hm.2⟩,λi a ha=>by simp[hO.env i a ha],λi hi=>(hO.yS i hi).imp λms hm=>⟨dX,hm.2⟩,λk i j hk hn=>if e:k=1/\i=0/\j=0 then .inl e else hO.only k i j hk oN⟩ (qb _) (qb _) (hF:=λhs=>hR _ (ja p W b up vs) (O W.qJ) hs hok hn hlen h0 qB) (h:=?_);rintro y H1 ⟨rfl,hO1⟩;clear fx;obtain⟨hAf,hvok⟩:=fz hP.sh n (ja p W b up vs) (O W.qJ) hok hn hlen h0;have hent:jj p (qm p n) W b up vs=(cA (qm p n (ja p W b up vs) (O W.qJ)).1,(qm p n (ja p W b up vs) (O W.qJ)).2):=rfl;generalize qm p n (ja p W b up vs) (O W.qJ)=q at hO1 hAf hvok hent;obtain⟨V,v1,v2⟩:=q;simp only at hO1 hAf hvok hent;have hT1:=hO1.top;obtain⟨sl1,hslb1,hS1⟩:=hO1.run;simp only[jE]at hT1;by_cases hen:V.en=0
 .have hstk:V.stack=W.stack++[O W.qJ]:=hAf.jw hen;have hsl1:O V.stack=O W.stack+1:=by rw[hstk];simp
  have hwr:IntKind.i64.wrap (O W.stack:Int)=O W.stack:=qk qA qA
  have hend:cA V={V with stack:=W.stack}:=by
   unfold cA;rw[if_pos hen,hstk];simp
  have hslb2:∀i∈O W.qJ::sl1,i<O V.qJ:=by
   intro i hi;have:=hAf.grow.aq;rcases vV.1 hi with e|e
   .omega
   .exact hslb1 i e
  have hle1:(O W.stack:Int)<=(O W.stack:Int)+1:=qA;have hle0:(0:Int)<=(O W.stack:Int):=qA;rw[hend]at hent;rw[hsl1]at hT1;have fx:=jA hT hE hT1 hS1 hen hwr hle1<|hle0;refine qK ?_
  repeat((first|refine qP (id:=4) Hj mixed ?_);refine zC ?_;refine qK ?_)
  clear fx;rw[hent];refine qE [] .nil qD ⟨by simp[hen],qd.fin ⟨by simp[jE,hen],⟨by simp[hO1.wH.top],λj k hj hk=>by simp[hO1.wH.sc j k hj hk]⟩,by simp[hO1.out],Ad,⟨O W.qJ::sl1,hslb2,by simp[hS1,hstk]⟩,DC,λk g hg=>by simp[hO1.bx k g hg],Ak,λk c hc=>(hO1.cls k c hc).imp λms hm=>⟨dX,hm.2⟩,λi a ha=>by simp[hO1.env i a ha],λi hi=>(hO1.yS i hi).imp λms hm=>⟨dX,hm.2⟩,λk i j hk hn=>if e:k=1/\i=0/\j=0 then .inl e else hO1.only k i j hk oN⟩⟩
 .have hend:cA V=V:=by
   unfold cA;rw[if_neg hen]
  rw[hend]at hent;have fx:=qz hT hE hT1<|hen;refine qK ?_
  repeat((first|refine qP (id:=4) Hj mixed ?_);refine zC ?_;refine qK ?_)
  clear fx;rw[hent];refine qE [] .nil qD ⟨by simp[hen],qd.fin (have om:=hO1;qd.re om)⟩
abbrev Np:qV:=eG<|.l 9 [8,7,6,5,4,3,2,1,0]<|.l 10 []<|.done
abbrev Nq:qV:=eG<|.l 9 [4,3,2,1,0]<|.l 10 [0]<|.q 11<|.q 12<|.l 13 []<|.done
@[simp]theorem cells_fn:(AV.fn f xs ys).cells=Z [.fn f xs ys]:=rfl
@[simp]theorem one_fnav:(AV.fn f xs ys).one=B:=rfl
@[simp]theorem one_nfn:(AV.sc .nilFunc).one=B:=rfl
@[simp]theorem fn_tsz:qi prog 311=1:=qc
@[simp]theorem fn_agg:jR prog 311=Z M:=qc
def SX{F:Nat}{l:List (Nat×Nat)}{g:List AV->List AV}(h:∀(i:Nat)c,l[i]?=Z c->g (iH F p i c)=iH F p i c):(aK F p l).map g=aK F p l:=by
 apply yp;intro j;rw[j3,Kj]
 cases hj:l[j]? with
 |none=>rfl
 |some a=>simp only[kB];rw[h j a hj]
def Ty(gl)(H:Nm->Option AO)(p:qC)(W:qM)(a b:Nat)(k:qY)(hw:zI p W)(ha:a<O W.qJ)(hk:p[b]?=Z k)(hr:Room 1 W)(hpl:O k.params<=1000)(hO:qd H 229 p W):
  qX prog gl 192 DM [.pt Mn 0,uH a,iv b] H (λ_ y H'=>y=q8.av (2,(O W.qI:Int))/\qd H' 229 p {W with qI:=W.qI++[(b,a)]}) qw:=by
 have hT:=hO.top;have hF:=hO.qI;simp only[jE]at hT;obtain⟨qv,hkE⟩:=gS hk;obtain⟨c,hc⟩:=gX ha;have hE:=hO.env a c hc;have hfl:=hr.qI;have hfl':O W.qI<=1000:=qA;have hwr:IntKind.i64.wrap (O W.qI:Int)=O W.qI:=qk qA qA;have hpar:uG p b=O k.params:=by simp[uG,hk]
 have hno:∀j,H (.u 8 (O W.qI) j)=Y:=λj=>by
  cases e:H (.u 8 (O W.qI) j)with
  |none=>rfl
  |some o=>
   rcases hO.only 8 (O W.qI) j rfl Aw with⟨h,_⟩|⟨h,_⟩|⟨_,h,_⟩
   .cases h
   .cases h
   .omega
 have hap:aK 229 p W.qI++[iH 229 p (O W.qI) (b,a)]=aK 229 p (W.qI++[(b,a)]):=SW;simp only[iH,hpar]at hap;refine qX.q9 func192 [.cell 6 115] ntmps192 (λ_=>zF) λC w g root hroot=>?_;have fx:=qz hT hk hkE<|qv;refine qK ?_
 repeat((first|refine qP (id:=1) Np mixed ?_|refine qP (id:=2) Nq mixed ?_);refine zC ?_;refine qK ?_)
 clear fx;intro K hK;refine kU (.s 3) (.u 8 (O W.qI) 3) (.inl rfl) (.inr sw) ?_;refine kU (.s 4) (.u 8 (O W.qI) 1) (.inl rfl) (.inr sw) ?_;refine kU (.s 5) (.u 8 (O W.qI) 0) (.inl rfl) (.inr sw) ?_;refine kU (.s 7) (.u 8 (O W.qI) 2) (.inl rfl) (.inr sw) ?_;have fx:=zy hT hk hkE qv hF hfl'<|hwr;refine qK ?_
 repeat((first|refine qP (id:=1) Np mixed ?_|refine qP (id:=2) Nq mixed ?_);refine zC ?_;refine qK ?_)
 clear fx;refine qE [] .nil qD ⟨qB,qd.fin ⟨by simp[jE],⟨te,λj k hj hk=>tA⟩,rP,tq,hO.run.imp λl hl=>⟨hl.1,A9⟩,?_,?_,A5,λk c hc=>(hO.cls k c hc).imp λms hm=>⟨dX,hm.2⟩,λi d hd=>by simp[hO.env i d hd],λi hi=>(hO.yS i hi).imp λms hm=>⟨dX,hm.2⟩,?_⟩⟩
 .simp [<- hap];rw[jg qB];refine SX λi c hc=>?_;have hne:¬i=O W.qI:=Cb;have hne':¬O W.qI=i:=qA;simp[iH,cP,hne,hne']
 .intro i g hg;simp only at hg;rcases dN i (O W.qI)with hlt|hge
  .rw [ua hlt]at hg;obtain⟨b1,b2,b3,b4⟩:=hO.bx i g hg;have hne:¬i=O W.qI:=qA;have hne':¬O W.qI=i:=qA;exact⟨by simp[b1,hne,hne'],by simp[b2,hne,hne'],by simp[b3,hne,hne'],by simp[b4,hne,hne']⟩
  .rw [bn hge]at hg
   have hi:i=O W.qI:=by
    have:=(gS hg).1;simp at this;omega
   subst hi;simp at hg;subst hg;exact⟨qB,qB,by simp[hk],qB⟩
 .intro k' i j hk' hn;by_cases e8:k'=8/\i=O W.qI/\j<4
  .exact .inr (.inr ⟨e8.1,qp,e8.2.2⟩)
  .by_cases e1:k'=1/\i=0/\j=0
   .exact .inl e1
   .have n0:¬(k'=8/\i=O W.qI/\j=0):=λe=>e8 ⟨e.1,e.2.1,qA⟩;have n1:¬(k'=8/\i=O W.qI/\j=1):=λe=>e8 ⟨e.1,e.2.1,qA⟩;have n2:¬(k'=8/\i=O W.qI/\j=2):=λe=>e8 ⟨e.1,e.2.1,qA⟩;have n3:¬(k'=8/\i=O W.qI/\j=3):=λe=>e8 ⟨e.1,e.2.1,qA⟩;have hn':H (.u k' i j)≠Y:=by simpa[hk',e1,n0,n1,n2,n3]using hn
    rcases hO.only k' i j hk' hn' with h|h|h
    .exact .inl h
    .exact .inr (.inl h)
    .exact .inr (.inr ⟨h.1,qp,h.2.2⟩)
abbrev YT:qV:=eG<|.l 9 []<|.done
def yR(p:qC)(w:qM)(b up:Nat)(vs:List q8)(i:Nat):qM:={j4 p w b up vs i with stack:=w.stack}
def Qj(h:zI p w)(hm:kH p w.qJ b up)(hv:∀v∈vs,zh (O w.qI) (O w.qU) v)(hr:Room 1 w):zI p (yR p w b up vs i):=by
 have hb:=Jg (i:=i) h hm hv hr;exact⟨hb.a0,hb.vars,hb.af,hb.up,hb.zM,hb.qI,hb.cls,λj hj=>by have:=h.jw j hj;simp[yR,j4];omega,hb.wU,hb.b6,hb.aR,hb.aS,hb.aA,h.mu,hb.l6,hb.eg⟩
def J6{j:Nat}(e:¬j=O w.qJ):(yR p w b up vs i).yS j=w.yS j:=by
 by_cases e0:j=0
 .simp [qM.yS,yR,j4,e0]
 .simp only[qM.yS,yR,j4,e0,if_false];rcases dN j (O w.qJ)with hlt|hge
  .rw [ua hlt]
  .have h1:w.qJ[j]?=Y:=eX qA;rw[h1,bn hge,eX qp]
def J7{k:qY}(hpos:¬O w.qJ=0)(hk:p[b]?=Z k):(yR p w b up vs i).yS (O w.qJ)=dR (k.params.take i) (vs.take i):=by
 simp[qM.yS,yR,j4,hpos,hk]
def xR(k:G2)(x:A)(h:A->jH G2->G:=by
 intro fx kk;refine qK ?_
 repeat((first|refine qP (id:=5) YT mixed ?_);refine zC ?_;refine qK ?_)
 exact kk.h):G:=h x ⟨k⟩
theorem SZ(gl)(F:Nat)(p:qC)(n:Nat)(hR:mC gl F p n)(H:Nm->Option AO)(W:qM)(k b up lo:Nat)(vs all:List q8)(hP:zi p)(hw:zI p W)(hn:W.left<n)(h0:W.en=0)(hg:W.qI[k]?=Z (b,up))(hv:∀v∈vs,zh (O W.qI) (O W.qU) v)(hr:Room 1 W)
  (hall:all.drop lo=vs)(hlo:lo+O vs=O all)(hpar:uG p b=O vs)(hv2:O vs<=1)(hO:qd H F p W)(hL:H (.u 2 0 0)=Z (.row 2 (zm all))):
  qX prog gl 229 wM [.hs (.u 2 0 0) 2 lo (O vs),.pt (.u 8 k 0) 0,.pt (.u 8 k 1) 0,.pt (.u 8 k 2) 0,.pt (.u 8 k 3) 0] H (λ_ y H'=>y=.zT [q8.av (jj p (qm p n) W b up vs).2,bv (decide ((jj p (qm p n) W b up vs).1.en=0))]/\qd H' F p (jj p (qm p n) W b up vs).1) qw:=by
 have hm:=hw.qI k (b,up) hg;obtain⟨kb,hk,hpk⟩:=hm.shape;simp only at hm hk hpk;obtain⟨qv,hkE⟩:=gS hk;obtain⟨b1,b2,b3,b4⟩:=hO.bx k (b,up) hg;simp only[hk]at b1 b2 b3 b4;refine qX.q9 func229 [.cell 6 115,.tmp 7] ntmps229 (λ_=>pa) λC w g root hroot=>?_;refine xR ?_<|qz b1 b2 b3<|b4;intro K hK;have fx:=qW;refine Iv (h:=?_);clear fx;refine xR ?_<|zJ b1 b2 b3 b4<|hk
 have hpos:¬O W.qJ=0:=by
  obtain⟨a,ha,_⟩:=hw.a0;have:=(gS ha).1;omega
 have hno:∀j,H (.u 7 (O W.qJ) j)=Y:=λj=>by
  cases e:H (.u 7 (O W.qJ) j)with
  |none=>rfl
  |some o=>
   rcases hO.only 7 (O W.qJ) j rfl Aw with⟨h,_⟩|⟨_,h,_⟩|⟨h,_⟩
   .cases h
   .omega
   .cases h
 refine Pj (.s 8) (En (O W.qJ)) (.inl rfl) (.inr sw) ?_;refine zK (λm st=>∃i:Nat,m=O vs-i/\i<=O vs/\st.tm 0=.hs (.u 2 0 0) 2 lo (O vs)/\st.hp (.u 2 0 0)=Z (.row 2 (zm all))/\st.tm 4=.pt (.u 8 k 3) 0/\st.tm 6=.pt (.s 6) 0/\st.hp (.s 6)=Z (.row 2 [[iv 0,iv 0]])/\st.tm 8=uH (O W.qJ)/\st.tm 16=jO kb.params/\st.tm 17=iv (O vs)/\st.tm 18=iv i/\qd st.hp F p (yR p W b up vs i)) (O vs) ?_ ?_
 .have hpos':¬0=O W.qJ:=λe=>hpos e.symm
  have hupl:¬up=O W.qJ:=by
   obtain⟨c,_,e,_⟩:=hm;have:=(gS e).1;omega
  refine⟨0,qA,qA,qB,ed,qB,qB,qB,qB,qB,by simp[<- hpar,hpk],qB,?_⟩;refine⟨by simp[jE,yR,j4,hO.top,hpos'],⟨te,λj k hj hk=>tA⟩,by simp[yR,j4,hO.out],by simp[yR,j4,hO.zt],hO.run.imp λl hl=>⟨λi hi=>by have:=hl.1 i hi;simp[yR,j4];omega,?_⟩,by simp[yR,j4,hO.qI],λk' g hg=>?_,by simp[yR,j4,hO.jG],λk c hc=>(hO.cls k c hc).imp λms hm=>⟨dX,hm.2⟩,λi d hd=>?_,λi hi=>?_,λk' i j hk' hn=>?_⟩
  .simp [hl.2,yR];refine xF λi hi=>?_
   have hlt:i<O W.qJ:=by
    rcases yI.1 hi with e|e
    .exact hw.jw i e
    .exact hl.1 i e
   have hne:¬i=O W.qJ:=qA;simp[hne]
  .have hgl:¬g.2=O W.qJ:=by
    obtain⟨c,_,e,_⟩:=hw.qI k' g hg;have:=(gS e).1;omega
   simp[hO.bx k' g hg,hgl]
  .simp only[yR,j4]at hd;rcases dN i (O W.qJ)with hlt|hge
   .rw [ua hlt]at hd;have hne:¬i=O W.qJ:=qA;have hne':¬O W.qJ=i:=qA;by_cases e0:i=0
    .subst e0;simp[hO.env 0 d hd,kF,hne,hne']
    .have hup:=(hw.up i d hd qA).1;have hupn:¬d.up=O W.qJ:=qA;simp[hO.env i d hd,kF,e0,hne,hne',hupn]
   .rw [bn hge]at hd
    have hi:i=O W.qJ:=by
     have:=(gS hd).1;simp at this;omega
    subst hi;simp at hd;subst hd;simp[kF,hpos,hupl]
  .by_cases e:i=O W.qJ
   .subst e;rw[J7 hpos hk];exact⟨[],qB,by simpa[dR]using wN.nil⟩
   .rw [J6 e]
    have hlt:i<O W.qJ:=by
     simp[yR,j4]at hi;omega
    have hne':¬O W.qJ=i:=qA;exact(hO.yS i hlt).imp λms hm=>⟨by simp[hm.1,e,hne'],hm.2⟩
  .by_cases e7:k'=7/\i=O W.qJ/\j=0
   .exact .inr (.inl ⟨e7.1,DF,e7.2.2⟩)
   .by_cases e1:k'=1/\i=0/\j=0
    .exact .inl e1
    .have hn':H (.u k' i j)≠Y:=by simpa[hk',e1,e7]using hn
     rcases hO.only k' i j hk' hn' with h|h|h
     .exact .inl h
     .exact .inr (.inl ⟨h.1,DF,h.2.2⟩)
     .exact .inr (.inr h)
 rintro m st - - ⟨i,rfl,hi,t0,hp2,t4,t6,hp6,t8,t16,t17,t18,hO1⟩;have hT1:=hO1.top;simp only[jE]at hT1;have hact:(yR p W b up vs i).qJ[O W.qJ]?=Z ⟨b,up,dR (kb.params.take i) (vs.take i)⟩:=by simp[yR,j4,hk]
 have hE1:=hO1.env (O W.qJ) _ hact;simp only[kF,hpos,if_false]at hE1;obtain⟨c1,c2,c3,c4⟩:=hO1.bx k (b,up) hg;by_cases hil:i<O vs
 .obtain⟨x,hx⟩:∃x,kb.params[i]?=Z x:=⟨_,gE qA⟩;obtain⟨hxl,hxE⟩:=gS hx;have hxr:=(hP.sh.names kb (gM hk)).params x (gM hx);obtain⟨v,hvi⟩:=gX hil;have hva:all[lo+i]?=Z v:=by rw[<- hvi,<- hall,AW]
  obtain⟨hal',hvE⟩:=gS hva;have hst:=Jh (w:=W) (up:=up) hP hk hx hvi;obtain⟨X,rfl⟩:∃X:Nat,x=X:=⟨x.toNat,qA⟩;obtain⟨v1,v2⟩:=v;have hokI:zI p (yR p W b up vs i):=Qj hw hm hv hr
  have hloc:(yR p W b up vs i).loc p (O W.qJ) X=Z (O W.qJ):=by
   have ho:=hP.pm b kb hk (X:Int) (gM hx);have hnl:¬(b:Int)<0:=qA;simp only[qM.loc,wk hact,ho,hnl,if_false,un];rw[xC hact rfl]
  have hla:O W.qJ<O (yR p W b up vs i).qJ:=by simp[yR,j4]
  obtain⟨hnm,_⟩:=Dp (x:=(X:Int)) hP.sh.jK hokI hla;obtain⟨ms,hms,hmo⟩:=hO1.yS (O W.qJ) hla
  have hmo':wN ms ((yR p W b up vs i).vars (Z (O W.qJ))):=by
   rw[hloc]at hnm;rw[<- hnm];exact hmo
  have hnext:(yR p W b up vs i).set (Z (O W.qJ)) X (Z (v1,v2))=yR p W b up vs (i+1):=by
   have hl2:(j4 p W b up vs i).loc p (O W.qJ) X=Z (O W.qJ):=hloc;unfold fE at hst;rw[hl2]at hst;unfold yR;rw[<- hst]
   rfl
  refine xR ?_<|qg t0 hp2 t4 t6 hp6 t8 t16 t17 t18 hT1 hE1 hil<|zy hx hxE hxl hva hvE hal'<|hms;intro K hK;have fx:=aI t8 hms;refine Pu (h:=?_);clear fx;refine xR ?_<|qg t0 hp2 t4 t6 hp6 t8 t16 t17 t18 hT1 hE1 hil<|zy hx hxE hxl hva hvE hal'<|hms;refine⟨O vs-(i+1),qA,i+1,rfl,qA,ku,jV,tO,mR,dU,iD,by simp[t16],by simp[t17],zr,?_⟩;rw[<- hnext];refine HT hP.sh.jK hokI hla qA hloc hnm hO1 (hmo'.set ⟨qA,qA⟩) λm hm=>?_;by_cases e:m=.c (En (O W.qJ)) 0 1<;>simp[aP,e]
 .obtain rfl:i=O vs:=qA
  have hbeg:yR p W b up vs (O vs)={ja p W b up vs with stack:=W.stack}:=by
   unfold yR;rw[Jf qA (qb _)]
  rw[hbeg]at hO1;refine xR ?_<|jA t0 t4 t6 hp6 t8 t17 t18<|c4;intro K hK;have fx:=aI t8 hT1;refine km hO (w:={ja p W b up vs with stack:=W.stack}) (have om:=hO1;qd.re om) tB (qb _) (hF:=λhs=>Kz gl F p n hR _ W b up vs hP hw hn h0 hm hv hr hs qB) (h:=?_);rintro y H2 ⟨rfl,hO2⟩;clear fx;generalize hq:jj p (qm p n) W b up vs=q at hO2;obtain⟨V,v1,v2⟩:=q;simp only at hO2;have hT2:=hO2.top;simp only[jE]at hT2;refine xR ?_<|zJ t6 hp6 t8 hT1<|hT2;rw[hq];refine qE [] .nil (by simp[t6];rfl) ⟨qB,qd.fin (have om:=hO2;qd.re om)⟩
end Go.Proofs.YtjgpejikjhojcaaGreatDoor
end
section
namespace Go.Proofs.YtjgpejikjhojcaaGreatDoor
open Go Go.Hm Go.Proofs Go.RowKit Tryz
def SY(b:Nat)(es:Array MapEntry)(clock:Nat)(w:World)(hb:w.heap[b]?=Z (.map es clock)):
  Calls prog 231 #[.map (Z b)] w λe w'=>e=.returned (.map (Z w.heap.size))/\w'=w.alloc (.map es clock):=by
 have hq:=λw=>run_eql_map_nil_sl (P:=prog) w 111 _ _ (Z b) Tryz.underlying111
 go_enter func231,ntmps231
 go_wp2
 rw[run_callFunc_extern func240 qc qc qc (e:=Extern.MapsClone.clone) qc,run_maps_clone_sl w 111 hb];simp only[Result.andThen];rw[Oper.upon_value]
 go_wp2
 rw[run_typeAssert_map_sl _ 111 _ _ _ _ Tryz.underlying111];simp only[Result.andThen];rw[Oper.upon_value]
 go_wp2
 go_ret
 exact⟨rfl,rfl⟩
def GJ(d:Nat)(es:List (AV×AV))(st:St):St:=((st.kill (.s d)).zW (.s d) (.map es)).put (Z d) (.mp (.s d))
def qER{X:Ctx}{st:St}{K:St->Prop}{E:AV->St->Prop}{ty:TypeId}{pos:String}{aft:Array Edge}{gd:Option (Nat×Bool)}{d:Nat}{args:Array Operand}{Ts:Array TypeId}{n:Nm}{es:List (AV×AV)}{st':St}(hP:X.P=prog)
  (hd:d<X.n:=by first|(simp;done)|fail)(ha:args.toList.map (ev st)=[.mp n]:=by simp[fx];first|done|rfl)(hn:st.hp n=Z (.map es):=by simp[fx];first|done|rfl)(hsc:∀e∈es,∀f:Nm->Option Nm,e.1.tr f=e.1/\e.2.tr f=e.2)
  (hs:GJ d es st=st':=by simp[fx,GJ];first|done|rfl)(h:K st'):
  qe X ⟨Z d,.call ⟨.value (.func 231),args,Ts⟩,ty,pos,aft,gd⟩ K E st:=by
 subst hs;intro a w Q hR hQ;obtain⟨C,g,h1,h2,h3,h4,h5,hg⟩:=hR;have hcal:ly X.P 231:=by rw[hP];exact⟨_,rfl,rfl,rfl⟩
 obtain⟨vs,hrun,hsz,hrel⟩:=oc (st:=st) (o:=⟨Z d,.call ⟨.value (.func 231),args,Ts⟩,ty,pos,aft,gd⟩) hcal rfl _ _ _ _ _ _ hg;rw[ha]at hsz hrel;unfold Oper.wp;rw[hrun,Oper.upon_enter]
 obtain⟨v,rfl⟩:∃v,vs=#[v]:=by
  rcases vs with⟨l⟩;simp at hsz;obtain⟨v,rfl⟩:=CZ.1 hsz;exact⟨v,rfl⟩
 have hv:=hrel 0 v (.mp n) rfl rfl
 cases hv with
 |mp _ b hk=>
 have hat:=hg.inv.obj n _ hn;simp only[jd,hk]at hat;obtain⟨ms,clock,hb,hst,hlen,hrv⟩:=hat;have hC':∀b',C b'->(w.alloc (.map ms.toArray clock)).heap[b']?=w.heap[b']?:=λb' hb'=>lC _ (hg.inv.ur b' hb')
 have hm:=hg.made (.s d) (.map es) w.heap.size 0 (w.alloc (.map ms.toArray clock)) [] qB (λ_=>M) rfl rfl rfl qB (.inl (qb _)) qB (λb' _ hb'=>lC _ hb') (by
  simp only[jd,(wA (g:=g) (.s d) (Z w.heap.size) 0).1];refine⟨ms,clock,heap_alloc_new w _,hst,hlen,λi m e hi he=>?_⟩;obtain⟨r1,r2⟩:=hrv i m e hi he;obtain⟨q1,q2⟩:=hsc e (gM he) (kl (.s d));have h1:=hg.rv (g':=g.fresh (.s d) (Z w.heap.size) 0) (w':=w.alloc (.map ms.toArray clock)) rfl hC' (D1 (.s d) (Z w.heap.size) 0) r1;have h2:=hg.rv (g':=g.fresh (.s d) (Z w.heap.size) 0) (w':=w.alloc (.map ms.toArray clock)) rfl hC' (D1 (.s d) (Z w.heap.size) 0) r2;rw[q1]at h1;rw[q2]at h2;exact⟨h1,h2⟩)
 have e:(st.nm (kl (.s d)) (λm=>if(λ_=>M:Nm->Bool) m then Y else jN (.s d) st.hp m))=st.kill (.s d):=tN;rw[e]at hm;have hput:=hm.put (d:=Z d) (v:=.map (Z w.heap.size)) (x:=.mp (.s d)) (λt e=>by obtain rfl:=sI e;show d<st.n;omega) (.mp _ _ (wA _ _ _).1)
 have hcl:Calls X.P 231 #[.map (Z b)] w λe w'=>e=.returned (.map (Z w.heap.size))/\w'=w.alloc (.map ms.toArray clock):=by
  rw[hP];exact SY b ms.toArray clock w hb
 refine hcl.mono ?_;rintro e w' ⟨rfl,rfl⟩;exact⟨GJ d es st,⟨C,g.fresh (.s d) (Z w.heap.size) 0,h1,h2,h3,h4,h5.step (.fresh rfl),hput⟩,h⟩
end Go.Proofs.YtjgpejikjhojcaaGreatDoor
end
