import Derived.Test.YtjgpejikjhojcaaGreatDoorD22
import Derived.Test.YtjgpejikjhojcaaGreatDoorD12
set_option linter.all false
set_option maxRecDepth 100000
set_option maxHeartbeats 4000000
open Option renaming some->Z,none->Y
open Bool renaming true->B,false->M
open List renaming length->O

section
namespace Go.Proofs.YtjgpejikjhojcaaGreatDoor
open Go Go.Hm Go.Proofs Tryz
variable{A G G2:Prop}{g:List AV->List AV}{hp:Nm->Option AO}{m n:Nm}
abbrev YD:qV:=xp<|.l 13 [6,5,4]<|.l 14 []<|.done
abbrev YE:qV:=ba<|.l 7 [6,5,4,3,2,1]<|.l 8 []<|.done
abbrev YF:qV:=wG<|.l 11 [10,9,8,7,6,5,4,3,2,1]<|.l 12 []<|.done
def PF(gl)(v:q8):qL prog gl 156 [q8.av v] (λ_ y _=>y=iv (Hm.shown v)):=by
 refine qL.q9 func156 [.tmp 2] ntmps156 λC w g root=>?_;by_cases h1:v.1=1
 .skip
  refine qH ?_<| h1;refine qE [] .nil qD (by simp[Hm.shown,h1])
 by_cases h2:v.1=2
 .skip
  refine qH ?_<|aI h1<|h2;refine qE [] .nil qD (by simp[Hm.shown,h1,h2])
 by_cases h3:v.1=3
 .skip
  refine qH ?_<|ql h1 h2<|h3;refine qE [] .nil qD Ch
 .skip
  refine qH ?_<|ql h1 h2<|h3;refine qE [] .nil qD Ch
def Da(k:G2)(x:A)(h:A->jH G2->G:=by
 intro fx kk;refine qK ?_
 repeat((first|refine qP (id:=1) YD mixed ?_|refine qP (id:=3) YE mixed ?_|refine qP (id:=6) YF mixed ?_);refine zC ?_;refine qK ?_)
 exact kk.h):G:=h x ⟨k⟩
def IU(gl)(H:Nm->Option AO)(p:qC)(W:qM)(a x:Nat)(hP:zw p)(hw:zI p W)(ha:a<O W.qJ)(hx:x<8)(hO:qu H p W):
  qX prog gl 151 (Nm.under Wn) [.pt Wn 0,iv a,iv x] H (λ_ y H'=>y=.zT [iv (zN p (W.qG a) x),.ep (vw (W.loc p a x)) 3 x 0]/\qu H' p W) qw:=by
 have hh:=hP.jK;have hxi:(x:Int)<8:=qA;have hlen:=hw.wU;obtain⟨c,hc⟩:=gX ha;obtain⟨_,hcE⟩:=gS hc;have qv:=hw.af a c hc;obtain⟨k,hk⟩:=gX qv;have hbk:=wk hc;have hT:=hO.top;have hA:=hO.qJ;have hG:=hO.zM;have hgl:=hw.zM.1;simp only[jW]at hT;refine qX.q9 func151 [.tmp 6,.tmp 7] ntmps151 (λ_=>y8 rfl) λC w g root hroot=>?_;rcases xX (x:=(x:Int)) hh hw ha with⟨h1,h2⟩|⟨o,i,d,ho,h1,h2,h3,hd,hdb,hins⟩
 .rw [hbk]at h1;have h0:zN p c.qG x<0:=qA;have fx:=jU hT hA hc hcE ha h1 hG hgl hx hxi<|h0;have c1:=fw gl p c.qG k x hk hP.bc hh;refine Da ?_<|@fx;clear fx c1;refine qE [] .nil qD ⟨by simp[hbk,h1,h2,vw],?_⟩;exact(have ow:=hO;qu.re ow)
 .rw [hbk]at h1;have h0:¬(o:Int)<0:=qA;have fx:=jU hT hA hc hcE ha h1 hG hgl hx hxi<|h0;have c1:=fw gl p c.qG k x hk hP.bc hh;refine Da ?_<|@fx;clear fx c1;refine zK (λn st=>∃b:Nat,n=b/\b<O W.qJ/\ak W.qJ o b b=i/\j8 p (W.qG b) o=B/\st.tm 0=.pt Wn 0/\st.tm 1=iv b/\st.tm 2=iv x/\st.tm 8=iv o/\qu st.hp p W) a ?_ ?_
  .exact⟨a,rfl,ha,h3.symm,hins,qB,qB,qB,qB,(have ow:=hO;qu.re ow)⟩
  clear hT hA hG hO;rintro n st - - ⟨b,rfl,hb,hcl,hib,h0',h1',h2',h8',hO⟩;obtain⟨e,he⟩:=gX hb;obtain⟨_,heE⟩:=gS he;have hT:=hO.top;have hA:=hO.qJ;simp only[jW]at hT;have hV:=hO.act n e he;have hvl:=(hw.vars n e he).1;by_cases heb:e.qG=o
  .have hni:n=i:=by rw[<- hcl,xC he heb]
   subst hni;refine Da ?_<|qg h0' h1' h2' h8' hT hA he heE hb heb hV hvl<|ql hx hxi<|@zA;refine qE [] .nil qD ⟨by simp[hbk,h1,h2,vw],?_⟩;exact(have ow:=hO;qu.re ow)
  .obtain⟨e1,e2,e3⟩:=oh hh hw he heb ho hib;have hne:¬((e.qG:Int)=o):=qA;have hoi:er n e=e.up:=by simp only[er];rw[if_neg qA]
   refine Da ?_<|jU h0' h1' h2' h8' hT hA he heE hb hne<|aI hoi<|@zA;refine⟨e.up,qA,e.up,rfl,qA,?_,e3,by simp[h0'],qB,by simp[h2'],by simp[h8'],(have ow:=hO;qu.re ow)⟩;rw[<- hcl,DO hh hw ho he heb hib]
def ML(gl)(H:Nm->Option AO)(p:qC)(W:qM)(a:Nat)(o:Int)(ha:a<O W.qJ)(hw:zI p W)(hO:qu H p W):
  qX prog gl 152 (Nm.under Wn) [.pt Wn 0,iv a,iv o] H (λ_ y H'=>y=iv (Hm.yw p (W.qG a) o)/\qu H' p W) qw:=by
 have hlen:=hw.wU;obtain⟨c,hc⟩:=gX ha;obtain⟨_,hcE⟩:=gS hc;have qv:=hw.af a c hc;obtain⟨k,hk⟩:=gX qv;obtain⟨_,hkE⟩:=gS hk;have hbk:=wk hc;have hka:jk p c.qG=k.kind:=iF;have hT:=hO.top;have hA:=hO.qJ;simp only[jW]at hT;refine qX.q9 func152 [.tmp 6] ntmps152 (λ_=>y8 rfl) λC w g root hroot=>?_;by_cases h0:o<0
 .skip
  refine qH ?_<|y9 hT hA hc hcE ha h0 hk hkE<|qv;refine qE [] .nil qD ⟨by simp[Hm.yw,h0],(have ow:=hO;qu.re ow)⟩
 by_cases h1:o=c.qG
 .subst h1;by_cases h2:k.kind=2
  .skip
   refine qH ?_<|ya hT hA hc hcE ha h0 h2 hk hkE<|qv;refine qE [] .nil qD ⟨by simp[Hm.yw,h0,hbk,hka,h2],(have ow:=hO;qu.re ow)⟩
  .skip
   refine qH ?_<|ya hT hA hc hcE ha h0 h2 hk hkE<|qv;refine qE [] .nil qD ⟨by simp[Hm.yw,h0,hbk,hka,h2],(have ow:=hO;qu.re ow)⟩
 .have hb1:(o==(c.qG:Int))=M:=Aj;refine qH ?_<|ya hT hA hc hcE ha h0 hb1 hk hkE<|qv;refine qE [] .nil qD ⟨by simp[Hm.yw,h0,h1,hbk],(have ow:=hO;qu.re ow)⟩
def UK(gl)(H:Nm->Option AO)(p:qC)(W:qM)(x:Nat)(hw:zI p W)(hx:x<8)(hO:qu H p W):
  qX prog gl 153 (Nm.under Wn) [.pt Wn 0,iv x] H (λ_ y H'=>(match W.get Y x with|some v=>y=.zT [q8.av v,bv B]|none=>y=.zT [q8.av (1,70),bv (decide (x=7))])/\qu H' p W) qw:=by
 have hT:=hO.top;have hG:=hO.zM;have hxi:(x:Int)<8:=qA;simp only[jW]at hT;have hgl:=hw.zM.1;obtain⟨s,hs⟩:∃s,W.globals[x]?=Z s:=⟨_,gE qA⟩;obtain⟨_,hsE⟩:=gS hs;have hget:W.get Y x=s:=by simp[qM.get,qM.vars,hs]
 refine qX.q9 func153 [.cell 4 115,.tmp 5] ntmps153 (λ_=>y8 rfl) λC w g root hroot=>?_
 cases s with
 |some v=>
  refine qH ?_<|zy hT hG hgl hx hxi hs<|hsE;refine qE [] .nil qD ⟨by rw[hget];simp,(have ow:=hO;qu.re ow)⟩
 |none=>
  by_cases h7:x=7
  .subst h7;refine qH ?_<|zJ hT hG hgl hs<|hsE;refine qE [] .nil qD ⟨by rw[hget];simp,(have ow:=hO;qu.re ow)⟩
  .have h7i:¬(x:Int)=7:=qA;have h7b:((x:Int)==7)=M:=by simpa using h7i
   refine qH ?_<|jA hT hG hgl hx hxi hs hsE<|h7b;refine qE [] .nil qD ⟨by rw[hget];simp[h7,h7i],(have ow:=hO;qu.re ow)⟩
abbrev Hi:qV:=wG<|.l 11 [10,9,8,7,6,5,4,3,2,1,0]<|.l 12 []<|.done
def qDP{v:Int}(hv:0<=v):∃k:Nat,v.tmod 1000=k/\k<1000:=by
 have h1:=AY 1000 hv;have h2:=AZ v (show(0:Int)<1000 by omega);exact⟨(v.tmod 1000).toNat,qA,qA⟩
def Ma(gl)(H:Nm->Option AO)(p:qC)(W:qM)(a x:Nat)(hP:zw p)(hw:zI p W)(ha:a<O W.qJ)(hx:x<8)(hO:qu H p W):
  qX prog gl 103 (Nm.under Wn) [.pt Wn 0,iv a,iv x] H (λ_ y H'=>y=q8.av (j9 p W a x).2/\qu H' p (j9 p W a x).1) qw:=by
 have hh:=hP.jK;have hxi:(x:Int)<8:=qA;have hll:=Gv (x:=(x:Int)) hh hw ha;have hT:=hO.top;simp only[jW]at hT;have hV8:=(hw.Eb hll).1;refine qX.q9 func103 [.cell 6 115] ntmps103 (λ_=>y8 rfl) λC w g root hroot=>?_;refine qH ?_<|qW;intro K hK;have fx:=qW;refine uT Wn rfl zG (hF:=IU _ _ p W a x hP hw ha hx (have ow:=hO;qu.re ow)) (h:=?_);rintro y H1 ⟨rfl,hO1⟩;clear fx;have hV:=hO1.loc hll;obtain⟨l,hl⟩:∃l,W.loc p a x=l:=⟨_,rfl⟩;obtain⟨o,ho⟩:∃o,zN p (W.qG a) x=o:=⟨_,rfl⟩;rw[hl]at hV hV8 ⊢;rw[ho];obtain⟨s,hs⟩:∃s,(W.vars l)[x]?=Z s:=⟨_,gE qA⟩;obtain⟨_,hsE⟩:=gS hs;have hget:W.get (W.loc p a x) x=s:=by rw[hl];simp[qM.get,hs]
 have hT1:=hO1.top;simp only[jW]at hT1
 cases s with
 |some v=>
  have hlw:j9 p W a x=(W,v):=by simp only[j9,hget]
  refine qH ?_<|jA hT hT1 hV hV8 hs hsE hx<|hxi;rw[hlw];refine qE [] .nil qD ⟨qB,(have ow:=hO1;qu.re ow)⟩
 |none=>
  refine qH ?_<|jA hT hT1 hV hV8 hs hsE hx<|hxi;intro K hK;have fx:=aI hT hT1;refine uT Wn rfl dW (hF:=ML _ _ p W a o ha hw (have ow:=hO1;qu.re ow)) (h:=?_);rintro y H2 ⟨rfl,hO2⟩;clear fx;have hT2:=hO2.top;simp only[jW]at hT2;by_cases h4:Hm.yw p (W.qG a) o=4
  .skip
   refine qH ?_<|qz hT hT1 hT2<|h4;intro K hK;have fx:=aI hT (aI hT1 hT2);refine uT Wn rfl (by simp[hT2]) (hF:=UK _ _ p W x hw hx (have ow:=hO2;qu.re ow)) (h:=?_);rintro y H3 ⟨hy,hO3⟩;clear fx;have hT3:=hO3.top;simp only[jW]at hT3
   cases hg:W.get Y x with
   |some v=>
    rw[hg]at hy;simp only at hy;subst hy;have hlw:j9 p W a x=(W,v):=by simp only[j9,hget,ho,h4,if_true,hg]
    refine qH ?_<|qz hT hT1 hT2<|hT3;rw[hlw];refine qE [] .nil qD ⟨qB,(have ow:=hO3;qu.re ow)⟩
   |none=>
    rw[hg]at hy;simp only at hy;subst hy;by_cases h7:x=7
    .subst h7;have hlw:j9 p W a ((7:Nat):Int)=(W,(1,70)):=by simp only[j9,hget,ho,h4,if_true,hg];simp
     refine qH ?_<|qz hT hT1 hT2<|hT3;rw[hlw];refine qE [] .nil qD ⟨qB,(have ow:=hO3;qu.re ow)⟩
    .have hlw:j9 p W a x=({W with en:=4},(0,0)):=by
      have:¬(x:Int)=7:=qA;simp only[j9,hget,ho,h4,if_true,hg,this,if_false]
     have h7i:¬(x:Int)=7:=qA;refine qH ?_<|zy hT hT1 hT2 hT3 h7 h7i<|h4;rw[hlw];refine qE [] .nil qD ⟨qB,⟨by simp[hO3.top,jW,hT3],by simp[hO3.qJ,hT3],λi a ha=>by simp[hO3.act i a ha,hT3],hO3.jw.imp λl hl=>by simp[hl,hT3],by simp[hO3.zM,hT3],by simp[hO3.qI,hT3],by simp[hO3.jG,hT3],λi c hc=>by simp[hO3.cls i c hc,hT3],by simp[hO3.out,hT3],by simp[hO3.zt,hT3]⟩⟩
  .have hlw:j9 p W a x=({W with en:=Hm.yw p (W.qG a) o},(0,0)):=by simp only[j9,hget,ho,h4,if_false]
   refine qH ?_<|qz hT hT1 hT2<|h4;rw[hlw];refine qE [] .nil qD ⟨qB,⟨by simp[hO2.top,jW,hT2],by simp[hO2.qJ,hT2],λi a ha=>by simp[hO2.act i a ha,hT2],hO2.jw.imp λl hl=>by simp[hl,hT2],by simp[hO2.zM,hT2],by simp[hO2.qI,hT2],by simp[hO2.jG,hT2],λi c hc=>by simp[hO2.cls i c hc,hT2],by simp[hO2.out,hT2],by simp[hO2.zt,hT2]⟩⟩
def NY{hp':Nm->Option AO}{p:qC}{W:qM}{l:Option Nat}{x:Nat}{s:qr}(h:qu hp p W)(hh:∀m,Nm.under Wn m=B->hp' m=if m=vw l then Z (.row 3 (zD ((W.vars l).set x s)))else hp m):qu hp' p (W.set l x s):=by
 have hu:∀j,Nm.under Wn (.c Wn 0 j)=B:=λj=>ag;have hu2:∀j i k,Nm.under Wn (.c (.c Wn 0 j) i k)=B:=λj i k=>ag
 cases l with
 |none=>
  refine⟨?_,?_,λi a ha=>?_,?_,?_,?_,?_,λi c hc=>?_,?_,?_⟩
  .rw [hh _ ag];simp[vw];exact h.top
  .rw [hh _ (hu 1)];simp[vw];exact h.qJ
  .rw [hh _ (hu2 1 i 2)];simp[vw];exact h.act i a ha
  .rw [hh _ (hu 2)];simp[vw];exact h.jw.imp λl hl=>by rw[hl];rfl
  .rw [hh _ (hu 3)];simp[vw,qM.set,qM.vars]
  .rw [hh _ (hu 4)];simp[vw];exact h.qI
  .rw [hh _ (hu 5)];simp[vw];exact h.jG
  .rw [hh _ (hu2 5 i 0)];simp[vw];exact h.cls i c hc
  .rw [hh _ (hu 6)];simp[vw];exact h.out
  .rw [hh _ (hu 7)];simp[vw];exact h.zt
 |some j=>
  have hrow:kW (.c Wn 0 1) (W.set (Z j) x s).qJ=kW (.c Wn 0 1) W.qJ:=by
   apply yp;intro i;simp only[CS,qM.set,it]
   cases hi:W.qJ[i]? with
   |none=>rfl
   |some a=>by_cases e:j=i<;>simp[e,er]
  refine⟨?_,?_,λi a ha=>?_,?_,?_,?_,?_,λi c hc=>?_,?_,?_⟩
  .rw [hh _ ag];simp[vw];rw[h.top];simp[jW,qM.set]
  .rw [hh _ (hu 1),hrow];simp[vw];exact h.qJ
  .rw [hh _ (hu2 1 i 2)];simp only[qM.set,it]at ha;obtain⟨b,hb,e⟩:=zq.1 ha;by_cases e2:j=i
   .subst e2;simp only[if_true]at e;subst e;simp[vw,qM.vars,hb]
   .have e3:¬i=j:=λe=>e2 e.symm;simp only[e2,if_false]at e;subst e;simp[vw,e3];exact h.act i b hb
  .rw [hh _ (hu 2)];simp[vw];exact h.jw.imp λl hl=>by rw[hl];rfl
  .rw [hh _ (hu 3)];simp[vw];exact h.zM
  .rw [hh _ (hu 4)];simp[vw];exact h.qI
  .rw [hh _ (hu 5)];simp[vw];exact h.jG
  .rw [hh _ (hu2 5 i 0)];simp[vw];exact h.cls i c hc
  .rw [hh _ (hu 6)];simp[vw];exact h.out
  .rw [hh _ (hu 7)];simp[vw];exact h.zt
def PX(gl)(H:Nm->Option AO)(p:qC)(W:qM)(a x:Nat)(v:q8)(hP:zw p)(hw:zI p W)(ha:a<O W.qJ)(hx:x<8)(hO:qu H p W):
  qX prog gl 157 (Nm.under Wn) [.pt Wn 0,iv a,iv x,q8.av v] H (λ_ y H'=>qu H' p (fE p W a x v)) qw:=by
 have hh:=hP.jK;have hxi:(x:Int)<8:=qA;have hll:=Gv (x:=(x:Int)) hh hw ha;have hT:=hO.top;simp only[jW]at hT;have hV8:=(hw.Eb hll).1;obtain⟨v1,v2⟩:=v;refine qX.q9 func157 [] ntmps157 (λ_=>y8 rfl) λC w g root hroot=>?_;refine qH ?_<|qW;intro K hK;have fx:=qW;refine uT Wn rfl zG (hF:=IU _ _ p W a x hP hw ha hx (have ow:=hO;qu.re ow)) (h:=?_);rintro y H1 ⟨rfl,hO1⟩;clear fx;have hV:=hO1.loc hll;obtain⟨l,hl⟩:∃l,W.loc p a x=l:=⟨_,rfl⟩;have hlw:fE p W a x (v1,v2)=W.set l x (Z (v1,v2)):=by simp only[fE,hl]
 rw[hl]at hV hV8 ⊢;have hT1:=hO1.top;simp only[jW]at hT1;refine qH ?_<|zx hT hT1 hV hV8 hx<|hxi;rw[hlw];refine yu [] .nil qD (qu.fin (NY hO1 λm hm=>?_));simp[hm]
def qCh(gl)(H:Nm->Option AO)(p:qC)(W:qM)(a x:Nat)(hP:zw p)(hw:zI p W)(ha:a<O W.qJ)(hx:x<8)(hO:qu H p W):
  qX prog gl 154 (Nm.under Wn) [.pt Wn 0,iv a,iv x] H (λ_ y H'=>qu H' p (bD p W a x)) qw:=by
 have hh:=hP.jK;have hxi:(x:Int)<8:=qA;have hll:=Gv (x:=(x:Int)) hh hw ha;have hT:=hO.top;simp only[jW]at hT;have hV8:=(hw.Eb hll).1;refine qX.q9 func154 [] ntmps154 (λ_=>y8 rfl) λC w g root hroot=>?_;refine qH ?_<|qW;intro K hK;have fx:=qW;refine uT Wn rfl zG (hF:=IU _ _ p W a x hP hw ha hx (have ow:=hO;qu.re ow)) (h:=?_);rintro y H1 ⟨rfl,hO1⟩;clear fx;have hV:=hO1.loc hll;obtain⟨l,hl⟩:∃l,W.loc p a x=l:=⟨_,rfl⟩;obtain⟨o,ho⟩:∃o,zN p (W.qG a) x=o:=⟨_,rfl⟩;rw[hl]at hV hV8 ⊢;rw[ho];obtain⟨s,hs⟩:∃s,(W.vars l)[x]?=Z s:=⟨_,gE qA⟩;obtain⟨_,hsE⟩:=gS hs;have hget:W.get (W.loc p a x) x=s:=by rw[hl];simp[qM.get,hs]
 have hT1:=hO1.top;simp only[jW]at hT1
 cases s with
 |some v=>
  have hlw:bD p W a x=W.set l x Y:=by
   unfold bD;rw[hget];simp only[hl]
  refine qH ?_<|jA hT hT1 hV hV8 hs hsE hx<|hxi;rw[hlw];refine yu [] .nil qD (qu.fin (NY hO1 λm hm=>?_));simp[hm]
 |none=>
  have hlw:bD p W a x={W with en:=Hm.yw p (W.qG a) o}:=by simp only[bD,hget,ho]
  refine qH ?_<|jA hT hT1 hV hV8 hs hsE hx<|hxi;intro K hK;have fx:=aI hT hT1;refine uT Wn rfl dW (hF:=ML _ _ p W a o ha hw (have ow:=hO1;qu.re ow)) (h:=?_);rintro y H2 ⟨rfl,hO2⟩;clear fx;have hT2:=hO2.top;simp only[jW]at hT2;refine qH ?_<|ql hT hT1<|hT2;rw[hlw];refine qE [] .nil qD ⟨by simp[hO2.top,jW,hT2],by simp[hO2.qJ,hT2],λi a ha=>by simp[hO2.act i a ha,hT2],hO2.jw.imp λl hl=>by simp[hl,hT2],by simp[hO2.zM,hT2],by simp[hO2.qI,hT2],by simp[hO2.jG,hT2],λi c hc=>by simp[hO2.cls i c hc,hT2],by simp[hO2.out,hT2],by simp[hO2.zt,hT2]⟩
def Xm(gl)(H:Nm->Option AO)(p:qC)(W:qM)(u v:q8)(hu:zh (O W.qI) (O W.qU) u)(hv:zh (O W.qI) (O W.qU) v)(hO:qu H p W):
  qX prog gl 202 (Nm.under Wn) [.pt Wn 0,q8.av u,q8.av v] H (λ_ y H'=>y=q8.av (uf W u v).2/\qu H' p (uf W u v).1) qw:=by
 have hT:=hO.top;simp only[jW]at hT;obtain⟨u1,u2⟩:=u;obtain⟨v1,v2⟩:=v;have hu2:=hu.num;have hv2:=hv.num;simp only at hu2 hv2;have hwr:IntKind.i64.wrap (u2+v2)=u2+v2:=qk qA qA;obtain⟨q,hq,hql⟩:=qDP (v:=u2+v2) qA;have hwq:IntKind.i64.wrap (q:Int)=q:=qk qA qA;refine qX.q9 func202 [.cell 6 115] ntmps202 (λ_=>y8 rfl) λC w g root hroot=>?_;by_cases h1:u1=1
 .by_cases h2:v1=1
  .subst h1;subst h2;have hlw:uf W (1,u2) (1,v2)=(W,(1,(q:Int))):=by simp[uf,hq]
   refine qH ?_<|zJ hT hwr hq hwq<|@zA;rw[hlw];refine qE [] .nil qD ⟨qB,(have ow:=hO;qu.re ow)⟩
  .subst h1;have hb2:(v1==1)=M:=lH;have hlw:uf W (1,u2) (v1,v2)=({W with en:=5},(0,0)):=by simp[uf,h2]
   refine qH ?_<|ql hT hb2<|@zA;rw[hlw];refine qE [] .nil qD ⟨qB,⟨tk,tv,λi a ha=>su,hO.jw.imp λl hl=>tY,tz,rO,rQ,λi c hc=>tI,rN,rT⟩⟩
 .have hb1:(u1==1)=M:=Aj;have hlw:uf W (u1,u2) (v1,v2)=({W with en:=5},(0,0)):=by simp[uf,h1]
  refine qH ?_<|ql hT hb1<|@zA;rw[hlw];refine qE [] .nil qD ⟨qB,⟨tk,tv,λi a ha=>su,hO.jw.imp λl hl=>tY,tz,rO,rQ,λi c hc=>tI,rN,rT⟩⟩
def RP(gl)(H:Nm->Option AO)(p:qC)(W:qM)(v:q8)(x:Nat)(hw:zI p W)(hv:zh (O W.qI) (O W.qU) v)(hx:x<8)(hO:qu H p W):
  qX prog gl 205 (Nm.under Wn) [.pt Wn 0,q8.av v,iv x] H (λ_ y H'=>y=q8.av (kO W v x).2/\qu H' p (kO W v x).1) qw:=by
 have hT:=hO.top;simp only[jW]at hT;have hxi:(x:Int)<8:=qA;obtain⟨v1,v2⟩:=v;refine qX.q9 func205 [.cell 6 115] ntmps205 (λ_=>y8 rfl) λC w g root hroot=>?_;by_cases h1:v1=3
 .subst h1;have hv2:=hv.num;have hv3:=hv.cls rfl;simp only at hv2 hv3;obtain⟨i,rfl⟩:∃i:Nat,v2=i:=⟨v2.toNat,qA⟩;have hil:i<O W.qU:=qA;obtain⟨c,hc⟩:=gX hil;have hC:=hO.jG;have hCc:=hO.cls i c hc;have hcl:=(hw.cls c (gM hc)).1;obtain⟨s,hs⟩:∃s,c[x]?=Z s:=⟨_,gE qA⟩;obtain⟨_,hsE⟩:=gS hs
  cases s with
  |some u=>
   have hlw:kO W (3,(i:Int)) x=(W,u):=Cr;have fx:=ya hT hC hCc hil hcl hs hsE hx hxi<|@zA;refine qK ?_
   repeat((first|refine qP (id:=4) Hi mixed ?_);refine zC ?_;refine qK ?_)
   clear fx;rw[hlw];refine qE [] .nil qD ⟨qB,(have ow:=hO;qu.re ow)⟩
  |none=>
   have hlw:kO W (3,(i:Int)) x=({W with en:=7},(0,0)):=Cr;have fx:=ya hT hC hCc hil hcl hs hsE hx hxi<|@zA;refine qK ?_
   repeat((first|refine qP (id:=4) Hi mixed ?_);refine zC ?_;refine qK ?_)
   clear fx;rw[hlw];refine qE [] .nil qD ⟨qB,⟨tk,tv,λi a ha=>su,hO.jw.imp λl hl=>tY,tz,rO,rQ,λi c hc=>tI,rN,rT⟩⟩
 .have hb1:(v1==3)=M:=Aj;have hlw:kO W (v1,v2) x=({W with en:=5},(0,0)):=by simp[kO,h1]
  have fx:=ql hT hb1<|@zA;refine qK ?_
  repeat((first|refine qP (id:=4) Hi mixed ?_);refine zC ?_;refine qK ?_)
  clear fx;rw[hlw];refine qE [] .nil qD ⟨qB,⟨tk,tv,λi a ha=>su,hO.jw.imp λl hl=>tY,tz,rO,rQ,λi c hc=>tI,rN,rT⟩⟩
def Vv(gl)(H:Nm->Option AO)(p:qC)(W:qM)(a:Nat)(xs:List Int)(hP:zw p)(hw:zI p W)(ha:a<O W.qJ)(hxs:∀x∈xs,0<=x/\x<=7)(hxl:O xs<=2)(hO:qu H p W)(hL:H (.u 2 0 0)=Z (.row 1 (qh xs))):
  qX prog gl 201 zP [.pt Wn 0,iv a,.hs (.u 2 0 0) 1 0 (O xs)] H (λr y H'=>y=.hs r 2 0 (O (z7 p W a xs).2)/\H' r=Z (.row 2 (zm (z7 p W a xs).2))/\qu H' p (z7 p W a xs).1) qw:=by
 refine qX.q9 func201 [.tmp 6] ntmps201 (λ_=>vF) λC w g root hroot=>?_;have hr0:=hroot root (Nm.uQ _);simp only[sT,Bool.or_eq_false_iff]at hr0;obtain⟨hr1,hr2⟩:=hr0;refine qH ?_<|qW;refine zK (λn st=>∃(i:Nat)(V:qM)(vs:List q8),n=O xs-i/\i<=O xs/\O vs=i/\z7 p W a xs=((z7 p V a (xs.drop i)).1,vs++(z7 p V a (xs.drop i)).2)/\zI p V/\a<O V.qJ/\st.tm 0=.pt Wn 0/\st.tm 1=iv a/\st.tm 2=.hs (.u 2 0 0) 1 0 (O xs)/\st.hp (.u 2 0 0)=Z (.row 1 (qh xs))/\st.tm 7=.hs (.s 7) 2 0 (O vs)/\st.hp (.s 7)=Z (.row 2 (zm vs))/\st.tm 8=iv i/\qu st.hp p V) (O xs) ?_ ?_
 .exact⟨0,W,[],qA,qA,rfl,qB,hw,ha,qB,qB,qB,ed,qB,qB,qB,(have ow:=hO;qu.re ow)⟩
 rintro n st - - ⟨i,V,vs,rfl,hi,hvl,hres,hV,haV,h0,h1,h2,hp2,h7,hp7,h8,hO⟩;have hT:=hO.top;simp only[jW]at hT
 have hstop:i=O xs\/V.en≠0->z7 p W a xs=(V,vs):=by
  intro e;rw[hres];rcases e with e|e
  .subst e;simp[z7]
  .cases hd:xs.drop i with
   |nil=>simp[z7]
   |cons y l=>simp only[z7];rw[if_pos e];simp
 by_cases hil:i<O xs
 .by_cases hen:V.en=0
  .obtain⟨x,hx⟩:=gX hil;obtain⟨_,hxE⟩:=gS hx;obtain⟨hx0,hx7⟩:=hxs x (gM hx);obtain⟨X,rfl⟩:∃X:Nat,x=X:=⟨x.toNat,qA⟩;have hdr:xs.drop i=(X:Int)::xs.drop (i+1):=by rw[iz hil,hxE]
   have hstep:z7 p V a (xs.drop i)=((z7 p (j9 p V a X).1 a (xs.drop (i+1))).1,(j9 p V a X).2::(z7 p (j9 p V a X).1 a (xs.drop (i+1))).2):=by
    rw[hdr];simp only[z7];rw[if_neg (by rw[hen];decide)]
   obtain⟨hA,_,_⟩:=Dn (a:=a) (x:=(X:Int)) hV;have hl2:O vs<=2:=qA;refine qH ?_<|jU h0 h1 h2 hp2 h7 hp7 h8 hT hil hen<|aI hx<|hxE;intro K hK;have fx:=aI h0 (aI h1 hT);refine uT Wn rfl zG (hF:=Ma _ _ p V a X hP hV haV qA (have ow:=hO;qu.re ow)) (h:=?_);rintro y H1 ⟨rfl,hO1⟩;clear fx;generalize hq:j9 p V a X=q at hstep hA hO1;obtain⟨V',v1,v2⟩:=q;refine qH ?_<|y9 h0 h1 h2 hp2 h7 hp7 h8 hT<|hl2;refine⟨O xs-(i+1),qA,i+1,V',vs++[(v1,v2)],rfl,qA,by simp[hvl],?_,hA.ok,um haV hA.grow.aq,by simp[h0,hT],zY,jS,jV,qB,oO,F3,(have ow:=hO1;qu.re ow)⟩;rw[hres,hstep];simp
  .have hend:=hstop (.inr hen);have henb:(V.en==0)=M:=ec;refine qH ?_<|ya h0 h1 h2 hp2 h7 hp7 h8 hT hil<|henb;rw[hend];refine qE [(.s 6,root)] (.one rfl) qD ⟨qB,by simp[hp7,hr1,hr2],qu.ri (have ow:=hO;qu.re ow) (λ_=>vF) (λm hm=>dS) Aa⟩
 .have hend:=hstop (.inl qA);refine qH ?_<|y9 h0 h1 h2 hp2 h7 hp7 h8 hT<|hil;rw[hend];refine qE [(.s 6,root)] (.one rfl) qD ⟨qB,by simp[hp7,hr1,hr2],qu.ri (have ow:=hO;qu.re ow) (λ_=>vF) (λm hm=>dS) Aa⟩
abbrev YG:qV:=ba<|.l 7 [6,5,4,3,2,1,0]<|.q 8<|.l 9 [4,3,2,1,0]<|.l 10 [0]<|.q 11<|.q 12<|.l 13 []<|.done
abbrev YH:qV:=Br<|.l 18 [8,7,6,5,4,3,2]<|.done
abbrev YI:qV:=gA<|.l 14 []<|.done
abbrev YJ:qV:=eG<|.l 9 [3,2,1,0]<|.l 10 [3,2,1]<|.l 11 []<|.done
def Ql{l:List Hm.Act}(h:∀(i:Nat)a,l[i]?=Z a->g [iv a.qG,iv (er i a),.hs (.c n i 2) 3 0 8]=[iv a.qG,iv (er i a),.hs (.c m i 2) 3 0 8]):(kW n l).map g=kW m l:=by
 apply yp;intro j;rw[j3,CS,CS]
 cases hj:l[j]? with
 |none=>rfl
 |some a=>simp only[kB];rw[h j a hj]
def S1{l:List (List qr)}(h:∀(i:Nat)c,l[i]?=Z c->g [.hs (.c n i 0) 3 0 8]=[.hs (.c m i 0) 3 0 8]):(ky n l).map g=ky m l:=by
 apply yp;intro j;rw[j3,Kk,Kk]
 cases hj:l[j]? with
 |none=>rfl
 |some a=>simp only[kB];rw[h j a hj]
def Tx{l:List (Nat×Nat)}(h:∀(i:Nat)c,l[i]?=Z c->g [iv c.1,iv c.2,.hs (.c n i 2) 3 0 0]=[iv c.1,iv c.2,.hs (.c m i 2) 3 0 0]):(wS n l).map g=wS m l:=by
 apply yp;intro j;rw[j3,G8,G8]
 cases hj:l[j]? with
 |none=>rfl
 |some a=>simp only[kB];rw[h j a hj]
@[simp]theorem qB5{P:Program}{T:TypeId}{z q len:Nat}{lo hi:Option Int}:kM P T hp (.hs n z q len) lo hi=match y7 P T with
  |some e=>if z=qi P e/\0<=lo.getD 0/\lo.getD 0<=hi.getD len/\(hi.getD len<=len\/q+(hi.getD len).toNat<=lh hp n z)then Z (.hs n z (q+(lo.getD 0).toNat) ((hi.getD len).toNat-(lo.getD 0).toNat))else Y
  |none=>Y:=rfl
@[simp]theorem mem_slrows{l:List qr}{r:List AV}:r∈zD l↔∃s∈l,jv s=r:=oM
def DT(gl):qL prog gl 64 [] (λr y H'=>y=.hs r 3 0 8/\H' r=Z (.row 3 (zD jZ))):=by
 have h0:List.replicate 8 [bv M,iv 0,iv 0]=zD jZ:=rfl;refine qL.q9 func64 [.tmp 0] ntmps64 λC w g root=>?_;refine qH ?_<| h0;refine qE [(.s 0,root)] (.one rfl) qD ⟨qB,by simp[<- h0]⟩
def GL(gl)(l:List qr)(hl:O l=8):qL prog gl 221 [.sl 3 (zD l)] (λr y H'=>y=.hs r 3 0 8/\H' r=Z (.row 3 (zD l))):=by
 refine qL.q9 func221 [.tmp 2] ntmps221 λC w g root=>?_;refine qH ?_<| hl;refine qE [(.s 2,root)] (.one rfl) qD ⟨qB,qB⟩
def ph(gl:Nat->Option (List AV))(p:qC)(n:Nat):Prop:=∀(H:Nm->Option AO)(W:qM)(a:Nat),qu H p W->zI p W->W.left<n->a<O W.qJ->W.en=0->H (.u 2 0 0)=Y ->
 qX prog gl 65 (Nm.under Wn) [.pt Wn 0,iv a] H (λ_ y H'=>y=q8.av (qm p n W a).2/\qu H' p (qm p n W a).1) qw
def xO(k:G2)(x:A)(h:A->jH G2->G:=by
 intro fx kk;refine qK ?_
 repeat((first|refine qP (id:=2) YG mixed ?_|refine qP (id:=7) YH mixed ?_|refine qP (id:=10) YI mixed ?_|refine qP (id:=11) YJ mixed ?_);refine zC ?_;refine qK ?_)
 exact kk.h):G:=h x ⟨k⟩
def LB(gl)(p:qC)(n:Nat)(hR:ph gl p n)(H:Nm->Option AO)(W:qM)(b up lo:Nat)(vs all:List q8)(hP:zi p)(hw:zI p W)(hn:W.left<n)(h0:W.en=0)(hm:kH p W.qJ b up)(hv:∀v∈vs,zh (O W.qI) (O W.qU) v)(hr:Room 1 W)
  (hall:all.drop lo=vs)(hlo:lo+O vs=O all)(hpar:uG p b=O vs)(hv2:O vs<=1)(hO:qu H p W)(hL:H (.u 2 0 0)=Z (.row 2 (zm all))):
  qX prog gl 203 zP [.pt Wn 0,iv b,iv up,.hs (.u 2 0 0) 2 lo (O vs)] H (λr y H'=>y=.zT [q8.av (jj p (qm p n) W b up vs).2,.hs r 3 0 8]/\H' r=Z (.row 3 (zD ((jj p (qm p n) W b up vs).1.vars (Z (O W.qJ)))))/\qu H' p (jj p (qm p n) W b up vs).1) qw:=by
 have hT:=hO.top;have hA:=hO.qJ;obtain⟨sl,hS⟩:=hO.jw;simp only[jW]at hT;have hl1:=hr.qJ;have hl2:=hr.jw;have hal:O W.qJ<=1000:=qA;have hsl:O W.stack<=1000:=qA;refine qX.q9 func203 [.cell 8 115,.tmp 9] ntmps203 (λ_=>vF) λC w g root hroot=>?_;have hr0:=hroot root (Nm.uQ _);simp only[sT,Bool.or_eq_false_iff]at hr0;obtain⟨hr1,hr2⟩:=hr0;have fx:=zJ hT hA hS hal<|hsl;have d1:=DT gl;refine xO ?_<|@fx;clear fx d1;have hap:kW (.c Wn 0 1) W.qJ++[[iv b,iv (er (O W.qJ) ⟨b,up,jZ⟩),.hs (.c (.c Wn 0 1) (O W.qJ) 2) 3 0 8]]=kW (.c Wn 0 1) (W.qJ++[⟨b,up,jZ⟩]):=Qk (a:=⟨b,up,jZ⟩)
 have hpos:¬O W.qJ=0:=by
  obtain⟨a,ha,_⟩:=hw.a0;have:=(gS ha).1;omega
 have hoi:er (O W.qJ) ⟨b,up,jZ⟩=up:=by simp only[er,hpos,if_false]
 rw[hoi]at hap;have hb0:j4 p W b up vs 0={W with qJ:=W.qJ++[⟨b,up,jZ⟩],stack:=W.stack++[O W.qJ]}:=by simp[j4,dR]
 refine zK (λn st=>∃i:Nat,n=O vs-i/\i<=O vs/\st.tm 0=.pt Wn 0/\st.tm 1=iv b/\st.tm 3=.hs (.u 2 0 0) 2 lo (O vs)/\st.hp (.u 2 0 0)=Z (.row 2 (zm all))/\st.tm 8=.pt (.s 8) 0/\st.hp (.s 8)=Z (.row 2 [[iv 0,iv 0]])/\st.tm 10=iv (O W.qJ)/\st.tm 11=iv i/\qu st.hp p (j4 p W b up vs i)) (O vs) ?_ ?_
 .refine⟨0,qA,qA,qB,qB,qB,ed,qB,qB,qB,qB,?_⟩;rw[hb0];refine⟨by simp[jW],?_,λi a ha=>?_,⟨[],by simp[jQ]⟩,by simp[hO.zM],tJ,A5,λi c hc=>by simp[hO.cls i c hc],rP,tq⟩
  .simp [<- hap];rw[jg qB];refine Ql λi a ha=>?_;have hne:¬i=O W.qJ:=by have:=(gS ha).1;omega
   have hne':¬O W.qJ=i:=qA;simp[hne,hne']
  rcases dN i (O W.qJ)with hlt|hge
  .have ha':W.qJ[i]?=Z a:=by simpa[ua hlt]using ha
   have hne:¬i=O W.qJ:=qA;have hne':¬O W.qJ=i:=qA;simp[hO.act i a ha',hne,hne']
  .have hi:i=O W.qJ:=by
    have:=(gS ha).1;simp at this;omega
   subst hi;have ha':a=⟨b,up,jZ⟩:=by simpa using ha.symm
   subst ha';simp
 clear hT hA hS hap hb0 hO;obtain⟨k,hk,hpk⟩:=hm.shape;obtain⟨_,hkE⟩:=gS hk;have jN:=(gS hk).1;rintro m st - - ⟨i,rfl,hi,t0,t1,t3,hp2,t8,hp8,t10,t11,hO⟩;have hT:=hO.top;have hA:=hO.qJ;have hok:zI p (j4 p W b up vs i):=Jg hw hm hv hr;have hlen:O (j4 p W b up vs i).qJ=O W.qJ+1:=by simp[j4]
 simp only[jW]at hT;by_cases hil:i<O vs
 .obtain⟨x,hx⟩:∃x,k.params[i]?=Z x:=⟨_,gE qA⟩;obtain⟨hxl,hxE⟩:=gS hx;have hxr:=(hP.sh.names k (gM hk)).params x (gM hx);obtain⟨v,hvi⟩:=gX hil;have hva:all[lo+i]?=Z v:=by rw[<- hvi,<- hall,AW]
  obtain⟨hal',hvE⟩:=gS hva;have hst:=Jh (w:=W) (up:=up) hP hk hx hvi;obtain⟨X,rfl⟩:∃X:Nat,x=X:=⟨x.toNat,qA⟩;obtain⟨v1,v2⟩:=v;refine xO ?_<|qg t0 t1 t3 hp2 t8 hp8 t10 t11 hT hil hk hkE<|zy jN hx hxE hxl hva hvE<|hal';intro K hK;have fx:=aI t0 (aI t10 hT);refine uT Wn rfl zG (hF:=PX _ _ p (j4 p W b up vs i) (O W.qJ) X (v1,v2) hP.sh hok qA qA (have ow:=hO;qu.re ow)) (h:=?_);rintro y H1 hO1;clear fx;rw[hst]at hO1;have hT1:=hO1.top;simp only[jW]at hT1;refine xO ?_<|qg t0 t1 t3 hp2 t8 hp8 t10 t11 hT hT1 hil hk<|jA hkE jN hx hxE hxl hva hvE<|hal';refine⟨O vs-(i+1),qA,i+1,rfl,qA,wP,oX,cg,jV,iD,by simp[hp8],by simp[t10],by simp[t11];exact qk qA qA,(have ow:=hO1;qu.re ow)⟩
 .obtain rfl:i=O vs:=qA;have hbeg:j4 p W b up vs (O vs)=ja p W b up vs:=Jf qA (qb _);rw[hbeg]at hO hok hlen hT hA;refine xO ?_<|zx t0 t1 t3 t10 t11<|hT;intro K hK;have fx:=aI t0 (aI t10 hT);refine uT Wn rfl zG (hF:=hR _ (ja p W b up vs) (O W.qJ) (have ow:=hO;qu.re ow) hok hn qA h0 qB) (h:=?_);rintro y H1 ⟨rfl,hO1⟩;clear fx;obtain⟨hAf,hvok⟩:=fz hP.sh n (ja p W b up vs) (O W.qJ) hok hn qA h0;have hent:jj p (qm p n) W b up vs=(cA (qm p n (ja p W b up vs) (O W.qJ)).1,(qm p n (ja p W b up vs) (O W.qJ)).2):=rfl;generalize qm p n (ja p W b up vs) (O W.qJ)=q at hO1 hAf hvok hent;obtain⟨V,v1,v2⟩:=q;simp only at hO1 hAf hvok hent;have hVl:O W.qJ<O V.qJ:=by have:=hAf.grow.aq;omega
  obtain⟨a',ha'⟩:∃a',V.qJ[O W.qJ]?=Z a':=⟨_,gE hVl⟩;obtain⟨_,haE⟩:=gS ha';have hal8:=(hAf.ok.vars _ a' ha').1;have hT1:=hO1.top;have hA1:=hO1.qJ;have hV1:=hO1.act _ a' ha';obtain⟨sl1,hS1⟩:=hO1.jw;simp only[jW]at hT1;by_cases hen:V.en=0
  .have hstk:V.stack=W.stack++[O W.qJ]:=hAf.jw hen;have hsl1:O V.stack=O W.stack+1:=by rw[hstk];simp
   have hwr:IntKind.i64.wrap (O W.stack:Int)=O W.stack:=qk qA qA
   have hend:cA V={V with stack:=W.stack}:=by
    unfold cA;rw[if_pos hen,hstk];simp
   rw[hend]at hent;rw[hsl1]at hT1;have hle1:(O W.stack:Int)<=(O W.stack:Int)+1:=qA;have hle0:(0:Int)<=(O W.stack:Int):=qA;have fx:=qg t0 t1 t3 t8 hp8 t10 t11 hT hT1 hA1 hV1 hS1<|jA hen hsl1 hwr hle1 hle0 ha' haE<|hVl;have d1:=GL gl a'.vars hal8;refine xO ?_<|@fx;clear fx d1;rw[hent];refine qE [(.s 9,root)] (.one rfl) (by simp[t8];rfl) ⟨qB,?_,qu.ri ?_ (λ_=>vF) (λm hm=>dS) Aa⟩
   .simp [hr1,hr2,qM.vars,ha']
   .exact⟨by simp[jW,hen],by simp[hA1],λi a ha=>by simp[hO1.act i a ha],⟨(O W.qJ:Int)::sl1,by simp[hS1,hstk,jQ]⟩,by simp[hO1.zM],DC,Ak,λi c hc=>by simp[hO1.cls i c hc],by simp[hO1.out],Ad⟩
  .have hend:cA V=V:=by
    unfold cA;rw[if_neg hen]
   have henb:(V.en==0)=M:=ec;rw[hend]at hent;have fx:=qg t0 t1 t3 t8 hp8 t10 t11 hT hT1 hA1 hV1 henb<|ql ha' haE<|hVl;have d1:=GL gl a'.vars hal8;refine xO ?_<|@fx;clear fx d1;rw[hent];refine qE [(.s 9,root)] (.one rfl) (by simp[t8];rfl) ⟨qB,?_,qu.ri (have ow:=hO1;qu.re ow) (λ_=>vF) (λm hm=>dS) Aa⟩;simp[hr1,hr2,qM.vars,ha']
abbrev YK:qV:=bB<|.l 8 [7,6,5,4,3,2,1,0]<|.l 9 []<|.done
abbrev YL:qV:=gA<|.done
def Db(k:G2)(x:A)(h:A->jH G2->G:=by
 intro fx kk;refine qK ?_
 repeat((first|refine qP (id:=4) YK mixed ?_|refine qP (id:=5) YL mixed ?_);refine zC ?_;refine qK ?_)
 exact kk.h):G:=h x ⟨k⟩
def Rs(gl)(p:qC)(n:Nat)(hR:ph gl p n)(H:Nm->Option AO)(W:qM)(f:q8)(lo:Nat)(vs all:List q8)(hP:zi p)(hw:zI p W)(hn:W.left<n)(h0:W.en=0)(hf:zh (O W.qI) (O W.qU) f)(hv:∀v∈vs,zh (O W.qI) (O W.qU) v)(hr:Room 1 W)
  (hall:all.drop lo=vs)(hlo:lo+O vs=O all)(hv2:O vs<=1)(hO:qu H p W)(hL:H (.u 2 0 0)=Z (.row 2 (zm all))):
  qX prog gl 204 zP [.pt Wn 0,q8.av f,.hs (.u 2 0 0) 2 lo (O vs)] H (λ_ y H'=>y=q8.av (ub p (qm p n) W f vs).2/\qu H' p (ub p (qm p n) W f vs).1) qw:=by
 have hT:=hO.top;simp only[jW]at hT;obtain⟨f1,f2⟩:=f;refine qX.q9 func204 [.cell 6 115] ntmps204 (λ_=>vF) λC w g root hroot=>?_;by_cases h2:f1=2
 .subst h2;have hf2:=hf.num;have hf3:=hf.fn rfl;simp only at hf2 hf3;obtain⟨i,rfl⟩:∃i:Nat,f2=i:=⟨f2.toNat,qA⟩;have hil:i<O W.qI:=qA;obtain⟨g,hg⟩:=gX hil;obtain⟨_,hgE⟩:=gS hg;have hm:=hw.qI i g hg;obtain⟨k,hk,hpk⟩:=hm.shape;obtain⟨jN,hkE⟩:=gS hk;have hF:=hO.qI;by_cases hl:O k.params=O vs
  .have hc:ub p (qm p n) W (2,(i:Int)) vs=jj p (qm p n) W g.1 g.2 vs:=by
    simp[ub,hg,hpk,hl]
   have hlb:((O k.params:Int)==(O vs:Int))=B:=by rw[hl];simp
   refine Db ?_<|ya hT hF hil hg hgE hk hkE jN hlb<|@zA;intro K hK;have fx:=aI hT hF;refine w9 zG ed (hF:=LB _ p n hR _ W g.1 g.2 lo vs all hP hw hn h0 hm hv hr hall hlo (by rw[hpk,hl]) hv2 (have ow:=hO;qu.re ow) ed) (h:=?_);rintro y H1 ⟨rfl,hp1,hO1⟩;clear fx;have hT1:=hO1.top;simp only[jW]at hT1;refine Db ?_<|ql hT hT1<|hp1;rw[hc];refine qE [] .nil qD ⟨qB,qu.ri (have ow:=hO1;qu.re ow) (λ_=>vF) (λm hm=>dS) qB⟩
  .have hc:ub p (qm p n) W (2,(i:Int)) vs=({W with en:=6},(0,0)):=by
    simp[ub,hg,hpk,hl]
   have hlb:((O k.params:Int)==(O vs:Int))=M:=by
    rw[beq_eq_false_iff_ne];omega
   refine Db ?_<|ya hT hF hil hg hgE hk hkE jN hlb<|@zA;rw[hc];refine qE [] .nil qD ⟨qB,qu.ri ⟨tk,tv,λi a ha=>su,hO.jw.imp λl hl=>tY,tz,rO,rQ,λi c hc=>tI,rN,rT⟩ (λ_=>vF) (λm hm=>dS) qB⟩
 .have hb1:(f1==2)=M:=lH;have hc:ub p (qm p n) W (f1,f2) vs=({W with en:=5},(0,0)):=by simp[ub,h2]
  refine Db ?_<|ql hT hb1<|@zA;rw[hc];refine qE [] .nil qD ⟨qB,qu.ri ⟨tk,tv,λi a ha=>su,hO.jw.imp λl hl=>tY,tz,rO,rQ,λi c hc=>tI,rN,rT⟩ (λ_=>vF) (λm hm=>dS) qB⟩
end Go.Proofs.YtjgpejikjhojcaaGreatDoor
end
