import Derived.Test.YtjgpejikjhojcaaGreatDoorD31
import Derived.Test.YtjgpejikjhojcaaGreatDoorD23
import Derived.Test.YtjgpejikjhojcaaGreatDoorD18
set_option linter.all false
set_option maxRecDepth 100000
set_option maxHeartbeats 4000000
open Option renaming some->Z,none->Y
open Bool renaming true->B,false->M
open List renaming length->O

section
namespace Go.Proofs.YtjgpejikjhojcaaGreatDoor
open Go Go.Hm Go.Proofs Tryz
variable{A G G2:Prop}
abbrev YM:qV:=ba<|.l 7 []<|.l 8 []<|.done
abbrev YN:qV:=eG<|.l 9 [4,3,2,1,0]<|.l 10 [0]<|.q 11<|.q 12<|.l 13 []<|.done
abbrev Nn:qV:=bA<|.l 6 []<|.l 7 []<|.done
def cx(k:G2)(x:A)(h:A->jH G2->G:=by
 intro fx kk;refine qK ?_
 repeat((first|refine qP (id:=8) YM mixed ?_|refine qP (id:=10) YN mixed ?_|refine qP (id:=19) Nn mixed ?_|refine qP (id:=21) Nn mixed ?_);refine zC ?_;refine qK ?_)
 exact kk.h):G:=h x ⟨k⟩
theorem qDo(gl)(p:qC)(n:Nat)(hR:ph gl p n)(H:Nm->Option AO)(W:qM)(a:Nat)(k:qY)(s:qT)(hP:zi p)(hw:zI p W)(hn:W.left<n)(h0:W.en=0)(ha:a<O W.qJ)(hk:p[W.qG a]?=Z k)(hs:s∈k.body)(hkd:0<=s.kind/\s.kind<=7)(hr:Room 2 W)(hO:qu H p W)(hV:H (.u 2 0 0)=Y):
  qX prog gl 155 (Nm.under Wn) [.pt Wn 0,iv a,s.av] H (λ_ y H'=>y=q8.av (vf p (qm p n) W a s).2/\qu H' p (vf p (qm p n) W a s).1) qw:=by
 have hT:=hO.top;simp only[jW]at hT;have hst:=hP.sh.fD _ k hk s hs;have hnm:=hP.sh.names k (gM hk);have hrd:=hnm.reads s hs;have hrl:=qT.lf s;refine qX.q9 func155 [.cell 6 115] ntmps155 (λ_=>y8 rfl) λC w g root hroot=>?_;have fx:=hT;have d1:=EF gl s;refine cx ?_<|@fx;clear fx d1;intro K hK;refine kU (.s 13) (.u 2 0 0) (.inl rfl) (.inr td) ?_;have fx:=hT;refine w9 zG qB (hF:=Vv _ _ p W a s.reads hP.sh hw ha hrd hrl (have ow:=hO;qu.re ow) qB) (h:=?_);rintro y H1 ⟨rfl,hp1,hO1⟩;clear fx;obtain⟨hA,hvok,hcase,hlen,_⟩:=xW (a:=a) (l:=s.reads) hw;have hval:vf p (qm p n) W a s=if(z7 p W a s.reads).1.en≠0 then((z7 p W a s.reads).1,(0,0))else yY p (qm p n) (z7 p W a s.reads).1 a s (z7 p W a s.reads).2:=rfl
 generalize z7 p W a s.reads=q at hp1 hO1 hA hvok hcase hlen hval;obtain⟨V,vs⟩:=q;simp only at hp1 hO1 hA hvok hcase hlen hval;have hT1:=hO1.top;simp only[jW]at hT1;obtain⟨kd,to,sa,sb⟩:=s;simp only at hkd;by_cases hen:V.en=0
 case neg=>
  rw[if_pos hen]at hval;have henb:(V.en==0)=M:=ec;refine cx ?_<|zJ hT hT1 hp1 henb<|@zA;rw[hval];refine qE [] .nil qD ⟨qB,(have ow:=hO1;qu.re ow)⟩
 rw[if_neg ec]at hval
 obtain rfl:V=W:=by
  rcases hcase with e|⟨e,he,h⟩
  .exact e
  .rw [h]at hen;exact absurd hen he
 have hl:=hlen hen;have henb:(V.en==0)=B:=ec;have hkc:kd=0\/kd=1\/kd=2\/kd=3\/kd=4\/kd=5\/kd=6\/kd=7:=qA;rcases hkc with rfl|rfl|rfl|rfl|rfl|rfl|rfl|rfl
 .have hw0:yY p (qm p n) V a ⟨0,to,sa,sb⟩ vs=(V,(1,sa)):=ci;rw[hw0]at hval;refine cx ?_<|zJ hT hT1 hp1 henb<|@zA;rw[hval];refine qE [] .nil qD ⟨qB,(have ow:=hO1;qu.re ow)⟩
 .obtain⟨u,rfl⟩:∃u,vs=[u]:=by
   match vs,hl with
   |[u],_=>exact⟨u,rfl⟩
   |[],h=>simp[qT.reads]at h
   |_::_::_,h=>simp[qT.reads]at h
  have hw0:yY p (qm p n) V a ⟨1,to,sa,sb⟩ [u]=(V,u):=ci;rw[hw0]at hval;refine cx ?_<|zJ hT hT1 hp1 henb<|@zA;rw[hval];refine qE [] .nil qD ⟨qB,(have ow:=hO1;qu.re ow)⟩
 .obtain⟨u,v,rfl⟩:∃u v,vs=[u,v]:=by
   match vs,hl with
   |[u,v],_=>exact⟨u,v,rfl⟩
   |[],h=>simp[qT.reads]at h
   |[_],h=>simp[qT.reads]at h
   |_::_::_::_,h=>simp[qT.reads]at h
  have hw0:yY p (qm p n) V a ⟨2,to,sa,sb⟩ [u,v]=uf V u v:=ci;rw[hw0]at hval;refine cx ?_<|zJ hT hT1 hp1 henb<|@zA;intro K hK;have fx:=aI hT hT1;refine uT Wn rfl dW (hF:=Xm _ _ p V u v (hvok u qB) (hvok v qB) (have ow:=hO1;qu.re ow)) (h:=?_);rintro y H2 ⟨rfl,hO2⟩;clear fx;have hT2:=hO2.top;simp only[jW]at hT2;refine cx ?_<|zx hT hT1 hp1 hT2 henb<|@zA;rw[hval];refine qE [] .nil qD ⟨qB,(have ow:=hO2;qu.re ow)⟩
 .obtain⟨q,hq1,hq2,hq3,hq4⟩:=zp.made hst (.inl rfl);simp only at hq3;obtain⟨A,rfl⟩:∃A:Nat,sa=A:=⟨sa.toNat,qA⟩;have hw0:yY p (qm p n) V a ⟨3,to,(A:Int),sb⟩ vs=({V with qI:=V.qI++[(A,a)]},(2,(O V.qI:Int))):=ci;rw[hw0]at hval;have hF:=hO1.qI;have hfl:=hr.qI;have hfl':O V.qI<=1000:=qA;have hwr:IntKind.i64.wrap (O V.qI:Int)=O V.qI:=qk qA qA;have hap:wS (.c Wn 0 4) V.qI++[[iv A,iv a,.hs (.c (.c Wn 0 4) (O V.qI) 2) 3 0 0]]=wS (.c Wn 0 4) (V.qI++[(A,a)]):=Tw;refine cx ?_<|jA hT hT1 hp1 henb hF hfl' hwr<|@zA;rw[hval];refine qE [] .nil qD ⟨qB,qu.fin ⟨by simp[jW,hT1],by simp[hO1.qJ],λi b hb=>by simp[hO1.act i b hb],hO1.jw.imp λl hl=>rW,by simp[hO1.zM],?_,Ak,λi c hc=>by simp[hO1.cls i c hc],by simp[hO1.out],Ad⟩⟩;simp[<- hap];rw[jg qB];refine Tx λi c hc=>?_;have hne:¬i=O V.qI:=Cb;have hne':¬O V.qI=i:=qA;simp[hne,hne']
 .obtain⟨q,hq1,hq2,hq3,hq4⟩:=zp.made hst (.inr rfl);have hm:=I7 hst ha (.inr rfl);simp only at hq1 hq3 hm;obtain⟨A,rfl⟩:∃A:Nat,sa=A:=⟨sa.toNat,qA⟩;simp only[un]at hq1 hm
  have hpar:uG p A=0:=by
   have hh:=hP.sh.head A q hq1;have hA0:¬A=0:=qA;simp only[ul,hA0,if_false]at hh;simp only[uG,hq1];simp only at hq4;omega
  have hw0:yY p (qm p n) V a ⟨4,to,(A:Int),sb⟩ vs=co p (qm p n) V A a:=ci;rw[hw0]at hval;refine cx ?_<|zJ hT hT1 hp1 henb<|@zA;intro K hK;refine kU (.s 67) (.u 2 0 0) (.inl rfl) (.inr td) ?_;have fx:=aI hT hT1;refine w9 dW qB (hF:=LB _ p n hR _ V A a 0 [] [] hP hw hn h0 hm qB (hr.mono qA) rfl rfl (by rw[hpar];rfl) qB (have ow:=hO1;qu.re ow) qB) (h:=?_);rintro y H2 ⟨rfl,hp2,hO2⟩;clear fx
  have hcl:co p (qm p n) V A a=if(jj p (qm p n) V A a []).1.en≠0 then((jj p (qm p n) V A a []).1,(0,0))else
   ({ (jj p (qm p n) V A a []).1 with qU:=(jj p (qm p n) V A a []).1.qU++[(jj p (qm p n) V A a []).1.vars (Z (O V.qJ))]},(3,(O (jj p (qm p n) V A a []).1.qU:Int))):=rfl
  rw[hcl]at hval;obtain⟨⟨e1,e2,e3⟩,e4⟩:=DV (vs:=[]) (fz hP.sh n) hw hn h0 hm qB (hr.mono qA);have hrc:O (jj p (qm p n) V A a []).1.qU<=1000:=by have:=e1.aR;omega
  generalize jj p (qm p n) V A a []=q2 at hp2 hO2 hval e1 hrc;obtain⟨U,v⟩:=q2;simp only at hp2 hO2 hval e1 hrc;have hT2:=hO2.top;simp only[jW]at hT2;by_cases hen2:U.en=0
  case neg=>
   rw[if_pos hen2]at hval;have henb2:(U.en==0)=M:=tM;refine cx ?_<|zx hT hT1 hp1 hT2 henb2<|@zA;rw[hval];refine qE [] .nil qD ⟨qB,(have ow:=hO2;qu.re ow)⟩
  rw[if_neg tM]at hval;have henb2:(U.en==0)=B:=tM;generalize U.vars (Z (O V.qJ))=nv at hp2 hval;have hC:=hO2.jG;have hwr:IntKind.i64.wrap (O U.qU:Int)=O U.qU:=qk qA qA;have hap:ky (.c Wn 0 5) U.qU++[[.hs (.c (.c Wn 0 5) (O U.qU) 0) 3 0 8]]=ky (.c Wn 0 5) (U.qU++[nv]):=S0;refine cx ?_<|ya hT hT1 hp1 hT2 henb2 hp2 hC hrc hwr<|@zA;rw[hval];refine qE [] .nil qD ⟨qB,qu.fin ⟨by simp[jW,hT2],by simp[hO2.qJ],λi b hb=>by simp[hO2.act i b hb],hO2.jw.imp λl hl=>rW,by simp[hO2.zM],by simp[hO2.qI],?_,λi c hc=>?_,by simp[hO2.out],by simp[hO2.zt]⟩⟩
  .simp [<- hap];rw[jg qB];refine S1 λi c hc=>?_;have hne:¬i=O U.qU:=Cb;have hne':¬O U.qU=i:=qA;simp[hne,hne']
  .simp only at hc;rcases dN i (O U.qU)with hlt|hge
   .rw [ua hlt]at hc;have hne:¬i=O U.qU:=qA;have hne':¬O U.qU=i:=qA;simp[hO2.cls i c hc,hne,hne']
   .rw [bn hge]at hc
    have hi:i=O U.qU:=by
     have:=(gS hc).1;simp at this;omega
    subst hi;simp at hc;subst hc;simp[hp2]
 .have hpos:0<O vs:=by
   rw[hl];by_cases e:sb=-1<;>simp[qT.reads,e]
  obtain⟨u,tl,rfl⟩:∃u tl,vs=u::tl:=by
   match vs,hpos with
   |u::tl,_=>exact⟨u,tl,rfl⟩
  have htl:O tl<=1:=by simp at hl;omega
  have hw0:yY p (qm p n) V a ⟨5,to,sa,sb⟩ (u::tl)=ub p (qm p n) V u tl:=ci;rw[hw0]at hval;have hle1:(1:Int)<=(O tl:Int)+1:=qA;have htn:((O tl:Int)+1).toNat=O tl+1:=qA;refine cx ?_<|jA hT hT1 hp1 henb htl hle1 htn<|@zA;intro K hK;refine kU (.s 7) (.u 2 0 0) (.inl rfl) (.inr td) ?_;have fx:=aI hT hT1;refine w9 dW vY (hF:=Rs _ p n hR _ V u 1 tl (u::tl) hP hw hn h0 (hvok u qB) (λv hv=>hvok v tW) (hr.mono qA) rfl qp htl (have ow:=hO1;qu.re ow) vY) (h:=?_);rintro y H2 ⟨rfl,hO2⟩;clear fx;have hT2:=hO2.top;simp only[jW]at hT2;refine cx ?_<|y9 hT hT1 hp1 hT2 henb htl hle1 htn<|@zA;rw[hval];refine qE [] .nil qD ⟨qB,(have ow:=hO2;qu.re ow)⟩
 .obtain⟨u,rfl⟩:∃u,vs=[u]:=by
   match vs,hl with
   |[u],_=>exact⟨u,rfl⟩
   |[],h=>simp[qT.reads]at h
   |_::_::_,h=>simp[qT.reads]at h
  have hsb:0<=sb/\sb<=7:=by
   simp only[zp]at hst;simp at hst;omega
  obtain⟨x,rfl⟩:∃x:Nat,sb=x:=⟨sb.toNat,qA⟩;have hw0:yY p (qm p n) V a ⟨6,to,sa,(x:Int)⟩ [u]=kO V u x:=ci;rw[hw0]at hval;refine cx ?_<|zJ hT hT1 hp1 henb<|@zA;intro K hK;have fx:=aI hT hT1;refine uT Wn rfl dW (hF:=RP _ _ p V u x hw (hvok u qB) qA (have ow:=hO1;qu.re ow)) (h:=?_);rintro y H2 ⟨rfl,hO2⟩;clear fx;have hT2:=hO2.top;simp only[jW]at hT2;refine cx ?_<|zx hT hT1 hp1 hT2 henb<|@zA;rw[hval];refine qE [] .nil qD ⟨qB,(have ow:=hO2;qu.re ow)⟩
 .obtain⟨u,rfl⟩:∃u,vs=[u]:=by
   match vs,hl with
   |[u],_=>exact⟨u,rfl⟩
   |[],h=>simp[qT.reads]at h
   |_::_::_,h=>simp[qT.reads]at h
  have hw0:yY p (qm p n) V a ⟨7,to,sa,sb⟩ [u]=(V,u):=ci;rw[hw0]at hval;refine cx ?_<|zJ hT hT1 hp1 henb<|@zA;rw[hval];refine qE [] .nil qD ⟨qB,(have ow:=hO1;qu.re ow)⟩
abbrev YO:qV:=bA<|.l 6 [4,3,2,1,0]<|.l 7 [4,3,2,1,0]<|.l 8 [0]<|.q 9<|.q 10<|.l 11 []<|.done
def mf(k:G2)(x:A)(h:A->jH G2->G:=by
 intro fx kk;refine qK ?_
 repeat((first|refine qP (id:=9) YO mixed ?_);refine zC ?_;refine qK ?_)
 exact kk.h):G:=h x ⟨k⟩
def qAQ(gl)(p:qC)(n:Nat)(hR:ph gl p n)(H:Nm->Option AO)(W:qM)(a:Nat)(k:qY)(s:qT)(hP:zi p)(hw:zI p W)(hn:W.left<n)(h0:W.en=0)(ha:a<O W.qJ)(hk:p[W.qG a]?=Z k)(hs:s∈k.body)(h8:s.kind≠8)(hr:Room 2 W)(hO:qu H p W)(hV:H (.u 2 0 0)=Y):
  qX prog gl 104 (Nm.under Wn) [.pt Wn 0,iv a,s.av] H (λ_ y H'=>qu H' p (uZ p (qm p n) W a s)) qw:=by
 have hT:=hO.top;simp only[jW]at hT;have hst:=hP.sh.fD _ k hk s hs;have hnm:=hP.sh.names k (gM hk);have hkd:=hnm.kinds s hs;have hto:=hnm.zE s hs;have hvl:=qDo gl p n hR;obtain⟨kd,to,sa,sb⟩:=s;simp only at h8 hkd hto;obtain⟨x,rfl⟩:∃x:Nat,to=x:=⟨to.toNat,qA⟩;refine qX.q9 func104 [] ntmps104 (λ_=>y8 rfl) λC w g root hroot=>?_;by_cases h9:kd=9
 .subst h9;have hc:uZ p (qm p n) W a ⟨9,x,sa,sb⟩=W:=by simp[uZ]
  refine mf ?_<| hT;rw[hc];refine qE [] .nil qD (have ow:=hO;qu.re ow)
 by_cases h10:kd=10
 .subst h10;have hc:uZ p (qm p n) W a ⟨10,x,sa,sb⟩=W:=by simp[uZ]
  refine mf ?_<| hT;rw[hc];refine qE [] .nil qD (have ow:=hO;qu.re ow)
 have hb9:(kd==9)=M:=by simpa using h9
 have hb10:(kd==10)=M:=by simpa using h10
 by_cases h11:kd=11
 .subst h11;have hc:uZ p (qm p n) W a ⟨11,x,sa,sb⟩=bD p W a x:=by simp[uZ]
  refine mf ?_<| hT;intro K hK;have fx:=hT;refine uT Wn rfl zG (hF:=qCh _ _ p W a x hP.sh hw ha qA (have ow:=hO;qu.re ow)) (h:=?_);rintro y H1 hO1;clear fx;have hT1:=hO1.top;simp only[jW]at hT1;refine mf ?_<|aI hT<|hT1;rw[hc];refine qE [] .nil qD (have ow:=hO1;qu.re ow)
 have hb11:(kd==11)=M:=by simpa using h11
 have hc:uZ p (qm p n) W a ⟨kd,x,sa,sb⟩=if(vf p (qm p n) W a ⟨kd,x,sa,sb⟩).1.en≠0 then(vf p (qm p n) W a ⟨kd,x,sa,sb⟩).1
   else if kd=7 then{ (vf p (qm p n) W a ⟨kd,x,sa,sb⟩).1 with out:=(vf p (qm p n) W a ⟨kd,x,sa,sb⟩).1.out++[Hm.shown (vf p (qm p n) W a ⟨kd,x,sa,sb⟩).2]}
   else fE p (vf p (qm p n) W a ⟨kd,x,sa,sb⟩).1 a x (vf p (qm p n) W a ⟨kd,x,sa,sb⟩).2:=by
  simp only[uZ];rw[if_neg qA,if_neg h11]
 refine mf ?_<|qz hT hb9 hb10<|hb11;intro K hK;have fx:=hT;refine uT Wn rfl zG (hF:=hvl _ W a k ⟨kd,x,sa,sb⟩ hP hw hn h0 ha hk hs ⟨by simp only;omega,by simp only;omega⟩ hr (have ow:=hO;qu.re ow) qB) (h:=?_);rintro y H1 ⟨rfl,hO1⟩;clear fx;obtain⟨hA,hvok⟩:=In (fz hP.sh n) hw hn h0 ha hst hr;generalize vf p (qm p n) W a ⟨kd,x,sa,sb⟩=q at hO1 hA hvok hc;obtain⟨V,v⟩:=q;simp only at hO1 hA hvok hc;have hT1:=hO1.top;simp only[jW]at hT1;have haV:a<O V.qJ:=um ha hA.grow.aq;by_cases hen:V.en=0
 case neg=>
  rw[if_pos hen]at hc;have henb:(V.en==0)=M:=ec;refine mf ?_<|qz hT hT1 henb<|@zA;rw[hc];refine qE [] .nil qD (have ow:=hO1;qu.re ow)
 rw[if_neg ec]at hc;have henb:(V.en==0)=B:=ec;by_cases h7:kd=7
 .subst h7;rw[if_pos rfl]at hc;have hU:=hO1.out;have hol:=hA.ok.aS;have hol':O V.out<=1000:=qA;have hap:qh V.out++[[iv (Hm.shown v)]]=qh (V.out++[Hm.shown v]):=y3;have hsh:=PF gl v;obtain⟨v1,v2⟩:=v;have fx:=zx hT hT1 henb hU hol'<|@zA;have c1:=hsh;refine mf ?_<|@fx;clear fx c1;rw[hc];refine qE [] .nil qD (qu.fin ⟨by simp[jW,hT1],by simp[hO1.qJ],λi b hb=>by simp[hO1.act i b hb],hO1.jw.imp λl hl=>rW,by simp[hO1.zM],DC,Ak,λi c hc=>by simp[hO1.cls i c hc],?_,Ad⟩);simp
 .rw [if_neg h7]at hc;have hb7:(kd==7)=M:=by simpa using h7
  have hst2:=PX gl (p:=p) (W:=V) (a:=a) (x:=x) (v:=v);obtain⟨v1,v2⟩:=v;refine mf ?_<|zJ hT hT1 henb hb7<|@zA;intro K hK;have fx:=aI hT hT1;refine uT Wn rfl dW (hF:=hst2 _ hP.sh hA.ok haV qA (have ow:=hO1;qu.re ow)) (h:=?_);rintro y H2 hO2;clear fx;have hT2:=hO2.top;simp only[jW]at hT2;refine mf ?_<|ql hT hT1<|hT2;rw[hc];refine yu [] .nil qD (have ow:=hO2;qu.re ow)
abbrev YP:qV:=O8<|.l 16 []<|.done
abbrev YQ:qV:=IK<|.l 15 [9,8,7,6,5,4,3,2,1,0]<|.l 16 [9,8,7,6,5,0]<|.q 17<|.q 18<|.l 19 []<|.done
def oo(k:G2)(x:A)(h:A->jH G2->G:=by
 intro fx kk;refine qK ?_
 repeat((first|refine qP (id:=1) YP mixed ?_|refine qP (id:=9) YQ mixed ?_);refine zC ?_;refine qK ?_)
 exact kk.h):G:=h x ⟨k⟩
def qAO(gl)(p:qC)(n:Nat)(hR:ph gl p n)(hP:zi p):ph gl p (n+1):=by
 intro H W a hO hw hn ha h0 hV
 show qX prog gl 65 (Nm.under Wn) [.pt Wn 0,iv a] H _ qw
 obtain⟨c,hc⟩:=gX ha;obtain⟨_,hcE⟩:=gS hc;have qv:=hw.af a c hc;obtain⟨k,hk⟩:=gX qv;obtain⟨_,hkE⟩:=gS hk;have hbk:=wk hc;have hT:=hO.top;have hA:=hO.qJ;simp only[jW]at hT;have hb12:=hP.sh.body k (gM hk);have hrun:qm p (n+1) W a=ve p (qm p n) a W 0 k.body:=by simp only[qm,hbk,hk]
 refine qX.q9 func65 [.cell 4 115] ntmps65 (λ_=>y8 rfl) λC w g root hroot=>?_;refine oo ?_<|jA hT hA hc hcE ha hk hkE<|qv;refine zK (λm st=>∃(i:Nat)(V:qM),m=O k.body-i/\i<=O k.body/\qm p (n+1) W a=ve p (qm p n) a V i (k.body.drop i)/\zI p V/\V.left<n+1/\a<O V.qJ/\V.en=0/\V.qG a=c.qG/\st.tm 0=.pt Wn 0/\st.tm 1=iv a/\st.tm 4=.pt (.s 4) 0/\st.hp (.s 4)=Z (.row 2 [[iv 0,iv 0]])/\st.tm 5=gD k.body/\st.tm 6=iv i/\qu st.hp p V) (O k.body) ?_ ?_
 .exact⟨0,W,qA,qA,by simpa using hrun,hw,hn,ha,h0,hbk,qB,qB,qB,qB,qB,qB,(have ow:=hO;qu.re ow)⟩
 clear hT hA hO;rintro m st - - ⟨i,V,rfl,hi,hres,hw',hn',ha',h0',hbV,t0,t1,t4,hp4,t5,t6,hO⟩;clear hrun h0 hn hw hc hcE ha;obtain⟨d,hd⟩:∃d,V.qJ[a]?=Z d:=⟨_,gE ha'⟩;obtain⟨_,hdE⟩:=gS hd;have hdb:d.qG=c.qG:=by rw[<- wk hd];exact hbV
 have hT:=hO.top;have hA:=hO.qJ;simp only[jW]at hT;by_cases hil:i<O k.body
 case neg=>
  have hge:i=O k.body:=qA;rw[hge,List.drop_length]at hres;simp only[ve]at hres;refine oo ?_<|zy t0 t1 t4 hp4 t5 t6<|hil;rw[hres];refine qE [] .nil mW ⟨qB,(have ow:=hO;qu.re ow)⟩
 obtain⟨s,hs⟩:=gX hil;obtain⟨_,hsE⟩:=gS hs;have hsm:=gM hs;have hdr:k.body.drop i=s::k.body.drop (i+1):=by rw[iz hil,hsE]
 rw[hdr]at hres;by_cases hl:V.left=0
 .have hr2:ve p (qm p n) a V i (s::k.body.drop (i+1))=({V with en:=1},(0,0)):=by simp only[ve,hl,if_true]
  rw[hr2]at hres;refine oo ?_<|y9 t0 t1 t4 hp4 t5 t6 hil hT<|hl;rw[hres];refine qE [] .nil mW ⟨qB,⟨by simp[hO.top,jW,hT,hl],by simp[hO.qJ,hT,hl],λi a ha=>by simp[hO.act i a ha,hT,hl],hO.jw.imp λl hl=>by simp[hl,hT,hl],by simp[hO.zM,hT,hl],by simp[hO.qI,hT,hl],by simp[hO.jG,hT,hl],λi c hc=>by simp[hO.cls i c hc,hT,hl],by simp[hO.out,hT,hl],by simp[hO.zt,hT,hl]⟩⟩
 obtain⟨l,hll⟩:∃l,V.left=l+1:=⟨V.left - 1,qA⟩
 have hr2:ve p (qm p n) a V i (s::k.body.drop (i+1))=if s.kind=8 then j9 p (zZ V a i) a s.a else if(uZ p (qm p n) (zZ V a i) a s).en≠0 then(uZ p (qm p n) (zZ V a i) a s,(0,0))else ve p (qm p n) a (uZ p (qm p n) (zZ V a i) a s) (i+1) (k.body.drop (i+1)):=by
  simp only[ve,hl,if_false]
 rw[hr2]at hres;clear hr2;obtain⟨tk1,tk2⟩:=E4 (a:=a) (i:=i) hw' hl;have hTt:zZ V a i={V with left:=l,trace:=V.trace++[(d.qG,i)]}:=by simp only[zZ,wk hd];rw[hll];rfl
 have hbV2:(zZ V a i).qG a=d.qG:=KJ;have hleft:(zZ V a i).left<n:=by simp only[zZ];omega
 have hTr:=hO.zt;have hnt:=hw'.aA;have hnl:=hw'.wU;have htl':O V.trace<=1000:=qA;have hl8:l<=1000:=qA;have hlb:((l:Int)+1==0)=M:=kQ;have hwl:IntKind.i64.wrap (l:Int)=l:=qk qA qA;have hap:vR V.trace++[[iv d.qG,iv i]]=vR (V.trace++[(d.qG,i)]):=Dq;by_cases h8:s.kind=8
 .rw [if_pos h8]at hres;have hb8:(s.kind==8)=B:=by simpa using h8
  have hrs:=(hP.sh.names k (gM hk)).reads s hsm s.a (by simp[qT.reads,h8]);obtain⟨x,hx⟩:∃x:Nat,s.a=x:=⟨s.a.toNat,qA⟩;rw[hx]at hres;refine oo ?_<|qg t0 t1 t4 hp4 t5 t6 hil hT hll hlb hwl hTr<|y9 htl' hA hd hdE ha' hs hsE hb8<|hx;intro K hK;have fx:=aI t0 (aI t1 hT);refine uT Wn rfl zG (hF:=Ma _ _ p (zZ V a i) a x hP.sh tk1 ha' qA KL) (h:=?_);rintro y H1 ⟨rfl,hO1⟩;clear fx;generalize j9 p (zZ V a i) a x=q at hO1 hres;obtain⟨U,v1,v2⟩:=q;have hT1:=hO1.top;simp only[jW]at hT1;refine oo ?_<|jA t0 t1 t4 hp4 t5 t6 hT<|hT1;rw[hres];refine qE [] .nil mW ⟨qB,(have ow:=hO1;qu.re ow)⟩
 .rw [if_neg h8]at hres;have hb8:(s.kind==8)=M:=by simpa using h8
  have hk':p[(zZ V a i).qG a]?=Z k:=by rw[hbV2,hdb];exact hk
  have hst:=hP.sh.fD _ k hk s hsm;have hSo:=EW (s:=s) (k:=k) (fz hP.sh n) tk1 hleft h0' ha' (by rw[hbV2,hdb];exact hst) tk2;refine oo ?_<|qg t0 t1 t4 hp4 t5 t6 hil hT hll hlb hwl hTr<|jA htl' hA hd hdE ha' hs hsE<|hb8;intro K hK;have fx:=aI t0 (aI t1 hT);refine uT Wn rfl zG (hF:=qAQ gl p n hR _ (zZ V a i) a k s hP tk1 hleft h0' ha' hk' hsm h8 tk2 KL qB) (h:=?_);rintro y H1 hO1;clear fx;have hAf:=hSo.tick hl;generalize uZ p (qm p n) (zZ V a i) a s=U at hO1 hAf hres hSo;have hT1:=hO1.top;simp only[jW]at hT1;by_cases hen:U.en=0
  .rw [if_neg ec]at hres;have henb:(U.en==0)=B:=ec;refine oo ?_<|ya t0 t1 t4 hp4 t5 t6 hT hT1 henb<|@zA;exact⟨O k.body-(i+1),qA,i+1,U,rfl,qA,hres,hAf.ok,by have:=hAf.grow.left;omega,um ha' hAf.grow.aq,hen,by rw[hAf.grow.qG hd];exact hbV,wP,oX,tO,aJ,ee,by simp[t6];exact qk qA qA,(have ow:=hO1;qu.re ow)⟩
  .rw [if_pos ec]at hres;have henb:(U.en==0)=M:=ec;refine oo ?_<|ya t0 t1 t4 hp4 t5 t6 hT hT1 henb<|@zA;rw[hres];refine qE [] .nil mW ⟨qB,(have ow:=hO1;qu.re ow)⟩
def OQ(gl)(p:qC)(hP:zi p):∀n,ph gl p n
 |0=>λH W a _ _ h=>absurd h qA
 |n+1=>qAO gl p n (OQ gl p hP n) hP
abbrev No:qV:=.q 0<|.q 2<|.l 1 [2,0]<|.q 3<|.l 4 []<|.l 5 []<|.done
def Ea(gl)(p:qC)(f:Int)(hs:jm p):qL prog gl 86 [jB p,iv f] (λ_ y _=>y=bv (kZ p f)):=by
 refine qL.q9 func86 [.tmp 4] ntmps86 λC w g root=>?_
 cases hv:j2 p
 .skip
  have fx:=hv;have c1:=hv ▸ lu gl p hs;refine qK ?_;clear fx c1;refine qE [] .nil qD (by simp[kZ,hv])
 .skip
  have fx:=hv;have c1:=hv ▸ lu gl p hs;have c2:=cu gl f 0 150;refine qK ?_;clear fx c1 c2;refine qE [] .nil qD (by simp[kZ,hv])
def Mo(gl)(H:Nm->Option AO)(p:qC)(f:Nat)(hP:zi p)(hf:f<=150)(h1:H (.u 1 0 0)=Y):
  qX prog gl 32 (Nm.under Wn) [jB p,iv f] H (λ_ y H'=>y=.pt Wn 0/\qu H' p (v7 p f)) qw:=by
 have hw:=EV hP.sh hf;refine qX.q9 func32 [.tmp 4] ntmps32 (λ_=>y8 rfl) λC w g root hroot=>?_;have fx:=qW;have d1:=DT gl;refine qK ?_
 repeat((first|refine qP (id:=1) No mixed ?_);refine zC ?_;refine qK ?_)
 clear fx d1;intro K hK;refine kU (.s 5) (.u 1 0 0) (.inl rfl) (.inr (by simp[jt,h1])) ?_;have fx:=qW;refine uT Wn rfl qB (hF:=OQ gl p hP 151 _ (jb f) 0 ?_ hw (by simp only[jb];omega) lK rfl qB) (h:=?_)
 .have e1:qh (jQ [0]++[])=[[iv 0]]:=rfl;have hsl:zD jZ=zD (jb f).globals:=rfl;refine⟨by simp[jW,jb],by simp[jb,kW,er],λi a ha=>?_,⟨[],by simp[jb,jQ,qh]⟩,lK,by simp[jb,wS],by simp[jb,ky],λi c hc=>by simp[jb]at hc,lK,lK⟩
  have hi:i=0:=by
   have:=(gS ha).1;simp[jb]at this;omega
  subst hi;have ha':a=⟨0,0,jZ⟩:=by simpa[jb]using ha.symm
  subst ha';simp
 rintro y H1 ⟨rfl,hO1⟩;clear fx;have hT1:=hO1.top;simp only[jW]at hT1;have hme:(qm p 151 (jb f) 0).1=v7 p f:=rfl;rw[hme]at hO1 hT1;have fx:=hT1;refine qK ?_
 repeat((first|refine qP (id:=1) No mixed ?_);refine zC ?_;refine qK ?_)
 clear fx;refine qE [] .nil qD ⟨qB,(have ow:=hO1;qu.re ow)⟩
abbrev Ho:qV:=IL<|.l 17 [12,11,10,9,8,7,6,5,2,1,0]<|.l 18 [12,11,10,9,8,7,6,5,2,1]<|.l 19 []<|.done
abbrev Hp:qV:=ba<|.l 7 []<|.l 8 []<|.done
abbrev Ya:qV:=IK<|.done
abbrev Nw:qV:=xp<|.l 13 []<|.l 14 []<|.done
def ry(gl)(D:Nm->Bool)(hD:∀k,D k=B->k.zj=M)(H:Nm->Option AO)(rows:List (List AV))(i k:Nat)(a0 a1 a2 a3 a4 a5:AV)(vs:List q8)(v:q8)(hr:H (.u 2 0 0)=Z (.row 7 rows))(hi:rows[i]?=Z [a0,a1,a2,a3,a4,a5,.hs (.c (.u 2 0 0) i 6) 2 0 (k+1)])(hs:H (.c (.u 2 0 0) i 6)=Z (.row 2 (zm vs)))(hv:vs[k]?=Z v)(hk:k<=1000):
  qX prog gl 182 D [.ep (.u 2 0 0) 7 i 0] H (sY D (q8.av v) (.u 2 0 0) (.row 7 (jn rows i 6 [.hs (.c (.u 2 0 0) i 6) 2 0 k])) H) qw:=by
 obtain⟨hil,hiE⟩:=gS hi;obtain⟨hvl,hvE⟩:=gS hv;obtain⟨v1,v2⟩:=v;have hw1:IntKind.i64.wrap (k:Int)=k:=qk qA qA;have hl1:(k:Int)<(k:Int)+1:=qA;have hl2:(k:Int)<=(k:Int)+1:=qA;have hl0:(0:Int)<=(k:Int):=qA;refine qX.q9 func182 [.cell 2 115] ntmps182 hD λC w g root hroot=>?_;have fx:=jU hr hi hiE hil hs hv hvE hvl hw1 hl0<|aI hl1<|hl2;refine qK ?_
 repeat((first|refine qP (id:=1) (.q 0<|.q 1<|.q 2<|.q 3<|.q 4<|.q 5<|.q 6<|.q 7<|.q 8<|.q 9<|.q 10<|.q 11<|.l 12 [11,10,9,8,7,6,5,4,3,2,1,0]<|.l 13 []<|.done) mixed ?_|refine qP (id:=2) (.q 0<|.q 1<|.q 2<|.q 3<|.q 4<|.q 5<|.q 6<|.q 7<|.q 8<|.q 9<|.q 10<|.q 11<|.q 12<|.q 13<|.l 14 []<|.done) mixed ?_);refine zC ?_;refine qK ?_)
 clear fx;refine qE [] .nil qD ⟨qB,λq hq=>?_⟩;have hq2:=λd=>(jp hD hq d).1;have hq3:=λd=>(jp hD hq d).2;by_cases e:q=.u 2 0 0
 .subst e;simp only[vW,hq,if_true];simp[AO.tr,Bl,TS hD,-List.map_map]
 .simp [vW,hq,hq2,hq3,e,LQ hD,-Option.map_map]
def Ke(gl)(p:qC)(n1 n2 n3 n4 n5 n6 n7 n8 n9 n10 n11 n12 n13 i1:Nat)(e1 e2:Int)(l ps:List Int)(qs:List Nat)(b:Nat)(cs:List vE)(hb0:0<b)(hb:b<O p)(hps:ps=jD p b)(hp:O ps<=8)(hq:∀(i:Nat)y,ps[i]?=Z y->∃z:Nat,y=z/\∃c,l[z]?=Z c/\(qs[i]?).map (λ(x:Nat)=>(x:Int))=Z c)(hqs:O qs=O ps):
  qL prog gl 223 [.el [kS cs,.sl 1 (cm mZ p),.hs (.c Xn 0 2) 3 0 n1,.hs (.c Xn 0 3) 3 0 8,.hs (.c Xn 0 4) 2 0 n2,.hs (.c Xn 0 5) 1 0 n3,.hs (.u 2 0 0) 7 0 n4,iv n5,iv n6,.hs (.c Xn 0 9) 1 0 n7,.hs (.c Xn 0 10) 2 0 n8,iv e1,iv n9] 0,.el [iv n10,iv n11,iv e2,.hs (.c (.u 2 0 0) i1 3) 3 0 n12,jO l,.hs (.c (.u 2 0 0) i1 5) 3 0 8,.hs (.c (.u 2 0 0) i1 6) 2 0 n13] 0,iv b] (λr y H'=>y=.hs r 1 0 (O qs)/\H' r=Z (.row 1 (qh (jQ qs)))):=by
 have hc:(cm mZ p)[b]?=Z [jO ps]:=by rw[hps];exact Rv hb0 hb
 obtain⟨hcl,hcE⟩:=gS hc;refine qL.q9 func223 [.tmp 6] ntmps223 λC w g root=>?_;have fx:=ql hc hcE<|hcl;refine qK ?_
 repeat((first|refine qP (id:=5) Ho mixed ?_);refine zC ?_;refine qK ?_)
 clear fx;refine zK (λn st=>∃i:Nat,n=O ps-i/\i<=O ps/\st.tm 0=.el [kS cs,.sl 1 (cm mZ p),.hs (.c Xn 0 2) 3 0 n1,.hs (.c Xn 0 3) 3 0 8,.hs (.c Xn 0 4) 2 0 n2,.hs (.c Xn 0 5) 1 0 n3,.hs (.u 2 0 0) 7 0 n4,iv n5,iv n6,.hs (.c Xn 0 9) 1 0 n7,.hs (.c Xn 0 10) 2 0 n8,iv e1,iv n9] 0/\st.tm 1=.el [iv n10,iv n11,iv e2,.hs (.c (.u 2 0 0) i1 3) 3 0 n12,jO l,.hs (.c (.u 2 0 0) i1 5) 3 0 8,.hs (.c (.u 2 0 0) i1 6) 2 0 n13] 0/\st.tm 2=iv b/\st.tm 7=.hs (.s 7) 1 0 i/\st.hp (.s 7)=Z (.row 1 (qh (jQ (qs.take i))))/\st.tm 8=iv i) (O ps) ?_ ?_
 .exact⟨0,qA,qA,qB,qB,qB,qB,by simp[jQ],qB⟩
 rintro n st - - ⟨i,rfl,hi,t0,t1,t2,t7,h7,t8⟩;by_cases hil:i<O ps
 .obtain⟨y,hy⟩:=gX hil;obtain⟨_,hyE⟩:=gS hy;obtain⟨z,rfl,c,hz,hqi⟩:=hq i y hy;obtain⟨hzl,hzE⟩:=gS hz;obtain⟨x,hx,rfl⟩:=zq.1 hqi;have htl:O (jQ (qs.take i))=i:=by simp[jQ];omega
  have hi8:i<=8:=qA;have fx:=qg t0 t1 t2 t7 h7 t8 hc hcE hcl hil hy hyE<|zJ hz hzE hzl htl<|hi8;refine qK ?_
  repeat((first|refine qP (id:=5) Ho mixed ?_);refine zC ?_;refine qK ?_)
  clear fx;refine⟨O ps-(i+1),qA,i+1,rfl,qA,ku,oX,kx,qB,?_,by simp[t8];exact qk qA qA⟩;have e1:qs.take (i+1)=qs.take i++[x]:=by rw[vd,hx];rfl
  have e2:qh (jQ (qs.take i))++[[iv x]]=qh (jQ (qs.take (i+1))):=by rw[e1];simp[jQ,qh]
  simp[<- e2];rw[jg qp]
 .obtain rfl:i=O ps:=qA;have fx:=ya t0 t1 t2 t7 h7 t8 hc hcE hcl<|hil;refine qK ?_
  repeat((first|refine qP (id:=5) Ho mixed ?_);refine zC ?_;refine qK ?_)
  clear fx;have:qs.take (O ps)=qs:=by rw[<- hqs];simp
  rw[this]at h7;exact yg (t:=6) KS KS qB
def BO(k:G2)(h:jH G2->G:=by
 intro kk;refine qK ?_
 repeat((first|refine qP (id:=2) Hp mixed ?_|refine qP (id:=4) Ya mixed ?_|refine qP (id:=5) Nw mixed ?_|refine qP (id:=6) Nw mixed ?_|refine qP (id:=8) Hp mixed ?_|refine qP (id:=9) Hp mixed ?_);refine zC ?_;refine qK ?_)
 exact kk.h):G:=h ⟨k⟩
def qB7(gl)(H:Nm->Option AO)(p:qC)(m:qR)(fs:List qO)(f:qO)(o:Int×Int)(dp:Nat)(hp:f.qG<O p)(hc:2<=o.1/\o.1<=13)(hx:sV m f o)(hg8:O m.globals=8)(hn8:O f.names=8)(hO:qS H p (.u 2 0 0) (m.top fs f) dp):
  qX prog gl 222 zP [.pt Xn 0,.ep (.u 2 0 0) 7 (O fs) 0,.agg [iv o.1,iv o.2]] H (λ_ y H'=>y=.zT [.ep (yV (.u 2 0 0) (O fs) o) 3 (uv f o) 0,iv (u0 p f o)]/\qS H' p (.u 2 0 0) (m.top fs f) dp) qw:=by
 have hT:=hO.top;simp only[zu]at hT;obtain⟨L,j,hL,hat,hlt,hF,hf,hn,hst⟩:=hO.ux rfl;obtain⟨_,hatE⟩:=gS hat;obtain⟨k,hk⟩:=gX hp;have hcd:(jo p (O p))[f.qG]?=Z (zQ p f.qG):=Av;obtain⟨hcdl,hcdE⟩:=gS hcd;have hcc:(zQ p f.qG).cells=qa p f.qG:=gz;have hcl:=hO.cells;have hgl:=hO.zM;simp only[qR.top]at hT hcl hgl;obtain⟨c,a⟩:=o;obtain⟨x0,x1,x2⟩:=hx;obtain⟨x,rfl⟩:∃x:Nat,a=x:=⟨a.toNat,by simp only at x0;omega⟩;simp only at hc;have i1:=cu gl c 2 4;have i2:=cu gl c 5 7;have i3:=cu gl c 8 10;have hc2:=hc.1;simp only[uv,bC]at x1 x2;have hxx:((x:Int).toNat)=x:=qA;refine qX.q9 func222 [.tmp 6,.tmp 7] ntmps222 (λ_=>vF) λC w g root hroot=>?_;by_cases c4:c<=4
 .rw [if_pos c4,if_pos c4,un]at x1;have x4:(x:Int)<O f.qt:=qA;have fx:=qg hT hF hat hatE hlt hf hn hcl hgl hc2 c4 x1<|x4;have c1:=i1;refine BO ?_;clear fx c1;refine qE [] .nil qD ⟨?_,?_⟩
  .simp [yV,uv,u0,c4]
  .exact qS.fin (have h:=hO;qS.re h) (.inr rfl)
 rw[if_neg c4,if_neg c4]at x1;have c5:5<=c:=qA;by_cases c7:c<=7
 .rw [if_pos c7,if_pos c7]at x1;have x3:=x2 c5 c7;rw[if_neg c4,if_pos c7]at x3;obtain⟨x3l,x3E⟩:=gS x3;simp only[un]at x1 x3 x3l x3E;have hwy:u0 p f (c,(x:Int))=if(x:Int)<O (qa p f.qG)then 2 else 3:=by simp[u0,c4,c7]
  have hsi:uv f (c,(x:Int))=f.cells.getD x 0:=by simp[uv,c4,c7]
  rw[hsi];generalize f.cells.getD x 0=y at x1 x3 x3E;have x4:(x:Int)<O f.cells:=qA;have x5:(y:Int)<O m.cells:=qA;have x6:(jQ f.cells)[x]?=Z (y:Int):=by simp[jQ,x3]
  obtain⟨x6l,x6E⟩:=gS x6;by_cases hlo:(x:Int)<O (qa p f.qG)
  .skip
   have fx:=qg hT hF hat hatE hlt hf hn hcl hgl hc2 c4 c5<|qg c7 x1 x3l x4 x5 x6 x6l x6E hcd hcdl hcdE hcc<|hlo;have c1:=i1;have c2:=i2;refine BO ?_;clear fx c1 c2;refine qE [] .nil qD ⟨?_,?_⟩
   .simp [yV,hwy,hlo,c4,c7]
   .exact qS.fin (have h:=hO;qS.re h) (.inr rfl)
  .skip
   have fx:=qg hT hF hat hatE hlt hf hn hcl hgl hc2 c4 c5<|qg c7 x1 x3l x4 x5 x6 x6l x6E hcd hcdl hcdE hcc<|hlo;have c1:=i1;have c2:=i2;refine BO ?_;clear fx c1 c2;refine qE [] .nil qD ⟨?_,?_⟩
   .simp [yV,hwy,hlo,c4,c7]
   .exact qS.fin (have h:=hO;qS.re h) (.inr rfl)
 rw[if_neg c7,if_neg c7]at x1;have c8:8<=c:=qA;by_cases c10:c<=10
 .rw [if_pos c10,un]at x1;have h8:O m.globals=8:=hg8;have x4:(x:Int)<8:=qA;have fx:=qg hT hF hat hatE hlt hf hn hcl hgl hc2 c4 c7<|zJ c8 c10 x1 x4<|h8;have c1:=i1;have c2:=i2;have c3:=i3;refine BO ?_;clear fx c1 c2 c3;refine qE [] .nil qD ⟨?_,?_⟩
  .simp [yV,uv,u0,c4,c7,c10]
  .exact qS.fin (have h:=hO;qS.re h) (.inr rfl)
 .rw [if_neg c10,un]at x1;have h8:O f.names=8:=hn8;have x4:(x:Int)<8:=qA;have fx:=qg hT hF hat hatE hlt hf hn hcl hgl hc2 c4 c7<|zJ c8 c10 x1 x4<|h8;have c1:=i1;have c2:=i2;have c3:=i3;refine BO ?_;clear fx c1 c2 c3;refine qE [] .nil qD ⟨?_,?_⟩
  .simp [yV,uv,u0,c4,c7,c10]
  .exact qS.fin (have h:=hO;qS.re h) (.inr rfl)
end Go.Proofs.YtjgpejikjhojcaaGreatDoor
end
