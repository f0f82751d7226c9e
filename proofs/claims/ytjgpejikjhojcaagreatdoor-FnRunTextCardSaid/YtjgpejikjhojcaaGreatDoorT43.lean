import Derived.Test.YtjgpejikjhojcaaGreatDoorT42
import Derived.Test.YtjgpejikjhojcaaGreatDoorT38
import Derived.Test.YtjgpejikjhojcaaGreatDoorT31
set_option linter.unusedSimpArgs false
set_option linter.unusedVariables false
set_option maxRecDepth 100000
set_option maxHeartbeats 4000000

section
namespace Go.Proofs.YtjgpejikjhojcaaGreatDoor
open Go Go.Hm Go.Proofs Tryz
abbrev VZ:qb:=da<|.l 7 []<|.l 8 []<|.done
abbrev V0:qb:=eX<|.l 9 [4,3,2,1,0]<|.l 10 [0]<|.q 11<|.q 12<|.l 13 []<|.done
abbrev LK:qb:=nG<|.l 6 []<|.l 7 []<|.done
theorem bq {A G G2:Prop} (k:G2) (x:A) (h:A->jP G2->G:=by
 intro fx kk;refine qQ ?_
 repeat ((first|refine qf (id:=8) VZ mixed ?_|refine qf (id:=10) V0 mixed ?_|refine qf (id:=19) LK mixed ?_|refine qf (id:=21) LK mixed ?_);refine zQ ?_;refine qQ ?_)
 exact kk.h):G:=h x ⟨k⟩
theorem Δ (gl) (p:qC) (n:Nat) (hR:ni gl p n) (H:Nm->Option AO) (W:qK) (a:Nat) (k:qT) (s:qP) (hP:zq p) (hw:qt p W) (hn:W.left<n) (h0:W.en=0) (ha:a<W.qF.length) (hk:p[W.qD a]?=some k) (hs:s∈k.body) (hkd:0<=s.kind/\s.kind<=7) (hr:Room 2 W) (hO:qj H p W) (hV:H (.u 2 0 0)=none) :
  qV prog gl 155 (Nm.under Wn) [.pt Wn 0,iv a,s.av] H (λ_ y H'=>y=qR.av (y7 p (qg p n) W a s).2/\qj H' p (y7 p (qg p n) W a s).1) qy:=by
 have hT:=hO.top;simp only [jC] at hT;have hst:=hP.sh.an _ k hk s hs;have hnm:=hP.sh.names k (gM hk);have hrd:=hnm.reads s hs;have hrl:=qP.pG s;refine qV.qa func155 [.cell 6 115] ntmps155 (λ_=>yq rfl) λC w g root hroot=>?_;have fx:= hT;have d1:=L8 gl s;refine bq ?_<|@fx;clear fx d1;intro K hK;refine kH (.s 13) (.u 2 0 0) (.inl rfl) (.inr rQ) ?_;have fx:=hT;refine Cc zG qB (hF:=TH _ _ p W a s.reads hP.sh hw ha hrd hrl (have ow:=hO;qj.re ow) qB) (h:=?_);rintro y H1 ⟨rfl,hp1,hO1⟩;clear fx;obtain⟨hA,hvok,hcase,hlen,_⟩:=ot (a:=a) (l:=s.reads) hw;have hval:y7 p (qg p n) W a s=if (zB p W a s.reads).1.en≠0 then ((zB p W a s.reads).1,(0,0)) else j9 p (qg p n) (zB p W a s.reads).1 a s (zB p W a s.reads).2:=rfl
 generalize zB p W a s.reads=q at hp1 hO1 hA hvok hcase hlen hval;obtain⟨V,vs⟩:=q;simp only at hp1 hO1 hA hvok hcase hlen hval;have hT1:=hO1.top;simp only [jC] at hT1;obtain⟨kd,to,sa,sb⟩:=s;simp only at hkd;by_cases hen:V.en=0
 case neg =>
  rw [if_pos hen] at hval;have henb:(V.en==0)=false:=dM;refine bq ?_<|zM hT hT1 hp1 henb<|@qx;rw [hval];refine qG [] .nil qH ⟨qB,(have ow:=hO1;qj.re ow)⟩
 rw [if_neg dM] at hval
 obtain rfl:V=W:=by
  rcases hcase with e|⟨e,he,h⟩
  .exact e
  .rw [h] at hen;exact absurd hen he
 have hl:=hlen hen;have henb:(V.en==0)=true:=dM;have hkc:kd=0\/kd=1\/kd=2\/kd=3\/kd=4\/kd=5\/kd=6\/kd=7:=qA;rcases hkc with rfl|rfl|rfl|rfl|rfl|rfl|rfl|rfl
 .have hw0:j9 p (qg p n) V a ⟨0,to,sa,sb⟩ vs=(V,(1,sa)):=bg;rw [hw0] at hval;refine bq ?_<|zM hT hT1 hp1 henb<|@qx;rw [hval];refine qG [] .nil qH ⟨qB,(have ow:=hO1;qj.re ow)⟩
 .obtain⟨u,rfl⟩:∃ u,vs=[u]:=by
   match vs,hl with
   | [u],_=>exact⟨u,rfl⟩
   | [],h=>simp [qP.reads] at h
   | _::_::_,h=>simp [qP.reads] at h
  have hw0:j9 p (qg p n) V a ⟨1,to,sa,sb⟩ [u]=(V,u):=bg;rw [hw0] at hval;refine bq ?_<|zM hT hT1 hp1 henb<|@qx;rw [hval];refine qG [] .nil qH ⟨qB,(have ow:=hO1;qj.re ow)⟩
 .obtain⟨u,v,rfl⟩:∃ u v,vs=[u,v]:=by
   match vs,hl with
   | [u,v],_=>exact⟨u,v,rfl⟩
   | [],h=>simp [qP.reads] at h
   | [_],h=>simp [qP.reads] at h
   | _::_::_::_,h=>simp [qP.reads] at h
  have hw0:j9 p (qg p n) V a ⟨2,to,sa,sb⟩ [u,v]=uF V u v:=bg;rw [hw0] at hval;refine bq ?_<|zM hT hT1 hp1 henb<|@qx;intro K hK;have fx:=aI hT hT1;refine ut Wn rfl dP (hF:=VA _ _ p V u v (hvok u qB) (hvok v qB) (have ow:=hO1;qj.re ow)) (h:=?_);rintro y H2 ⟨rfl,hO2⟩;clear fx;have hT2:=hO2.top;simp only [jC] at hT2;refine bq ?_<|j2 hT hT1 hp1 hT2 henb<|@qx;rw [hval];refine qG [] .nil qH ⟨qB,(have ow:=hO2;qj.re ow)⟩
 .obtain⟨q,hq1,hq2,hq3,hq4⟩:=zW.made hst (.inl rfl);simp only at hq3;obtain⟨A,rfl⟩:∃ A:Nat,sa=A:=⟨sa.toNat,qA⟩;have hw0:j9 p (qg p n) V a ⟨3,to,(A:Int),sb⟩ vs=({ V with qJ:=V.qJ++[(A,a)] },(2,(V.qJ.length:Int))):=bg;rw [hw0] at hval;have hF:=hO1.qJ;have hfl:=hr.qJ;have hfl':V.qJ.length<=1000:=qA;have hwr:IntKind.i64.wrap (V.qJ.length:Int)=V.qJ.length:=qi qA qA;have hap:km (.c Wn 0 4) V.qJ++[[iv A,iv a,.hs (.c (.c Wn 0 4) V.qJ.length 2) 3 0 0]]=km (.c Wn 0 4) (V.qJ++[(A,a)]):=Qy;refine bq ?_<|jJ hT hT1 hp1 henb hF hfl' hwr<|@qx;rw [hval];refine qG [] .nil qH ⟨qB,qj.fin ⟨by simp [jC,hT1],by simp [hO1.qF],λi b hb=>by simp [hO1.act i b hb],hO1.zR.imp λl hl=>oS,by simp [hO1.zJ],?_,xD,λi c hc=>by simp [hO1.cls i c hc],by simp [hO1.out],tV⟩⟩;simp [<- hap];rw [yU qB];refine Qz λi c hc=>?_;have hne:¬ i=V.qJ.length:=Au;have hne':¬ V.qJ.length=i:=qA;simp [hne,hne']
 .obtain⟨q,hq1,hq2,hq3,hq4⟩:=zW.made hst (.inr rfl);have hm:=GP hst ha (.inr rfl);simp only at hq1 hq3 hm;obtain⟨A,rfl⟩:∃ A:Nat,sa=A:=⟨sa.toNat,qA⟩;simp only [vN] at hq1 hm
  have hpar:vT p A=0:=by
   have hh:=hP.sh.head A q hq1;have hA0:¬ A=0:=qA;simp only [uU,hA0,if_false] at hh;simp only [vT,hq1];simp only at hq4;omega
  have hw0:j9 p (qg p n) V a ⟨4,to,(A:Int),sb⟩ vs=aZ p (qg p n) V A a:=bg;rw [hw0] at hval;refine bq ?_<|zM hT hT1 hp1 henb<|@qx;intro K hK;refine kH (.s 67) (.u 2 0 0) (.inl rfl) (.inr rQ) ?_;have fx:=aI hT hT1;refine Cc dP qB (hF:=Ic _ p n hR _ V A a 0 [] [] hP hw hn h0 hm qB (hr.mono qA) rfl rfl (by rw [hpar];rfl) qB (have ow:=hO1;qj.re ow) qB) (h:=?_);rintro y H2 ⟨rfl,hp2,hO2⟩;clear fx
  have hcl:aZ p (qg p n) V A a=if (z8 p (qg p n) V A a []).1.en≠0 then ((z8 p (qg p n) V A a []).1,(0,0)) else
   ({ (z8 p (qg p n) V A a []).1 with qO:=(z8 p (qg p n) V A a []).1.qO++[(z8 p (qg p n) V A a []).1.vars (some V.qF.length)] },(3,((z8 p (qg p n) V A a []).1.qO.length:Int))):=rfl
  rw [hcl] at hval;obtain⟨⟨e1,e2,e3⟩,e4⟩:=BL (vs:=[]) (dZ hP.sh n) hw hn h0 hm qB (hr.mono qA);have hrc:(z8 p (qg p n) V A a []).1.qO.length<=1000:=by have:=e1.wg;omega
  generalize z8 p (qg p n) V A a []=q2 at hp2 hO2 hval e1 hrc;obtain⟨U,v⟩:=q2;simp only at hp2 hO2 hval e1 hrc;have hT2:=hO2.top;simp only [jC] at hT2;by_cases hen2:U.en=0
  case neg =>
   rw [if_pos hen2] at hval;have henb2:(U.en==0)=false:=rW;refine bq ?_<|j2 hT hT1 hp1 hT2 henb2<|@qx;rw [hval];refine qG [] .nil qH ⟨qB,(have ow:=hO2;qj.re ow)⟩
  rw [if_neg rW] at hval;have henb2:(U.en==0)=true:=rW;generalize U.vars (some V.qF.length)=nv at hp2 hval;have hC:=hO2.jk;have hwr:IntKind.i64.wrap (U.qO.length:Int)=U.qO.length:=qi qA qA;have hap:kO (.c Wn 0 5) U.qO++[[.hs (.c (.c Wn 0 5) U.qO.length 0) 3 0 8]]=kO (.c Wn 0 5) (U.qO++[nv]):=Pd;refine bq ?_<|vA hT hT1 hp1 hT2 henb2 hp2 hC hrc hwr<|@qx;rw [hval];refine qG [] .nil qH ⟨qB,qj.fin ⟨by simp [jC,hT2],by simp [hO2.qF],λi b hb=>by simp [hO2.act i b hb],hO2.zR.imp λl hl=>oS,by simp [hO2.zJ],by simp [hO2.qJ],?_,λi c hc=>?_,by simp [hO2.out],by simp [hO2.yH]⟩⟩
  .simp [<- hap];rw [yU qB];refine Pe λi c hc=>?_;have hne:¬ i=U.qO.length:=Au;have hne':¬ U.qO.length=i:=qA;simp [hne,hne']
  .simp only at hc;rcases aC i U.qO.length with hlt|hge
   .rw [vn hlt] at hc;have hne:¬ i=U.qO.length:=qA;have hne':¬ U.qO.length=i:=qA;simp [hO2.cls i c hc,hne,hne']
   .rw [kD hge] at hc
    have hi:i=U.qO.length:=by
     have:=(gS hc).1;simp at this;omega
    subst hi;simp at hc;subst hc;simp [hp2]
 .have hpos:0<vs.length:=by
   rw [hl];by_cases e:sb=-1 <;> simp [qP.reads,e]
  obtain⟨u,tl,rfl⟩:∃ u tl,vs=u::tl:=by
   match vs,hpos with
   | u::tl,_=>exact⟨u,tl,rfl⟩
  have htl:tl.length<=1:=by simp at hl;omega
  have hw0:j9 p (qg p n) V a ⟨5,to,sa,sb⟩ (u::tl)=vb p (qg p n) V u tl:=bg;rw [hw0] at hval;have hle1:(1:Int)<=(tl.length:Int)+1:=qA;have htn:((tl.length:Int)+1).toNat=tl.length+1:=qA;refine bq ?_<|jJ hT hT1 hp1 henb htl hle1 htn<|@qx;intro K hK;refine kH (.s 7) (.u 2 0 0) (.inl rfl) (.inr rQ) ?_;have fx:=aI hT hT1;refine Cc dP vI (hF:=PP _ p n hR _ V u 1 tl (u::tl) hP hw hn h0 (hvok u qB) (λv hv=>hvok v rC) (hr.mono qA) rfl qn htl (have ow:=hO1;qj.re ow) vI) (h:=?_);rintro y H2 ⟨rfl,hO2⟩;clear fx;have hT2:=hO2.top;simp only [jC] at hT2;refine bq ?_<|yz hT hT1 hp1 hT2 henb htl hle1 htn<|@qx;rw [hval];refine qG [] .nil qH ⟨qB,(have ow:=hO2;qj.re ow)⟩
 .obtain⟨u,rfl⟩:∃ u,vs=[u]:=by
   match vs,hl with
   | [u],_=>exact⟨u,rfl⟩
   | [],h=>simp [qP.reads] at h
   | _::_::_,h=>simp [qP.reads] at h
  have hsb:0<=sb/\sb<=7:=by
   simp only [zW] at hst;simp at hst;omega
  obtain⟨x,rfl⟩:∃ x:Nat,sb=x:=⟨sb.toNat,qA⟩;have hw0:j9 p (qg p n) V a ⟨6,to,sa,(x:Int)⟩ [u]=uI V u x:=bg;rw [hw0] at hval;refine bq ?_<|zM hT hT1 hp1 henb<|@qx;intro K hK;have fx:=aI hT hT1;refine ut Wn rfl dP (hF:=Od _ _ p V u x hw (hvok u qB) qA (have ow:=hO1;qj.re ow)) (h:=?_);rintro y H2 ⟨rfl,hO2⟩;clear fx;have hT2:=hO2.top;simp only [jC] at hT2;refine bq ?_<|j2 hT hT1 hp1 hT2 henb<|@qx;rw [hval];refine qG [] .nil qH ⟨qB,(have ow:=hO2;qj.re ow)⟩
 .obtain⟨u,rfl⟩:∃ u,vs=[u]:=by
   match vs,hl with
   | [u],_=>exact⟨u,rfl⟩
   | [],h=>simp [qP.reads] at h
   | _::_::_,h=>simp [qP.reads] at h
  have hw0:j9 p (qg p n) V a ⟨7,to,sa,sb⟩ [u]=(V,u):=bg;rw [hw0] at hval;refine bq ?_<|zM hT hT1 hp1 henb<|@qx;rw [hval];refine qG [] .nil qH ⟨qB,(have ow:=hO1;qj.re ow)⟩
abbrev V1:qb:=nG<|.l 6 [4,3,2,1,0]<|.l 7 [4,3,2,1,0]<|.l 8 [0]<|.q 9<|.q 10<|.l 11 []<|.done
theorem lI {A G G2:Prop} (k:G2) (x:A) (h:A->jP G2->G:=by
 intro fx kk;refine qQ ?_
 repeat ((first|refine qf (id:=9) V1 mixed ?_);refine zQ ?_;refine qQ ?_)
 exact kk.h):G:=h x ⟨k⟩
theorem XI (gl) (p:qC) (n:Nat) (hR:ni gl p n) (H:Nm->Option AO) (W:qK) (a:Nat) (k:qT) (s:qP) (hP:zq p) (hw:qt p W) (hn:W.left<n) (h0:W.en=0) (ha:a<W.qF.length) (hk:p[W.qD a]?=some k) (hs:s∈k.body) (h8:s.kind≠8) (hr:Room 2 W) (hO:qj H p W) (hV:H (.u 2 0 0)=none) :
  qV prog gl 104 (Nm.under Wn) [.pt Wn 0,iv a,s.av] H (λ_ y H'=>qj H' p (vE p (qg p n) W a s)) qy:=by
 have hT:=hO.top;simp only [jC] at hT;have hst:=hP.sh.an _ k hk s hs;have hnm:=hP.sh.names k (gM hk);have hkd:=hnm.kinds s hs;have hto:=hnm.zN s hs;have hvl:=Δ gl p n hR;obtain⟨kd,to,sa,sb⟩:=s;simp only at h8 hkd hto;obtain⟨x,rfl⟩:∃ x:Nat,to=x:=⟨to.toNat,qA⟩;refine qV.qa func104 [] ntmps104 (λ_=>yq rfl) λC w g root hroot=>?_;by_cases h9:kd=9
 .subst h9;have hc:vE p (qg p n) W a ⟨9,x,sa,sb⟩=W:=by simp [vE]
  refine lI ?_<| hT;rw [hc];refine qG [] .nil qH (have ow:=hO;qj.re ow)
 by_cases h10:kd=10
 .subst h10;have hc:vE p (qg p n) W a ⟨10,x,sa,sb⟩=W:=by simp [vE]
  refine lI ?_<| hT;rw [hc];refine qG [] .nil qH (have ow:=hO;qj.re ow)
 have hb9:(kd==9)=false:=by simpa using h9
 have hb10:(kd==10)=false:=by simpa using h10
 by_cases h11:kd=11
 .subst h11;have hc:vE p (qg p n) W a ⟨11,x,sa,sb⟩=wo p W a x:=by simp [vE]
  refine lI ?_<| hT;intro K hK;have fx:=hT;refine ut Wn rfl zG (hF:=Z0 _ _ p W a x hP.sh hw ha qA (have ow:=hO;qj.re ow)) (h:=?_);rintro y H1 hO1;clear fx;have hT1:=hO1.top;simp only [jC] at hT1;refine lI ?_<|aI hT<|hT1;rw [hc];refine qG [] .nil qH (have ow:=hO1;qj.re ow)
 have hb11:(kd==11)=false:=by simpa using h11
 have hc:vE p (qg p n) W a ⟨kd,x,sa,sb⟩=if (y7 p (qg p n) W a ⟨kd,x,sa,sb⟩).1.en≠0 then (y7 p (qg p n) W a ⟨kd,x,sa,sb⟩).1
   else if kd=7 then { (y7 p (qg p n) W a ⟨kd,x,sa,sb⟩).1 with out:=(y7 p (qg p n) W a ⟨kd,x,sa,sb⟩).1.out++[Hm.shown (y7 p (qg p n) W a ⟨kd,x,sa,sb⟩).2] }
   else cz p (y7 p (qg p n) W a ⟨kd,x,sa,sb⟩).1 a x (y7 p (qg p n) W a ⟨kd,x,sa,sb⟩).2:=by
  simp only [vE];rw [if_neg qA,if_neg h11]
 refine lI ?_<|zC hT hb9 hb10<|hb11;intro K hK;have fx:=hT;refine ut Wn rfl zG (hF:=hvl _ W a k ⟨kd,x,sa,sb⟩ hP hw hn h0 ha hk hs ⟨by simp only;omega,by simp only;omega⟩ hr (have ow:=hO;qj.re ow) qB) (h:=?_);rintro y H1 ⟨rfl,hO1⟩;clear fx;obtain⟨hA,hvok⟩:=C7 (dZ hP.sh n) hw hn h0 ha hst hr;generalize y7 p (qg p n) W a ⟨kd,x,sa,sb⟩=q at hO1 hA hvok hc;obtain⟨V,v⟩:=q;simp only at hO1 hA hvok hc;have hT1:=hO1.top;simp only [jC] at hT1;have haV:a<V.qF.length:=uW ha hA.grow.aP;by_cases hen:V.en=0
 case neg =>
  rw [if_pos hen] at hc;have henb:(V.en==0)=false:=dM;refine lI ?_<|zC hT hT1 henb<|@qx;rw [hc];refine qG [] .nil qH (have ow:=hO1;qj.re ow)
 rw [if_neg dM] at hc;have henb:(V.en==0)=true:=dM;by_cases h7:kd=7
 .subst h7;rw [if_pos rfl] at hc;have hU:=hO1.out;have hol:=hA.ok.kR;have hol':V.out.length<=1000:=qA;have hap:qm V.out++[[iv (Hm.shown v)]]=qm (V.out++[Hm.shown v]):=yO;have hsh:=Yg gl v;obtain⟨v1,v2⟩:=v;have fx:=j2 hT hT1 henb hU hol'<|@qx;have c1:=hsh;refine lI ?_<|@fx;clear fx c1;rw [hc];refine qG [] .nil qH (qj.fin ⟨by simp [jC,hT1],by simp [hO1.qF],λi b hb=>by simp [hO1.act i b hb],hO1.zR.imp λl hl=>oS,by simp [hO1.zJ],Ao,xD,λi c hc=>by simp [hO1.cls i c hc],?_,tV⟩);simp
 .rw [if_neg h7] at hc;have hb7:(kd==7)=false:=by simpa using h7
  have hst2:=Mo gl (p:=p) (W:=V) (a:=a) (x:=x) (v:=v);obtain⟨v1,v2⟩:=v;refine lI ?_<|zM hT hT1 henb hb7<|@qx;intro K hK;have fx:=aI hT hT1;refine ut Wn rfl dP (hF:=hst2 _ hP.sh hA.ok haV qA (have ow:=hO1;qj.re ow)) (h:=?_);rintro y H2 hO2;clear fx;have hT2:=hO2.top;simp only [jC] at hT2;refine lI ?_<|qk hT hT1<|hT2;rw [hc];refine iy [] .nil qH (have ow:=hO2;qj.re ow)
abbrev V2:qb:=Lx<|.l 16 []<|.done
abbrev V3:qb:=Lw<|.l 15 [9,8,7,6,5,4,3,2,1,0]<|.l 16 [9,8,7,6,5,0]<|.q 17<|.q 18<|.l 19 []<|.done
theorem mr {A G G2:Prop} (k:G2) (x:A) (h:A->jP G2->G:=by
 intro fx kk;refine qQ ?_
 repeat ((first|refine qf (id:=1) V2 mixed ?_|refine qf (id:=9) V3 mixed ?_);refine zQ ?_;refine qQ ?_)
 exact kk.h):G:=h x ⟨k⟩
theorem XD (gl) (p:qC) (n:Nat) (hR:ni gl p n) (hP:zq p):ni gl p (n+1):=by
 intro H W a hO hw hn ha h0 hV
 show qV prog gl 65 (Nm.under Wn) [.pt Wn 0,iv a] H _ qy
 obtain⟨c,hc⟩:=gX ha;obtain⟨_,hcE⟩:=gS hc;have zF:=hw.wV a c hc;obtain⟨k,hk⟩:=gX zF;obtain⟨_,hkE⟩:=gS hk;have hbk:=v8 hc;have hT:=hO.top;have hA:=hO.qF;simp only [jC] at hT;have hb12:=hP.sh.body k (gM hk);have hrun:qg p (n+1) W a=y9 p (qg p n) a W 0 k.body:=by simp only [qg,hbk,hk]
 refine qV.qa func65 [.cell 4 115] ntmps65 (λ_=>yq rfl) λC w g root hroot=>?_;refine mr ?_<|jJ hT hA hc hcE ha hk hkE<|zF;refine zU (λm st=>∃ (i:Nat) (V:qK),m=k.body.length - i/\i<=k.body.length/\qg p (n+1) W a=y9 p (qg p n) a V i (k.body.drop i)/\qt p V/\V.left<n+1/\a<V.qF.length/\V.en=0/\V.qD a=c.qD/\st.tm 0=.pt Wn 0/\st.tm 1=iv a/\st.tm 4=.pt (.s 4) 0/\st.hp (.s 4)=some (.row 2 [[iv 0,iv 0]])/\st.tm 5=eZ k.body/\st.tm 6=iv i/\qj st.hp p V) k.body.length ?_ ?_
 .exact⟨0,W,qA,qA,by simpa using hrun,hw,hn,ha,h0,hbk,qB,qB,qB,qB,qB,qB,(have ow:=hO;qj.re ow)⟩
 clear hT hA hO;rintro m st - - ⟨i,V,rfl,hi,hres,hw',hn',ha',h0',hbV,t0,t1,t4,hp4,t5,t6,hO⟩;clear hrun h0 hn hw hc hcE ha;obtain⟨d,hd⟩:∃ d,V.qF[a]?=some d:=⟨_,gE ha'⟩;obtain⟨_,hdE⟩:=gS hd;have hdb:d.qD=c.qD:=by rw [<- v8 hd];exact hbV
 have hT:=hO.top;have hA:=hO.qF;simp only [jC] at hT;by_cases hil:i<k.body.length
 case neg =>
  have hge:i=k.body.length:=qA;rw [hge,List.drop_length] at hres;simp only [y9] at hres;refine mr ?_<|jQ t0 t1 t4 hp4 t5 t6<|hil;rw [hres];refine qG [] .nil iq ⟨qB,(have ow:=hO;qj.re ow)⟩
 obtain⟨s,hs⟩:=gX hil;obtain⟨_,hsE⟩:=gS hs;have hsm:=gM hs;have hdr:k.body.drop i=s::k.body.drop (i+1):=by rw [gO hil,hsE]
 rw [hdr] at hres;by_cases hl:V.left=0
 .have hr2:y9 p (qg p n) a V i (s::k.body.drop (i+1))=({ V with en:=1 },(0,0)):=by simp only [y9,hl,if_true]
  rw [hr2] at hres;refine mr ?_<|yz t0 t1 t4 hp4 t5 t6 hil hT<|hl;rw [hres];refine qG [] .nil iq ⟨qB,⟨by simp [hO.top,jC,hT,hl],by simp [hO.qF,hT,hl],λi a ha=>by simp [hO.act i a ha,hT,hl],hO.zR.imp λl hl=>by simp [hl,hT,hl],by simp [hO.zJ,hT,hl],by simp [hO.qJ,hT,hl],by simp [hO.jk,hT,hl],λi c hc=>by simp [hO.cls i c hc,hT,hl],by simp [hO.out,hT,hl],by simp [hO.yH,hT,hl]⟩⟩
 obtain⟨l,hll⟩:∃ l,V.left=l+1:=⟨V.left - 1,qA⟩
 have hr2:y9 p (qg p n) a V i (s::k.body.drop (i+1))=if s.kind=8 then zh p (zD V a i) a s.a else if (vE p (qg p n) (zD V a i) a s).en≠0 then (vE p (qg p n) (zD V a i) a s,(0,0)) else y9 p (qg p n) a (vE p (qg p n) (zD V a i) a s) (i+1) (k.body.drop (i+1)):=by
  simp only [y9,hl,if_false]
 rw [hr2] at hres;clear hr2;obtain⟨tk1,tk2⟩:=AQ (a:=a) (i:=i) hw' hl;have hTt:zD V a i={ V with left:=l,trace:=V.trace++[(d.qD,i)] }:=by simp only [zD,v8 hd];rw [hll];rfl
 have hbV2:(zD V a i).qD a=d.qD:=IB;have hleft:(zD V a i).left<n:=by simp only [zD];omega
 have hTr:=hO.yH;have hnt:=hw'.wh;have hnl:=hw'.ko;have htl':V.trace.length<=1000:=qA;have hl8:l<=1000:=qA;have hlb:((l:Int)+1==0)=false:=wW;have hwl:IntKind.i64.wrap (l:Int)=l:=qi qA qA;have hap:vf V.trace++[[iv d.qD,iv i]]=vf (V.trace++[(d.qD,i)]):=Ev;by_cases h8:s.kind=8
 .rw [if_pos h8] at hres;have hb8:(s.kind==8)=true:=by simpa using h8
  have hrs:=(hP.sh.names k (gM hk)).reads s hsm s.a (by simp [qP.reads,h8]);obtain⟨x,hx⟩:∃ x:Nat,s.a=x:=⟨s.a.toNat,qA⟩;rw [hx] at hres;refine mr ?_<|qr t0 t1 t4 hp4 t5 t6 hil hT hll hlb hwl hTr<|yz htl' hA hd hdE ha' hs hsE hb8<|hx;intro K hK;have fx:=aI t0 (aI t1 hT);refine ut Wn rfl zG (hF:=Jz _ _ p (zD V a i) a x hP.sh tk1 ha' qA Hz) (h:=?_);rintro y H1 ⟨rfl,hO1⟩;clear fx;generalize zh p (zD V a i) a x=q at hO1 hres;obtain⟨U,v1,v2⟩:=q;have hT1:=hO1.top;simp only [jC] at hT1;refine mr ?_<|jJ t0 t1 t4 hp4 t5 t6 hT<|hT1;rw [hres];refine qG [] .nil iq ⟨qB,(have ow:=hO1;qj.re ow)⟩
 .rw [if_neg h8] at hres;have hb8:(s.kind==8)=false:=by simpa using h8
  have hk':p[(zD V a i).qD a]?=some k:=by rw [hbV2,hdb];exact hk
  have hst:=hP.sh.an _ k hk s hsm;have hSo:=AN (s:=s) (k:=k) (dZ hP.sh n) tk1 hleft h0' ha' (by rw [hbV2,hdb];exact hst) tk2;refine mr ?_<|qr t0 t1 t4 hp4 t5 t6 hil hT hll hlb hwl hTr<|jJ htl' hA hd hdE ha' hs hsE<|hb8;intro K hK;have fx:=aI t0 (aI t1 hT);refine ut Wn rfl zG (hF:=XI gl p n hR _ (zD V a i) a k s hP tk1 hleft h0' ha' hk' hsm h8 tk2 Hz qB) (h:=?_);rintro y H1 hO1;clear fx;have hAf:=hSo.tick hl;generalize vE p (qg p n) (zD V a i) a s=U at hO1 hAf hres hSo;have hT1:=hO1.top;simp only [jC] at hT1;by_cases hen:U.en=0
  .rw [if_neg dM] at hres;have henb:(U.en==0)=true:=dM;refine mr ?_<|vA t0 t1 t4 hp4 t5 t6 hT hT1 henb<|@qx;exact⟨k.body.length - (i+1),qA,i+1,U,rfl,qA,hres,hAf.ok,by have:=hAf.grow.left;omega,uW ha' hAf.grow.aP,hen,by rw [hAf.grow.qD hd];exact hbV,eC,by simp [t1],by simp [t4],aG,rK,by simp [t6];exact qi qA qA,(have ow:=hO1;qj.re ow)⟩
  .rw [if_pos dM] at hres;have henb:(U.en==0)=false:=dM;refine mr ?_<|vA t0 t1 t4 hp4 t5 t6 hT hT1 henb<|@qx;rw [hres];refine qG [] .nil iq ⟨qB,(have ow:=hO1;qj.re ow)⟩
theorem Ld (gl) (p:qC) (hP:zq p):∀ n,ni gl p n
 | 0=>λH W a _ _ h=>absurd h qA
 | n+1=>XD gl p n (Ld gl p hP n) hP
abbrev LL:qb:=.q 0<|.q 2<|.l 1 [2,0]<|.q 3<|.l 4 []<|.l 5 []<|.done
theorem T6 (gl) (H:Nm->Option AO) (p:qC) (f:Nat) (hP:zq p) (hf:f<=150) (h1:H (.u 1 0 0)=none) :
  qV prog gl 32 (Nm.under Wn) [yu p,iv f] H (λ_ y H'=>y=.pt Wn 0/\qj H' p (vt p f)) qy:=by
 have hw:=AK hP.sh hf;refine qV.qa func32 [.tmp 4] ntmps32 (λ_=>yq rfl) λC w g root hroot=>?_;have fx:=qS;have d1:=I7 gl;refine qQ ?_
 repeat ((first|refine qf (id:=1) LL mixed ?_);refine zQ ?_;refine qQ ?_)
 clear fx d1;intro K hK;refine kH (.s 5) (.u 1 0 0) (.inl rfl) (.inr (by simp [jb,h1])) ?_;have fx:=qS;refine ut Wn rfl qB (hF:=Ld gl p hP 151 _ (jX f) 0 ?_ hw (by simp only [jX];omega) gY rfl qB) (h:=?_)
 .have e1:qm (eT [0]++[])=[[iv 0]]:=rfl;have hsl:j4 j3=j4 (jX f).globals:=rfl;refine⟨by simp [jC,jX],by simp [jX,kA,dU],λi a ha=>?_,⟨[],by simp [jX,eT,qm]⟩,gY,by simp [jX,km],by simp [jX,kO],λi c hc=>by simp [jX] at hc,gY,gY⟩
  have hi:i=0:=by
   have:=(gS ha).1;simp [jX] at this;omega
  subst hi;have ha':a=⟨0,0,j3⟩:=by simpa [jX] using ha.symm
  subst ha';simp
 rintro y H1 ⟨rfl,hO1⟩;clear fx;have hT1:=hO1.top;simp only [jC] at hT1;have hme:(qg p 151 (jX f) 0).1=vt p f:=rfl;rw [hme] at hO1 hT1;have fx:= hT1;refine qQ ?_
 repeat ((first|refine qf (id:=1) LL mixed ?_);refine zQ ?_;refine qQ ?_)
 clear fx;refine qG [] .nil qH ⟨qB,(have ow:=hO1;qj.re ow)⟩
abbrev Fa:qb:=.q 0<|.q 2<|.q 3<|.q 4<|.q 5<|.l 1 [5,4,3,2,0]<|.q 6<|.q 7<|.q 8<|.q 9<|.l 10 []<|.done
theorem QN (gl):qM prog gl 34 [] (λr y H'=>y=.hs r 1 0 kj.length/\H' r=some (.row 1 (ue kj))):=by
 refine qM.qa func34 [.tmp 0] ntmps34 λC w g root=>?_;refine qI ?_<|qS;exact vo (t:=0) y3 y3 qB
theorem QO (gl):qM prog gl 34 [] (λ_ y _=>y=uT kj) :=
 (QN gl).settle λr y H' h=>⟨uT kj,Dx,rfl⟩
theorem Ew {x:Int} (h:-3<=x/\x<=1000):(jT x).length<=1002:=by
 have:=Br x.natAbs;unfold jT
 split
 .simp only [cQ];omega
 .omega
theorem Ef {l:List Int} (h:∀ x∈l,-3<=x/\x<=1000):(jO 10 (l.map jT)).length<=1003 * l.length:=by
 induction l with
 | nil=>simp [jO]
 | cons x l ih =>
  have h1:=ih λy hy=>h y (by simp [hy]);have h2:=Ew (h x qB);rw [cR,Ed];simp only [kC,cQ] at h1 ⊢;omega
theorem Jv {l:List Int} {i:Nat} {x:Int} (h:l[i]?=some x):jO 10 ((l.take (i+1)).map jT)=jO 10 ((l.take i).map jT)++(jT x++[10]):=by
 rw [vM,h,oB];exact sJ
theorem Fm {s:q9} {n:Nat} (h:n<=150):s6 s (n:Int)=match ku s with
  | some p=>jO 10 (cB p n)
  | none=>jO 10 [iN]:=by
 unfold s6;rw [if_pos ⟨qA,qA⟩]
 rfl
theorem Fl {s:q9} {f:Int} (h:(decide (0<=f)&&decide (f<=150))=false):s6 s f=[]:=by
 unfold s6;rw [if_neg];rintro⟨h1,h2⟩;simp [h1,h2] at h
theorem Um (gl) (s:q9) (q:qC) (hs:s.length<=1048576) (hq:ku s=some q):qM prog gl 18 [tx s] (λ_ y _=>y=.zT [yu q,bv true]) :=
 (M5 gl s hs).settle λr y H' ⟨p,h1,h2,h3⟩=>⟨.zT [yu q,bv true],by rw [h1,hq,<- h3 q hq];exact Hr h2,rfl⟩
theorem xX {A G G2:Prop} (k:G2) (x:A) (h:A->jP G2->G:=by
 intro fx kk;refine qQ ?_
 repeat ((first|refine qf (id:=12) Fa mixed ?_);refine zQ ?_;refine qQ ?_)
 exact kk.h):G:=h x ⟨k⟩
theorem Yd (gl) (s:q9) (f:Int) (hs:s.length<=1048576):qM prog gl 13 [tx s,iv f] (λ_ y _=>y=tx (s6 s f)):=by
 refine qM.qa func13 [.tmp 4] ntmps13 λC w g root=>?_
 cases hr:(decide (0<=f)&&decide (f<=150))
 .rw [Fl hr];have fx:= hr;have c1:=hr ▸ fY gl f 0 150;refine xX ?_<|@fx;clear fx c1;refine qG [] .nil qH qB
 obtain⟨h0,h1⟩:0<=f/\f<=150:=by simpa using hr
 obtain⟨n,rfl⟩:∃ n:Nat,f=n:=⟨f.toNat,qA⟩;have hn:n<=150:=qA;rw [Fm hn]
 cases hp:ku s with
 | none =>
  have hpa:=M5 gl s hs;rw [hp] at hpa;have fx:= hr;have c1:=hr ▸ fY gl n 0 150;have e1:=hpa;refine xX ?_<|@fx;clear fx c1 e1;rintro K hK y H1 ⟨p,rfl,hO,_⟩;obtain⟨ho1,ho2,ho3⟩:=hO.uC;refine⟨qB,?_⟩;refine xX ?_<| ho1;refine qG [] .nil qH (by simp [jO,iN])
 | some q =>
  have hpa:=Um gl s q hs hp;have hpo:ye q=true:=(Ge hp).2.1;have hP:=zq.of (F1 hpo) hpo;have hm:=El hP.sh hn;have hol:=hm.ok.kR;have hor:=hm.ok.dV;have her:=hm.ok.eH;have hmf:=λgl H (h1:H (.u 1 0 0)=none)=>T6 gl H q n hP hn h1;have hrl:cB q n=(vt q n).out.map jT++[kj.getD (vt q n).en.toNat []]:=rfl;simp only [hrl];clear hrl hm;generalize vt q n=W at hol hor her hmf ⊢;obtain⟨e,hen⟩:∃ e:Nat,W.en=e:=⟨W.en.toNat,qA⟩;have he8:e<8:=qA;have he8l:e<kj.length:=he8;obtain⟨u,hu⟩:=gX he8l;obtain⟨_,huE⟩:=gS hu;have hug:kj.getD W.en.toNat []=u:=by rw [hen];simp [bC,hu]
  have hul:u.length<=10:=by
   have:∀ w∈kj,w.length<=10:=qc;exact this u (gM hu)
  rw [hug,sJ];have fx:= hr;have c1:=hr ▸ fY gl n 0 150;have p1:=hpa;refine j5 ?_
  repeat ((first|refine qf (id:=12) Fa mixed ?_);refine kn ?_;refine j5 ?_)
  clear fx c1 p1;intro K hK;have fx:=qS;refine ut Wn rfl (by simp [jb,jv]) (hF:=hmf gl _ qB) (h:=?_);rintro y H2 ⟨rfl,hO⟩;clear fx;have hT:=hO.top;simp only [jC] at hT;refine xX ?_<| hT;refine zU (λn st=>∃ i:Nat,n=W.out.length - i/\i<=W.out.length/\st.tm 7=.pt Wn 0/\st.tm 8=tx (jO 10 ((W.out.take i).map jT))/\st.tm 9=iv i/\qj st.hp q W) W.out.length ?_ ?_
  .exact⟨0,qA,qA,zG,xB,qB,(have ow:=hO;qj.re ow)⟩
  clear hO hT;rintro n st - - ⟨i,rfl,hi,h7,h8,h9,hO⟩;have hT:=hO.top;have hU:=hO.out;simp only [jC] at hT
  have hLl:(jO 10 ((W.out.take i).map jT)).length<=1003000:=by
   have:=Ef (l:=W.out.take i) λx hx=>hor x (gJ hx);rw [mE] at this;omega
  by_cases hil:i<W.out.length
  .obtain⟨x,hx⟩:=gX hil;obtain⟨_,hxE⟩:=gS hx;have hxr:=hor x (gM hx);have hxl:=Ew hxr;have hnext:=Jv hx;have hw1:IntKind.i64.wrap ((i:Int)+1)=(i:Int)+1:=qi qA qA;generalize jO 10 ((W.out.take i).map jT)=L at h8 hLl hnext;have hl1:∀ c,2000000000<=c->L.length+(jT x).length<=c:=λc hc=>qA;have hl2:∀ c,2000000000<=c->L.length+(jT x).length+1<=c:=λc hc=>qA;have hl3:∀ c,2000000000<=c->L.length+((jT x).length+1)<=c:=λc hc=>qA;have fx:=yD h7 h8 h9 hT hU hil hx hxE hw1 hl1<|aI hl2<|hl3;have c1:=oy gl x qA qA;refine xX ?_<|@fx;clear fx c1;exact⟨W.out.length - (i+1),qA,i+1,rfl,qA,by simp [h7,hT],by rw [hnext];simp,rA,(have ow:=hO;qj.re ow)⟩
  .have hge:i=W.out.length:=qA;subst hge;rw [wD] at h8 hLl;generalize jO 10 (W.out.map jT)=L at h8 hLl ⊢;have hl1:∀ c,2000000000<=c->L.length+u.length<=c:=λc hc=>qA;have hl2:∀ c,2000000000<=c->L.length+u.length+1<=c:=λc hc=>qA;have hl3:∀ c,2000000000<=c->L.length+(u.length+1)<=c:=λc hc=>qA;have fx:=yD h7 h8 h9 hT hil hen hu huE he8l hl1<|aI hl2<|hl3;have p1:=QO gl;refine j5 ?_
   repeat ((first|refine qf (id:=12) Fa mixed ?_);refine kn ?_;refine j5 ?_)
   clear fx p1;refine qG [] .nil qH qB
abbrev Vg:qb:=pJ<|.l 14 []<|.done
theorem GU:∀ {xs:List Int} {i:Nat} {v:Int},i<xs.length->(xs.set i v).take (i+1)=xs.take i++[v]
 | x::xs,0,v,_=>by simp
 | x::xs,i+1,v,h=>by simp [GU (xs:=xs) (i:=i) (v:=v) tp]
theorem Bd {A G G2:Prop} (k:G2) (x:A) (h:A->jP G2->G:=by
 intro fx kk;refine qQ ?_
 repeat ((first|refine qf (id:=10) Vg mixed ?_);refine zQ ?_;refine qQ ?_)
 exact kk.h):G:=h x ⟨k⟩
theorem Wp (gl) (H:Nm->Option AO) (F:Nat) (p:qC) (W:qK) (hw:qt p W) (hO:qZ H F p W) :
  qV prog gl 29 DM [.pt Mn 0] H (λr y H'=>y=.agg ((eV W).own r)/\Co H' r (eV W)) qy:=by
 have hg8:=hw.zJ.1;obtain⟨a0,h00,hb0⟩:=hw.a0;have hl0:=(gS h00).1;refine qV.qa func29 [.cell 2 40] ntmps29 (λ_=>qv) λC w g root hroot=>?_;have hr0:DM root=false:=hroot root (Nm.uH _);refine Bd ?_<|qS;refine zU (λn st=>∃ (i:Nat) (xs:List Int),n=8 - i/\i<=8/\xs.length=8/\xs.take i=kx (W.globals.take i)/\st.tm 0=.pt Mn 0/\st.tm 2=.pt (.s 2) 0/\st.hp (.s 2)=some (.row 4 [[.hs (.c (.s 2) 0 0) 1 0 0,iv 0,iv 0,.hs (.c (.s 2) 0 3) 1 0 0]])/\st.tm 3=.hs (.s 3) 1 0 8/\st.hp (.s 3)=some (.row 1 (qm xs))/\st.tm 9=iv 8/\st.tm 10=iv i/\qZ st.hp F p W) 8 ?_ ?_
 .exact⟨0,List.replicate 8 0,qA,qA,qB,by simp [kx],by simp [hO.top],qB,qB,qB,yO,qB,qB,(have om:=hO;qZ.re om)⟩
 clear hO;rintro n st - - ⟨i,xs,rfl,hi,hxl,hxs,t0,t2,hp2,t3,hp3,t9,t10,hO⟩;have hT:=hO.top;have hE:=hO.env 0 a0 h00;simp only [zj] at hT;simp only [uk] at hE;obtain⟨ms,hms,hmo⟩:=hO.ju 0 hl0;have hmo':kZ ms (W.vars none):=by simpa [qK.ju,qK.vars] using hmo
 by_cases hil:i<8
 .obtain⟨s,hs⟩:∃ s,W.globals[i]?=some s:=⟨_,gE qA⟩;have hx7:0<=(i:Int)/\(i:Int)<=7:=qA;have hlk:=hmo'.get' hx7;have hgs:W.get none (i:Int)=s:=by simp [qK.get,qK.vars,hs]
  rw [hgs] at hlk
  have htk:kx (W.globals.take (i+1))=kx (W.globals.take i)++[match s with|some v=>Hm.shown v|none=>-9]:=by
   rw [vM,hs]
   cases s <;> simp [kx]
  have hi8:(i:Int)<8:=qA
  cases s with
  | none =>
   refine Bd ?_<|qr t0 t2 t3 hp3 t9 t10 hi8 hil hxl hT hE hms<|hlk;exact⟨8 - (i+1),qA,i+1,xs.set i (-9),rfl,qA,by simp [hxl],by rw [htk,<- hxs,GU qA],eC,bh,jq,bG,uJ,mX,by simp [t10];exact qi qA qA,(have om:=hO;qZ.re om)⟩
  | some v =>
   have hsh:=BY gl v;obtain⟨v1,v2⟩:=v;have fx:=qr t0 t2 t3 hp3 t9 t10 hi8 hil hxl hT hE hms<|hlk;have c1:=hsh;refine Bd ?_<|@fx;clear fx c1;exact⟨8 - (i+1),qA,i+1,xs.set i (Hm.shown (v1,v2)),rfl,qA,by simp [hxl],by rw [htk,<- hxs,GU qA],eC,bh,jq,bG,uJ,mX,by simp [t10];exact qi qA qA,(have om:=hO;qZ.re om)⟩
 .have hge:i=8:=qA;subst hge
  have hxe:xs=kx W.globals:=by
   rw [yU qA,yU qA] at hxs;exact hxs
  have hU:=hO.out;have hsl:(kx W.globals).length=8:=by rw [<- hxe];exact hxl
  have h88:¬ (8:Int)<8:=qA;refine G7 (.c Mn 0 4) (.s 1) (.inl rfl) (.inl rfl) ?_;refine Bd ?_<|vA t0 t2 hp2 t3 hp3 t9 t10 h88 hT<|hU;refine qG [(.s 2,root)] (.one rfl) (by simp [t2];rfl) ⟨by simp [eV,hsl],⟨by simp [eV,hU,hr0],by simp [eV,hp3,hxe,hr0]⟩⟩
open Go.Shelf in
theorem Sn:LaysM.n171 prog my:={ Sm with i0:=qY,i2:=qY,i3:=qY,i4:=qY,i5:=qY,i9:=qY,i20:=qY,i37:=qY,i46:=qY,i51:=qY,i53:=qY,i171:=qY,i173:=qY,i212:=qY,i232:=qY,i233:=qY,m17:=qY,m18:=qY,m19:=qY}
theorem SB (gl) (hgp:gl 2=some (lY.map .sc)) (n:Int) (h0:-1000000<=n) (h1:n<=1000000):qM prog gl 30 [iv n] (λ_ y _=>y=tx (jT n)) :=
 SC Sn gl hgp n h0 h1
theorem HJ (gl) {m:Int} (hgm:gl 3=some [.sc (.int .i64 m)]) (hgs:gl 1=some ((df yM).map AV.sc)) (s:q9) (hs:s.length<=1048576) :
  qM prog gl 14 [tx s] (λ_ y _=>y=.zT [yu ((ku s).getD []),bv (ku s).isSome]) :=
 (Nv gl hgm hgs s hs).settle λr y H' ⟨p,h1,h2,h3⟩=>⟨.zT [yu ((ku s).getD []),bv (ku s).isSome],by rw [h1,<- h3];exact Hr h2,rfl⟩
theorem Re (gl) {m:Int} (hgm:gl 3=some [.sc (.int .i64 m)]) (hgs':gl 1=some ((df yM).map AV.sc)) (hge':gl 0=some ((df kj).map AV.sc)) (hgp:gl 2=some (lY.map .sc)) (s:q9) (f:Int) (hs:s.length<=1048576) :
  qM prog gl 12 [tx s,iv f] (λ_ y _=>y=tx (s6 s f)):=by
 have hpa:=HJ gl hgm hgs' s hs;refine qM.qa func12 [.tmp 4] ntmps12 λC w g root=>?_
 cases hr:(decide (0<=f)&&decide (f<=150))
 .rw [Fl hr];have fx:= hr;have c1:=hr ▸ xS gl f;refine qQ ?_;clear fx c1;refine qG [] .nil qH qB
 obtain⟨h0,h1⟩:0<=f/\f<=150:=by simpa using hr
 obtain⟨n,rfl⟩:∃ n:Nat,f=n:=⟨f.toNat,qA⟩;have hn:n<=150:=qA;rw [Fm hn]
 cases hp:ku s with
 | none =>
  rw [hp] at hpa;have fx:= hr;have c1:=hr ▸ xS gl n;have p1:=hpa;refine j5 ?_;clear fx c1 p1;refine qG [] .nil qH (by simp [jO,iN])
 | some q =>
  rw [hp] at hpa;simp only [Option.getD_some,Option.isSome_some] at hpa;have hpo:ye q=true:=(Ge hp).2.1;have hP:=zq.of (F1 hpo) hpo;have hm:=El hP.sh hn;have hok:=hm.ok;have hol:=hm.ok.kR;have hor:=hm.ok.dV;have her:=hm.ok.eH;have hmf:=λgl H (h1:∀ k i j,H (.u k i j)=none)=>T4 gl H q n hP hn h1;have hrl:cB q n=(vt q n).out.map jT++[kj.getD (vt q n).en.toNat []]:=rfl;simp only [hrl];clear hrl hm;generalize vt q n=W at hok hol hor her hmf ⊢;obtain⟨e,hen⟩:∃ e:Nat,W.en=e:=⟨W.en.toNat,qA⟩;have he8:e<8:=qA;have he8i:(e:Int)<8:=qA;have he8l:e<kj.length:=he8;obtain⟨u,hu⟩:=gX he8l;obtain⟨_,huE⟩:=gS hu;have hug:kj.getD W.en.toNat []=u:=by rw [hen];simp [bC,hu]
  have hul:u.length<=10:=by
   have:∀ w∈kj,w.length<=10:=qc;exact this u (gM hu)
  rw [hug,sJ];have fx:= hr;have c1:=hr ▸ xS gl n;have p1:=hpa;refine j5 ?_;clear fx c1 p1;intro K hK;have fx:=qS;refine tA (λk i j he=>BC) (hF:=hmf gl _ (by simp [jv])) (h:=?_);rintro y H1 ⟨rfl,hO1⟩;clear fx;have hT1:=hO1.top;simp only [zj] at hT1;refine qI ?_<| hT1;have fx:=hT1;refine tA (λk i j he=>BC) (hF:=Wp gl _ _ q W hok (qZ.sub (p:=q) (F:=229) (w:=W) (have om:=hO1;qZ.re om))) (h:=?_);rintro y H2 ⟨rfl,hR2⟩;clear fx;have r1:=hR2.out;have r2:=hR2.gl;have fx:=aI r1<|r2;have b1:=Ox;refine j5 ?_;clear fx b1;refine zU (λn st=>∃ i:Nat,n=W.out.length - i/\i<=W.out.length/\st.tm 7=.pt (.s 7) 0/\st.hp (.s 7)=some (.row 4 [[.hs (.c (.s 24) 0 0) 1 0 W.out.length,iv W.en,iv W.left,.hs (.c (.s 24) 0 3) 1 0 (kx W.globals).length]])/\st.hp (.c (.s 24) 0 0)=some (.row 1 (qm W.out))/\st.tm 8=.pt (.s 8) 0/\st.tm 26=.hs (.c (.s 24) 0 0) 1 0 W.out.length/\st.tm 27=iv W.out.length/\st.tm 28=iv i/\ax st.hp (.s 8) 48 5 (jO 10 ((W.out.take i).map jT))) W.out.length ?_ ?_
  .exact⟨0,qA,qA,qB,by simp [eV],by simp [r1,eV],qB,by simp [eV],by simp [eV],qB,.inl ⟨xB,qB⟩⟩
  clear hO1 hT1 hR2 r1 r2;rintro n st - hgs ⟨i,rfl,hi,h7,hp7,h70,h8,h26,h27,h28,hB⟩;replace hgs:st.gl=gl:=hgs
  have hLl:(jO 10 ((W.out.take i).map jT)).length<=1003000:=by
   have:=Ef (l:=W.out.take i) λx hx=>hor x (gJ hx);rw [mE] at this;omega
  by_cases hil:i<W.out.length
  .obtain⟨x,hx⟩:=gX hil;obtain⟨_,hxE⟩:=gS hx;have hxr:=hor x (gM hx);have hxl:=Ew hxr;have hnext:=Jv hx;generalize jO 10 ((W.out.take i).map jT)=L at hB hLl hnext;have hl1:∀ c,2000000000<=c->(jT x).length+1<=c:=λc hc=>qA;have fx:=yD h7 hp7 h70 h8 h26 h27 h28 hil hx hxE<|hl1;have c1:=SB gl hgp x qA qA;refine qQ ?_;clear fx c1;intro K hK;have fx:=aI h8 h8;refine NX 8 Jo E8 rfl rfl (hB.go im im im) (hs:=qB) (hlen:=qn) (h:=?_);clear fx;rintro st' - hg htm hhp f1 f2;have g7:st'.tm 7=.pt (.s 7) 0:=by simp [htm,h7]
   have gp7:st'.hp (.s 7)=some (.row 4 [[.hs (.c (.s 24) 0 0) 1 0 W.out.length,iv W.en,iv W.left,.hs (.c (.s 24) 0 3) 1 0 (kx W.globals).length]]):=by simp [hhp,hp7]
   have g70:st'.hp (.c (.s 24) 0 0)=some (.row 1 (qm W.out)):=by simp [hhp,h70]
   have g8:st'.tm 8=.pt (.s 8) 0:=by simp [htm,h8]
   have g26:st'.tm 26=.hs (.c (.s 24) 0 0) 1 0 W.out.length:=by simp [htm,h26]
   have g27:st'.tm 27=iv W.out.length:=by simp [htm,h27]
   have g28:st'.tm 28=iv i:=by simp [htm,h28]
   clear htm hhp;refine qI ?_<|jQ g7 gp7 g70 g8 g26 g27<|g28;refine⟨W.out.length - (i+1),qA,i+1,rfl,qA,by simp [g7],by simp [gp7],by simp [g70],by simp [g8],by simp [g26],by simp [g27],zw,?_⟩;rw [hnext];exact .inr ⟨qB,by simpa using f1,by simpa using f2⟩
  .have hge:i=W.out.length:=qA;subst hge;rw [wD] at hB hLl;generalize jO 10 (W.out.map jT)=L at hB hLl ⊢;have hl1:∀ c,2000000000<=c->u.length+1<=c:=λc hc=>qA;refine qI ?_<|qr h7 hp7 h8 h26 h27 h28 hil hgs hge' hen hu huE<|qk he8l he8i<|hl1;intro K hK;have fx:=aI h8 h8;refine NX 8 Jo E8 rfl rfl (hB.go im im im) (hs:=qB) (hlen:=qn) (h:=?_);clear fx;rintro st' - hg htm hhp f1 f2;have g8:st'.tm 8=.pt (.s 8) 0:=by simp [htm,h8]
   have hB':ax st'.hp (.s 8) 48 5 (L++(u++[10])):=.inr ⟨qB,by simpa using f1,f2⟩;clear htm hhp f1 f2;refine qI ?_<| g8;intro K hK;have fx:=aI g8 g8;refine qA4 (l:=L++(u++[10])) 8 Sl E8 rfl rfl (hB'.go im im im) (h:=?_);clear fx;refine qI ?_<|qS;refine qG [] .nil qH qB
end Go.Proofs.YtjgpejikjhojcaaGreatDoor
end
