import Derived.Test.YtdnebaieamppbaaGreatDoorE47
import Derived.Test.YtdnebaieamppbaaGreatDoorE28
set_option linter.unusedSimpArgs false
set_option linter.unusedVariables false
set_option maxRecDepth 100000
set_option maxHeartbeats 4000000

section
namespace Go.Proofs.YtdnebaieamppbaaGreatDoor
open Go Go.Hm Go.Proofs Tryz
abbrev YT:Zh:=bI<|.l 7 []<|.l 8 []<|.done
abbrev YS:Zh:=wo<|.l 9 [4,3,2,1,0]<|.l 10 [0]<|.q 11<|.q 12<|.l 13 []<|.done
abbrev Vj:Zh:=wE<|.l 6 []<|.l 7 []<|.done
theorem yL {A G G2:Prop} (k:G2) (x:A) (h:A->Zx G2->G:=by
 intro fx kk;refine qG ?_
 repeat ((first|refine Ze (id:=8) YT mixed ?_|refine Ze (id:=10) YS mixed ?_|refine Ze (id:=19) Vj mixed ?_|refine Ze (id:=21) Vj mixed ?_);refine qZ ?_;refine qG ?_)
 exact kk.h):G:=h x ⟨k⟩
theorem JI (gl) (p:Z0) (n:Nat) (hR:UI gl p n) (H:Nm->Option AO) (W:Z5) (a:Nat) (k:Za) (s:Z9) (hP:Zm p) (hw:Zy p W) (hn:W.left<n) (h0:W.en=0) (ha:a<W.ZX.length) (hk:p[W.Z1 a]?=some k) (hs:s∈k.body) (hkd:0<=s.kind/\s.kind<=7) (hr:Room 2 W) (hO:Zf H p W) (hV:H (.u 2 0 0)=none) :
  Zj prog gl 206 (Nm.under Wn) [.pt Wn 0,iv a,s.av] H (λ_ y H'=>y=Zd.av (zo p (zY p n) W a s).2/\Zf H' p (zo p (zY p n) W a s).1) noE:=by
 have hT:=hO.top;simp only [wL] at hT;have hst:=hP.sh.stm _ k hk s hs;have hnm:=hP.sh.names k (gM hk);have hrd:=hnm.reads s hs;have hrl:=Z9.qAX s;refine Zj.Zl func206 [.cell 6 63] ntmps206 (λ_=>qR rfl) λC w g root hroot=>?_;have fx:= hT;have d1:=iB gl s;refine yL ?_<|fx;clear fx d1;intro K hK;refine pI (.s 13) (.u 2 0 0) (.inl rfl) (.inr tj) ?_;have fx:=hT;refine yp qu qB (hF:=Q1 _ _ p W a s.reads hP.sh hw ha hrd hrl (have ow:=hO;Zf.re ow) qB) (h:=?_);rintro y H1 ⟨rfl,hp1,hO1⟩;clear fx;obtain⟨hA,hvok,hcase,hlen,_⟩:=ww (a:=a) (l:=s.reads) hw;have hval:zo p (zY p n) W a s=if (qY p W a s.reads).1.en≠0 then ((qY p W a s.reads).1,(0,0)) else ju p (zY p n) (qY p W a s.reads).1 a s (qY p W a s.reads).2:=rfl
 generalize qY p W a s.reads=q at hp1 hO1 hA hvok hcase hlen hval;obtain⟨V,vs⟩:=q;simp only at hp1 hO1 hA hvok hcase hlen hval;have hT1:=hO1.top;simp only [wL] at hT1;obtain⟨kd,to,sa,sb⟩:=s;simp only at hkd;by_cases hen:V.en=0
 case neg =>
  rw [if_pos hen] at hval;have henb:(V.en==0)=false:=dM;refine yL ?_<|yS hT hT1 hp1 henb<|@qL;rw [hval];refine qD [] .nil qE ⟨qB,(have ow:=hO1;Zf.re ow)⟩
 rw [if_neg dM] at hval
 obtain rfl:V=W:=by
  rcases hcase with e|⟨e,he,h⟩
  .exact e
  .rw [h] at hen;exact absurd hen he
 have hl:=hlen hen;have henb:(V.en==0)=true:=dM;have hkc:kd=0\/kd=1\/kd=2\/kd=3\/kd=4\/kd=5\/kd=6\/kd=7:=qA;rcases hkc with rfl|rfl|rfl|rfl|rfl|rfl|rfl|rfl
 .have hw0:ju p (zY p n) V a ⟨0,to,sa,sb⟩ vs=(V,(1,sa)):=bZ;rw [hw0] at hval;refine yL ?_<|yS hT hT1 hp1 henb<|@qL;rw [hval];refine qD [] .nil qE ⟨qB,(have ow:=hO1;Zf.re ow)⟩
 .obtain⟨u,rfl⟩:∃ u,vs=[u]:=by
   match vs,hl with
   | [u],_=>exact⟨u,rfl⟩
   | [],h=>simp [Z9.reads] at h
   | _::_::_,h=>simp [Z9.reads] at h
  have hw0:ju p (zY p n) V a ⟨1,to,sa,sb⟩ [u]=(V,u):=bZ;rw [hw0] at hval;refine yL ?_<|yS hT hT1 hp1 henb<|@qL;rw [hval];refine qD [] .nil qE ⟨qB,(have ow:=hO1;Zf.re ow)⟩
 .obtain⟨u,v,rfl⟩:∃ u v,vs=[u,v]:=by
   match vs,hl with
   | [u,v],_=>exact⟨u,v,rfl⟩
   | [],h=>simp [Z9.reads] at h
   | [_],h=>simp [Z9.reads] at h
   | _::_::_::_,h=>simp [Z9.reads] at h
  have hw0:ju p (zY p n) V a ⟨2,to,sa,sb⟩ [u,v]=uw V u v:=bZ;rw [hw0] at hval;refine yL ?_<|yS hT hT1 hp1 henb<|@qL;intro K hK;have fx:=aI hT hT1;refine aL Wn rfl bt (hF:=TT _ _ p V u v (hvok u qB) (hvok v qB) (have ow:=hO1;Zf.re ow)) (h:=?_);rintro y H2 ⟨rfl,hO2⟩;clear fx;have hT2:=hO2.top;simp only [wL] at hT2;refine yL ?_<|uD hT hT1 hp1 hT2 henb<|@qL;rw [hval];refine qD [] .nil qE ⟨qB,(have ow:=hO2;Zf.re ow)⟩
 .obtain⟨q,hq1,hq2,hq3,hq4⟩:=zN.made hst (.inl rfl);simp only at hq3;obtain⟨A,rfl⟩:∃ A:Nat,sa=A:=⟨sa.toNat,qA⟩;have hw0:ju p (zY p n) V a ⟨3,to,(A:Int),sb⟩ vs=({ V with ZZ:=V.ZZ++[(A,a)] },(2,(V.ZZ.length:Int))):=bZ;rw [hw0] at hval;have hF:=hO1.ZZ;have hfl:=hr.ZZ;have hfl':V.ZZ.length<=1000:=qA;have hwr:IntKind.i64.wrap (V.ZZ.length:Int)=V.ZZ.length:=Zv qA qA;have hap:yq (.c Wn 0 4) V.ZZ++[[iv A,iv a,.hs (.c (.c Wn 0 4) V.ZZ.length 2) 3 0 0]]=yq (.c Wn 0 4) (V.ZZ++[(A,a)]):=Fo;refine yL ?_<|kO hT hT1 hp1 henb hF hfl' hwr<|@qL;rw [hval];refine qD [] .nil qE ⟨qB,Zf.fin ⟨by simp [wL,hT1],by simp [hO1.ZX],λi b hb=>by simp [hO1.act i b hb],hO1.stk.imp λl hl=>oU,by simp [hO1.Zg],?_,tH,λi c hc=>by simp [hO1.cls i c hc],by simp [hO1.out],tK⟩⟩;simp [<- hap];rw [b9 qB];refine Fm λi c hc=>?_;have hne:¬ i=V.ZZ.length:=CC;have hne':¬ V.ZZ.length=i:=qA;simp [hne,hne']
 .obtain⟨q,hq1,hq2,hq3,hq4⟩:=zN.made hst (.inr rfl);have hm:=Ad hst ha (.inr rfl);simp only at hq1 hq3 hm;obtain⟨A,rfl⟩:∃ A:Nat,sa=A:=⟨sa.toNat,qA⟩;simp only [b6] at hq1 hm
  have hpar:cp p A=0:=by
   have hh:=hP.sh.head A q hq1;have hA0:¬ A=0:=qA;simp only [vG,hA0,if_false] at hh;simp only [cp,hq1];simp only at hq4;omega
  have hw0:ju p (zY p n) V a ⟨4,to,(A:Int),sb⟩ vs=kI p (zY p n) V A a:=bZ;rw [hw0] at hval;refine yL ?_<|yS hT hT1 hp1 henb<|@qL;intro K hK;refine pI (.s 67) (.u 2 0 0) (.inl rfl) (.inr tj) ?_;have fx:=aI hT hT1;refine yp bt qB (hF:=Ig _ p n hR _ V A a 0 [] [] hP hw hn h0 hm qB (hr.mono qA) rfl rfl (by rw [hpar];rfl) qB (have ow:=hO1;Zf.re ow) qB) (h:=?_);rintro y H2 ⟨rfl,hp2,hO2⟩;clear fx
  have hcl:kI p (zY p n) V A a=if (qm p (zY p n) V A a []).1.en≠0 then ((qm p (zY p n) V A a []).1,(0,0)) else
   ({ (qm p (zY p n) V A a []).1 with ZV:=(qm p (zY p n) V A a []).1.ZV++[(qm p (zY p n) V A a []).1.vars (some V.ZX.length)] },(3,((qm p (zY p n) V A a []).1.ZV.length:Int))):=rfl
  rw [hcl] at hval;obtain⟨⟨e1,e2,e3⟩,e4⟩:=mn (vs:=[]) (kT hP.sh n) hw hn h0 hm qB (hr.mono qA);have hrc:(qm p (zY p n) V A a []).1.ZV.length<=1000:=by have:=e1.qBU;omega
  generalize qm p (zY p n) V A a []=q2 at hp2 hO2 hval e1 hrc;obtain⟨U,v⟩:=q2;simp only at hp2 hO2 hval e1 hrc;have hT2:=hO2.top;simp only [wL] at hT2;by_cases hen2:U.en=0
  case neg =>
   rw [if_pos hen2] at hval;have henb2:(U.en==0)=false:=nz;refine yL ?_<|uD hT hT1 hp1 hT2 henb2<|@qL;rw [hval];refine qD [] .nil qE ⟨qB,(have ow:=hO2;Zf.re ow)⟩
  rw [if_neg nz] at hval;have henb2:(U.en==0)=true:=nz;generalize U.vars (some V.ZX.length)=nv at hp2 hval;have hC:=hO2.Zw;have hwr:IntKind.i64.wrap (U.ZV.length:Int)=U.ZV.length:=Zv qA qA;have hap:yX (.c Wn 0 5) U.ZV++[[.hs (.c (.c Wn 0 5) U.ZV.length 0) 3 0 8]]=yX (.c Wn 0 5) (U.ZV++[nv]):=Fy;refine yL ?_<|aJ hT hT1 hp1 hT2 henb2 hp2 hC hrc hwr<|@qL;rw [hval];refine qD [] .nil qE ⟨qB,Zf.fin ⟨by simp [wL,hT2],by simp [hO2.ZX],λi b hb=>by simp [hO2.act i b hb],hO2.stk.imp λl hl=>oU,by simp [hO2.Zg],by simp [hO2.ZZ],?_,λi c hc=>?_,by simp [hO2.out],by simp [hO2.trc]⟩⟩
  .simp [<- hap];rw [b9 qB];refine Fx λi c hc=>?_;have hne:¬ i=U.ZV.length:=CC;have hne':¬ U.ZV.length=i:=qA;simp [hne,hne']
  .simp only at hc;rcases fF i U.ZV.length with hlt|hge
   .rw [uW hlt] at hc;have hne:¬ i=U.ZV.length:=qA;have hne':¬ U.ZV.length=i:=qA;simp [hO2.cls i c hc,hne,hne']
   .rw [b7 hge] at hc
    have hi:i=U.ZV.length:=by
     have:=(gS hc).1;simp at this;omega
    subst hi;simp at hc;subst hc;simp [hp2]
 .have hpos:0<vs.length:=by
   rw [hl];by_cases e:sb=-1 <;> simp [Z9.reads,e]
  obtain⟨u,tl,rfl⟩:∃ u tl,vs=u::tl:=by
   match vs,hpos with
   | u::tl,_=>exact⟨u,tl,rfl⟩
  have htl:tl.length<=1:=by simp at hl;omega
  have hw0:ju p (zY p n) V a ⟨5,to,sa,sb⟩ (u::tl)=u6 p (zY p n) V u tl:=bZ;rw [hw0] at hval;have hle1:(1:Int)<=(tl.length:Int)+1:=qA;have htn:((tl.length:Int)+1).toNat=tl.length+1:=qA;refine yL ?_<|kO hT hT1 hp1 henb htl hle1 htn<|@qL;intro K hK;refine pI (.s 7) (.u 2 0 0) (.inl rfl) (.inr tj) ?_;have fx:=aI hT hT1;refine yp bt jy (hF:=Tz _ p n hR _ V u 1 tl (u::tl) hP hw hn h0 (hvok u qB) (λv hv=>hvok v (by simp [hv])) (hr.mono qA) rfl qc htl (have ow:=hO1;Zf.re ow) jy) (h:=?_);rintro y H2 ⟨rfl,hO2⟩;clear fx;have hT2:=hO2.top;simp only [wL] at hT2;refine yL ?_<|bA hT hT1 hp1 hT2 henb htl hle1 htn<|@qL;rw [hval];refine qD [] .nil qE ⟨qB,(have ow:=hO2;Zf.re ow)⟩
 .obtain⟨u,rfl⟩:∃ u,vs=[u]:=by
   match vs,hl with
   | [u],_=>exact⟨u,rfl⟩
   | [],h=>simp [Z9.reads] at h
   | _::_::_,h=>simp [Z9.reads] at h
  have hsb:0<=sb/\sb<=7:=by
   simp only [zN] at hst;simp at hst;omega
  obtain⟨x,rfl⟩:∃ x:Nat,sb=x:=⟨sb.toNat,qA⟩;have hw0:ju p (zY p n) V a ⟨6,to,sa,(x:Int)⟩ [u]=kN V u x:=bZ;rw [hw0] at hval;refine yL ?_<|yS hT hT1 hp1 henb<|@qL;intro K hK;have fx:=aI hT hT1;refine aL Wn rfl bt (hF:=UC _ _ p V u x hw (hvok u qB) qA (have ow:=hO1;Zf.re ow)) (h:=?_);rintro y H2 ⟨rfl,hO2⟩;clear fx;have hT2:=hO2.top;simp only [wL] at hT2;refine yL ?_<|uD hT hT1 hp1 hT2 henb<|@qL;rw [hval];refine qD [] .nil qE ⟨qB,(have ow:=hO2;Zf.re ow)⟩
 .obtain⟨u,rfl⟩:∃ u,vs=[u]:=by
   match vs,hl with
   | [u],_=>exact⟨u,rfl⟩
   | [],h=>simp [Z9.reads] at h
   | _::_::_,h=>simp [Z9.reads] at h
  have hw0:ju p (zY p n) V a ⟨7,to,sa,sb⟩ [u]=(V,u):=bZ;rw [hw0] at hval;refine yL ?_<|yS hT hT1 hp1 henb<|@qL;rw [hval];refine qD [] .nil qE ⟨qB,(have ow:=hO1;Zf.re ow)⟩
abbrev YR:Zh:=wE<|.l 6 [4,3,2,1,0]<|.l 7 [4,3,2,1,0]<|.l 8 [0]<|.q 9<|.q 10<|.l 11 []<|.done
theorem kZ {A G G2:Prop} (k:G2) (x:A) (h:A->Zx G2->G:=by
 intro fx kk;refine qG ?_
 repeat ((first|refine Ze (id:=9) YR mixed ?_);refine qZ ?_;refine qG ?_)
 exact kk.h):G:=h x ⟨k⟩
theorem Jh (gl) (p:Z0) (n:Nat) (hR:UI gl p n) (H:Nm->Option AO) (W:Z5) (a:Nat) (k:Za) (s:Z9) (hP:Zm p) (hw:Zy p W) (hn:W.left<n) (h0:W.en=0) (ha:a<W.ZX.length) (hk:p[W.Z1 a]?=some k) (hs:s∈k.body) (h8:s.kind≠8) (hr:Room 2 W) (hO:Zf H p W) (hV:H (.u 2 0 0)=none) :
  Zj prog gl 171 (Nm.under Wn) [.pt Wn 0,iv a,s.av] H (λ_ y H'=>Zf H' p (cd p (zY p n) W a s)) noE:=by
 have hT:=hO.top;simp only [wL] at hT;have hst:=hP.sh.stm _ k hk s hs;have hnm:=hP.sh.names k (gM hk);have hkd:=hnm.kinds s hs;have hto:=hnm.tos s hs;have hvl:=JI gl p n hR;obtain⟨kd,to,sa,sb⟩:=s;simp only at h8 hkd hto;obtain⟨x,rfl⟩:∃ x:Nat,to=x:=⟨to.toNat,qA⟩;refine Zj.Zl func171 [] ntmps171 (λ_=>qR rfl) λC w g root hroot=>?_;by_cases h9:kd=9
 .subst h9;have hc:cd p (zY p n) W a ⟨9,x,sa,sb⟩=W:=by simp [cd]
  refine kZ ?_<| hT;rw [hc];refine qD [] .nil qE (have ow:=hO;Zf.re ow)
 by_cases h10:kd=10
 .subst h10;have hc:cd p (zY p n) W a ⟨10,x,sa,sb⟩=W:=by simp [cd]
  refine kZ ?_<| hT;rw [hc];refine qD [] .nil qE (have ow:=hO;Zf.re ow)
 have hb9:(kd==9)=false:=by simpa using h9
 have hb10:(kd==10)=false:=by simpa using h10
 by_cases h11:kd=11
 .subst h11;have hc:cd p (zY p n) W a ⟨11,x,sa,sb⟩=bb p W a x:=by simp [cd]
  refine kZ ?_<| hT;intro K hK;have fx:=hT;refine aL Wn rfl qu (hF:=S7 _ _ p W a x hP.sh hw ha qA (have ow:=hO;Zf.re ow)) (h:=?_);rintro y H1 hO1;clear fx;have hT1:=hO1.top;simp only [wL] at hT1;refine kZ ?_<|aI hT<|hT1;rw [hc];refine qD [] .nil qE (have ow:=hO1;Zf.re ow)
 have hb11:(kd==11)=false:=by simpa using h11
 have hc:cd p (zY p n) W a ⟨kd,x,sa,sb⟩=if (zo p (zY p n) W a ⟨kd,x,sa,sb⟩).1.en≠0 then (zo p (zY p n) W a ⟨kd,x,sa,sb⟩).1
   else if kd=7 then { (zo p (zY p n) W a ⟨kd,x,sa,sb⟩).1 with out:=(zo p (zY p n) W a ⟨kd,x,sa,sb⟩).1.out++[Hm.shown (zo p (zY p n) W a ⟨kd,x,sa,sb⟩).2] }
   else wm p (zo p (zY p n) W a ⟨kd,x,sa,sb⟩).1 a x (zo p (zY p n) W a ⟨kd,x,sa,sb⟩).2:=by
  simp only [cd];rw [if_neg qA,if_neg h11]
 refine kZ ?_<|yE hT hb9 hb10<|hb11;intro K hK;have fx:=hT;refine aL Wn rfl qu (hF:=hvl _ W a k ⟨kd,x,sa,sb⟩ hP hw hn h0 ha hk hs ⟨by simp only;omega,by simp only;omega⟩ hr (have ow:=hO;Zf.re ow) qB) (h:=?_);rintro y H1 ⟨rfl,hO1⟩;clear fx;obtain⟨hA,hvok⟩:=fK (kT hP.sh n) hw hn h0 ha hst hr;generalize zo p (zY p n) W a ⟨kd,x,sa,sb⟩=q at hO1 hA hvok hc;obtain⟨V,v⟩:=q;simp only at hO1 hA hvok hc;have hT1:=hO1.top;simp only [wL] at hT1;have haV:a<V.ZX.length:=aR ha hA.grow.qAk;by_cases hen:V.en=0
 case neg =>
  rw [if_pos hen] at hc;have henb:(V.en==0)=false:=dM;refine kZ ?_<|yE hT hT1 henb<|@qL;rw [hc];refine qD [] .nil qE (have ow:=hO1;Zf.re ow)
 rw [if_neg dM] at hc;have henb:(V.en==0)=true:=dM;by_cases h7:kd=7
 .subst h7;rw [if_pos rfl] at hc;have hU:=hO1.out;have hol:=hA.ok.qBQ;have hol':V.out.length<=1000:=qA;have hap:qT V.out++[[iv (Hm.shown v)]]=qT (V.out++[Hm.shown v]):=zd;have hsh:=df gl v;obtain⟨v1,v2⟩:=v;have fx:=uD hT hT1 henb hU hol'<|@qL;have c1:=hsh;refine kZ ?_<|fx;clear fx c1;rw [hc];refine qD [] .nil qE (Zf.fin ⟨by simp [wL,hT1],by simp [hO1.ZX],λi b hb=>by simp [hO1.act i b hb],hO1.stk.imp λl hl=>oU,by simp [hO1.Zg],CR,tH,λi c hc=>by simp [hO1.cls i c hc],?_,tK⟩);simp
 .rw [if_neg h7] at hc;have hb7:(kd==7)=false:=by simpa using h7
  have hst2:=Ho gl (p:=p) (W:=V) (a:=a) (x:=x) (v:=v);obtain⟨v1,v2⟩:=v;refine kZ ?_<|yS hT hT1 henb hb7<|@qL;intro K hK;have fx:=aI hT hT1;refine aL Wn rfl bt (hF:=hst2 _ hP.sh hA.ok haV qA (have ow:=hO1;Zf.re ow)) (h:=?_);rintro y H2 hO2;clear fx;have hT2:=hO2.top;simp only [wL] at hT2;refine kZ ?_<|jI hT hT1<|hT2;rw [hc];refine zy [] .nil qE (have ow:=hO2;Zf.re ow)
abbrev YQ:Zh:=MC<|.l 16 []<|.done
abbrev YP:Zh:=FZ<|.l 15 [9,8,7,6,5,4,3,2,1,0]<|.l 16 [9,8,7,6,5,0]<|.q 17<|.q 18<|.l 19 []<|.done
theorem aA {A G G2:Prop} (k:G2) (x:A) (h:A->Zx G2->G:=by
 intro fx kk;refine qG ?_
 repeat ((first|refine Ze (id:=1) YQ mixed ?_|refine Ze (id:=9) YP mixed ?_);refine qZ ?_;refine qG ?_)
 exact kk.h):G:=h x ⟨k⟩
theorem Aw (gl) (p:Z0) (n:Nat) (hR:UI gl p n) (hP:Zm p):UI gl p (n+1):=by
 intro H W a hO hw hn ha h0 hV
 show Zj prog gl 119 (Nm.under Wn) [.pt Wn 0,iv a] H _ noE
 obtain⟨c,hc⟩:=gX ha;obtain⟨_,hcE⟩:=gS hc;have Zs:=hw.qBC a c hc;obtain⟨k,hk⟩:=gX Zs;obtain⟨_,hkE⟩:=gS hk;have hbk:=jq hc;have hT:=hO.top;have hA:=hO.ZX;simp only [wL] at hT;have hb12:=hP.sh.body k (gM hk);have hrun:zY p (n+1) W a=vK p (zY p n) a W 0 k.body:=by simp only [zY,hbk,hk]
 refine Zj.Zl func119 [.cell 4 63] ntmps119 (λ_=>qR rfl) λC w g root hroot=>?_;refine aA ?_<|kO hT hA hc hcE ha hk hkE<|Zs;refine qX (λm st=>∃ (i:Nat) (V:Z5),m=k.body.length - i/\i<=k.body.length/\zY p (n+1) W a=vK p (zY p n) a V i (k.body.drop i)/\Zy p V/\V.left<n+1/\a<V.ZX.length/\V.en=0/\V.Z1 a=c.Z1/\st.tm 0=.pt Wn 0/\st.tm 1=iv a/\st.tm 4=.pt (.s 4) 0/\st.hp (.s 4)=some (.row 2 [[iv 0,iv 0]])/\st.tm 5=ssl k.body/\st.tm 6=iv i/\Zf st.hp p V) k.body.length ?_ ?_
 .exact⟨0,W,qA,qA,by simpa using hrun,hw,hn,ha,h0,hbk,qB,qB,qB,qB,qB,qB,(have ow:=hO;Zf.re ow)⟩
 clear hT hA hO;rintro m st - - ⟨i,V,rfl,hi,hres,hw',hn',ha',h0',hbV,t0,t1,t4,hp4,t5,t6,hO⟩;clear hrun h0 hn hw hc hcE ha;obtain⟨d,hd⟩:∃ d,V.ZX[a]?=some d:=⟨_,gE ha'⟩;obtain⟨_,hdE⟩:=gS hd;have hdb:d.Z1=c.Z1:=by rw [<- jq hd];exact hbV
 have hT:=hO.top;have hA:=hO.ZX;simp only [wL] at hT;by_cases hil:i<k.body.length
 case neg =>
  have hge:i=k.body.length:=qA;rw [hge,List.drop_length] at hres;simp only [vK] at hres;refine aA ?_<|u4 t0 t1 t4 hp4 t5 t6<|hil;rw [hres];refine qD [] .nil eS ⟨qB,(have ow:=hO;Zf.re ow)⟩
 obtain⟨s,hs⟩:=gX hil;obtain⟨_,hsE⟩:=gS hs;have hsm:=gM hs;have hdr:k.body.drop i=s::k.body.drop (i+1):=by rw [Ea hil,hsE]
 rw [hdr] at hres;by_cases hl:V.left=0
 .have hr2:vK p (zY p n) a V i (s::k.body.drop (i+1))=({ V with en:=1 },(0,0)):=by simp only [vK,hl,if_true]
  rw [hr2] at hres;refine aA ?_<|bA t0 t1 t4 hp4 t5 t6 hil hT<|hl;rw [hres];refine qD [] .nil eS ⟨qB,⟨by simp [hO.top,wL,hT,hl],by simp [hO.ZX,hT,hl],λi a ha=>by simp [hO.act i a ha,hT,hl],hO.stk.imp λl hl=>by simp [hl,hT,hl],by simp [hO.Zg,hT,hl],by simp [hO.ZZ,hT,hl],by simp [hO.Zw,hT,hl],λi c hc=>by simp [hO.cls i c hc,hT,hl],by simp [hO.out,hT,hl],by simp [hO.trc,hT,hl]⟩⟩
 obtain⟨l,hll⟩:∃ l,V.left=l+1:=⟨V.left - 1,qA⟩
 have hr2:vK p (zY p n) a V i (s::k.body.drop (i+1))=if s.kind=8 then zk p (qq V a i) a s.a else if (cd p (zY p n) (qq V a i) a s).en≠0 then (cd p (zY p n) (qq V a i) a s,(0,0)) else vK p (zY p n) a (cd p (zY p n) (qq V a i) a s) (i+1) (k.body.drop (i+1)):=by
  simp only [vK,hl,if_false]
 rw [hr2] at hres;clear hr2;obtain⟨tk1,tk2⟩:=gq (a:=a) (i:=i) hw' hl;have hTt:qq V a i={ V with left:=l,trace:=V.trace++[(d.Z1,i)] }:=by simp only [qq,jq hd];rw [hll];rfl
 have hbV2:(qq V a i).Z1 a=d.Z1:=OD;have hleft:(qq V a i).left<n:=by simp only [qq];omega
 have hTr:=hO.trc;have hnt:=hw'.ntr;have hnl:=hw'.qAe;have htl':V.trace.length<=1000:=qA;have hl8:l<=1000:=qA;have hlb:((l:Int)+1==0)=false:=vP;have hwl:IntKind.i64.wrap (l:Int)=l:=Zv qA qA;have hap:yw V.trace++[[iv d.Z1,iv i]]=yw (V.trace++[(d.Z1,i)]):=iD;by_cases h8:s.kind=8
 .rw [if_pos h8] at hres;have hb8:(s.kind==8)=true:=by simpa using h8
  have hrs:=(hP.sh.names k (gM hk)).reads s hsm s.a (by simp [Z9.reads,h8]);obtain⟨x,hx⟩:∃ x:Nat,s.a=x:=⟨s.a.toNat,qA⟩;rw [hx] at hres;refine aA ?_<|qU t0 t1 t4 hp4 t5 t6 hil hT hll hlb hwl hTr<|bA htl' hA hd hdE ha' hs hsE hb8<|hx;intro K hK;have fx:=aI t0 (aI t1 hT);refine aL Wn rfl qu (hF:=Mr _ _ p (qq V a i) a x hP.sh tk1 ha' qA Nw) (h:=?_);rintro y H1 ⟨rfl,hO1⟩;clear fx;generalize zk p (qq V a i) a x=q at hO1 hres;obtain⟨U,v1,v2⟩:=q;have hT1:=hO1.top;simp only [wL] at hT1;refine aA ?_<|kO t0 t1 t4 hp4 t5 t6 hT<|hT1;rw [hres];refine qD [] .nil eS ⟨qB,(have ow:=hO1;Zf.re ow)⟩
 .rw [if_neg h8] at hres;have hb8:(s.kind==8)=false:=by simpa using h8
  have hk':p[(qq V a i).Z1 a]?=some k:=by rw [hbV2,hdb];exact hk
  have hst:=hP.sh.stm _ k hk s hsm;have hSo:=nL (s:=s) (k:=k) (kT hP.sh n) tk1 hleft h0' ha' (by rw [hbV2,hdb];exact hst) tk2;refine aA ?_<|qU t0 t1 t4 hp4 t5 t6 hil hT hll hlb hwl hTr<|kO htl' hA hd hdE ha' hs hsE<|hb8;intro K hK;have fx:=aI t0 (aI t1 hT);refine aL Wn rfl qu (hF:=Jh gl p n hR _ (qq V a i) a k s hP tk1 hleft h0' ha' hk' hsm h8 tk2 Nw qB) (h:=?_);rintro y H1 hO1;clear fx;have hAf:=hSo.tick hl;generalize cd p (zY p n) (qq V a i) a s=U at hO1 hAf hres hSo;have hT1:=hO1.top;simp only [wL] at hT1;by_cases hen:U.en=0
  .rw [if_neg dM] at hres;have henb:(U.en==0)=true:=dM;refine aA ?_<|aJ t0 t1 t4 hp4 t5 t6 hT hT1 henb<|@qL;exact⟨k.body.length - (i+1),qA,i+1,U,rfl,qA,hres,hAf.ok,by have:=hAf.grow.left;omega,aR ha' hAf.grow.qAk,hen,by rw [hAf.grow.Z1 hd];exact hbV,un,gH,by simp [t4],kj,gG,by simp [t6];exact Zv qA qA,(have ow:=hO1;Zf.re ow)⟩
  .rw [if_pos dM] at hres;have henb:(U.en==0)=false:=dM;refine aA ?_<|aJ t0 t1 t4 hp4 t5 t6 hT hT1 henb<|@qL;rw [hres];refine qD [] .nil eS ⟨qB,(have ow:=hO1;Zf.re ow)⟩
theorem rU (gl) (p:Z0) (hP:Zm p):∀ n,UI gl p n
 | 0=>λH W a _ _ h=>absurd h qA
 | n+1=>Aw gl p n (rU gl p hP n) hP
abbrev Vi:Zh:=.q 0<|.q 2<|.l 1 [2,0]<|.q 3<|.l 4 []<|.l 5 []<|.done
theorem kB (gl) (p:Z0) (f:Int) (hs:Sml p):qb prog gl 44 [pav p,iv f] (λ_ y _=>y=bv (jT p f)):=by
 refine qb.Zl func44 [.tmp 4] ntmps44 λC w g root=>?_
 cases hv:jF p
 .skip
  have fx:= hv;have c1:=hv ▸ qr gl p hs;refine qG ?_;clear fx c1;refine qD [] .nil qE (by simp [jT,hv])
 .skip
  have fx:= hv;have c1:=hv ▸ qr gl p hs;have c2:=jH gl f 0 150;refine qG ?_;clear fx c1 c2;refine qD [] .nil qE (by simp [jT,hv])
theorem QV (gl) (H:Nm->Option AO) (p:Z0) (f:Nat) (hP:Zm p) (hf:f<=150) (h1:H (.u 1 0 0)=none) :
  Zj prog gl 68 (Nm.under Wn) [pav p,iv f] H (λ_ y H'=>y=.pt Wn 0/\Zf H' p (yI p f)) noE:=by
 have hw:=ce hP.sh hf;refine Zj.Zl func68 [.tmp 4] ntmps68 (λ_=>qR rfl) λC w g root hroot=>?_;have fx:=Zk;have d1:=ah gl;refine qG ?_
 repeat ((first|refine Ze (id:=1) Vi mixed ?_);refine qZ ?_;refine qG ?_)
 clear fx d1;intro K hK;refine pI (.s 5) (.u 1 0 0) (.inl rfl) (.inr (by simp [dz,h1])) ?_;have fx:=Zk;refine aL Wn rfl qB (hF:=rU gl p hP 151 _ (zK f) 0 ?_ hw (by simp only [zK];omega) gF rfl qB) (h:=?_)
 .have e1:qT (jN [0]++[])=[[iv 0]]:=rfl;have hsl:qW q9=qW (zK f).globals:=rfl;refine⟨by simp [wL,zK],by simp [zK,yN,Jr],λi a ha=>?_,⟨[],by simp [zK,jN,qT]⟩,gF,by simp [zK,yq],by simp [zK,yX],λi c hc=>by simp [zK] at hc,gF,gF⟩
  have hi:i=0:=by
   have:=(gS ha).1;simp [zK] at this;omega
  subst hi;have ha':a=⟨0,0,q9⟩:=by simpa [zK] using ha.symm
  subst ha';simp
 rintro y H1 ⟨rfl,hO1⟩;clear fx;have hT1:=hO1.top;simp only [wL] at hT1;have hme:(zY p 151 (zK f) 0).1=yI p f:=rfl;rw [hme] at hO1 hT1;have fx:= hT1;refine qG ?_
 repeat ((first|refine Ze (id:=1) Vi mixed ?_);refine qZ ?_;refine qG ?_)
 clear fx;refine qD [] .nil qE ⟨qB,(have ow:=hO1;Zf.re ow)⟩
end Go.Proofs.YtdnebaieamppbaaGreatDoor
end
