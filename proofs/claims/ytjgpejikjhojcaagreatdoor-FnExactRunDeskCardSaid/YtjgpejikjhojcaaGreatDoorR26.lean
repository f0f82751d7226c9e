import Derived.Test.YtjgpejikjhojcaaGreatDoorR25
import Derived.Test.YtjgpejikjhojcaaGreatDoorR23
import Derived.Test.YtjgpejikjhojcaaGreatDoorR18
set_option linter.unusedSimpArgs false
set_option linter.unusedVariables false
set_option maxRecDepth 100000
set_option maxHeartbeats 4000000

section
namespace Go.Proofs.YtjgpejikjhojcaaGreatDoor
open Go Go.Hm Go.Proofs Tryz
abbrev Vc:qV:=a7<|.l 7 []<|.l 8 []<|.done
abbrev Vd:qV:=ct<|.l 9 [4,3,2,1,0]<|.l 10 [0]<|.q 11<|.q 12<|.l 13 []<|.done
abbrev Lk:qV:=aL<|.l 6 []<|.l 7 []<|.done
theorem bl {A G G2:Prop} (k:G2) (x:A) (h:A->jL G2->G:=by
 intro fx kk;refine qK ?_
 repeat ((first|refine qQ (id:=8) Vc mixed ?_|refine qQ (id:=10) Vd mixed ?_|refine qQ (id:=19) Lk mixed ?_|refine qQ (id:=21) Lk mixed ?_);refine zK ?_;refine qK ?_)
 exact kk.h):G:=h x ⟨k⟩
theorem qBH (gl) (p:qC) (n:Nat) (hR:oI gl p n) (H:Nm->Option AO) (W:qL) (a:Nat) (k:qX) (s:q8) (hP:zk p) (hw:zF p W) (hn:W.left<n) (h0:W.en=0) (ha:a<W.qI.length) (hk:p[W.qG a]?=some k) (hs:s∈k.body) (hkd:0<=s.kind/\s.kind<=7) (hr:Room 2 W) (hO:qt H p W) (hV:H (.u 2 0 0)=none) :
  qZ prog gl 155 (Nm.under Wn) [.pt Wn 0,iv a,s.av] H (λ_ y H'=>y=qW.av (vO p (qi p n) W a s).2/\qt H' p (vO p (qi p n) W a s).1) zG:=by
 have hT:=hO.top;simp only [jP] at hT;have hst:=hP.sh.ed _ k hk s hs;have hnm:=hP.sh.names k (gM hk);have hrd:=hnm.reads s hs;have hrl:=q8.iM s;refine qZ.q9 func155 [.cell 6 115] ntmps155 (λ_=>vN rfl) λC w g root hroot=>?_;have fx:= hT;have d1:=CZ gl s;refine bl ?_<|@fx;clear fx d1;intro K hK;refine wa (.s 13) (.u 2 0 0) (.inl rfl) (.inr B6) ?_;have fx:=hT;refine wF zE qB (hF:=T6 _ _ p W a s.reads hP.sh hw ha hrd hrl (have ow:=hO;qt.re ow) qB) (h:=?_);rintro y H1 ⟨rfl,hp1,hO1⟩;clear fx;obtain⟨hA,hvok,hcase,hlen,_⟩:=sd (a:=a) (l:=s.reads) hw;have hval:vO p (qi p n) W a s=if (zW p W a s.reads).1.en≠0 then ((zW p W a s.reads).1,(0,0)) else yN p (qi p n) (zW p W a s.reads).1 a s (zW p W a s.reads).2:=rfl
 generalize zW p W a s.reads=q at hp1 hO1 hA hvok hcase hlen hval;obtain⟨V,vs⟩:=q;simp only at hp1 hO1 hA hvok hcase hlen hval;have hT1:=hO1.top;simp only [jP] at hT1;obtain⟨kd,to,sa,sb⟩:=s;simp only at hkd;by_cases hen:V.en=0
 case neg =>
  rw [if_pos hen] at hval;have henb:(V.en==0)=false:=dU;refine bl ?_<|zN hT hT1 hp1 henb<|@qz;rw [hval];refine qF [] .nil qE ⟨qB,(have ow:=hO1;qt.re ow)⟩
 rw [if_neg dU] at hval
 obtain rfl:V=W:=by
  rcases hcase with e|⟨e,he,h⟩
  .exact e
  .rw [h] at hen;exact absurd hen he
 have hl:=hlen hen;have henb:(V.en==0)=true:=dU;have hkc:kd=0\/kd=1\/kd=2\/kd=3\/kd=4\/kd=5\/kd=6\/kd=7:=qA;rcases hkc with rfl|rfl|rfl|rfl|rfl|rfl|rfl|rfl
 .have hw0:yN p (qi p n) V a ⟨0,to,sa,sb⟩ vs=(V,(1,sa)):=b6;rw [hw0] at hval;refine bl ?_<|zN hT hT1 hp1 henb<|@qz;rw [hval];refine qF [] .nil qE ⟨qB,(have ow:=hO1;qt.re ow)⟩
 .obtain⟨u,rfl⟩:∃ u,vs=[u]:=by
   match vs,hl with
   | [u],_=>exact⟨u,rfl⟩
   | [],h=>simp [q8.reads] at h
   | _::_::_,h=>simp [q8.reads] at h
  have hw0:yN p (qi p n) V a ⟨1,to,sa,sb⟩ [u]=(V,u):=b6;rw [hw0] at hval;refine bl ?_<|zN hT hT1 hp1 henb<|@qz;rw [hval];refine qF [] .nil qE ⟨qB,(have ow:=hO1;qt.re ow)⟩
 .obtain⟨u,v,rfl⟩:∃ u v,vs=[u,v]:=by
   match vs,hl with
   | [u,v],_=>exact⟨u,v,rfl⟩
   | [],h=>simp [q8.reads] at h
   | [_],h=>simp [q8.reads] at h
   | _::_::_::_,h=>simp [q8.reads] at h
  have hw0:yN p (qi p n) V a ⟨2,to,sa,sb⟩ [u,v]=uM V u v:=b6;rw [hw0] at hval;refine bl ?_<|zN hT hT1 hp1 henb<|@qz;intro K hK;have fx:=aI hT hT1;refine u0 Wn rfl cM (hF:=VM _ _ p V u v (hvok u qB) (hvok v qB) (have ow:=hO1;qt.re ow)) (h:=?_);rintro y H2 ⟨rfl,hO2⟩;clear fx;have hT2:=hO2.top;simp only [jP] at hT2;refine bl ?_<|jH hT hT1 hp1 hT2 henb<|@qz;rw [hval];refine qF [] .nil qE ⟨qB,(have ow:=hO2;qt.re ow)⟩
 .obtain⟨q,hq1,hq2,hq3,hq4⟩:=zt.made hst (.inl rfl);simp only at hq3;obtain⟨A,rfl⟩:∃ A:Nat,sa=A:=⟨sa.toNat,qA⟩;have hw0:yN p (qi p n) V a ⟨3,to,(A:Int),sb⟩ vs=({ V with qH:=V.qH++[(A,a)] },(2,(V.qH.length:Int))):=b6;rw [hw0] at hval;have hF:=hO1.qH;have hfl:=hr.qH;have hfl':V.qH.length<=1000:=qA;have hwr:IntKind.i64.wrap (V.qH.length:Int)=V.qH.length:=qm qA qA;have hap:kx (.c Wn 0 4) V.qH++[[iv A,iv a,.hs (.c (.c Wn 0 4) V.qH.length 2) 3 0 0]]=kx (.c Wn 0 4) (V.qH++[(A,a)]):=RZ;refine bl ?_<|jN hT hT1 hp1 henb hF hfl' hwr<|@qz;rw [hval];refine qF [] .nil qE ⟨qB,qt.fin ⟨by simp [jP,hT1],by simp [hO1.qI],λi b hb=>by simp [hO1.act i b hb],hO1.jl.imp λl hl=>oh,by simp [hO1.zJ],?_,xI,λi c hc=>by simp [hO1.cls i c hc],by simp [hO1.out],xF⟩⟩;simp [<- hap];rw [yG qB];refine R3 λi c hc=>?_;have hne:¬ i=V.qH.length:=BU;have hne':¬ V.qH.length=i:=qA;simp [hne,hne']
 .obtain⟨q,hq1,hq2,hq3,hq4⟩:=zt.made hst (.inr rfl);have hm:=G7 hst ha (.inr rfl);simp only at hq1 hq3 hm;obtain⟨A,rfl⟩:∃ A:Nat,sa=A:=⟨sa.toNat,qA⟩;simp only [uR] at hq1 hm
  have hpar:vl p A=0:=by
   have hh:=hP.sh.head A q hq1;have hA0:¬ A=0:=qA;simp only [uq,hA0,if_false] at hh;simp only [vl,hq1];simp only at hq4;omega
  have hw0:yN p (qi p n) V a ⟨4,to,(A:Int),sb⟩ vs=bc p (qi p n) V A a:=b6;rw [hw0] at hval;refine bl ?_<|zN hT hT1 hp1 henb<|@qz;intro K hK;refine wa (.s 67) (.u 2 0 0) (.inl rfl) (.inr B6) ?_;have fx:=aI hT hT1;refine wF cM qB (hF:=JC _ p n hR _ V A a 0 [] [] hP hw hn h0 hm qB (hr.mono qA) rfl rfl (by rw [hpar];rfl) qB (have ow:=hO1;qt.re ow) qB) (h:=?_);rintro y H2 ⟨rfl,hp2,hO2⟩;clear fx
  have hcl:bc p (qi p n) V A a=if (j8 p (qi p n) V A a []).1.en≠0 then ((j8 p (qi p n) V A a []).1,(0,0)) else
   ({ (j8 p (qi p n) V A a []).1 with qT:=(j8 p (qi p n) V A a []).1.qT++[(j8 p (qi p n) V A a []).1.vars (some V.qI.length)] },(3,((j8 p (qi p n) V A a []).1.qT.length:Int))):=rfl
  rw [hcl] at hval;obtain⟨⟨e1,e2,e3⟩,e4⟩:=Br (vs:=[]) (eZ hP.sh n) hw hn h0 hm qB (hr.mono qA);have hrc:(j8 p (qi p n) V A a []).1.qT.length<=1000:=by have:=e1.w8;omega
  generalize j8 p (qi p n) V A a []=q2 at hp2 hO2 hval e1 hrc;obtain⟨U,v⟩:=q2;simp only at hp2 hO2 hval e1 hrc;have hT2:=hO2.top;simp only [jP] at hT2;by_cases hen2:U.en=0
  case neg =>
   rw [if_pos hen2] at hval;have henb2:(U.en==0)=false:=rm;refine bl ?_<|jH hT hT1 hp1 hT2 henb2<|@qz;rw [hval];refine qF [] .nil qE ⟨qB,(have ow:=hO2;qt.re ow)⟩
  rw [if_neg rm] at hval;have henb2:(U.en==0)=true:=rm;generalize U.vars (some V.qI.length)=nv at hp2 hval;have hC:=hO2.jA;have hwr:IntKind.i64.wrap (U.qT.length:Int)=U.qT.length:=qm qA qA;have hap:kT (.c Wn 0 5) U.qT++[[.hs (.c (.c Wn 0 5) U.qT.length 0) 3 0 8]]=kT (.c Wn 0 5) (U.qT++[nv]):=QA;refine bl ?_<|y8 hT hT1 hp1 hT2 henb2 hp2 hC hrc hwr<|@qz;rw [hval];refine qF [] .nil qE ⟨qB,qt.fin ⟨by simp [jP,hT2],by simp [hO2.qI],λi b hb=>by simp [hO2.act i b hb],hO2.jl.imp λl hl=>oh,by simp [hO2.zJ],by simp [hO2.qH],?_,λi c hc=>?_,by simp [hO2.out],by simp [hO2.zo]⟩⟩
  .simp [<- hap];rw [yG qB];refine QB λi c hc=>?_;have hne:¬ i=U.qT.length:=BU;have hne':¬ U.qT.length=i:=qA;simp [hne,hne']
  .simp only at hc;rcases du i U.qT.length with hlt|hge
   .rw [ub hlt] at hc;have hne:¬ i=U.qT.length:=qA;have hne':¬ U.qT.length=i:=qA;simp [hO2.cls i c hc,hne,hne']
   .rw [cG hge] at hc
    have hi:i=U.qT.length:=by
     have:=(gS hc).1;simp at this;omega
    subst hi;simp at hc;subst hc;simp [hp2]
 .have hpos:0<vs.length:=by
   rw [hl];by_cases e:sb=-1 <;> simp [q8.reads,e]
  obtain⟨u,tl,rfl⟩:∃ u tl,vs=u::tl:=by
   match vs,hpos with
   | u::tl,_=>exact⟨u,tl,rfl⟩
  have htl:tl.length<=1:=by simp at hl;omega
  have hw0:yN p (qi p n) V a ⟨5,to,sa,sb⟩ (u::tl)=uH p (qi p n) V u tl:=b6;rw [hw0] at hval;have hle1:(1:Int)<=(tl.length:Int)+1:=qA;have htn:((tl.length:Int)+1).toNat=tl.length+1:=qA;refine bl ?_<|jN hT hT1 hp1 henb htl hle1 htn<|@qz;intro K hK;refine wa (.s 7) (.u 2 0 0) (.inl rfl) (.inr B6) ?_;have fx:=aI hT hT1;refine wF cM uS (hF:=P3 _ p n hR _ V u 1 tl (u::tl) hP hw hn h0 (hvok u qB) (λv hv=>hvok v sF) (hr.mono qA) rfl qu htl (have ow:=hO1;qt.re ow) uS) (h:=?_);rintro y H2 ⟨rfl,hO2⟩;clear fx;have hT2:=hO2.top;simp only [jP] at hT2;refine bl ?_<|vI hT hT1 hp1 hT2 henb htl hle1 htn<|@qz;rw [hval];refine qF [] .nil qE ⟨qB,(have ow:=hO2;qt.re ow)⟩
 .obtain⟨u,rfl⟩:∃ u,vs=[u]:=by
   match vs,hl with
   | [u],_=>exact⟨u,rfl⟩
   | [],h=>simp [q8.reads] at h
   | _::_::_,h=>simp [q8.reads] at h
  have hsb:0<=sb/\sb<=7:=by
   simp only [zt] at hst;simp at hst;omega
  obtain⟨x,rfl⟩:∃ x:Nat,sb=x:=⟨sb.toNat,qA⟩;have hw0:yN p (qi p n) V a ⟨6,to,sa,(x:Int)⟩ [u]=ut V u x:=b6;rw [hw0] at hval;refine bl ?_<|zN hT hT1 hp1 henb<|@qz;intro K hK;have fx:=aI hT hT1;refine u0 Wn rfl cM (hF:=PB _ _ p V u x hw (hvok u qB) qA (have ow:=hO1;qt.re ow)) (h:=?_);rintro y H2 ⟨rfl,hO2⟩;clear fx;have hT2:=hO2.top;simp only [jP] at hT2;refine bl ?_<|jH hT hT1 hp1 hT2 henb<|@qz;rw [hval];refine qF [] .nil qE ⟨qB,(have ow:=hO2;qt.re ow)⟩
 .obtain⟨u,rfl⟩:∃ u,vs=[u]:=by
   match vs,hl with
   | [u],_=>exact⟨u,rfl⟩
   | [],h=>simp [q8.reads] at h
   | _::_::_,h=>simp [q8.reads] at h
  have hw0:yN p (qi p n) V a ⟨7,to,sa,sb⟩ [u]=(V,u):=b6;rw [hw0] at hval;refine bl ?_<|zN hT hT1 hp1 henb<|@qz;rw [hval];refine qF [] .nil qE ⟨qB,(have ow:=hO1;qt.re ow)⟩
abbrev Ve:qV:=aL<|.l 6 [4,3,2,1,0]<|.l 7 [4,3,2,1,0]<|.l 8 [0]<|.q 9<|.q 10<|.l 11 []<|.done
theorem lQ {A G G2:Prop} (k:G2) (x:A) (h:A->jL G2->G:=by
 intro fx kk;refine qK ?_
 repeat ((first|refine qQ (id:=9) Ve mixed ?_);refine zK ?_;refine qK ?_)
 exact kk.h):G:=h x ⟨k⟩
theorem YD (gl) (p:qC) (n:Nat) (hR:oI gl p n) (H:Nm->Option AO) (W:qL) (a:Nat) (k:qX) (s:q8) (hP:zk p) (hw:zF p W) (hn:W.left<n) (h0:W.en=0) (ha:a<W.qI.length) (hk:p[W.qG a]?=some k) (hs:s∈k.body) (h8:s.kind≠8) (hr:Room 2 W) (hO:qt H p W) (hV:H (.u 2 0 0)=none) :
  qZ prog gl 104 (Nm.under Wn) [.pt Wn 0,iv a,s.av] H (λ_ y H'=>qt H' p (uD p (qi p n) W a s)) zG:=by
 have hT:=hO.top;simp only [jP] at hT;have hst:=hP.sh.ed _ k hk s hs;have hnm:=hP.sh.names k (gM hk);have hkd:=hnm.kinds s hs;have hto:=hnm.zB s hs;have hvl:=qBH gl p n hR;obtain⟨kd,to,sa,sb⟩:=s;simp only at h8 hkd hto;obtain⟨x,rfl⟩:∃ x:Nat,to=x:=⟨to.toNat,qA⟩;refine qZ.q9 func104 [] ntmps104 (λ_=>vN rfl) λC w g root hroot=>?_;by_cases h9:kd=9
 .subst h9;have hc:uD p (qi p n) W a ⟨9,x,sa,sb⟩=W:=by simp [uD]
  refine lQ ?_<| hT;rw [hc];refine qF [] .nil qE (have ow:=hO;qt.re ow)
 by_cases h10:kd=10
 .subst h10;have hc:uD p (qi p n) W a ⟨10,x,sa,sb⟩=W:=by simp [uD]
  refine lQ ?_<| hT;rw [hc];refine qF [] .nil qE (have ow:=hO;qt.re ow)
 have hb9:(kd==9)=false:=by simpa using h9
 have hb10:(kd==10)=false:=by simpa using h10
 by_cases h11:kd=11
 .subst h11;have hc:uD p (qi p n) W a ⟨11,x,sa,sb⟩=aN p W a x:=by simp [uD]
  refine lQ ?_<| hT;intro K hK;have fx:=hT;refine u0 Wn rfl zE (hF:=qAB _ _ p W a x hP.sh hw ha qA (have ow:=hO;qt.re ow)) (h:=?_);rintro y H1 hO1;clear fx;have hT1:=hO1.top;simp only [jP] at hT1;refine lQ ?_<|aI hT<|hT1;rw [hc];refine qF [] .nil qE (have ow:=hO1;qt.re ow)
 have hb11:(kd==11)=false:=by simpa using h11
 have hc:uD p (qi p n) W a ⟨kd,x,sa,sb⟩=if (vO p (qi p n) W a ⟨kd,x,sa,sb⟩).1.en≠0 then (vO p (qi p n) W a ⟨kd,x,sa,sb⟩).1
   else if kd=7 then { (vO p (qi p n) W a ⟨kd,x,sa,sb⟩).1 with out:=(vO p (qi p n) W a ⟨kd,x,sa,sb⟩).1.out++[Hm.shown (vO p (qi p n) W a ⟨kd,x,sa,sb⟩).2] }
   else di p (vO p (qi p n) W a ⟨kd,x,sa,sb⟩).1 a x (vO p (qi p n) W a ⟨kd,x,sa,sb⟩).2:=by
  simp only [uD];rw [if_neg qA,if_neg h11]
 refine lQ ?_<|zD hT hb9 hb10<|hb11;intro K hK;have fx:=hT;refine u0 Wn rfl zE (hF:=hvl _ W a k ⟨kd,x,sa,sb⟩ hP hw hn h0 ha hk hs ⟨by simp only;omega,by simp only;omega⟩ hr (have ow:=hO;qt.re ow) qB) (h:=?_);rintro y H1 ⟨rfl,hO1⟩;clear fx;obtain⟨hA,hvok⟩:=Gm (eZ hP.sh n) hw hn h0 ha hst hr;generalize vO p (qi p n) W a ⟨kd,x,sa,sb⟩=q at hO1 hA hvok hc;obtain⟨V,v⟩:=q;simp only at hO1 hA hvok hc;have hT1:=hO1.top;simp only [jP] at hT1;have haV:a<V.qI.length:=uQ ha hA.grow.aF;by_cases hen:V.en=0
 case neg =>
  rw [if_pos hen] at hc;have henb:(V.en==0)=false:=dU;refine lQ ?_<|zD hT hT1 henb<|@qz;rw [hc];refine qF [] .nil qE (have ow:=hO1;qt.re ow)
 rw [if_neg dU] at hc;have henb:(V.en==0)=true:=dU;by_cases h7:kd=7
 .subst h7;rw [if_pos rfl] at hc;have hU:=hO1.out;have hol:=hA.ok.w9;have hol':V.out.length<=1000:=qA;have hap:qj V.out++[[iv (Hm.shown v)]]=qj (V.out++[Hm.shown v]):=wJ;have hsh:=Mw gl v;obtain⟨v1,v2⟩:=v;have fx:=jH hT hT1 henb hU hol'<|@qz;have c1:=hsh;refine lQ ?_<|@fx;clear fx c1;rw [hc];refine qF [] .nil qE (qt.fin ⟨by simp [jP,hT1],by simp [hO1.qI],λi b hb=>by simp [hO1.act i b hb],hO1.jl.imp λl hl=>oh,by simp [hO1.zJ],BS,xI,λi c hc=>by simp [hO1.cls i c hc],?_,xF⟩);simp
 .rw [if_neg h7] at hc;have hb7:(kd==7)=false:=by simpa using h7
  have hst2:=NL gl (p:=p) (W:=V) (a:=a) (x:=x) (v:=v);obtain⟨v1,v2⟩:=v;refine lQ ?_<|zN hT hT1 henb hb7<|@qz;intro K hK;have fx:=aI hT hT1;refine u0 Wn rfl cM (hF:=hst2 _ hP.sh hA.ok haV qA (have ow:=hO1;qt.re ow)) (h:=?_);rintro y H2 hO2;clear fx;have hT2:=hO2.top;simp only [jP] at hT2;refine lQ ?_<|qk hT hT1<|hT2;rw [hc];refine yb [] .nil qE (have ow:=hO2;qt.re ow)
abbrev Vf:qV:=M2<|.l 16 []<|.done
abbrev Vg:qV:=GM<|.l 15 [9,8,7,6,5,4,3,2,1,0]<|.l 16 [9,8,7,6,5,0]<|.q 17<|.q 18<|.l 19 []<|.done
theorem nG {A G G2:Prop} (k:G2) (x:A) (h:A->jL G2->G:=by
 intro fx kk;refine qK ?_
 repeat ((first|refine qQ (id:=1) Vf mixed ?_|refine qQ (id:=9) Vg mixed ?_);refine zK ?_;refine qK ?_)
 exact kk.h):G:=h x ⟨k⟩
theorem YB (gl) (p:qC) (n:Nat) (hR:oI gl p n) (hP:zk p):oI gl p (n+1):=by
 intro H W a hO hw hn ha h0 hV
 show qZ prog gl 65 (Nm.under Wn) [.pt Wn 0,iv a] H _ zG
 obtain⟨c,hc⟩:=gX ha;obtain⟨_,hcE⟩:=gS hc;have qy:=hw.wo a c hc;obtain⟨k,hk⟩:=gX qy;obtain⟨_,hkE⟩:=gS hk;have hbk:=wI hc;have hT:=hO.top;have hA:=hO.qI;simp only [jP] at hT;have hb12:=hP.sh.body k (gM hk);have hrun:qi p (n+1) W a=vM p (qi p n) a W 0 k.body:=by simp only [qi,hbk,hk]
 refine qZ.q9 func65 [.cell 4 115] ntmps65 (λ_=>vN rfl) λC w g root hroot=>?_;refine nG ?_<|jN hT hA hc hcE ha hk hkE<|qy;refine zQ (λm st=>∃ (i:Nat) (V:qL),m=k.body.length - i/\i<=k.body.length/\qi p (n+1) W a=vM p (qi p n) a V i (k.body.drop i)/\zF p V/\V.left<n+1/\a<V.qI.length/\V.en=0/\V.qG a=c.qG/\st.tm 0=.pt Wn 0/\st.tm 1=iv a/\st.tm 4=.pt (.s 4) 0/\st.hp (.s 4)=some (.row 2 [[iv 0,iv 0]])/\st.tm 5=ec k.body/\st.tm 6=iv i/\qt st.hp p V) k.body.length ?_ ?_
 .exact⟨0,W,qA,qA,by simpa using hrun,hw,hn,ha,h0,hbk,qB,qB,qB,qB,qB,qB,(have ow:=hO;qt.re ow)⟩
 clear hT hA hO;rintro m st - - ⟨i,V,rfl,hi,hres,hw',hn',ha',h0',hbV,t0,t1,t4,hp4,t5,t6,hO⟩;clear hrun h0 hn hw hc hcE ha;obtain⟨d,hd⟩:∃ d,V.qI[a]?=some d:=⟨_,gE ha'⟩;obtain⟨_,hdE⟩:=gS hd;have hdb:d.qG=c.qG:=by rw [<- wI hd];exact hbV
 have hT:=hO.top;have hA:=hO.qI;simp only [jP] at hT;by_cases hil:i<k.body.length
 case neg =>
  have hge:i=k.body.length:=qA;rw [hge,List.drop_length] at hres;simp only [vM] at hres;refine nG ?_<|jI t0 t1 t4 hp4 t5 t6<|hil;rw [hres];refine qF [] .nil iw ⟨qB,(have ow:=hO;qt.re ow)⟩
 obtain⟨s,hs⟩:=gX hil;obtain⟨_,hsE⟩:=gS hs;have hsm:=gM hs;have hdr:k.body.drop i=s::k.body.drop (i+1):=by rw [gV hil,hsE]
 rw [hdr] at hres;by_cases hl:V.left=0
 .have hr2:vM p (qi p n) a V i (s::k.body.drop (i+1))=({ V with en:=1 },(0,0)):=by simp only [vM,hl,if_true]
  rw [hr2] at hres;refine nG ?_<|vI t0 t1 t4 hp4 t5 t6 hil hT<|hl;rw [hres];refine qF [] .nil iw ⟨qB,⟨by simp [hO.top,jP,hT,hl],by simp [hO.qI,hT,hl],λi a ha=>by simp [hO.act i a ha,hT,hl],hO.jl.imp λl hl=>by simp [hl,hT,hl],by simp [hO.zJ,hT,hl],by simp [hO.qH,hT,hl],by simp [hO.jA,hT,hl],λi c hc=>by simp [hO.cls i c hc,hT,hl],by simp [hO.out,hT,hl],by simp [hO.zo,hT,hl]⟩⟩
 obtain⟨l,hll⟩:∃ l,V.left=l+1:=⟨V.left - 1,qA⟩
 have hr2:vM p (qi p n) a V i (s::k.body.drop (i+1))=if s.kind=8 then jY p (zV V a i) a s.a else if (uD p (qi p n) (zV V a i) a s).en≠0 then (uD p (qi p n) (zV V a i) a s,(0,0)) else vM p (qi p n) a (uD p (qi p n) (zV V a i) a s) (i+1) (k.body.drop (i+1)):=by
  simp only [vM,hl,if_false]
 rw [hr2] at hres;clear hr2;obtain⟨tk1,tk2⟩:=Cn (a:=a) (i:=i) hw' hl;have hTt:zV V a i={ V with left:=l,trace:=V.trace++[(d.qG,i)] }:=by simp only [zV,wI hd];rw [hll];rfl
 have hbV2:(zV V a i).qG a=d.qG:=IT;have hleft:(zV V a i).left<n:=by simp only [zV];omega
 have hTr:=hO.zo;have hnt:=hw'.wQ;have hnl:=hw'.ky;have htl':V.trace.length<=1000:=qA;have hl8:l<=1000:=qA;have hlb:((l:Int)+1==0)=false:=ku;have hwl:IntKind.i64.wrap (l:Int)=l:=qm qA qA;have hap:yy V.trace++[[iv d.qG,iv i]]=yy (V.trace++[(d.qG,i)]):=CQ;by_cases h8:s.kind=8
 .rw [if_pos h8] at hres;have hb8:(s.kind==8)=true:=by simpa using h8
  have hrs:=(hP.sh.names k (gM hk)).reads s hsm s.a (by simp [q8.reads,h8]);obtain⟨x,hx⟩:∃ x:Nat,s.a=x:=⟨s.a.toNat,qA⟩;rw [hx] at hres;refine nG ?_<|qh t0 t1 t4 hp4 t5 t6 hil hT hll hlb hwl hTr<|vI htl' hA hd hdE ha' hs hsE hb8<|hx;intro K hK;have fx:=aI t0 (aI t1 hT);refine u0 Wn rfl zE (hF:=K7 _ _ p (zV V a i) a x hP.sh tk1 ha' qA IR) (h:=?_);rintro y H1 ⟨rfl,hO1⟩;clear fx;generalize jY p (zV V a i) a x=q at hO1 hres;obtain⟨U,v1,v2⟩:=q;have hT1:=hO1.top;simp only [jP] at hT1;refine nG ?_<|jN t0 t1 t4 hp4 t5 t6 hT<|hT1;rw [hres];refine qF [] .nil iw ⟨qB,(have ow:=hO1;qt.re ow)⟩
 .rw [if_neg h8] at hres;have hb8:(s.kind==8)=false:=by simpa using h8
  have hk':p[(zV V a i).qG a]?=some k:=by rw [hbV2,hdb];exact hk
  have hst:=hP.sh.ed _ k hk s hsm;have hSo:=Ci (s:=s) (k:=k) (eZ hP.sh n) tk1 hleft h0' ha' (by rw [hbV2,hdb];exact hst) tk2;refine nG ?_<|qh t0 t1 t4 hp4 t5 t6 hil hT hll hlb hwl hTr<|jN htl' hA hd hdE ha' hs hsE<|hb8;intro K hK;have fx:=aI t0 (aI t1 hT);refine u0 Wn rfl zE (hF:=YD gl p n hR _ (zV V a i) a k s hP tk1 hleft h0' ha' hk' hsm h8 tk2 IR qB) (h:=?_);rintro y H1 hO1;clear fx;have hAf:=hSo.tick hl;generalize uD p (qi p n) (zV V a i) a s=U at hO1 hAf hres hSo;have hT1:=hO1.top;simp only [jP] at hT1;by_cases hen:U.en=0
  .rw [if_neg dU] at hres;have henb:(U.en==0)=true:=dU;refine nG ?_<|y8 t0 t1 t4 hp4 t5 t6 hT hT1 henb<|@qz;exact⟨k.body.length - (i+1),qA,i+1,U,rfl,qA,hres,hAf.ok,by have:=hAf.grow.left;omega,uQ ha' hAf.grow.aF,hen,by rw [hAf.grow.qG hd];exact hbV,kr,lG,by simp [t4],wu,fX,by simp [t6];exact qm qA qA,(have ow:=hO1;qt.re ow)⟩
  .rw [if_pos dU] at hres;have henb:(U.en==0)=false:=dU;refine nG ?_<|y8 t0 t1 t4 hp4 t5 t6 hT hT1 henb<|@qz;rw [hres];refine qF [] .nil iw ⟨qB,(have ow:=hO1;qt.re ow)⟩
theorem ML (gl) (p:qC) (hP:zk p):∀ n,oI gl p n
 | 0=>λH W a _ _ h=>absurd h qA
 | n+1=>YB gl p n (ML gl p hP n) hP
abbrev Ll:qV:=.q 0<|.q 2<|.l 1 [2,0]<|.q 3<|.l 4 []<|.l 5 []<|.done
theorem Ct (gl) (p:qC) (f:Int) (hs:jt p):qM prog gl 86 [jB p,iv f] (λ_ y _=>y=bv (kF p f)):=by
 refine qM.q9 func86 [.tmp 4] ntmps86 λC w g root=>?_
 cases hv:jq p
 .skip
  have fx:= hv;have c1:=hv ▸ tR gl p hs;refine qK ?_;clear fx c1;refine qF [] .nil qE (by simp [kF,hv])
 .skip
  have fx:= hv;have c1:=hv ▸ tR gl p hs;have c2:=bh gl f 0 150;refine qK ?_;clear fx c1 c2;refine qF [] .nil qE (by simp [kF,hv])
theorem Ki (gl) (H:Nm->Option AO) (p:qC) (f:Nat) (hP:zk p) (hf:f<=150) (h1:H (.u 1 0 0)=none) :
  qZ prog gl 32 (Nm.under Wn) [jB p,iv f] H (λ_ y H'=>y=.pt Wn 0/\qt H' p (uB p f)) zG:=by
 have hw:=Ch hP.sh hf;refine qZ.q9 func32 [.tmp 4] ntmps32 (λ_=>vN rfl) λC w g root hroot=>?_;have fx:=qd;have d1:=Bp gl;refine qK ?_
 repeat ((first|refine qQ (id:=1) Ll mixed ?_);refine zK ?_;refine qK ?_)
 clear fx d1;intro K hK;refine wa (.s 5) (.u 1 0 0) (.inl rfl) (.inr (by simp [yR,h1])) ?_;have fx:=qd;refine u0 Wn rfl qB (hF:=ML gl p hP 151 _ (j4 f) 0 ?_ hw (by simp only [j4];omega) gk rfl qB) (h:=?_)
 .have e1:qj (jK [0]++[])=[[iv 0]]:=rfl;have hsl:zA jR=zA (j4 f).globals:=rfl;refine⟨by simp [jP,j4],by simp [j4,kB,dY],λi a ha=>?_,⟨[],by simp [j4,jK,qj]⟩,gk,by simp [j4,kx],by simp [j4,kT],λi c hc=>by simp [j4] at hc,gk,gk⟩
  have hi:i=0:=by
   have:=(gS ha).1;simp [j4] at this;omega
  subst hi;have ha':a=⟨0,0,jR⟩:=by simpa [j4] using ha.symm
  subst ha';simp
 rintro y H1 ⟨rfl,hO1⟩;clear fx;have hT1:=hO1.top;simp only [jP] at hT1;have hme:(qi p 151 (j4 f) 0).1=uB p f:=rfl;rw [hme] at hO1 hT1;have fx:= hT1;refine qK ?_
 repeat ((first|refine qQ (id:=1) Ll mixed ?_);refine zK ?_;refine qK ?_)
 clear fx;refine qF [] .nil qE ⟨qB,(have ow:=hO1;qt.re ow)⟩
abbrev Fs:qV:=GN<|.l 17 [12,11,10,9,8,7,6,5,2,1,0]<|.l 18 [12,11,10,9,8,7,6,5,2,1]<|.l 19 []<|.done
abbrev Ft:qV:=a7<|.l 7 []<|.l 8 []<|.done
abbrev Vy:qV:=GM<|.done
abbrev Ls:qV:=tD<|.l 13 []<|.l 14 []<|.done
theorem pR (gl) (D:Nm->Bool) (hD:∀ k,D k=true->k.zg=false) (H:Nm->Option AO) (rows:List (List AV)) (i k:Nat) (a0 a1 a2 a3 a4 a5:AV) (vs:List qW) (v:qW) (hr:H (.u 2 0 0)=some (.row 7 rows)) (hi:rows[i]?=some [a0,a1,a2,a3,a4,a5,.hs (.c (.u 2 0 0) i 6) 2 0 (k+1)]) (hs:H (.c (.u 2 0 0) i 6)=some (.row 2 (zh vs))) (hv:vs[k]?=some v) (hk:k<=1000) :
  qZ prog gl 182 D [.ep (.u 2 0 0) 7 i 0] H (rC D (qW.av v) (.u 2 0 0) (.row 7 (j3 rows i 6 [.hs (.c (.u 2 0 0) i 6) 2 0 k])) H) zG:=by
 obtain⟨hil,hiE⟩:=gS hi;obtain⟨hvl,hvE⟩:=gS hv;obtain⟨v1,v2⟩:=v;have hw1:IntKind.i64.wrap (k:Int)=k:=qm qA qA;have hl1:(k:Int)<(k:Int)+1:=qA;have hl2:(k:Int)<=(k:Int)+1:=qA;have hl0:(0:Int)<=(k:Int):=qA;refine qZ.q9 func182 [.cell 2 115] ntmps182 hD λC w g root hroot=>?_;have fx:=jS hr hi hiE hil hs hv hvE hvl hw1 hl0<|aI hl1<|hl2;refine qK ?_
 repeat ((first|refine qQ (id:=1) (.q 0<|.q 1<|.q 2<|.q 3<|.q 4<|.q 5<|.q 6<|.q 7<|.q 8<|.q 9<|.q 10<|.q 11<|.l 12 [11,10,9,8,7,6,5,4,3,2,1,0]<|.l 13 []<|.done) mixed ?_|refine qQ (id:=2) (.q 0<|.q 1<|.q 2<|.q 3<|.q 4<|.q 5<|.q 6<|.q 7<|.q 8<|.q 9<|.q 10<|.q 11<|.q 12<|.q 13<|.l 14 []<|.done) mixed ?_);refine zK ?_;refine qK ?_)
 clear fx;refine qF [] .nil qE ⟨qB,λq hq=>?_⟩;have hq2:=λd=>(jg hD hq d).1;have hq3:=λd=>(jg hD hq d).2;by_cases e:q=.u 2 0 0
 .subst e;simp only [vF,hq,if_true];simp [AO.tr,A1,Qp hD,-List.map_map]
 .simp [vF,hq,hq2,hq3,e,JQ hD,-Option.map_map]
theorem Ib (gl) (p:qC) (n1 n2 n3 n4 n5 n6 n7 n8 n9 n10 n11 n12 n13 i1:Nat) (e1 e2:Int) (l ps:List Int) (qs:List Nat) (b:Nat) (cs:List ym) (hb0:0<b) (hb:b<p.length) (hps:ps=zw p b) (hp:ps.length<=8) (hq:∀ (i:Nat) y,ps[i]?=some y->∃ z:Nat,y=z/\∃ c,l[z]?=some c/\(qs[i]?).map (λ(x:Nat)=>(x:Int))=some c) (hqs:qs.length=ps.length) :
  qM prog gl 223 [.el [uw cs,.sl 1 (ba lI p),.hs (.c Xn 0 2) 3 0 n1,.hs (.c Xn 0 3) 3 0 8,.hs (.c Xn 0 4) 2 0 n2,.hs (.c Xn 0 5) 1 0 n3,.hs (.u 2 0 0) 7 0 n4,iv n5,iv n6,.hs (.c Xn 0 9) 1 0 n7,.hs (.c Xn 0 10) 2 0 n8,iv e1,iv n9] 0,.el [iv n10,iv n11,iv e2,.hs (.c (.u 2 0 0) i1 3) 3 0 n12,jG l,.hs (.c (.u 2 0 0) i1 5) 3 0 8,.hs (.c (.u 2 0 0) i1 6) 2 0 n13] 0,iv b] (λr y H'=>y=.hs r 1 0 qs.length/\H' r=some (.row 1 (qj (jK qs)))):=by
 have hc:(ba lI p)[b]?=some [jG ps]:=by rw [hps];exact P6 hb0 hb
 obtain⟨hcl,hcE⟩:=gS hc;refine qM.q9 func223 [.tmp 6] ntmps223 λC w g root=>?_;have fx:=qk hc hcE<|hcl;refine qK ?_
 repeat ((first|refine qQ (id:=5) Fs mixed ?_);refine zK ?_;refine qK ?_)
 clear fx;refine zQ (λn st=>∃ i:Nat,n=ps.length - i/\i<=ps.length/\st.tm 0=.el [uw cs,.sl 1 (ba lI p),.hs (.c Xn 0 2) 3 0 n1,.hs (.c Xn 0 3) 3 0 8,.hs (.c Xn 0 4) 2 0 n2,.hs (.c Xn 0 5) 1 0 n3,.hs (.u 2 0 0) 7 0 n4,iv n5,iv n6,.hs (.c Xn 0 9) 1 0 n7,.hs (.c Xn 0 10) 2 0 n8,iv e1,iv n9] 0/\st.tm 1=.el [iv n10,iv n11,iv e2,.hs (.c (.u 2 0 0) i1 3) 3 0 n12,jG l,.hs (.c (.u 2 0 0) i1 5) 3 0 8,.hs (.c (.u 2 0 0) i1 6) 2 0 n13] 0/\st.tm 2=iv b/\st.tm 7=.hs (.s 7) 1 0 i/\st.hp (.s 7)=some (.row 1 (qj (jK (qs.take i))))/\st.tm 8=iv i) ps.length ?_ ?_
 .exact⟨0,qA,qA,qB,qB,qB,qB,by simp [jK],qB⟩
 rintro n st - - ⟨i,rfl,hi,t0,t1,t2,t7,h7,t8⟩;by_cases hil:i<ps.length
 .obtain⟨y,hy⟩:=gX hil;obtain⟨_,hyE⟩:=gS hy;obtain⟨z,rfl,c,hz,hqi⟩:=hq i y hy;obtain⟨hzl,hzE⟩:=gS hz;obtain⟨x,hx,rfl⟩:=zu.1 hqi;have htl:(jK (qs.take i)).length=i:=by simp [jK];omega
  have hi8:i<=8:=qA;have fx:=qh t0 t1 t2 t7 h7 t8 hc hcE hcl hil hy hyE<|zN hz hzE hzl htl<|hi8;refine qK ?_
  repeat ((first|refine qQ (id:=5) Fs mixed ?_);refine zK ?_;refine qK ?_)
  clear fx;refine⟨ps.length - (i+1),qA,i+1,rfl,qA,uv,lG,kS,qB,?_,by simp [t8];exact qm qA qA⟩;have e1:qs.take (i+1)=qs.take i++[x]:=by rw [uG,hx];rfl
  have e2:qj (jK (qs.take i))++[[iv x]]=qj (jK (qs.take (i+1))):=by rw [e1];simp [jK,qj]
  simp [<- e2];rw [yG qu]
 .obtain rfl:i=ps.length:=qA;have fx:=y8 t0 t1 t2 t7 h7 t8 hc hcE hcl<|hil;refine qK ?_
  repeat ((first|refine qQ (id:=5) Fs mixed ?_);refine zK ?_;refine qK ?_)
  clear fx;have:qs.take ps.length=qs:=by rw [<- hqs];simp
  rw [this] at h7;exact y7 (t:=6) IV IV qB
theorem xt {G G2:Prop} (k:G2) (h:jL G2->G:=by
 intro kk;refine qK ?_
 repeat ((first|refine qQ (id:=2) Ft mixed ?_|refine qQ (id:=4) Vy mixed ?_|refine qQ (id:=5) Ls mixed ?_|refine qQ (id:=6) Ls mixed ?_|refine qQ (id:=8) Ft mixed ?_|refine qQ (id:=9) Ft mixed ?_);refine zK ?_;refine qK ?_)
 exact kk.h):G:=h ⟨k⟩
theorem ZQ (gl) (H:Nm->Option AO) (p:qC) (m:qR) (fs:List qO) (f:qO) (o:Int×Int) (dp:Nat) (hp:f.qG<p.length) (hc:2<=o.1/\o.1<=13) (hx:rA m f o) (hg8:m.globals.length=8) (hn8:f.names.length=8) (hO:qS H p (.u 2 0 0) (m.top fs f) dp) :
  qZ prog gl 222 zd [.pt Xn 0,.ep (.u 2 0 0) 7 fs.length 0,.agg [iv o.1,iv o.2]] H (λ_ y H'=>y=.zX [.ep (yL (.u 2 0 0) fs.length o) 3 (uW f o) 0,iv (uE p f o)]/\qS H' p (.u 2 0 0) (m.top fs f) dp) zG:=by
 have hT:=hO.top;simp only [zp] at hT;obtain⟨L,j,hL,hat,hlt,hF,hf,hn,hst⟩:=hO.uY rfl;obtain⟨_,hatE⟩:=gS hat;obtain⟨k,hk⟩:=gX hp;have hcd:(jb p p.length)[f.qG]?=some (zO p f.qG):=xH;obtain⟨hcdl,hcdE⟩:=gS hcd;have hcc:(zO p f.qG).cells=qY p f.qG:=fT;have hcl:=hO.cells;have hgl:=hO.zJ;simp only [qR.top] at hT hcl hgl;obtain⟨c,a⟩:=o;obtain⟨x0,x1,x2⟩:=hx;obtain⟨x,rfl⟩:∃ x:Nat,a=x:=⟨a.toNat,by simp only at x0;omega⟩;simp only at hc;have i1:=bh gl c 2 4;have i2:=bh gl c 5 7;have i3:=bh gl c 8 10;have hc2:=hc.1;simp only [uW,aM] at x1 x2;have hxx:((x:Int).toNat)=x:=qA;refine qZ.q9 func222 [.tmp 6,.tmp 7] ntmps222 (λ_=>vK) λC w g root hroot=>?_;by_cases c4:c<=4
 .rw [if_pos c4,if_pos c4,uR] at x1;have x4:(x:Int)<f.qq.length:=qA;have fx:=qh hT hF hat hatE hlt hf hn hcl hgl hc2 c4 x1<|x4;have c1:=i1;refine xt ?_;clear fx c1;refine qF [] .nil qE ⟨?_,?_⟩
  .simp [yL,uW,uE,c4]
  .exact qS.fin (have h:=hO;qS.re h) (.inr rfl)
 rw [if_neg c4,if_neg c4] at x1;have c5:5<=c:=qA;by_cases c7:c<=7
 .rw [if_pos c7,if_pos c7] at x1;have x3:=x2 c5 c7;rw [if_neg c4,if_pos c7] at x3;obtain⟨x3l,x3E⟩:=gS x3;simp only [uR] at x1 x3 x3l x3E;have hwy:uE p f (c,(x:Int))=if (x:Int)<(qY p f.qG).length then 2 else 3:=by simp [uE,c4,c7]
  have hsi:uW f (c,(x:Int))=f.cells.getD x 0:=by simp [uW,c4,c7]
  rw [hsi];generalize f.cells.getD x 0=y at x1 x3 x3E;have x4:(x:Int)<f.cells.length:=qA;have x5:(y:Int)<m.cells.length:=qA;have x6:(jK f.cells)[x]?=some (y:Int):=by simp [jK,x3]
  obtain⟨x6l,x6E⟩:=gS x6;by_cases hlo:(x:Int)<(qY p f.qG).length
  .skip
   have fx:=qh hT hF hat hatE hlt hf hn hcl hgl hc2 c4 c5<|qh c7 x1 x3l x4 x5 x6 x6l x6E hcd hcdl hcdE hcc<|hlo;have c1:=i1;have c2:=i2;refine xt ?_;clear fx c1 c2;refine qF [] .nil qE ⟨?_,?_⟩
   .simp [yL,hwy,hlo,c4,c7]
   .exact qS.fin (have h:=hO;qS.re h) (.inr rfl)
  .skip
   have fx:=qh hT hF hat hatE hlt hf hn hcl hgl hc2 c4 c5<|qh c7 x1 x3l x4 x5 x6 x6l x6E hcd hcdl hcdE hcc<|hlo;have c1:=i1;have c2:=i2;refine xt ?_;clear fx c1 c2;refine qF [] .nil qE ⟨?_,?_⟩
   .simp [yL,hwy,hlo,c4,c7]
   .exact qS.fin (have h:=hO;qS.re h) (.inr rfl)
 rw [if_neg c7,if_neg c7] at x1;have c8:8<=c:=qA;by_cases c10:c<=10
 .rw [if_pos c10,uR] at x1;have h8:m.globals.length=8:=hg8;have x4:(x:Int)<8:=qA;have fx:=qh hT hF hat hatE hlt hf hn hcl hgl hc2 c4 c7<|zN c8 c10 x1 x4<|h8;have c1:=i1;have c2:=i2;have c3:=i3;refine xt ?_;clear fx c1 c2 c3;refine qF [] .nil qE ⟨?_,?_⟩
  .simp [yL,uW,uE,c4,c7,c10]
  .exact qS.fin (have h:=hO;qS.re h) (.inr rfl)
 .rw [if_neg c10,uR] at x1;have h8:f.names.length=8:=hn8;have x4:(x:Int)<8:=qA;have fx:=qh hT hF hat hatE hlt hf hn hcl hgl hc2 c4 c7<|zN c8 c10 x1 x4<|h8;have c1:=i1;have c2:=i2;have c3:=i3;refine xt ?_;clear fx c1 c2 c3;refine qF [] .nil qE ⟨?_,?_⟩
  .simp [yL,uW,uE,c4,c7,c10]
  .exact qS.fin (have h:=hO;qS.re h) (.inr rfl)
end Go.Proofs.YtjgpejikjhojcaaGreatDoor
end
