import Derived.Test.YtdnebaieamppbaaGreatDoorE27
import Derived.Test.YtdnebaieamppbaaGreatDoorE13
set_option linter.unusedSimpArgs false
set_option linter.unusedVariables false
set_option maxRecDepth 100000
set_option maxHeartbeats 4000000

section
namespace Go.Proofs.YtdnebaieamppbaaGreatDoor
open Go Go.Hm Go.Proofs Tryz
abbrev Y2:Zh:=nP<|.l 13 [6,5,4]<|.l 14 []<|.done
abbrev Y1:Zh:=bI<|.l 7 [6,5,4,3,2,1]<|.l 8 []<|.done
abbrev Y0:Zh:=yz<|.l 11 [10,9,8,7,6,5,4,3,2,1]<|.l 12 []<|.done
theorem df (gl) (v:Zd):qb prog gl 103 [Zd.av v] (λ_ y _=>y=iv (Hm.shown v)):=by
 refine qb.Zl func103 [.tmp 2] ntmps103 λC w g root=>?_;by_cases h1:v.1=1
 .skip
  refine qC ?_<| h1;refine qD [] .nil qE (by simp [Hm.shown,h1])
 by_cases h2:v.1=2
 .skip
  refine qC ?_<|aI h1<|h2;refine qD [] .nil qE (by simp [Hm.shown,h1,h2])
 by_cases h3:v.1=3
 .skip
  refine qC ?_<|jI h1 h2<|h3;refine qD [] .nil qE CG
 .skip
  refine qC ?_<|jI h1 h2<|h3;refine qD [] .nil qE CG
theorem mY {A G G2:Prop} (k:G2) (x:A) (h:A->Zx G2->G:=by
 intro fx kk;refine qG ?_
 repeat ((first|refine Ze (id:=1) Y2 mixed ?_|refine Ze (id:=3) Y1 mixed ?_|refine Ze (id:=6) Y0 mixed ?_);refine qZ ?_;refine qG ?_)
 exact kk.h):G:=h x ⟨k⟩
theorem rJ (gl) (H:Nm->Option AO) (p:Z0) (W:Z5) (a x:Nat) (hP:Z7 p) (hw:Zy p W) (ha:a<W.ZX.length) (hx:x<8) (hO:Zf H p W) :
  Zj prog gl 202 (Nm.under Wn) [.pt Wn 0,iv a,iv x] H (λ_ y H'=>y=.tup [iv (q7 p (W.Z1 a) x),.ep (lF (W.loc p a x)) 3 x 0]/\Zf H' p W) noE:=by
 have hh:=hP.Zc;have hxi:(x:Int)<8:=qA;have hlen:=hw.qAe;obtain⟨c,hc⟩:=gX ha;obtain⟨_,hcE⟩:=gS hc;have Zs:=hw.qBC a c hc;obtain⟨k,hk⟩:=gX Zs;have hbk:=jq hc;have hT:=hO.top;have hA:=hO.ZX;have hG:=hO.Zg;have hgl:=hw.Zg.1;simp only [wL] at hT;refine Zj.Zl func202 [.tmp 6,.tmp 7] ntmps202 (λ_=>qR rfl) λC w g root hroot=>?_;rcases dn (x:=(x:Int)) hh hw ha with⟨h1,h2⟩|⟨o,i,d,ho,h1,h2,h3,hd,hdb,hins⟩
 .rw [hbk] at h1;have h0:q7 p c.Z1 x<0:=qA;have fx:=jJ hT hA hc hcE ha h1 hG hgl hx hxi<|h0;have c1:=uT gl p c.Z1 k x hk hP.sml hh;refine mY ?_<|fx;clear fx c1;refine qD [] .nil qE ⟨by simp [hbk,h1,h2,lF],?_⟩;exact (have ow:=hO;Zf.re ow)
 .rw [hbk] at h1;have h0:¬ (o:Int)<0:=qA;have fx:=jJ hT hA hc hcE ha h1 hG hgl hx hxi<|h0;have c1:=uT gl p c.Z1 k x hk hP.sml hh;refine mY ?_<|fx;clear fx c1;refine qX (λn st=>∃ b:Nat,n=b/\b<W.ZX.length/\uV W.ZX o b b=i/\qi p (W.Z1 b) o=true/\st.tm 0=.pt Wn 0/\st.tm 1=iv b/\st.tm 2=iv x/\st.tm 8=iv o/\Zf st.hp p W) a ?_ ?_
  .exact⟨a,rfl,ha,h3.symm,hins,qB,qB,qB,qB,(have ow:=hO;Zf.re ow)⟩
  clear hT hA hG hO;rintro n st - - ⟨b,rfl,hb,hcl,hib,h0',h1',h2',h8',hO⟩;obtain⟨e,he⟩:=gX hb;obtain⟨_,heE⟩:=gS he;have hT:=hO.top;have hA:=hO.ZX;simp only [wL] at hT;have hV:=hO.act n e he;have hvl:=(hw.vars n e he).1;by_cases heb:e.Z1=o
  .have hni:n=i:=Ge;subst hni;refine mY ?_<|qU h0' h1' h2' h8' hT hA he heE hb heb hV hvl<|jI hx hxi<|@qL;refine qD [] .nil qE ⟨by simp [hbk,h1,h2,lF],?_⟩;exact (have ow:=hO;Zf.re ow)
  .obtain⟨e1,e2,e3⟩:=ui hh hw he heb ho hib;have hne:¬ ((e.Z1:Int)=o):=qA;have hoi:Jr n e=e.up:=by simp only [Jr];rw [if_neg qA]
   refine mY ?_<|jJ h0' h1' h2' h8' hT hA he heE hb hne<|aI hoi<|@qL;refine⟨e.up,qA,e.up,rfl,qA,?_,e3,by simp [h0'],qB,by simp [h2'],by simp [h8'],(have ow:=hO;Zf.re ow)⟩;rw [<- hcl,eD hh hw ho he heb hib]
theorem Mz (gl) (H:Nm->Option AO) (p:Z0) (W:Z5) (a:Nat) (o:Int) (ha:a<W.ZX.length) (hw:Zy p W) (hO:Zf H p W) :
  Zj prog gl 203 (Nm.under Wn) [.pt Wn 0,iv a,iv o] H (λ_ y H'=>y=iv (Hm.qAG p (W.Z1 a) o)/\Zf H' p W) noE:=by
 have hlen:=hw.qAe;obtain⟨c,hc⟩:=gX ha;obtain⟨_,hcE⟩:=gS hc;have Zs:=hw.qBC a c hc;obtain⟨k,hk⟩:=gX Zs;obtain⟨_,hkE⟩:=gS hk;have hbk:=jq hc;have hka:qg p c.Z1=k.kind:=bY;have hT:=hO.top;have hA:=hO.ZX;simp only [wL] at hT;refine Zj.Zl func203 [.tmp 6] ntmps203 (λ_=>qR rfl) λC w g root hroot=>?_;by_cases h0:o<0
 .skip
  refine qC ?_<|bA hT hA hc hcE ha h0 hk hkE<|Zs;refine qD [] .nil qE ⟨by simp [Hm.qAG,h0],(have ow:=hO;Zf.re ow)⟩
 by_cases h1:o=c.Z1
 .subst h1;by_cases h2:k.kind=2
  .skip
   refine qC ?_<|aJ hT hA hc hcE ha h0 h2 hk hkE<|Zs;refine qD [] .nil qE ⟨by simp [Hm.qAG,h0,hbk,hka,h2],(have ow:=hO;Zf.re ow)⟩
  .skip
   refine qC ?_<|aJ hT hA hc hcE ha h0 h2 hk hkE<|Zs;refine qD [] .nil qE ⟨by simp [Hm.qAG,h0,hbk,hka,h2],(have ow:=hO;Zf.re ow)⟩
 .have hb1:(o==(c.Z1:Int))=false:=tV;refine qC ?_<|aJ hT hA hc hcE ha h0 hb1 hk hkE<|Zs;refine qD [] .nil qE ⟨by simp [Hm.qAG,h0,h1,hbk],(have ow:=hO;Zf.re ow)⟩
theorem xS (gl) (H:Nm->Option AO) (p:Z0) (W:Z5) (x:Nat) (hw:Zy p W) (hx:x<8) (hO:Zf H p W) :
  Zj prog gl 204 (Nm.under Wn) [.pt Wn 0,iv x] H (λ_ y H'=>(match W.get none x with|some v=>y=.tup [Zd.av v,bv true]|none=>y=.tup [Zd.av (1,70),bv (decide (x=7))])/\Zf H' p W) noE:=by
 have hT:=hO.top;have hG:=hO.Zg;have hxi:(x:Int)<8:=qA;simp only [wL] at hT;have hgl:=hw.Zg.1;obtain⟨s,hs⟩:∃ s,W.globals[x]?=some s:=⟨_,gE qA⟩;obtain⟨_,hsE⟩:=gS hs;have hget:W.get none x=s:=by simp [Z5.get,Z5.vars,hs]
 refine Zj.Zl func204 [.cell 4 63,.tmp 5] ntmps204 (λ_=>qR rfl) λC w g root hroot=>?_
 cases s with
 | some v =>
  refine qC ?_<|u4 hT hG hgl hx hxi hs<|hsE;refine qD [] .nil qE ⟨by rw [hget];simp,(have ow:=hO;Zf.re ow)⟩
 | none =>
  by_cases h7:x=7
  .subst h7;refine qC ?_<|yS hT hG hgl hs<|hsE;refine qD [] .nil qE ⟨by rw [hget];simp,(have ow:=hO;Zf.re ow)⟩
  .have h7i:¬ (x:Int)=7:=qA;have h7b:((x:Int)==7)=false:=by simpa using h7i
   refine qC ?_<|kO hT hG hgl hx hxi hs hsE<|h7b;refine qD [] .nil qE ⟨by rw [hget];simp [h7,h7i],(have ow:=hO;Zf.re ow)⟩
abbrev TM:Zh:=yz<|.l 11 [10,9,8,7,6,5,4,3,2,1,0]<|.l 12 []<|.done
theorem LR {v:Int} (hv:0<=v):∃ k:Nat,v.tmod 1000=k/\k<1000:=by
 have h1:=O5 1000 hv;have h2:=O4 v (show (0:Int)<1000 by omega);exact⟨(v.tmod 1000).toNat,qA,qA⟩
theorem Mr (gl) (H:Nm->Option AO) (p:Z0) (W:Z5) (a x:Nat) (hP:Z7 p) (hw:Zy p W) (ha:a<W.ZX.length) (hx:x<8) (hO:Zf H p W) :
  Zj prog gl 170 (Nm.under Wn) [.pt Wn 0,iv a,iv x] H (λ_ y H'=>y=Zd.av (zk p W a x).2/\Zf H' p (zk p W a x).1) noE:=by
 have hh:=hP.Zc;have hxi:(x:Int)<8:=qA;have hll:=Mq (x:=(x:Int)) hh hw ha;have hT:=hO.top;simp only [wL] at hT;have hV8:=(hw.qCA hll).1;refine Zj.Zl func170 [.cell 6 63] ntmps170 (λ_=>qR rfl) λC w g root hroot=>?_;refine qC ?_<|Zk;intro K hK;have fx:=Zk;refine aL Wn rfl qu (hF:=rJ _ _ p W a x hP hw ha hx (have ow:=hO;Zf.re ow)) (h:=?_);rintro y H1 ⟨rfl,hO1⟩;clear fx;have hV:=hO1.loc hll;obtain⟨l,hl⟩:∃ l,W.loc p a x=l:=⟨_,rfl⟩;obtain⟨o,ho⟩:∃ o,q7 p (W.Z1 a) x=o:=⟨_,rfl⟩;rw [hl] at hV hV8 ⊢;rw [ho];obtain⟨s,hs⟩:∃ s,(W.vars l)[x]?=some s:=⟨_,gE qA⟩;obtain⟨_,hsE⟩:=gS hs;have hget:W.get (W.loc p a x) x=s:=by rw [hl];simp [Z5.get,hs]
 have hT1:=hO1.top;simp only [wL] at hT1
 cases s with
 | some v =>
  have hlw:zk p W a x=(W,v):=by simp only [zk,hget]
  refine qC ?_<|kO hT hT1 hV hV8 hs hsE hx<|hxi;rw [hlw];refine qD [] .nil qE ⟨qB,(have ow:=hO1;Zf.re ow)⟩
 | none =>
  refine qC ?_<|kO hT hT1 hV hV8 hs hsE hx<|hxi;intro K hK;have fx:=aI hT hT1;refine aL Wn rfl bt (hF:=Mz _ _ p W a o ha hw (have ow:=hO1;Zf.re ow)) (h:=?_);rintro y H2 ⟨rfl,hO2⟩;clear fx;have hT2:=hO2.top;simp only [wL] at hT2;by_cases h4:Hm.qAG p (W.Z1 a) o=4
  .skip
   refine qC ?_<|yE hT hT1 hT2<|h4;intro K hK;have fx:=aI hT (aI hT1 hT2);refine aL Wn rfl (by simp [hT2]) (hF:=xS _ _ p W x hw hx (have ow:=hO2;Zf.re ow)) (h:=?_);rintro y H3 ⟨hy,hO3⟩;clear fx;have hT3:=hO3.top;simp only [wL] at hT3
   cases hg:W.get none x with
   | some v =>
    rw [hg] at hy;simp only at hy;subst hy;have hlw:zk p W a x=(W,v):=by simp only [zk,hget,ho,h4,if_true,hg]
    refine qC ?_<|yE hT hT1 hT2<|hT3;rw [hlw];refine qD [] .nil qE ⟨qB,(have ow:=hO3;Zf.re ow)⟩
   | none =>
    rw [hg] at hy;simp only at hy;subst hy;by_cases h7:x=7
    .subst h7;have hlw:zk p W a ((7:Nat):Int)=(W,(1,70)):=by simp only [zk,hget,ho,h4,if_true,hg];simp
     refine qC ?_<|yE hT hT1 hT2<|hT3;rw [hlw];refine qD [] .nil qE ⟨qB,(have ow:=hO3;Zf.re ow)⟩
    .have hlw:zk p W a x=({ W with en:=4 },(0,0)):=by
      have:¬ (x:Int)=7:=qA;simp only [zk,hget,ho,h4,if_true,hg,this,if_false]
     have h7i:¬ (x:Int)=7:=qA;refine qC ?_<|u4 hT hT1 hT2 hT3 h7 h7i<|h4;rw [hlw];refine qD [] .nil qE ⟨qB,⟨by simp [hO3.top,wL,hT3],by simp [hO3.ZX,hT3],λi a ha=>by simp [hO3.act i a ha,hT3],hO3.stk.imp λl hl=>by simp [hl,hT3],by simp [hO3.Zg,hT3],by simp [hO3.ZZ,hT3],by simp [hO3.Zw,hT3],λi c hc=>by simp [hO3.cls i c hc,hT3],by simp [hO3.out,hT3],by simp [hO3.trc,hT3]⟩⟩
  .have hlw:zk p W a x=({ W with en:=Hm.qAG p (W.Z1 a) o },(0,0)):=by simp only [zk,hget,ho,h4,if_false]
   refine qC ?_<|yE hT hT1 hT2<|h4;rw [hlw];refine qD [] .nil qE ⟨qB,⟨by simp [hO2.top,wL,hT2],by simp [hO2.ZX,hT2],λi a ha=>by simp [hO2.act i a ha,hT2],hO2.stk.imp λl hl=>by simp [hl,hT2],by simp [hO2.Zg,hT2],by simp [hO2.ZZ,hT2],by simp [hO2.Zw,hT2],λi c hc=>by simp [hO2.cls i c hc,hT2],by simp [hO2.out,hT2],by simp [hO2.trc,hT2]⟩⟩
theorem II {hp hp':Nm->Option AO} {p:Z0} {W:Z5} {l:Option Nat} {x:Nat} {s:Zt} (h:Zf hp p W) (hh:∀ m,Nm.under Wn m=true->hp' m=if m=lF l then some (.row 3 (qW ((W.vars l).set x s))) else hp m):Zf hp' p (W.set l x s):=by
 have hu:∀ j,Nm.under Wn (.c Wn 0 j)=true:=λj=>wH;have hu2:∀ j i k,Nm.under Wn (.c (.c Wn 0 j) i k)=true:=λj i k=>wH
 cases l with
 | none =>
  refine⟨?_,?_,λi a ha=>?_,?_,?_,?_,?_,λi c hc=>?_,?_,?_⟩
  .rw [hh _ wH];simp [lF];exact h.top
  .rw [hh _ (hu 1)];simp [lF];exact h.ZX
  .rw [hh _ (hu2 1 i 2)];simp [lF];exact h.act i a ha
  .rw [hh _ (hu 2)];simp [lF];exact h.stk.imp λl hl=>by rw [hl];rfl
  .rw [hh _ (hu 3)];simp [lF,Z5.set,Z5.vars]
  .rw [hh _ (hu 4)];simp [lF];exact h.ZZ
  .rw [hh _ (hu 5)];simp [lF];exact h.Zw
  .rw [hh _ (hu2 5 i 0)];simp [lF];exact h.cls i c hc
  .rw [hh _ (hu 6)];simp [lF];exact h.out
  .rw [hh _ (hu 7)];simp [lF];exact h.trc
 | some j =>
  have hrow:yN (.c Wn 0 1) (W.set (some j) x s).ZX=yN (.c Wn 0 1) W.ZX:=by
   apply wK;intro i;simp only [eX,Z5.set,pR]
   cases hi:W.ZX[i]? with
   | none=>rfl
   | some a=>by_cases e:j=i <;> simp [e,Jr]
  refine⟨?_,?_,λi a ha=>?_,?_,?_,?_,?_,λi c hc=>?_,?_,?_⟩
  .rw [hh _ wH];simp [lF];rw [h.top];simp [wL,Z5.set]
  .rw [hh _ (hu 1),hrow];simp [lF];exact h.ZX
  .rw [hh _ (hu2 1 i 2)];simp only [Z5.set,pR] at ha;obtain⟨b,hb,e⟩:=ku.1 ha;by_cases e2:j=i
   .subst e2;simp only [if_true] at e;subst e;simp [lF,Z5.vars,hb]
   .have e3:¬ i=j:=λe=>e2 e.symm;simp only [e2,if_false] at e;subst e;simp [lF,e3];exact h.act i b hb
  .rw [hh _ (hu 2)];simp [lF];exact h.stk.imp λl hl=>by rw [hl];rfl
  .rw [hh _ (hu 3)];simp [lF];exact h.Zg
  .rw [hh _ (hu 4)];simp [lF];exact h.ZZ
  .rw [hh _ (hu 5)];simp [lF];exact h.Zw
  .rw [hh _ (hu2 5 i 0)];simp [lF];exact h.cls i c hc
  .rw [hh _ (hu 6)];simp [lF];exact h.out
  .rw [hh _ (hu 7)];simp [lF];exact h.trc
theorem Ho (gl) (H:Nm->Option AO) (p:Z0) (W:Z5) (a x:Nat) (v:Zd) (hP:Z7 p) (hw:Zy p W) (ha:a<W.ZX.length) (hx:x<8) (hO:Zf H p W) :
  Zj prog gl 207 (Nm.under Wn) [.pt Wn 0,iv a,iv x,Zd.av v] H (λ_ y H'=>Zf H' p (wm p W a x v)) noE:=by
 have hh:=hP.Zc;have hxi:(x:Int)<8:=qA;have hll:=Mq (x:=(x:Int)) hh hw ha;have hT:=hO.top;simp only [wL] at hT;have hV8:=(hw.qCA hll).1;obtain⟨v1,v2⟩:=v;refine Zj.Zl func207 [] ntmps207 (λ_=>qR rfl) λC w g root hroot=>?_;refine qC ?_<|Zk;intro K hK;have fx:=Zk;refine aL Wn rfl qu (hF:=rJ _ _ p W a x hP hw ha hx (have ow:=hO;Zf.re ow)) (h:=?_);rintro y H1 ⟨rfl,hO1⟩;clear fx;have hV:=hO1.loc hll;obtain⟨l,hl⟩:∃ l,W.loc p a x=l:=⟨_,rfl⟩;have hlw:wm p W a x (v1,v2)=W.set l x (some (v1,v2)):=by simp only [wm,hl]
 rw [hl] at hV hV8 ⊢;have hT1:=hO1.top;simp only [wL] at hT1;refine qC ?_<|uD hT hT1 hV hV8 hx<|hxi;rw [hlw];refine zy [] .nil qE (Zf.fin (II hO1 λm hm=>?_));simp [hm]
theorem S7 (gl) (H:Nm->Option AO) (p:Z0) (W:Z5) (a x:Nat) (hP:Z7 p) (hw:Zy p W) (ha:a<W.ZX.length) (hx:x<8) (hO:Zf H p W) :
  Zj prog gl 205 (Nm.under Wn) [.pt Wn 0,iv a,iv x] H (λ_ y H'=>Zf H' p (bb p W a x)) noE:=by
 have hh:=hP.Zc;have hxi:(x:Int)<8:=qA;have hll:=Mq (x:=(x:Int)) hh hw ha;have hT:=hO.top;simp only [wL] at hT;have hV8:=(hw.qCA hll).1;refine Zj.Zl func205 [] ntmps205 (λ_=>qR rfl) λC w g root hroot=>?_;refine qC ?_<|Zk;intro K hK;have fx:=Zk;refine aL Wn rfl qu (hF:=rJ _ _ p W a x hP hw ha hx (have ow:=hO;Zf.re ow)) (h:=?_);rintro y H1 ⟨rfl,hO1⟩;clear fx;have hV:=hO1.loc hll;obtain⟨l,hl⟩:∃ l,W.loc p a x=l:=⟨_,rfl⟩;obtain⟨o,ho⟩:∃ o,q7 p (W.Z1 a) x=o:=⟨_,rfl⟩;rw [hl] at hV hV8 ⊢;rw [ho];obtain⟨s,hs⟩:∃ s,(W.vars l)[x]?=some s:=⟨_,gE qA⟩;obtain⟨_,hsE⟩:=gS hs;have hget:W.get (W.loc p a x) x=s:=by rw [hl];simp [Z5.get,hs]
 have hT1:=hO1.top;simp only [wL] at hT1
 cases s with
 | some v =>
  have hlw:bb p W a x=W.set l x none:=by
   unfold bb;rw [hget];simp only [hl]
  refine qC ?_<|kO hT hT1 hV hV8 hs hsE hx<|hxi;rw [hlw];refine zy [] .nil qE (Zf.fin (II hO1 λm hm=>?_));simp [hm]
 | none =>
  have hlw:bb p W a x={ W with en:=Hm.qAG p (W.Z1 a) o }:=by simp only [bb,hget,ho]
  refine qC ?_<|kO hT hT1 hV hV8 hs hsE hx<|hxi;intro K hK;have fx:=aI hT hT1;refine aL Wn rfl bt (hF:=Mz _ _ p W a o ha hw (have ow:=hO1;Zf.re ow)) (h:=?_);rintro y H2 ⟨rfl,hO2⟩;clear fx;have hT2:=hO2.top;simp only [wL] at hT2;refine qC ?_<|jI hT hT1<|hT2;rw [hlw];refine qD [] .nil qE ⟨by simp [hO2.top,wL,hT2],by simp [hO2.ZX,hT2],λi a ha=>by simp [hO2.act i a ha,hT2],hO2.stk.imp λl hl=>by simp [hl,hT2],by simp [hO2.Zg,hT2],by simp [hO2.ZZ,hT2],by simp [hO2.Zw,hT2],λi c hc=>by simp [hO2.cls i c hc,hT2],by simp [hO2.out,hT2],by simp [hO2.trc,hT2]⟩
theorem TT (gl) (H:Nm->Option AO) (p:Z0) (W:Z5) (u v:Zd) (hu:VOk W.ZZ.length W.ZV.length u) (hv:VOk W.ZZ.length W.ZV.length v) (hO:Zf H p W) :
  Zj prog gl 228 (Nm.under Wn) [.pt Wn 0,Zd.av u,Zd.av v] H (λ_ y H'=>y=Zd.av (uw W u v).2/\Zf H' p (uw W u v).1) noE:=by
 have hT:=hO.top;simp only [wL] at hT;obtain⟨u1,u2⟩:=u;obtain⟨v1,v2⟩:=v;have hu2:=hu.num;have hv2:=hv.num;simp only at hu2 hv2;have hwr:IntKind.i64.wrap (u2+v2)=u2+v2:=Zv qA qA;obtain⟨q,hq,hql⟩:=LR (v:=u2+v2) qA;have hwq:IntKind.i64.wrap (q:Int)=q:=Zv qA qA;refine Zj.Zl func228 [.cell 6 63] ntmps228 (λ_=>qR rfl) λC w g root hroot=>?_;by_cases h1:u1=1
 .by_cases h2:v1=1
  .subst h1;subst h2;have hlw:uw W (1,u2) (1,v2)=(W,(1,(q:Int))):=by simp [uw,hq]
   refine qC ?_<|yS hT hwr hq hwq<|@qL;rw [hlw];refine qD [] .nil qE ⟨qB,(have ow:=hO;Zf.re ow)⟩
  .subst h1;have hb2:(v1==1)=false:=ga;have hlw:uw W (1,u2) (v1,v2)=({ W with en:=5 },(0,0)):=by simp [uw,h2]
   refine qC ?_<|jI hT hb2<|@qL;rw [hlw];refine qD [] .nil qE ⟨qB,⟨oT,nq,λi a ha=>oJ,hO.stk.imp λl hl=>oD,nj,l7,l8,λi c hc=>oF,l5,lf⟩⟩
 .have hb1:(u1==1)=false:=tV;have hlw:uw W (u1,u2) (v1,v2)=({ W with en:=5 },(0,0)):=by simp [uw,h1]
  refine qC ?_<|jI hT hb1<|@qL;rw [hlw];refine qD [] .nil qE ⟨qB,⟨oT,nq,λi a ha=>oJ,hO.stk.imp λl hl=>oD,nj,l7,l8,λi c hc=>oF,l5,lf⟩⟩
theorem UC (gl) (H:Nm->Option AO) (p:Z0) (W:Z5) (v:Zd) (x:Nat) (hw:Zy p W) (hv:VOk W.ZZ.length W.ZV.length v) (hx:x<8) (hO:Zf H p W) :
  Zj prog gl 231 (Nm.under Wn) [.pt Wn 0,Zd.av v,iv x] H (λ_ y H'=>y=Zd.av (kN W v x).2/\Zf H' p (kN W v x).1) noE:=by
 have hT:=hO.top;simp only [wL] at hT;have hxi:(x:Int)<8:=qA;obtain⟨v1,v2⟩:=v;refine Zj.Zl func231 [.cell 6 63] ntmps231 (λ_=>qR rfl) λC w g root hroot=>?_;by_cases h1:v1=3
 .subst h1;have hv2:=hv.num;have hv3:=hv.cls rfl;simp only at hv2 hv3;obtain⟨i,rfl⟩:∃ i:Nat,v2=i:=⟨v2.toNat,qA⟩;have hil:i<W.ZV.length:=qA;obtain⟨c,hc⟩:=gX hil;have hC:=hO.Zw;have hCc:=hO.cls i c hc;have hcl:=(hw.cls c (gM hc)).1;obtain⟨s,hs⟩:∃ s,c[x]?=some s:=⟨_,gE qA⟩;obtain⟨_,hsE⟩:=gS hs
  cases s with
  | some u =>
   have hlw:kN W (3,(i:Int)) x=(W,u):=Br;have fx:=aJ hT hC hCc hil hcl hs hsE hx hxi<|@qL;refine qG ?_
   repeat ((first|refine Ze (id:=4) TM mixed ?_);refine qZ ?_;refine qG ?_)
   clear fx;rw [hlw];refine qD [] .nil qE ⟨qB,(have ow:=hO;Zf.re ow)⟩
  | none =>
   have hlw:kN W (3,(i:Int)) x=({ W with en:=7 },(0,0)):=Br;have fx:=aJ hT hC hCc hil hcl hs hsE hx hxi<|@qL;refine qG ?_
   repeat ((first|refine Ze (id:=4) TM mixed ?_);refine qZ ?_;refine qG ?_)
   clear fx;rw [hlw];refine qD [] .nil qE ⟨qB,⟨oT,nq,λi a ha=>oJ,hO.stk.imp λl hl=>oD,nj,l7,l8,λi c hc=>oF,l5,lf⟩⟩
 .have hb1:(v1==3)=false:=tV;have hlw:kN W (v1,v2) x=({ W with en:=5 },(0,0)):=by simp [kN,h1]
  have fx:=jI hT hb1<|@qL;refine qG ?_
  repeat ((first|refine Ze (id:=4) TM mixed ?_);refine qZ ?_;refine qG ?_)
  clear fx;rw [hlw];refine qD [] .nil qE ⟨qB,⟨oT,nq,λi a ha=>oJ,hO.stk.imp λl hl=>oD,nj,l7,l8,λi c hc=>oF,l5,lf⟩⟩
theorem Q1 (gl) (H:Nm->Option AO) (p:Z0) (W:Z5) (a:Nat) (xs:List Int) (hP:Z7 p) (hw:Zy p W) (ha:a<W.ZX.length) (hxs:∀ x∈xs,0<=x/\x<=7) (hxl:xs.length<=2) (hO:Zf H p W) (hL:H (.u 2 0 0)=some (.row 1 (qT xs))) :
  Zj prog gl 227 D12 [.pt Wn 0,iv a,.hs (.u 2 0 0) 1 0 xs.length] H (λr y H'=>y=.hs r 2 0 (qY p W a xs).2.length/\H' r=some (.row 2 (zn (qY p W a xs).2))/\Zf H' p (qY p W a xs).1) noE:=by
 refine Zj.Zl func227 [.tmp 6] ntmps227 (λ_=>zG) λC w g root hroot=>?_;have hr0:=hroot root (Nm.Z6 _);simp only [A2,RN] at hr0;obtain⟨hr1,hr2⟩:=hr0;refine qC ?_<|Zk;refine qX (λn st=>∃ (i:Nat) (V:Z5) (vs:List Zd),n=xs.length - i/\i<=xs.length/\vs.length=i/\qY p W a xs=((qY p V a (xs.drop i)).1,vs++(qY p V a (xs.drop i)).2)/\Zy p V/\a<V.ZX.length/\st.tm 0=.pt Wn 0/\st.tm 1=iv a/\st.tm 2=.hs (.u 2 0 0) 1 0 xs.length/\st.hp (.u 2 0 0)=some (.row 1 (qT xs))/\st.tm 7=.hs (.s 7) 2 0 vs.length/\st.hp (.s 7)=some (.row 2 (zn vs))/\st.tm 8=iv i/\Zf st.hp p V) xs.length ?_ ?_
 .exact⟨0,W,[],qA,qA,rfl,qB,hw,ha,qB,qB,qB,cT,qB,qB,qB,(have ow:=hO;Zf.re ow)⟩
 rintro n st - - ⟨i,V,vs,rfl,hi,hvl,hres,hV,haV,h0,h1,h2,hp2,h7,hp7,h8,hO⟩;have hT:=hO.top;simp only [wL] at hT
 have hstop:i=xs.length\/V.en≠0->qY p W a xs=(V,vs):=by
  intro e;rw [hres];rcases e with e|e
  .subst e;simp [qY]
  .cases hd:xs.drop i with
   | nil=>simp [qY]
   | cons y l=>simp only [qY];rw [if_pos e];simp
 by_cases hil:i<xs.length
 .by_cases hen:V.en=0
  .obtain⟨x,hx⟩:=gX hil;obtain⟨_,hxE⟩:=gS hx;obtain⟨hx0,hx7⟩:=hxs x (gM hx);obtain⟨X,rfl⟩:∃ X:Nat,x=X:=⟨x.toNat,qA⟩;have hdr:xs.drop i=(X:Int)::xs.drop (i+1):=by rw [Ea hil,hxE]
   have hstep:qY p V a (xs.drop i)=((qY p (zk p V a X).1 a (xs.drop (i+1))).1,(zk p V a X).2::(qY p (zk p V a X).1 a (xs.drop (i+1))).2):=by
    rw [hdr];simp only [qY];rw [if_neg (by rw [hen];decide)]
   obtain⟨hA,_,_⟩:=mR (a:=a) (x:=(X:Int)) hV;have hl2:vs.length<=2:=qA;refine qC ?_<|jJ h0 h1 h2 hp2 h7 hp7 h8 hT hil hen<|aI hx<|hxE;intro K hK;have fx:=aI h0 (aI h1 hT);refine aL Wn rfl qu (hF:=Mr _ _ p V a X hP hV haV qA (have ow:=hO;Zf.re ow)) (h:=?_);rintro y H1 ⟨rfl,hO1⟩;clear fx;generalize hq:zk p V a X=q at hstep hA hO1;obtain⟨V',v1,v2⟩:=q;refine qC ?_<|bA h0 h1 h2 hp2 h7 hp7 h8 hT<|hl2;refine⟨xs.length - (i+1),qA,i+1,V',vs++[(v1,v2)],rfl,qA,by simp [hvl],?_,hA.ok,aR haV hA.grow.qAk,by simp [h0,hT],qy,ql,zF,qB,gc,by simp [h8];exact Zv qA qA,(have ow:=hO1;Zf.re ow)⟩;rw [hres,hstep];simp
  .have hend:=hstop (.inr hen);have henb:(V.en==0)=false:=dM;refine qC ?_<|aJ h0 h1 h2 hp2 h7 hp7 h8 hT hil<|henb;rw [hend];refine qD [(.s 6,root)] (.one rfl) qE ⟨qB,by simp [hp7,hr1,hr2],Zf.qCq (have ow:=hO;Zf.re ow) (λ_=>zG) (λm hm=>aF) tQ⟩
 .have hend:=hstop (.inl qA);refine qC ?_<|bA h0 h1 h2 hp2 h7 hp7 h8 hT<|hil;rw [hend];refine qD [(.s 6,root)] (.one rfl) qE ⟨qB,by simp [hp7,hr1,hr2],Zf.qCq (have ow:=hO;Zf.re ow) (λ_=>zG) (λm hm=>aF) tQ⟩
abbrev YZ:Zh:=bI<|.l 7 [6,5,4,3,2,1,0]<|.q 8<|.l 9 [4,3,2,1,0]<|.l 10 [0]<|.q 11<|.q 12<|.l 13 []<|.done
abbrev YY:Zh:=rP<|.l 18 [8,7,6,5,4,3,2]<|.done
abbrev YX:Zh:=wP<|.l 14 []<|.done
abbrev YW:Zh:=wo<|.l 9 [3,2,1,0]<|.l 10 [3,2,1]<|.l 11 []<|.done
theorem HV {n m:Nm} {l:List Hm.Act} {g:List AV->List AV} (h:∀ (i:Nat) a,l[i]?=some a->g [iv a.Z1,iv (Jr i a),.hs (.c n i 2) 3 0 8]=[iv a.Z1,iv (Jr i a),.hs (.c m i 2) 3 0 8]):(yN n l).map g=yN m l:=by
 apply wK;intro j;rw [kx,eX,eX]
 cases hj:l[j]? with
 | none=>rfl
 | some a=>simp only [kv];rw [h j a hj]
theorem Fx {n m:Nm} {l:List (List Zt)} {g:List AV->List AV} (h:∀ (i:Nat) c,l[i]?=some c->g [.hs (.c n i 0) 3 0 8]=[.hs (.c m i 0) 3 0 8]):(yX n l).map g=yX m l:=by
 apply wK;intro j;rw [kx,sj,sj]
 cases hj:l[j]? with
 | none=>rfl
 | some a=>simp only [kv];rw [h j a hj]
theorem Fm {n m:Nm} {l:List (Nat×Nat)} {g:List AV->List AV} (h:∀ (i:Nat) c,l[i]?=some c->g [iv c.1,iv c.2,.hs (.c n i 2) 3 0 0]=[iv c.1,iv c.2,.hs (.c m i 2) 3 0 0]):(yq n l).map g=yq m l:=by
 apply wK;intro j;rw [kx,lN,lN]
 cases hj:l[j]? with
 | none=>rfl
 | some a=>simp only [kv];rw [h j a hj]
@[simp] theorem Uy {P:Program} {T:TypeId} {hp:Nm->Option AO} {n:Nm} {z q len:Nat} {lo hi:Option Int}:mF P T hp (.hs n z q len) lo hi=match tel P T with
  | some e=>if z=Zq P e/\0<=lo.getD 0/\lo.getD 0<=hi.getD len/\(hi.getD len<=len\/q+(hi.getD len).toNat<=bg hp n z) then some (.hs n z (q+(lo.getD 0).toNat) ((hi.getD len).toNat - (lo.getD 0).toNat)) else none
  | none=>none:=rfl
@[simp] theorem mem_slrows {l:List Zt} {r:List AV}:r∈qW l↔∃ s∈l,jm s=r:=gO
theorem ah (gl):qb prog gl 97 [] (λr y H'=>y=.hs r 3 0 8/\H' r=some (.row 3 (qW q9))):=by
 have h0:List.replicate 8 [bv false,iv 0,iv 0]=qW q9:=rfl;refine qb.Zl func97 [.tmp 0] ntmps97 λC w g root=>?_;refine qC ?_<| h0;refine qD [(.s 0,root)] (.one rfl) qE ⟨qB,by simp [<- h0]⟩
theorem fw (gl) (l:List Zt) (hl:l.length=8):qb prog gl 188 [.sl 3 (qW l)] (λr y H'=>y=.hs r 3 0 8/\H' r=some (.row 3 (qW l))):=by
 refine qb.Zl func188 [.tmp 2] ntmps188 λC w g root=>?_;refine qC ?_<| hl;refine qD [(.s 2,root)] (.one rfl) qE ⟨qB,qB⟩
def UI (gl:Nat->Option (List AV)) (p:Z0) (n:Nat):Prop:=∀ (H:Nm->Option AO) (W:Z5) (a:Nat),Zf H p W->Zy p W->W.left<n->a<W.ZX.length->W.en=0->H (.u 2 0 0)=none ->
 Zj prog gl 119 (Nm.under Wn) [.pt Wn 0,iv a] H (λ_ y H'=>y=Zd.av (zY p n W a).2/\Zf H' p (zY p n W a).1) noE
theorem cz {A G G2:Prop} (k:G2) (x:A) (h:A->Zx G2->G:=by
 intro fx kk;refine qG ?_
 repeat ((first|refine Ze (id:=2) YZ mixed ?_|refine Ze (id:=7) YY mixed ?_|refine Ze (id:=10) YX mixed ?_|refine Ze (id:=11) YW mixed ?_);refine qZ ?_;refine qG ?_)
 exact kk.h):G:=h x ⟨k⟩
theorem Ig (gl) (p:Z0) (n:Nat) (hR:UI gl p n) (H:Nm->Option AO) (W:Z5) (b up lo:Nat) (vs all:List Zd) (hP:Zm p) (hw:Zy p W) (hn:W.left<n) (h0:W.en=0) (hm:jZ p W.ZX b up) (hv:∀ v∈vs,VOk W.ZZ.length W.ZV.length v) (hr:Room 1 W)
  (hall:all.drop lo=vs) (hlo:lo+vs.length=all.length) (hpar:cp p b=vs.length) (hv2:vs.length<=1) (hO:Zf H p W) (hL:H (.u 2 0 0)=some (.row 2 (zn all))) :
  Zj prog gl 229 D12 [.pt Wn 0,iv b,iv up,.hs (.u 2 0 0) 2 lo vs.length] H (λr y H'=>y=.tup [Zd.av (qm p (zY p n) W b up vs).2,.hs r 3 0 8]/\H' r=some (.row 3 (qW ((qm p (zY p n) W b up vs).1.vars (some W.ZX.length))))/\Zf H' p (qm p (zY p n) W b up vs).1) noE:=by
 have hT:=hO.top;have hA:=hO.ZX;obtain⟨sl,hS⟩:=hO.stk;simp only [wL] at hT;have hl1:=hr.ZX;have hl2:=hr.stk;have hal:W.ZX.length<=1000:=qA;have hsl:W.stack.length<=1000:=qA;refine Zj.Zl func229 [.cell 8 63,.tmp 9] ntmps229 (λ_=>zG) λC w g root hroot=>?_;have hr0:=hroot root (Nm.Z6 _);simp only [A2,RN] at hr0;obtain⟨hr1,hr2⟩:=hr0;have fx:=yS hT hA hS hal<|hsl;have d1:=ah gl;refine cz ?_<|fx;clear fx d1;have hap:yN (.c Wn 0 1) W.ZX++[[iv b,iv (Jr W.ZX.length ⟨b,up,q9⟩),.hs (.c (.c Wn 0 1) W.ZX.length 2) 3 0 8]]=yN (.c Wn 0 1) (W.ZX++[⟨b,up,q9⟩]):=HW (a:=⟨b,up,q9⟩)
 have hpos:¬ W.ZX.length=0:=by
  obtain⟨a,ha,_⟩:=hw.a0;have:=(gS ha).1;omega
 have hoi:Jr W.ZX.length ⟨b,up,q9⟩=up:=by simp only [Jr,hpos,if_false]
 rw [hoi] at hap;have hb0:wi p W b up vs 0={ W with ZX:=W.ZX++[⟨b,up,q9⟩],stack:=W.stack++[W.ZX.length] }:=by simp [wi,wD]
 refine qX (λn st=>∃ i:Nat,n=vs.length - i/\i<=vs.length/\st.tm 0=.pt Wn 0/\st.tm 1=iv b/\st.tm 3=.hs (.u 2 0 0) 2 lo vs.length/\st.hp (.u 2 0 0)=some (.row 2 (zn all))/\st.tm 8=.pt (.s 8) 0/\st.hp (.s 8)=some (.row 2 [[iv 0,iv 0]])/\st.tm 10=iv W.ZX.length/\st.tm 11=iv i/\Zf st.hp p (wi p W b up vs i)) vs.length ?_ ?_
 .refine⟨0,qA,qA,qB,qB,qB,cT,qB,qB,qB,qB,?_⟩;rw [hb0];refine⟨by simp [wL],?_,λi a ha=>?_,⟨[],by simp [jN]⟩,by simp [hO.Zg],oN,tS,λi c hc=>by simp [hO.cls i c hc],lc,oO⟩
  .simp [<- hap];rw [b9 qB];refine HV λi a ha=>?_;have hne:¬ i=W.ZX.length:=by have:=(gS ha).1;omega
   have hne':¬ W.ZX.length=i:=qA;simp [hne,hne']
  rcases fF i W.ZX.length with hlt|hge
  .have ha':W.ZX[i]?=some a:=by simpa [uW hlt] using ha
   have hne:¬ i=W.ZX.length:=qA;have hne':¬ W.ZX.length=i:=qA;simp [hO.act i a ha',hne,hne']
  .have hi:i=W.ZX.length:=by
    have:=(gS ha).1;simp at this;omega
   subst hi;have ha':a=⟨b,up,q9⟩:=by simpa using ha.symm
   subst ha';simp
 clear hT hA hS hap hb0 hO;obtain⟨k,hk,hpk⟩:=hm.shape;obtain⟨_,hkE⟩:=gS hk;have hkl:=(gS hk).1;rintro m st - - ⟨i,rfl,hi,t0,t1,t3,hp2,t8,hp8,t10,t11,hO⟩;have hT:=hO.top;have hA:=hO.ZX;have hok:Zy p (wi p W b up vs i):=HM hw hm hv hr;have hlen:(wi p W b up vs i).ZX.length=W.ZX.length+1:=by simp [wi]
 simp only [wL] at hT;by_cases hil:i<vs.length
 .obtain⟨x,hx⟩:∃ x,k.params[i]?=some x:=⟨_,gE qA⟩;obtain⟨hxl,hxE⟩:=gS hx;have hxr:=(hP.sh.names k (gM hk)).params x (gM hx);obtain⟨v,hvi⟩:=gX hil;have hva:all[lo+i]?=some v:=by rw [<- hvi,<- hall,List.getElem?_drop]
  obtain⟨hal',hvE⟩:=gS hva;have hst:=AX (w:=W) (up:=up) hP hk hx hvi;obtain⟨X,rfl⟩:∃ X:Nat,x=X:=⟨x.toNat,qA⟩;obtain⟨v1,v2⟩:=v;refine cz ?_<|qU t0 t1 t3 hp2 t8 hp8 t10 t11 hT hil hk hkE<|u4 hkl hx hxE hxl hva hvE<|hal';intro K hK;have fx:=aI t0 (aI t10 hT);refine aL Wn rfl qu (hF:=Ho _ _ p (wi p W b up vs i) W.ZX.length X (v1,v2) hP.sh hok qA qA (have ow:=hO;Zf.re ow)) (h:=?_);rintro y H1 hO1;clear fx;rw [hst] at hO1;have hT1:=hO1.top;simp only [wL] at hT1;refine cz ?_<|qU t0 t1 t3 hp2 t8 hp8 t10 t11 hT hT1 hil hk<|kO hkE hkl hx hxE hxl hva hvE<|hal';refine⟨vs.length - (i+1),qA,i+1,rfl,qA,un,gH,aY,zF,fz,wG,by simp [t10],GN,(have ow:=hO1;Zf.re ow)⟩
 .obtain rfl:i=vs.length:=qA;have hbeg:wi p W b up vs vs.length=qn p W b up vs:=Iv qA (qf _);rw [hbeg] at hO hok hlen hT hA;refine cz ?_<|uD t0 t1 t3 t10 t11<|hT;intro K hK;have fx:=aI t0 (aI t10 hT);refine aL Wn rfl qu (hF:=hR _ (qn p W b up vs) W.ZX.length (have ow:=hO;Zf.re ow) hok hn qA h0 qB) (h:=?_);rintro y H1 ⟨rfl,hO1⟩;clear fx;obtain⟨hAf,hvok⟩:=kT hP.sh n (qn p W b up vs) W.ZX.length hok hn qA h0;have hent:qm p (zY p n) W b up vs=(nh (zY p n (qn p W b up vs) W.ZX.length).1,(zY p n (qn p W b up vs) W.ZX.length).2):=rfl;generalize zY p n (qn p W b up vs) W.ZX.length=q at hO1 hAf hvok hent;obtain⟨V,v1,v2⟩:=q;simp only at hO1 hAf hvok hent;have hVl:W.ZX.length<V.ZX.length:=by have:=hAf.grow.qAk;omega
  obtain⟨a',ha'⟩:∃ a',V.ZX[W.ZX.length]?=some a':=⟨_,gE hVl⟩;obtain⟨_,haE⟩:=gS ha';have hal8:=(hAf.ok.vars _ a' ha').1;have hT1:=hO1.top;have hA1:=hO1.ZX;have hV1:=hO1.act _ a' ha';obtain⟨sl1,hS1⟩:=hO1.stk;simp only [wL] at hT1;by_cases hen:V.en=0
  .have hstk:V.stack=W.stack++[W.ZX.length]:=hAf.stk hen;have hsl1:V.stack.length=W.stack.length+1:=by rw [hstk];simp
   have hwr:IntKind.i64.wrap (W.stack.length:Int)=W.stack.length:=Zv qA qA
   have hend:nh V={ V with stack:=W.stack }:=by
    unfold nh;rw [if_pos hen,hstk];simp
   rw [hend] at hent;rw [hsl1] at hT1;have hle1:(W.stack.length:Int)<=(W.stack.length:Int)+1:=qA;have hle0:(0:Int)<=(W.stack.length:Int):=qA;have fx:=qU t0 t1 t3 t8 hp8 t10 t11 hT hT1 hA1 hV1 hS1<|kO hen hsl1 hwr hle1 hle0 ha' haE<|hVl;have d1:=fw gl a'.vars hal8;refine cz ?_<|fx;clear fx d1;rw [hent];refine qD [(.s 9,root)] (.one rfl) (by simp [t8];rfl) ⟨qB,?_,Zf.qCq ?_ (λ_=>zG) (λm hm=>aF) tQ⟩
   .simp [hr1,hr2,Z5.vars,ha']
   .exact⟨by simp [wL,hen],by simp [hA1],λi a ha=>by simp [hO1.act i a ha],⟨(W.ZX.length:Int)::sl1,by simp [hS1,hstk,jN]⟩,by simp [hO1.Zg],CR,tH,λi c hc=>by simp [hO1.cls i c hc],by simp [hO1.out],tK⟩
  .have hend:nh V=V:=by
    unfold nh;rw [if_neg hen]
   have henb:(V.en==0)=false:=dM;rw [hend] at hent;have fx:=qU t0 t1 t3 t8 hp8 t10 t11 hT hT1 hA1 hV1 henb<|jI ha' haE<|hVl;have d1:=fw gl a'.vars hal8;refine cz ?_<|fx;clear fx d1;rw [hent];refine qD [(.s 9,root)] (.one rfl) (by simp [t8];rfl) ⟨qB,?_,Zf.qCq (have ow:=hO1;Zf.re ow) (λ_=>zG) (λm hm=>aF) tQ⟩;simp [hr1,hr2,Z5.vars,ha']
abbrev YV:Zh:=aS<|.l 8 [7,6,5,4,3,2,1,0]<|.l 9 []<|.done
abbrev YU:Zh:=wP<|.done
theorem mX {A G G2:Prop} (k:G2) (x:A) (h:A->Zx G2->G:=by
 intro fx kk;refine qG ?_
 repeat ((first|refine Ze (id:=4) YV mixed ?_|refine Ze (id:=5) YU mixed ?_);refine qZ ?_;refine qG ?_)
 exact kk.h):G:=h x ⟨k⟩
theorem Tz (gl) (p:Z0) (n:Nat) (hR:UI gl p n) (H:Nm->Option AO) (W:Z5) (f:Zd) (lo:Nat) (vs all:List Zd) (hP:Zm p) (hw:Zy p W) (hn:W.left<n) (h0:W.en=0) (hf:VOk W.ZZ.length W.ZV.length f) (hv:∀ v∈vs,VOk W.ZZ.length W.ZV.length v) (hr:Room 1 W)
  (hall:all.drop lo=vs) (hlo:lo+vs.length=all.length) (hv2:vs.length<=1) (hO:Zf H p W) (hL:H (.u 2 0 0)=some (.row 2 (zn all))) :
  Zj prog gl 230 D12 [.pt Wn 0,Zd.av f,.hs (.u 2 0 0) 2 lo vs.length] H (λ_ y H'=>y=Zd.av (u6 p (zY p n) W f vs).2/\Zf H' p (u6 p (zY p n) W f vs).1) noE:=by
 have hT:=hO.top;simp only [wL] at hT;obtain⟨f1,f2⟩:=f;refine Zj.Zl func230 [.cell 6 63] ntmps230 (λ_=>zG) λC w g root hroot=>?_;by_cases h2:f1=2
 .subst h2;have hf2:=hf.num;have hf3:=hf.fn rfl;simp only at hf2 hf3;obtain⟨i,rfl⟩:∃ i:Nat,f2=i:=⟨f2.toNat,qA⟩;have hil:i<W.ZZ.length:=qA;obtain⟨g,hg⟩:=gX hil;obtain⟨_,hgE⟩:=gS hg;have hm:=hw.ZZ i g hg;obtain⟨k,hk,hpk⟩:=hm.shape;obtain⟨hkl,hkE⟩:=gS hk;have hF:=hO.ZZ;by_cases hl:k.params.length=vs.length
  .have hc:u6 p (zY p n) W (2,(i:Int)) vs=qm p (zY p n) W g.1 g.2 vs:=by
    simp [u6,hg,hpk,hl]
   have hlb:((k.params.length:Int)==(vs.length:Int))=true:=by rw [hl];simp
   refine mX ?_<|aJ hT hF hil hg hgE hk hkE hkl hlb<|@qL;intro K hK;have fx:=aI hT hF;refine yp qu cT (hF:=Ig _ p n hR _ W g.1 g.2 lo vs all hP hw hn h0 hm hv hr hall hlo (by rw [hpk,hl]) hv2 (have ow:=hO;Zf.re ow) cT) (h:=?_);rintro y H1 ⟨rfl,hp1,hO1⟩;clear fx;have hT1:=hO1.top;simp only [wL] at hT1;refine mX ?_<|jI hT hT1<|hp1;rw [hc];refine qD [] .nil qE ⟨qB,Zf.qCq (have ow:=hO1;Zf.re ow) (λ_=>zG) (λm hm=>aF) qB⟩
  .have hc:u6 p (zY p n) W (2,(i:Int)) vs=({ W with en:=6 },(0,0)):=by
    simp [u6,hg,hpk,hl]
   have hlb:((k.params.length:Int)==(vs.length:Int))=false:=by
    rw [beq_eq_false_iff_ne];omega
   refine mX ?_<|aJ hT hF hil hg hgE hk hkE hkl hlb<|@qL;rw [hc];refine qD [] .nil qE ⟨qB,Zf.qCq ⟨oT,nq,λi a ha=>oJ,hO.stk.imp λl hl=>oD,nj,l7,l8,λi c hc=>oF,l5,lf⟩ (λ_=>zG) (λm hm=>aF) qB⟩
 .have hb1:(f1==2)=false:=ga;have hc:u6 p (zY p n) W (f1,f2) vs=({ W with en:=5 },(0,0)):=by simp [u6,h2]
  refine mX ?_<|jI hT hb1<|@qL;rw [hc];refine qD [] .nil qE ⟨qB,Zf.qCq ⟨oT,nq,λi a ha=>oJ,hO.stk.imp λl hl=>oD,nj,l7,l8,λi c hc=>oF,l5,lf⟩ (λ_=>zG) (λm hm=>aF) qB⟩
end Go.Proofs.YtdnebaieamppbaaGreatDoor
end
