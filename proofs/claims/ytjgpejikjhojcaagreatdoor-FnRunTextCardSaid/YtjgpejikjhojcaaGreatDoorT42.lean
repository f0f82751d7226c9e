import Derived.Test.YtjgpejikjhojcaaGreatDoorT22
import Derived.Test.YtjgpejikjhojcaaGreatDoorT12
set_option linter.unusedSimpArgs false
set_option linter.unusedVariables false
set_option maxRecDepth 100000
set_option maxHeartbeats 4000000

section
namespace Go.Proofs.YtjgpejikjhojcaaGreatDoor
open Go Go.Hm Go.Proofs Tryz
abbrev VQ:qb:=Fu<|.l 13 [6,5,4]<|.l 14 []<|.done
abbrev VR:qb:=da<|.l 7 [6,5,4,3,2,1]<|.l 8 []<|.done
abbrev VS:qb:=bQ<|.l 11 [10,9,8,7,6,5,4,3,2,1]<|.l 12 []<|.done
theorem Yg (gl) (v:qR):qM prog gl 156 [qR.av v] (λ_ y _=>y=iv (Hm.shown v)):=by
 refine qM.qa func156 [.tmp 2] ntmps156 λC w g root=>?_;by_cases h1:v.1=1
 .skip
  refine qI ?_<| h1;refine qG [] .nil qH (by simp [Hm.shown,h1])
 by_cases h2:v.1=2
 .skip
  refine qI ?_<|aI h1<|h2;refine qG [] .nil qH (by simp [Hm.shown,h1,h2])
 by_cases h3:v.1=3
 .skip
  refine qI ?_<|qk h1 h2<|h3;refine qG [] .nil qH Al
 .skip
  refine qI ?_<|qk h1 h2<|h3;refine qG [] .nil qH Al
theorem Bb {A G G2:Prop} (k:G2) (x:A) (h:A->jP G2->G:=by
 intro fx kk;refine qQ ?_
 repeat ((first|refine qf (id:=1) VQ mixed ?_|refine qf (id:=3) VR mixed ?_|refine qf (id:=6) VS mixed ?_);refine zQ ?_;refine qQ ?_)
 exact kk.h):G:=h x ⟨k⟩
theorem GF (gl) (H:Nm->Option AO) (p:qC) (W:qK) (a x:Nat) (hP:z6 p) (hw:qt p W) (ha:a<W.qF.length) (hx:x<8) (hO:qj H p W) :
  qV prog gl 151 (Nm.under Wn) [.pt Wn 0,iv a,iv x] H (λ_ y H'=>y=.zT [iv (zA p (W.qD a) x),.ep (vY (W.loc p a x)) 3 x 0]/\qj H' p W) qy:=by
 have hh:=hP.jR;have hxi:(x:Int)<8:=qA;have hlen:=hw.ko;obtain⟨c,hc⟩:=gX ha;obtain⟨_,hcE⟩:=gS hc;have zF:=hw.wV a c hc;obtain⟨k,hk⟩:=gX zF;have hbk:=v8 hc;have hT:=hO.top;have hA:=hO.qF;have hG:=hO.zJ;have hgl:=hw.zJ.1;simp only [jC] at hT;refine qV.qa func151 [.tmp 6,.tmp 7] ntmps151 (λ_=>yq rfl) λC w g root hroot=>?_;rcases sK (x:=(x:Int)) hh hw ha with⟨h1,h2⟩|⟨o,i,d,ho,h1,h2,h3,hd,hdb,hins⟩
 .rw [hbk] at h1;have h0:zA p c.qD x<0:=qA;have fx:=yD hT hA hc hcE ha h1 hG hgl hx hxi<|h0;have c1:=Kk gl p c.qD k x hk hP.ft hh;refine Bb ?_<|@fx;clear fx c1;refine qG [] .nil qH ⟨by simp [hbk,h1,h2,vY],?_⟩;exact (have ow:=hO;qj.re ow)
 .rw [hbk] at h1;have h0:¬ (o:Int)<0:=qA;have fx:=yD hT hA hc hcE ha h1 hG hgl hx hxi<|h0;have c1:=Kk gl p c.qD k x hk hP.ft hh;refine Bb ?_<|@fx;clear fx c1;refine zU (λn st=>∃ b:Nat,n=b/\b<W.qF.length/\uZ W.qF o b b=i/\jS p (W.qD b) o=true/\st.tm 0=.pt Wn 0/\st.tm 1=iv b/\st.tm 2=iv x/\st.tm 8=iv o/\qj st.hp p W) a ?_ ?_
  .exact⟨a,rfl,ha,h3.symm,hins,qB,qB,qB,qB,(have ow:=hO;qj.re ow)⟩
  clear hT hA hG hO;rintro n st - - ⟨b,rfl,hb,hcl,hib,h0',h1',h2',h8',hO⟩;obtain⟨e,he⟩:=gX hb;obtain⟨_,heE⟩:=gS he;have hT:=hO.top;have hA:=hO.qF;simp only [jC] at hT;have hV:=hO.act n e he;have hvl:=(hw.vars n e he).1;by_cases heb:e.qD=o
  .have hni:n=i:=by rw [<- hcl,dQ he heb]
   subst hni;refine Bb ?_<|qr h0' h1' h2' h8' hT hA he heE hb heb hV hvl<|qk hx hxi<|@qx;refine qG [] .nil qH ⟨by simp [hbk,h1,h2,vY],?_⟩;exact (have ow:=hO;qj.re ow)
  .obtain⟨e1,e2,e3⟩:=lH hh hw he heb ho hib;have hne:¬ ((e.qD:Int)=o):=qA;have hoi:dU n e=e.up:=by simp only [dU];rw [if_neg qA]
   refine Bb ?_<|yD h0' h1' h2' h8' hT hA he heE hb hne<|aI hoi<|@qx;refine⟨e.up,qA,e.up,rfl,qA,?_,e3,by simp [h0'],qB,by simp [h2'],by simp [h8'],(have ow:=hO;qj.re ow)⟩;rw [<- hcl,rm hh hw ho he heb hib]
theorem Ja (gl) (H:Nm->Option AO) (p:qC) (W:qK) (a:Nat) (o:Int) (ha:a<W.qF.length) (hw:qt p W) (hO:qj H p W) :
  qV prog gl 152 (Nm.under Wn) [.pt Wn 0,iv a,iv o] H (λ_ y H'=>y=iv (Hm.jd p (W.qD a) o)/\qj H' p W) qy:=by
 have hlen:=hw.ko;obtain⟨c,hc⟩:=gX ha;obtain⟨_,hcE⟩:=gS hc;have zF:=hw.wV a c hc;obtain⟨k,hk⟩:=gX zF;obtain⟨_,hkE⟩:=gS hk;have hbk:=v8 hc;have hka:zt p c.qD=k.kind:=ge;have hT:=hO.top;have hA:=hO.qF;simp only [jC] at hT;refine qV.qa func152 [.tmp 6] ntmps152 (λ_=>yq rfl) λC w g root hroot=>?_;by_cases h0:o<0
 .skip
  refine qI ?_<|yz hT hA hc hcE ha h0 hk hkE<|zF;refine qG [] .nil qH ⟨by simp [Hm.jd,h0],(have ow:=hO;qj.re ow)⟩
 by_cases h1:o=c.qD
 .subst h1;by_cases h2:k.kind=2
  .skip
   refine qI ?_<|vA hT hA hc hcE ha h0 h2 hk hkE<|zF;refine qG [] .nil qH ⟨by simp [Hm.jd,h0,hbk,hka,h2],(have ow:=hO;qj.re ow)⟩
  .skip
   refine qI ?_<|vA hT hA hc hcE ha h0 h2 hk hkE<|zF;refine qG [] .nil qH ⟨by simp [Hm.jd,h0,hbk,hka,h2],(have ow:=hO;qj.re ow)⟩
 .have hb1:(o==(c.qD:Int))=false:=tz;refine qI ?_<|vA hT hA hc hcE ha h0 hb1 hk hkE<|zF;refine qG [] .nil qH ⟨by simp [Hm.jd,h0,h1,hbk],(have ow:=hO;qj.re ow)⟩
theorem RO (gl) (H:Nm->Option AO) (p:qC) (W:qK) (x:Nat) (hw:qt p W) (hx:x<8) (hO:qj H p W) :
  qV prog gl 153 (Nm.under Wn) [.pt Wn 0,iv x] H (λ_ y H'=>(match W.get none x with|some v=>y=.zT [qR.av v,bv true]|none=>y=.zT [qR.av (1,70),bv (decide (x=7))])/\qj H' p W) qy:=by
 have hT:=hO.top;have hG:=hO.zJ;have hxi:(x:Int)<8:=qA;simp only [jC] at hT;have hgl:=hw.zJ.1;obtain⟨s,hs⟩:∃ s,W.globals[x]?=some s:=⟨_,gE qA⟩;obtain⟨_,hsE⟩:=gS hs;have hget:W.get none x=s:=by simp [qK.get,qK.vars,hs]
 refine qV.qa func153 [.cell 4 115,.tmp 5] ntmps153 (λ_=>yq rfl) λC w g root hroot=>?_
 cases s with
 | some v =>
  refine qI ?_<|jQ hT hG hgl hx hxi hs<|hsE;refine qG [] .nil qH ⟨by rw [hget];simp,(have ow:=hO;qj.re ow)⟩
 | none =>
  by_cases h7:x=7
  .subst h7;refine qI ?_<|zM hT hG hgl hs<|hsE;refine qG [] .nil qH ⟨by rw [hget];simp,(have ow:=hO;qj.re ow)⟩
  .have h7i:¬ (x:Int)=7:=qA;have h7b:((x:Int)==7)=false:=by simpa using h7i
   refine qI ?_<|jJ hT hG hgl hx hxi hs hsE<|h7b;refine qG [] .nil qH ⟨by rw [hget];simp [h7,h7i],(have ow:=hO;qj.re ow)⟩
abbrev F6:qb:=bQ<|.l 11 [10,9,8,7,6,5,4,3,2,1,0]<|.l 12 []<|.done
theorem Zt {v:Int} (hv:0<=v):∃ k:Nat,v.tmod 1000=k/\k<1000:=by
 have h1:=Int.tmod_nonneg 1000 hv;have h2:=Int.tmod_lt_of_pos v (show (0:Int)<1000 by omega);exact⟨(v.tmod 1000).toNat,qA,qA⟩
theorem Jz (gl) (H:Nm->Option AO) (p:qC) (W:qK) (a x:Nat) (hP:z6 p) (hw:qt p W) (ha:a<W.qF.length) (hx:x<8) (hO:qj H p W) :
  qV prog gl 103 (Nm.under Wn) [.pt Wn 0,iv a,iv x] H (λ_ y H'=>y=qR.av (zh p W a x).2/\qj H' p (zh p W a x).1) qy:=by
 have hh:=hP.jR;have hxi:(x:Int)<8:=qA;have hll:=Eh (x:=(x:Int)) hh hw ha;have hT:=hO.top;simp only [jC] at hT;have hV8:=(hw.C8 hll).1;refine qV.qa func103 [.cell 6 115] ntmps103 (λ_=>yq rfl) λC w g root hroot=>?_;refine qI ?_<|qS;intro K hK;have fx:=qS;refine ut Wn rfl zG (hF:=GF _ _ p W a x hP hw ha hx (have ow:=hO;qj.re ow)) (h:=?_);rintro y H1 ⟨rfl,hO1⟩;clear fx;have hV:=hO1.loc hll;obtain⟨l,hl⟩:∃ l,W.loc p a x=l:=⟨_,rfl⟩;obtain⟨o,ho⟩:∃ o,zA p (W.qD a) x=o:=⟨_,rfl⟩;rw [hl] at hV hV8 ⊢;rw [ho];obtain⟨s,hs⟩:∃ s,(W.vars l)[x]?=some s:=⟨_,gE qA⟩;obtain⟨_,hsE⟩:=gS hs;have hget:W.get (W.loc p a x) x=s:=by rw [hl];simp [qK.get,hs]
 have hT1:=hO1.top;simp only [jC] at hT1
 cases s with
 | some v =>
  have hlw:zh p W a x=(W,v):=by simp only [zh,hget]
  refine qI ?_<|jJ hT hT1 hV hV8 hs hsE hx<|hxi;rw [hlw];refine qG [] .nil qH ⟨qB,(have ow:=hO1;qj.re ow)⟩
 | none =>
  refine qI ?_<|jJ hT hT1 hV hV8 hs hsE hx<|hxi;intro K hK;have fx:=aI hT hT1;refine ut Wn rfl dP (hF:=Ja _ _ p W a o ha hw (have ow:=hO1;qj.re ow)) (h:=?_);rintro y H2 ⟨rfl,hO2⟩;clear fx;have hT2:=hO2.top;simp only [jC] at hT2;by_cases h4:Hm.jd p (W.qD a) o=4
  .skip
   refine qI ?_<|zC hT hT1 hT2<|h4;intro K hK;have fx:=aI hT (aI hT1 hT2);refine ut Wn rfl (by simp [hT2]) (hF:=RO _ _ p W x hw hx (have ow:=hO2;qj.re ow)) (h:=?_);rintro y H3 ⟨hy,hO3⟩;clear fx;have hT3:=hO3.top;simp only [jC] at hT3
   cases hg:W.get none x with
   | some v =>
    rw [hg] at hy;simp only at hy;subst hy;have hlw:zh p W a x=(W,v):=by simp only [zh,hget,ho,h4,if_true,hg]
    refine qI ?_<|zC hT hT1 hT2<|hT3;rw [hlw];refine qG [] .nil qH ⟨qB,(have ow:=hO3;qj.re ow)⟩
   | none =>
    rw [hg] at hy;simp only at hy;subst hy;by_cases h7:x=7
    .subst h7;have hlw:zh p W a ((7:Nat):Int)=(W,(1,70)):=by simp only [zh,hget,ho,h4,if_true,hg];simp
     refine qI ?_<|zC hT hT1 hT2<|hT3;rw [hlw];refine qG [] .nil qH ⟨qB,(have ow:=hO3;qj.re ow)⟩
    .have hlw:zh p W a x=({ W with en:=4 },(0,0)):=by
      have:¬ (x:Int)=7:=qA;simp only [zh,hget,ho,h4,if_true,hg,this,if_false]
     have h7i:¬ (x:Int)=7:=qA;refine qI ?_<|jQ hT hT1 hT2 hT3 h7 h7i<|h4;rw [hlw];refine qG [] .nil qH ⟨qB,⟨by simp [hO3.top,jC,hT3],by simp [hO3.qF,hT3],λi a ha=>by simp [hO3.act i a ha,hT3],hO3.zR.imp λl hl=>by simp [hl,hT3],by simp [hO3.zJ,hT3],by simp [hO3.qJ,hT3],by simp [hO3.jk,hT3],λi c hc=>by simp [hO3.cls i c hc,hT3],by simp [hO3.out,hT3],by simp [hO3.yH,hT3]⟩⟩
  .have hlw:zh p W a x=({ W with en:=Hm.jd p (W.qD a) o },(0,0)):=by simp only [zh,hget,ho,h4,if_false]
   refine qI ?_<|zC hT hT1 hT2<|h4;rw [hlw];refine qG [] .nil qH ⟨qB,⟨by simp [hO2.top,jC,hT2],by simp [hO2.qF,hT2],λi a ha=>by simp [hO2.act i a ha,hT2],hO2.zR.imp λl hl=>by simp [hl,hT2],by simp [hO2.zJ,hT2],by simp [hO2.qJ,hT2],by simp [hO2.jk,hT2],λi c hc=>by simp [hO2.cls i c hc,hT2],by simp [hO2.out,hT2],by simp [hO2.yH,hT2]⟩⟩
theorem Kj {hp hp':Nm->Option AO} {p:qC} {W:qK} {l:Option Nat} {x:Nat} {s:qu} (h:qj hp p W) (hh:∀ m,Nm.under Wn m=true->hp' m=if m=vY l then some (.row 3 (j4 ((W.vars l).set x s))) else hp m):qj hp' p (W.set l x s):=by
 have hu:∀ j,Nm.under Wn (.c Wn 0 j)=true:=λj=>aH;have hu2:∀ j i k,Nm.under Wn (.c (.c Wn 0 j) i k)=true:=λj i k=>aH
 cases l with
 | none =>
  refine⟨?_,?_,λi a ha=>?_,?_,?_,?_,?_,λi c hc=>?_,?_,?_⟩
  .rw [hh _ aH];simp [vY];exact h.top
  .rw [hh _ (hu 1)];simp [vY];exact h.qF
  .rw [hh _ (hu2 1 i 2)];simp [vY];exact h.act i a ha
  .rw [hh _ (hu 2)];simp [vY];exact h.zR.imp λl hl=>by rw [hl];rfl
  .rw [hh _ (hu 3)];simp [vY,qK.set,qK.vars]
  .rw [hh _ (hu 4)];simp [vY];exact h.qJ
  .rw [hh _ (hu 5)];simp [vY];exact h.jk
  .rw [hh _ (hu2 5 i 0)];simp [vY];exact h.cls i c hc
  .rw [hh _ (hu 6)];simp [vY];exact h.out
  .rw [hh _ (hu 7)];simp [vY];exact h.yH
 | some j =>
  have hrow:kA (.c Wn 0 1) (W.set (some j) x s).qF=kA (.c Wn 0 1) W.qF:=by
   apply vl;intro i;simp only [A6,qK.set,nz]
   cases hi:W.qF[i]? with
   | none=>rfl
   | some a=>by_cases e:j=i <;> simp [e,dU]
  refine⟨?_,?_,λi a ha=>?_,?_,?_,?_,?_,λi c hc=>?_,?_,?_⟩
  .rw [hh _ aH];simp [vY];rw [h.top];simp [jC,qK.set]
  .rw [hh _ (hu 1),hrow];simp [vY];exact h.qF
  .rw [hh _ (hu2 1 i 2)];simp only [qK.set,nz] at ha;obtain⟨b,hb,e⟩:=zg.1 ha;by_cases e2:j=i
   .subst e2;simp only [if_true] at e;subst e;simp [vY,qK.vars,hb]
   .have e3:¬ i=j:=λe=>e2 e.symm;simp only [e2,if_false] at e;subst e;simp [vY,e3];exact h.act i b hb
  .rw [hh _ (hu 2)];simp [vY];exact h.zR.imp λl hl=>by rw [hl];rfl
  .rw [hh _ (hu 3)];simp [vY];exact h.zJ
  .rw [hh _ (hu 4)];simp [vY];exact h.qJ
  .rw [hh _ (hu 5)];simp [vY];exact h.jk
  .rw [hh _ (hu2 5 i 0)];simp [vY];exact h.cls i c hc
  .rw [hh _ (hu 6)];simp [vY];exact h.out
  .rw [hh _ (hu 7)];simp [vY];exact h.yH
theorem Mo (gl) (H:Nm->Option AO) (p:qC) (W:qK) (a x:Nat) (v:qR) (hP:z6 p) (hw:qt p W) (ha:a<W.qF.length) (hx:x<8) (hO:qj H p W) :
  qV prog gl 157 (Nm.under Wn) [.pt Wn 0,iv a,iv x,qR.av v] H (λ_ y H'=>qj H' p (cz p W a x v)) qy:=by
 have hh:=hP.jR;have hxi:(x:Int)<8:=qA;have hll:=Eh (x:=(x:Int)) hh hw ha;have hT:=hO.top;simp only [jC] at hT;have hV8:=(hw.C8 hll).1;obtain⟨v1,v2⟩:=v;refine qV.qa func157 [] ntmps157 (λ_=>yq rfl) λC w g root hroot=>?_;refine qI ?_<|qS;intro K hK;have fx:=qS;refine ut Wn rfl zG (hF:=GF _ _ p W a x hP hw ha hx (have ow:=hO;qj.re ow)) (h:=?_);rintro y H1 ⟨rfl,hO1⟩;clear fx;have hV:=hO1.loc hll;obtain⟨l,hl⟩:∃ l,W.loc p a x=l:=⟨_,rfl⟩;have hlw:cz p W a x (v1,v2)=W.set l x (some (v1,v2)):=by simp only [cz,hl]
 rw [hl] at hV hV8 ⊢;have hT1:=hO1.top;simp only [jC] at hT1;refine qI ?_<|j2 hT hT1 hV hV8 hx<|hxi;rw [hlw];refine iy [] .nil qH (qj.fin (Kj hO1 λm hm=>?_));simp [hm]
theorem Z0 (gl) (H:Nm->Option AO) (p:qC) (W:qK) (a x:Nat) (hP:z6 p) (hw:qt p W) (ha:a<W.qF.length) (hx:x<8) (hO:qj H p W) :
  qV prog gl 154 (Nm.under Wn) [.pt Wn 0,iv a,iv x] H (λ_ y H'=>qj H' p (wo p W a x)) qy:=by
 have hh:=hP.jR;have hxi:(x:Int)<8:=qA;have hll:=Eh (x:=(x:Int)) hh hw ha;have hT:=hO.top;simp only [jC] at hT;have hV8:=(hw.C8 hll).1;refine qV.qa func154 [] ntmps154 (λ_=>yq rfl) λC w g root hroot=>?_;refine qI ?_<|qS;intro K hK;have fx:=qS;refine ut Wn rfl zG (hF:=GF _ _ p W a x hP hw ha hx (have ow:=hO;qj.re ow)) (h:=?_);rintro y H1 ⟨rfl,hO1⟩;clear fx;have hV:=hO1.loc hll;obtain⟨l,hl⟩:∃ l,W.loc p a x=l:=⟨_,rfl⟩;obtain⟨o,ho⟩:∃ o,zA p (W.qD a) x=o:=⟨_,rfl⟩;rw [hl] at hV hV8 ⊢;rw [ho];obtain⟨s,hs⟩:∃ s,(W.vars l)[x]?=some s:=⟨_,gE qA⟩;obtain⟨_,hsE⟩:=gS hs;have hget:W.get (W.loc p a x) x=s:=by rw [hl];simp [qK.get,hs]
 have hT1:=hO1.top;simp only [jC] at hT1
 cases s with
 | some v =>
  have hlw:wo p W a x=W.set l x none:=by
   unfold wo;rw [hget];simp only [hl]
  refine qI ?_<|jJ hT hT1 hV hV8 hs hsE hx<|hxi;rw [hlw];refine iy [] .nil qH (qj.fin (Kj hO1 λm hm=>?_));simp [hm]
 | none =>
  have hlw:wo p W a x={ W with en:=Hm.jd p (W.qD a) o }:=by simp only [wo,hget,ho]
  refine qI ?_<|jJ hT hT1 hV hV8 hs hsE hx<|hxi;intro K hK;have fx:=aI hT hT1;refine ut Wn rfl dP (hF:=Ja _ _ p W a o ha hw (have ow:=hO1;qj.re ow)) (h:=?_);rintro y H2 ⟨rfl,hO2⟩;clear fx;have hT2:=hO2.top;simp only [jC] at hT2;refine qI ?_<|qk hT hT1<|hT2;rw [hlw];refine qG [] .nil qH ⟨by simp [hO2.top,jC,hT2],by simp [hO2.qF,hT2],λi a ha=>by simp [hO2.act i a ha,hT2],hO2.zR.imp λl hl=>by simp [hl,hT2],by simp [hO2.zJ,hT2],by simp [hO2.qJ,hT2],by simp [hO2.jk,hT2],λi c hc=>by simp [hO2.cls i c hc,hT2],by simp [hO2.out,hT2],by simp [hO2.yH,hT2]⟩
theorem VA (gl) (H:Nm->Option AO) (p:qC) (W:qK) (u v:qR) (hu:zO W.qJ.length W.qO.length u) (hv:zO W.qJ.length W.qO.length v) (hO:qj H p W) :
  qV prog gl 202 (Nm.under Wn) [.pt Wn 0,qR.av u,qR.av v] H (λ_ y H'=>y=qR.av (uF W u v).2/\qj H' p (uF W u v).1) qy:=by
 have hT:=hO.top;simp only [jC] at hT;obtain⟨u1,u2⟩:=u;obtain⟨v1,v2⟩:=v;have hu2:=hu.num;have hv2:=hv.num;simp only at hu2 hv2;have hwr:IntKind.i64.wrap (u2+v2)=u2+v2:=qi qA qA;obtain⟨q,hq,hql⟩:=Zt (v:=u2+v2) qA;have hwq:IntKind.i64.wrap (q:Int)=q:=qi qA qA;refine qV.qa func202 [.cell 6 115] ntmps202 (λ_=>yq rfl) λC w g root hroot=>?_;by_cases h1:u1=1
 .by_cases h2:v1=1
  .subst h1;subst h2;have hlw:uF W (1,u2) (1,v2)=(W,(1,(q:Int))):=by simp [uF,hq]
   refine qI ?_<|zM hT hwr hq hwq<|@qx;rw [hlw];refine qG [] .nil qH ⟨qB,(have ow:=hO;qj.re ow)⟩
  .subst h1;have hb2:(v1==1)=false:=oQ;have hlw:uF W (1,u2) (v1,v2)=({ W with en:=5 },(0,0)):=by simp [uF,h2]
   refine qI ?_<|qk hT hb2<|@qx;rw [hlw];refine qG [] .nil qH ⟨qB,⟨rU,rg,λi a ha=>rH,hO.zR.imp λl hl=>ra,r7,oI,oO,λi c hc=>pz,oN,oF⟩⟩
 .have hb1:(u1==1)=false:=tz;have hlw:uF W (u1,u2) (v1,v2)=({ W with en:=5 },(0,0)):=by simp [uF,h1]
  refine qI ?_<|qk hT hb1<|@qx;rw [hlw];refine qG [] .nil qH ⟨qB,⟨rU,rg,λi a ha=>rH,hO.zR.imp λl hl=>ra,r7,oI,oO,λi c hc=>pz,oN,oF⟩⟩
theorem Od (gl) (H:Nm->Option AO) (p:qC) (W:qK) (v:qR) (x:Nat) (hw:qt p W) (hv:zO W.qJ.length W.qO.length v) (hx:x<8) (hO:qj H p W) :
  qV prog gl 205 (Nm.under Wn) [.pt Wn 0,qR.av v,iv x] H (λ_ y H'=>y=qR.av (uI W v x).2/\qj H' p (uI W v x).1) qy:=by
 have hT:=hO.top;simp only [jC] at hT;have hxi:(x:Int)<8:=qA;obtain⟨v1,v2⟩:=v;refine qV.qa func205 [.cell 6 115] ntmps205 (λ_=>yq rfl) λC w g root hroot=>?_;by_cases h1:v1=3
 .subst h1;have hv2:=hv.num;have hv3:=hv.cls rfl;simp only at hv2 hv3;obtain⟨i,rfl⟩:∃ i:Nat,v2=i:=⟨v2.toNat,qA⟩;have hil:i<W.qO.length:=qA;obtain⟨c,hc⟩:=gX hil;have hC:=hO.jk;have hCc:=hO.cls i c hc;have hcl:=(hw.cls c (gM hc)).1;obtain⟨s,hs⟩:∃ s,c[x]?=some s:=⟨_,gE qA⟩;obtain⟨_,hsE⟩:=gS hs
  cases s with
  | some u =>
   have hlw:uI W (3,(i:Int)) x=(W,u):=At;have fx:=vA hT hC hCc hil hcl hs hsE hx hxi<|@qx;refine qQ ?_
   repeat ((first|refine qf (id:=4) F6 mixed ?_);refine zQ ?_;refine qQ ?_)
   clear fx;rw [hlw];refine qG [] .nil qH ⟨qB,(have ow:=hO;qj.re ow)⟩
  | none =>
   have hlw:uI W (3,(i:Int)) x=({ W with en:=7 },(0,0)):=At;have fx:=vA hT hC hCc hil hcl hs hsE hx hxi<|@qx;refine qQ ?_
   repeat ((first|refine qf (id:=4) F6 mixed ?_);refine zQ ?_;refine qQ ?_)
   clear fx;rw [hlw];refine qG [] .nil qH ⟨qB,⟨rU,rg,λi a ha=>rH,hO.zR.imp λl hl=>ra,r7,oI,oO,λi c hc=>pz,oN,oF⟩⟩
 .have hb1:(v1==3)=false:=tz;have hlw:uI W (v1,v2) x=({ W with en:=5 },(0,0)):=by simp [uI,h1]
  have fx:=qk hT hb1<|@qx;refine qQ ?_
  repeat ((first|refine qf (id:=4) F6 mixed ?_);refine zQ ?_;refine qQ ?_)
  clear fx;rw [hlw];refine qG [] .nil qH ⟨qB,⟨rU,rg,λi a ha=>rH,hO.zR.imp λl hl=>ra,r7,oI,oO,λi c hc=>pz,oN,oF⟩⟩
theorem TH (gl) (H:Nm->Option AO) (p:qC) (W:qK) (a:Nat) (xs:List Int) (hP:z6 p) (hw:qt p W) (ha:a<W.qF.length) (hxs:∀ x∈xs,0<=x/\x<=7) (hxl:xs.length<=2) (hO:qj H p W) (hL:H (.u 2 0 0)=some (.row 1 (qm xs))) :
  qV prog gl 201 vV [.pt Wn 0,iv a,.hs (.u 2 0 0) 1 0 xs.length] H (λr y H'=>y=.hs r 2 0 (zB p W a xs).2.length/\H' r=some (.row 2 (jZ (zB p W a xs).2))/\qj H' p (zB p W a xs).1) qy:=by
 refine qV.qa func201 [.tmp 6] ntmps201 (λ_=>bZ) λC w g root hroot=>?_;have hr0:=hroot root (Nm.uH _);simp only [HA,Bool.or_eq_false_iff] at hr0;obtain⟨hr1,hr2⟩:=hr0;refine qI ?_<|qS;refine zU (λn st=>∃ (i:Nat) (V:qK) (vs:List qR),n=xs.length - i/\i<=xs.length/\vs.length=i/\zB p W a xs=((zB p V a (xs.drop i)).1,vs++(zB p V a (xs.drop i)).2)/\qt p V/\a<V.qF.length/\st.tm 0=.pt Wn 0/\st.tm 1=iv a/\st.tm 2=.hs (.u 2 0 0) 1 0 xs.length/\st.hp (.u 2 0 0)=some (.row 1 (qm xs))/\st.tm 7=.hs (.s 7) 2 0 vs.length/\st.hp (.s 7)=some (.row 2 (jZ vs))/\st.tm 8=iv i/\qj st.hp p V) xs.length ?_ ?_
 .exact⟨0,W,[],qA,qA,rfl,qB,hw,ha,qB,qB,qB,dO,qB,qB,qB,(have ow:=hO;qj.re ow)⟩
 rintro n st - - ⟨i,V,vs,rfl,hi,hvl,hres,hV,haV,h0,h1,h2,hp2,h7,hp7,h8,hO⟩;have hT:=hO.top;simp only [jC] at hT
 have hstop:i=xs.length\/V.en≠0->zB p W a xs=(V,vs):=by
  intro e;rw [hres];rcases e with e|e
  .subst e;simp [zB]
  .cases hd:xs.drop i with
   | nil=>simp [zB]
   | cons y l=>simp only [zB];rw [if_pos e];simp
 by_cases hil:i<xs.length
 .by_cases hen:V.en=0
  .obtain⟨x,hx⟩:=gX hil;obtain⟨_,hxE⟩:=gS hx;obtain⟨hx0,hx7⟩:=hxs x (gM hx);obtain⟨X,rfl⟩:∃ X:Nat,x=X:=⟨x.toNat,qA⟩;have hdr:xs.drop i=(X:Int)::xs.drop (i+1):=by rw [gO hil,hxE]
   have hstep:zB p V a (xs.drop i)=((zB p (zh p V a X).1 a (xs.drop (i+1))).1,(zh p V a X).2::(zB p (zh p V a X).1 a (xs.drop (i+1))).2):=by
    rw [hdr];simp only [zB];rw [if_neg (by rw [hen];decide)]
   obtain⟨hA,_,_⟩:=Bl (a:=a) (x:=(X:Int)) hV;have hl2:vs.length<=2:=qA;refine qI ?_<|yD h0 h1 h2 hp2 h7 hp7 h8 hT hil hen<|aI hx<|hxE;intro K hK;have fx:=aI h0 (aI h1 hT);refine ut Wn rfl zG (hF:=Jz _ _ p V a X hP hV haV qA (have ow:=hO;qj.re ow)) (h:=?_);rintro y H1 ⟨rfl,hO1⟩;clear fx;generalize hq:zh p V a X=q at hstep hA hO1;obtain⟨V',v1,v2⟩:=q;refine qI ?_<|yz h0 h1 h2 hp2 h7 hp7 h8 hT<|hl2;refine⟨xs.length - (i+1),qA,i+1,V',vs++[(v1,v2)],rfl,qA,by simp [hvl],?_,hA.ok,uW haV hA.grow.aP,by simp [h0,hT],zx,jp,jq,qB,oM,by simp [h8];exact qi qA qA,(have ow:=hO1;qj.re ow)⟩;rw [hres,hstep];simp
  .have hend:=hstop (.inr hen);have henb:(V.en==0)=false:=dM;refine qI ?_<|vA h0 h1 h2 hp2 h7 hp7 h8 hT hil<|henb;rw [hend];refine qG [(.s 6,root)] (.one rfl) qH ⟨qB,by simp [hp7,hr1,hr2],qj.o6 (have ow:=hO;qj.re ow) (λ_=>bZ) (λm hm=>gc) tk⟩
 .have hend:=hstop (.inl qA);refine qI ?_<|yz h0 h1 h2 hp2 h7 hp7 h8 hT<|hil;rw [hend];refine qG [(.s 6,root)] (.one rfl) qH ⟨qB,by simp [hp7,hr1,hr2],qj.o6 (have ow:=hO;qj.re ow) (λ_=>bZ) (λm hm=>gc) tk⟩
abbrev VT:qb:=da<|.l 7 [6,5,4,3,2,1,0]<|.q 8<|.l 9 [4,3,2,1,0]<|.l 10 [0]<|.q 11<|.q 12<|.l 13 []<|.done
abbrev VU:qb:=.q 0<|.q 1<|.q 2<|.q 3<|.q 4<|.q 5<|.q 6<|.q 7<|.q 8<|.q 9<|.q 10<|.q 11<|.q 12<|.q 13<|.q 14<|.q 15<|.q 16<|.q 17<|.l 18 [8,7,6,5,4,3,2]<|.done
abbrev VV:qb:=pJ<|.l 14 []<|.done
abbrev VW:qb:=eX<|.l 9 [3,2,1,0]<|.l 10 [3,2,1]<|.l 11 []<|.done
theorem OJ {n m:Nm} {l:List Hm.Act} {g:List AV->List AV} (h:∀ (i:Nat) a,l[i]?=some a->g [iv a.qD,iv (dU i a),.hs (.c n i 2) 3 0 8]=[iv a.qD,iv (dU i a),.hs (.c m i 2) 3 0 8]):(kA n l).map g=kA m l:=by
 apply vl;intro j;rw [jg,A6,A6]
 cases hj:l[j]? with
 | none=>rfl
 | some a=>simp only [uX];rw [h j a hj]
theorem Pe {n m:Nm} {l:List (List qu)} {g:List AV->List AV} (h:∀ (i:Nat) c,l[i]?=some c->g [.hs (.c n i 0) 3 0 8]=[.hs (.c m i 0) 3 0 8]):(kO n l).map g=kO m l:=by
 apply vl;intro j;rw [jg,IX,IX]
 cases hj:l[j]? with
 | none=>rfl
 | some a=>simp only [uX];rw [h j a hj]
theorem Qz {n m:Nm} {l:List (Nat×Nat)} {g:List AV->List AV} (h:∀ (i:Nat) c,l[i]?=some c->g [iv c.1,iv c.2,.hs (.c n i 2) 3 0 0]=[iv c.1,iv c.2,.hs (.c m i 2) 3 0 0]):(km n l).map g=km m l:=by
 apply vl;intro j;rw [jg,EY,EY]
 cases hj:l[j]? with
 | none=>rfl
 | some a=>simp only [uX];rw [h j a hj]
@[simp] theorem YY {P:Program} {T:TypeId} {hp:Nm->Option AO} {n:Nm} {z q len:Nat} {lo hi:Option Int}:uo P T hp (.hs n z q len) lo hi=match yQ P T with
  | some e=>if z=qd P e/\0<=lo.getD 0/\lo.getD 0<=hi.getD len/\(hi.getD len<=len\/q+(hi.getD len).toNat<=iF hp n z) then some (.hs n z (q+(lo.getD 0).toNat) ((hi.getD len).toNat - (lo.getD 0).toNat)) else none
  | none=>none:=rfl
@[simp] theorem mem_slrows {l:List qu} {r:List AV}:r∈j4 l↔∃ s∈l,j6 s=r:=rT
theorem I7 (gl):qM prog gl 64 [] (λr y H'=>y=.hs r 3 0 8/\H' r=some (.row 3 (j4 j3))):=by
 have h0:List.replicate 8 [bv false,iv 0,iv 0]=j4 j3:=rfl;refine qM.qa func64 [.tmp 0] ntmps64 λC w g root=>?_;refine qI ?_<| h0;refine qG [(.s 0,root)] (.one rfl) qH ⟨qB,by simp [<- h0]⟩
theorem I1 (gl) (l:List qu) (hl:l.length=8):qM prog gl 221 [.sl 3 (j4 l)] (λr y H'=>y=.hs r 3 0 8/\H' r=some (.row 3 (j4 l))):=by
 refine qM.qa func221 [.tmp 2] ntmps221 λC w g root=>?_;refine qI ?_<| hl;refine qG [(.s 2,root)] (.one rfl) qH ⟨qB,qB⟩
def ni (gl:Nat->Option (List AV)) (p:qC) (n:Nat):Prop:=∀ (H:Nm->Option AO) (W:qK) (a:Nat),qj H p W->qt p W->W.left<n->a<W.qF.length->W.en=0->H (.u 2 0 0)=none ->
 qV prog gl 65 (Nm.under Wn) [.pt Wn 0,iv a] H (λ_ y H'=>y=qR.av (qg p n W a).2/\qj H' p (qg p n W a).1) qy
theorem sG {A G G2:Prop} (k:G2) (x:A) (h:A->jP G2->G:=by
 intro fx kk;refine qQ ?_
 repeat ((first|refine qf (id:=2) VT mixed ?_|refine qf (id:=7) VU mixed ?_|refine qf (id:=10) VV mixed ?_|refine qf (id:=11) VW mixed ?_);refine zQ ?_;refine qQ ?_)
 exact kk.h):G:=h x ⟨k⟩
theorem Ic (gl) (p:qC) (n:Nat) (hR:ni gl p n) (H:Nm->Option AO) (W:qK) (b up lo:Nat) (vs all:List qR) (hP:zq p) (hw:qt p W) (hn:W.left<n) (h0:W.en=0) (hm:vL p W.qF b up) (hv:∀ v∈vs,zO W.qJ.length W.qO.length v) (hr:Room 1 W)
  (hall:all.drop lo=vs) (hlo:lo+vs.length=all.length) (hpar:vT p b=vs.length) (hv2:vs.length<=1) (hO:qj H p W) (hL:H (.u 2 0 0)=some (.row 2 (jZ all))) :
  qV prog gl 203 vV [.pt Wn 0,iv b,iv up,.hs (.u 2 0 0) 2 lo vs.length] H (λr y H'=>y=.zT [qR.av (z8 p (qg p n) W b up vs).2,.hs r 3 0 8]/\H' r=some (.row 3 (j4 ((z8 p (qg p n) W b up vs).1.vars (some W.qF.length))))/\qj H' p (z8 p (qg p n) W b up vs).1) qy:=by
 have hT:=hO.top;have hA:=hO.qF;obtain⟨sl,hS⟩:=hO.zR;simp only [jC] at hT;have hl1:=hr.qF;have hl2:=hr.zR;have hal:W.qF.length<=1000:=qA;have hsl:W.stack.length<=1000:=qA;refine qV.qa func203 [.cell 8 115,.tmp 9] ntmps203 (λ_=>bZ) λC w g root hroot=>?_;have hr0:=hroot root (Nm.uH _);simp only [HA,Bool.or_eq_false_iff] at hr0;obtain⟨hr1,hr2⟩:=hr0;have fx:=zM hT hA hS hal<|hsl;have d1:=I7 gl;refine sG ?_<|@fx;clear fx d1;have hap:kA (.c Wn 0 1) W.qF++[[iv b,iv (dU W.qF.length ⟨b,up,j3⟩),.hs (.c (.c Wn 0 1) W.qF.length 2) 3 0 8]]=kA (.c Wn 0 1) (W.qF++[⟨b,up,j3⟩]):=OI (a:=⟨b,up,j3⟩)
 have hpos:¬ W.qF.length=0:=by
  obtain⟨a,ha,_⟩:=hw.a0;have:=(gS ha).1;omega
 have hoi:dU W.qF.length ⟨b,up,j3⟩=up:=by simp only [dU,hpos,if_false]
 rw [hoi] at hap;have hb0:jI p W b up vs 0={ W with qF:=W.qF++[⟨b,up,j3⟩],stack:=W.stack++[W.qF.length] }:=by simp [jI,aD]
 refine zU (λn st=>∃ i:Nat,n=vs.length - i/\i<=vs.length/\st.tm 0=.pt Wn 0/\st.tm 1=iv b/\st.tm 3=.hs (.u 2 0 0) 2 lo vs.length/\st.hp (.u 2 0 0)=some (.row 2 (jZ all))/\st.tm 8=.pt (.s 8) 0/\st.hp (.s 8)=some (.row 2 [[iv 0,iv 0]])/\st.tm 10=iv W.qF.length/\st.tm 11=iv i/\qj st.hp p (jI p W b up vs i)) vs.length ?_ ?_
 .refine⟨0,qA,qA,qB,qB,qB,dO,qB,qB,qB,qB,?_⟩;rw [hb0];refine⟨by simp [jC],?_,λi a ha=>?_,⟨[],by simp [eT]⟩,by simp [hO.zJ],rX,tg,λi c hc=>by simp [hO.cls i c hc],rF,ti⟩
  .simp [<- hap];rw [yU qB];refine OJ λi a ha=>?_;have hne:¬ i=W.qF.length:=by have:=(gS ha).1;omega
   have hne':¬ W.qF.length=i:=qA;simp [hne,hne']
  rcases aC i W.qF.length with hlt|hge
  .have ha':W.qF[i]?=some a:=by simpa [vn hlt] using ha
   have hne:¬ i=W.qF.length:=qA;have hne':¬ W.qF.length=i:=qA;simp [hO.act i a ha',hne,hne']
  .have hi:i=W.qF.length:=by
    have:=(gS ha).1;simp at this;omega
   subst hi;have ha':a=⟨b,up,j3⟩:=by simpa using ha.symm
   subst ha';simp
 clear hT hA hS hap hb0 hO;obtain⟨k,hk,hpk⟩:=hm.shape;obtain⟨_,hkE⟩:=gS hk;have jG:=(gS hk).1;rintro m st - - ⟨i,rfl,hi,t0,t1,t3,hp2,t8,hp8,t10,t11,hO⟩;have hT:=hO.top;have hA:=hO.qF;have hok:qt p (jI p W b up vs i):=DA hw hm hv hr;have hlen:(jI p W b up vs i).qF.length=W.qF.length+1:=by simp [jI]
 simp only [jC] at hT;by_cases hil:i<vs.length
 .obtain⟨x,hx⟩:∃ x,k.params[i]?=some x:=⟨_,gE qA⟩;obtain⟨hxl,hxE⟩:=gS hx;have hxr:=(hP.sh.names k (gM hk)).params x (gM hx);obtain⟨v,hvi⟩:=gX hil;have hva:all[lo+i]?=some v:=by rw [<- hvi,<- hall,tL]
  obtain⟨hal',hvE⟩:=gS hva;have hst:=HZ (w:=W) (up:=up) hP hk hx hvi;obtain⟨X,rfl⟩:∃ X:Nat,x=X:=⟨x.toNat,qA⟩;obtain⟨v1,v2⟩:=v;refine sG ?_<|qr t0 t1 t3 hp2 t8 hp8 t10 t11 hT hil hk hkE<|jQ jG hx hxE hxl hva hvE<|hal';intro K hK;have fx:=aI t0 (aI t10 hT);refine ut Wn rfl zG (hF:=Mo _ _ p (jI p W b up vs i) W.qF.length X (v1,v2) hP.sh hok qA qA (have ow:=hO;qj.re ow)) (h:=?_);rintro y H1 hO1;clear fx;rw [hst] at hO1;have hT1:=hO1.top;simp only [jC] at hT1;refine sG ?_<|qr t0 t1 t3 hp2 t8 hp8 t10 t11 hT hT1 hil hk<|jJ hkE jG hx hxE hxl hva hvE<|hal';refine⟨vs.length - (i+1),qA,i+1,rfl,qA,eC,by simp [t1],bG,jq,gW,by simp [hp8],by simp [t10],DZ,(have ow:=hO1;qj.re ow)⟩
 .obtain rfl:i=vs.length:=qA;have hbeg:jI p W b up vs vs.length=zd p W b up vs:=HY qA (qX _);rw [hbeg] at hO hok hlen hT hA;refine sG ?_<|j2 t0 t1 t3 t10 t11<|hT;intro K hK;have fx:=aI t0 (aI t10 hT);refine ut Wn rfl zG (hF:=hR _ (zd p W b up vs) W.qF.length (have ow:=hO;qj.re ow) hok hn qA h0 qB) (h:=?_);rintro y H1 ⟨rfl,hO1⟩;clear fx;obtain⟨hAf,hvok⟩:=dZ hP.sh n (zd p W b up vs) W.qF.length hok hn qA h0;have hent:z8 p (qg p n) W b up vs=(kG (qg p n (zd p W b up vs) W.qF.length).1,(qg p n (zd p W b up vs) W.qF.length).2):=rfl;generalize qg p n (zd p W b up vs) W.qF.length=q at hO1 hAf hvok hent;obtain⟨V,v1,v2⟩:=q;simp only at hO1 hAf hvok hent;have hVl:W.qF.length<V.qF.length:=by have:=hAf.grow.aP;omega
  obtain⟨a',ha'⟩:∃ a',V.qF[W.qF.length]?=some a':=⟨_,gE hVl⟩;obtain⟨_,haE⟩:=gS ha';have hal8:=(hAf.ok.vars _ a' ha').1;have hT1:=hO1.top;have hA1:=hO1.qF;have hV1:=hO1.act _ a' ha';obtain⟨sl1,hS1⟩:=hO1.zR;simp only [jC] at hT1;by_cases hen:V.en=0
  .have hstk:V.stack=W.stack++[W.qF.length]:=hAf.zR hen;have hsl1:V.stack.length=W.stack.length+1:=by rw [hstk];simp
   have hwr:IntKind.i64.wrap (W.stack.length:Int)=W.stack.length:=qi qA qA
   have hend:kG V={ V with stack:=W.stack }:=by
    unfold kG;rw [if_pos hen,hstk];simp
   rw [hend] at hent;rw [hsl1] at hT1;have hle1:(W.stack.length:Int)<=(W.stack.length:Int)+1:=qA;have hle0:(0:Int)<=(W.stack.length:Int):=qA;have fx:=qr t0 t1 t3 t8 hp8 t10 t11 hT hT1 hA1 hV1 hS1<|jJ hen hsl1 hwr hle1 hle0 ha' haE<|hVl;have d1:=I1 gl a'.vars hal8;refine sG ?_<|@fx;clear fx d1;rw [hent];refine qG [(.s 9,root)] (.one rfl) (by simp [t8];rfl) ⟨qB,?_,qj.o6 ?_ (λ_=>bZ) (λm hm=>gc) tk⟩
   .simp [hr1,hr2,qK.vars,ha']
   .exact⟨by simp [jC,hen],by simp [hA1],λi a ha=>by simp [hO1.act i a ha],⟨(W.qF.length:Int)::sl1,by simp [hS1,hstk,eT]⟩,by simp [hO1.zJ],Ao,xD,λi c hc=>by simp [hO1.cls i c hc],by simp [hO1.out],tV⟩
  .have hend:kG V=V:=by
    unfold kG;rw [if_neg hen]
   have henb:(V.en==0)=false:=dM;rw [hend] at hent;have fx:=qr t0 t1 t3 t8 hp8 t10 t11 hT hT1 hA1 hV1 henb<|qk ha' haE<|hVl;have d1:=I1 gl a'.vars hal8;refine sG ?_<|@fx;clear fx d1;rw [hent];refine qG [(.s 9,root)] (.one rfl) (by simp [t8];rfl) ⟨qB,?_,qj.o6 (have ow:=hO1;qj.re ow) (λ_=>bZ) (λm hm=>gc) tk⟩;simp [hr1,hr2,qK.vars,ha']
abbrev VX:qb:=iI<|.l 8 [7,6,5,4,3,2,1,0]<|.l 9 []<|.done
abbrev VY:qb:=pJ<|.done
theorem Bc {A G G2:Prop} (k:G2) (x:A) (h:A->jP G2->G:=by
 intro fx kk;refine qQ ?_
 repeat ((first|refine qf (id:=4) VX mixed ?_|refine qf (id:=5) VY mixed ?_);refine zQ ?_;refine qQ ?_)
 exact kk.h):G:=h x ⟨k⟩
theorem PP (gl) (p:qC) (n:Nat) (hR:ni gl p n) (H:Nm->Option AO) (W:qK) (f:qR) (lo:Nat) (vs all:List qR) (hP:zq p) (hw:qt p W) (hn:W.left<n) (h0:W.en=0) (hf:zO W.qJ.length W.qO.length f) (hv:∀ v∈vs,zO W.qJ.length W.qO.length v) (hr:Room 1 W)
  (hall:all.drop lo=vs) (hlo:lo+vs.length=all.length) (hv2:vs.length<=1) (hO:qj H p W) (hL:H (.u 2 0 0)=some (.row 2 (jZ all))) :
  qV prog gl 204 vV [.pt Wn 0,qR.av f,.hs (.u 2 0 0) 2 lo vs.length] H (λ_ y H'=>y=qR.av (vb p (qg p n) W f vs).2/\qj H' p (vb p (qg p n) W f vs).1) qy:=by
 have hT:=hO.top;simp only [jC] at hT;obtain⟨f1,f2⟩:=f;refine qV.qa func204 [.cell 6 115] ntmps204 (λ_=>bZ) λC w g root hroot=>?_;by_cases h2:f1=2
 .subst h2;have hf2:=hf.num;have hf3:=hf.fn rfl;simp only at hf2 hf3;obtain⟨i,rfl⟩:∃ i:Nat,f2=i:=⟨f2.toNat,qA⟩;have hil:i<W.qJ.length:=qA;obtain⟨g,hg⟩:=gX hil;obtain⟨_,hgE⟩:=gS hg;have hm:=hw.qJ i g hg;obtain⟨k,hk,hpk⟩:=hm.shape;obtain⟨jG,hkE⟩:=gS hk;have hF:=hO.qJ;by_cases hl:k.params.length=vs.length
  .have hc:vb p (qg p n) W (2,(i:Int)) vs=z8 p (qg p n) W g.1 g.2 vs:=by
    simp [vb,hg,hpk,hl]
   have hlb:((k.params.length:Int)==(vs.length:Int))=true:=by rw [hl];simp
   refine Bc ?_<|vA hT hF hil hg hgE hk hkE jG hlb<|@qx;intro K hK;have fx:=aI hT hF;refine Cc zG dO (hF:=Ic _ p n hR _ W g.1 g.2 lo vs all hP hw hn h0 hm hv hr hall hlo (by rw [hpk,hl]) hv2 (have ow:=hO;qj.re ow) dO) (h:=?_);rintro y H1 ⟨rfl,hp1,hO1⟩;clear fx;have hT1:=hO1.top;simp only [jC] at hT1;refine Bc ?_<|qk hT hT1<|hp1;rw [hc];refine qG [] .nil qH ⟨qB,qj.o6 (have ow:=hO1;qj.re ow) (λ_=>bZ) (λm hm=>gc) qB⟩
  .have hc:vb p (qg p n) W (2,(i:Int)) vs=({ W with en:=6 },(0,0)):=by
    simp [vb,hg,hpk,hl]
   have hlb:((k.params.length:Int)==(vs.length:Int))=false:=by
    rw [beq_eq_false_iff_ne];omega
   refine Bc ?_<|vA hT hF hil hg hgE hk hkE jG hlb<|@qx;rw [hc];refine qG [] .nil qH ⟨qB,qj.o6 ⟨rU,rg,λi a ha=>rH,hO.zR.imp λl hl=>ra,r7,oI,oO,λi c hc=>pz,oN,oF⟩ (λ_=>bZ) (λm hm=>gc) qB⟩
 .have hb1:(f1==2)=false:=oQ;have hc:vb p (qg p n) W (f1,f2) vs=({ W with en:=5 },(0,0)):=by simp [vb,h2]
  refine Bc ?_<|qk hT hb1<|@qx;rw [hc];refine qG [] .nil qH ⟨qB,qj.o6 ⟨rU,rg,λi a ha=>rH,hO.zR.imp λl hl=>ra,r7,oI,oO,λi c hc=>pz,oN,oF⟩ (λ_=>bZ) (λm hm=>gc) qB⟩
end Go.Proofs.YtjgpejikjhojcaaGreatDoor
end
