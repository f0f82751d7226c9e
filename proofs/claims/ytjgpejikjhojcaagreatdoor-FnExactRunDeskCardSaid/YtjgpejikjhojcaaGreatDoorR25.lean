import Derived.Test.YtjgpejikjhojcaaGreatDoorR22
import Derived.Test.YtjgpejikjhojcaaGreatDoorR12
set_option linter.unusedSimpArgs false
set_option linter.unusedVariables false
set_option maxRecDepth 100000
set_option maxHeartbeats 4000000

section
namespace Go.Proofs.YtjgpejikjhojcaaGreatDoor
open Go Go.Hm Go.Proofs Tryz
abbrev V3:qV:=tD<|.l 13 [6,5,4]<|.l 14 []<|.done
abbrev V4:qV:=a7<|.l 7 [6,5,4,3,2,1]<|.l 8 []<|.done
abbrev V5:qV:=kf<|.l 11 [10,9,8,7,6,5,4,3,2,1]<|.l 12 []<|.done
theorem Mw (gl) (v:qW):qM prog gl 156 [qW.av v] (λ_ y _=>y=iv (Hm.shown v)):=by
 refine qM.q9 func156 [.tmp 2] ntmps156 λC w g root=>?_;by_cases h1:v.1=1
 .skip
  refine qJ ?_<| h1;refine qF [] .nil qE (by simp [Hm.shown,h1])
 by_cases h2:v.1=2
 .skip
  refine qJ ?_<|aI h1<|h2;refine qF [] .nil qE (by simp [Hm.shown,h1,h2])
 by_cases h3:v.1=3
 .skip
  refine qJ ?_<|qk h1 h2<|h3;refine qF [] .nil qE BM
 .skip
  refine qJ ?_<|qk h1 h2<|h3;refine qF [] .nil qE BM
theorem CF {A G G2:Prop} (k:G2) (x:A) (h:A->jL G2->G:=by
 intro fx kk;refine qK ?_
 repeat ((first|refine qQ (id:=1) V3 mixed ?_|refine qQ (id:=3) V4 mixed ?_|refine qQ (id:=6) V5 mixed ?_);refine zK ?_;refine qK ?_)
 exact kk.h):G:=h x ⟨k⟩
theorem GW (gl) (H:Nm->Option AO) (p:qC) (W:qL) (a x:Nat) (hP:zr p) (hw:zF p W) (ha:a<W.qI.length) (hx:x<8) (hO:qt H p W) :
  qZ prog gl 151 (Nm.under Wn) [.pt Wn 0,iv a,iv x] H (λ_ y H'=>y=.zX [iv (zI p (W.qG a) x),.ep (v8 (W.loc p a x)) 3 x 0]/\qt H' p W) zG:=by
 have hh:=hP.jj;have hxi:(x:Int)<8:=qA;have hlen:=hw.ky;obtain⟨c,hc⟩:=gX ha;obtain⟨_,hcE⟩:=gS hc;have qy:=hw.wo a c hc;obtain⟨k,hk⟩:=gX qy;have hbk:=wI hc;have hT:=hO.top;have hA:=hO.qI;have hG:=hO.zJ;have hgl:=hw.zJ.1;simp only [jP] at hT;refine qZ.q9 func151 [.tmp 6,.tmp 7] ntmps151 (λ_=>vN rfl) λC w g root hroot=>?_;rcases se (x:=(x:Int)) hh hw ha with⟨h1,h2⟩|⟨o,i,d,ho,h1,h2,h3,hd,hdb,hins⟩
 .rw [hbk] at h1;have h0:zI p c.qG x<0:=qA;have fx:=jS hT hA hc hcE ha h1 hG hgl hx hxi<|h0;have c1:=eW gl p c.qG k x hk hP.br hh;refine CF ?_<|@fx;clear fx c1;refine qF [] .nil qE ⟨by simp [hbk,h1,h2,v8],?_⟩;exact (have ow:=hO;qt.re ow)
 .rw [hbk] at h1;have h0:¬ (o:Int)<0:=qA;have fx:=jS hT hA hc hcE ha h1 hG hgl hx hxi<|h0;have c1:=eW gl p c.qG k x hk hP.br hh;refine CF ?_<|@fx;clear fx c1;refine zQ (λn st=>∃ b:Nat,n=b/\b<W.qI.length/\aA W.qI o b b=i/\jX p (W.qG b) o=true/\st.tm 0=.pt Wn 0/\st.tm 1=iv b/\st.tm 2=iv x/\st.tm 8=iv o/\qt st.hp p W) a ?_ ?_
  .exact⟨a,rfl,ha,h3.symm,hins,qB,qB,qB,qB,(have ow:=hO;qt.re ow)⟩
  clear hT hA hG hO;rintro n st - - ⟨b,rfl,hb,hcl,hib,h0',h1',h2',h8',hO⟩;obtain⟨e,he⟩:=gX hb;obtain⟨_,heE⟩:=gS he;have hT:=hO.top;have hA:=hO.qI;simp only [jP] at hT;have hV:=hO.act n e he;have hvl:=(hw.vars n e he).1;by_cases heb:e.qG=o
  .have hni:n=i:=by rw [<- hcl,sK he heb]
   subst hni;refine CF ?_<|qh h0' h1' h2' h8' hT hA he heE hb heb hV hvl<|qk hx hxi<|@qz;refine qF [] .nil qE ⟨by simp [hbk,h1,h2,v8],?_⟩;exact (have ow:=hO;qt.re ow)
  .obtain⟨e1,e2,e3⟩:=my hh hw he heb ho hib;have hne:¬ ((e.qG:Int)=o):=qA;have hoi:dY n e=e.up:=by simp only [dY];rw [if_neg qA]
   refine CF ?_<|jS h0' h1' h2' h8' hT hA he heE hb hne<|aI hoi<|@qz;refine⟨e.up,qA,e.up,rfl,qA,?_,e3,by simp [h0'],qB,by simp [h2'],by simp [h8'],(have ow:=hO;qt.re ow)⟩;rw [<- hcl,Bk hh hw ho he heb hib]
theorem KI (gl) (H:Nm->Option AO) (p:qC) (W:qL) (a:Nat) (o:Int) (ha:a<W.qI.length) (hw:zF p W) (hO:qt H p W) :
  qZ prog gl 152 (Nm.under Wn) [.pt Wn 0,iv a,iv o] H (λ_ y H'=>y=iv (Hm.yf p (W.qG a) o)/\qt H' p W) zG:=by
 have hlen:=hw.ky;obtain⟨c,hc⟩:=gX ha;obtain⟨_,hcE⟩:=gS hc;have qy:=hw.wo a c hc;obtain⟨k,hk⟩:=gX qy;obtain⟨_,hkE⟩:=gS hk;have hbk:=wI hc;have hka:j9 p c.qG=k.kind:=fP;have hT:=hO.top;have hA:=hO.qI;simp only [jP] at hT;refine qZ.q9 func152 [.tmp 6] ntmps152 (λ_=>vN rfl) λC w g root hroot=>?_;by_cases h0:o<0
 .skip
  refine qJ ?_<|vI hT hA hc hcE ha h0 hk hkE<|qy;refine qF [] .nil qE ⟨by simp [Hm.yf,h0],(have ow:=hO;qt.re ow)⟩
 by_cases h1:o=c.qG
 .subst h1;by_cases h2:k.kind=2
  .skip
   refine qJ ?_<|y8 hT hA hc hcE ha h0 h2 hk hkE<|qy;refine qF [] .nil qE ⟨by simp [Hm.yf,h0,hbk,hka,h2],(have ow:=hO;qt.re ow)⟩
  .skip
   refine qJ ?_<|y8 hT hA hc hcE ha h0 h2 hk hkE<|qy;refine qF [] .nil qE ⟨by simp [Hm.yf,h0,hbk,hka,h2],(have ow:=hO;qt.re ow)⟩
 .have hb1:(o==(c.qG:Int))=false:=tu;refine qJ ?_<|y8 hT hA hc hcE ha h0 hb1 hk hkE<|qy;refine qF [] .nil qE ⟨by simp [Hm.yf,h0,h1,hbk],(have ow:=hO;qt.re ow)⟩
theorem Rh (gl) (H:Nm->Option AO) (p:qC) (W:qL) (x:Nat) (hw:zF p W) (hx:x<8) (hO:qt H p W) :
  qZ prog gl 153 (Nm.under Wn) [.pt Wn 0,iv x] H (λ_ y H'=>(match W.get none x with|some v=>y=.zX [qW.av v,bv true]|none=>y=.zX [qW.av (1,70),bv (decide (x=7))])/\qt H' p W) zG:=by
 have hT:=hO.top;have hG:=hO.zJ;have hxi:(x:Int)<8:=qA;simp only [jP] at hT;have hgl:=hw.zJ.1;obtain⟨s,hs⟩:∃ s,W.globals[x]?=some s:=⟨_,gE qA⟩;obtain⟨_,hsE⟩:=gS hs;have hget:W.get none x=s:=by simp [qL.get,qL.vars,hs]
 refine qZ.q9 func153 [.cell 4 115,.tmp 5] ntmps153 (λ_=>vN rfl) λC w g root hroot=>?_
 cases s with
 | some v =>
  refine qJ ?_<|jI hT hG hgl hx hxi hs<|hsE;refine qF [] .nil qE ⟨by rw [hget];simp,(have ow:=hO;qt.re ow)⟩
 | none =>
  by_cases h7:x=7
  .subst h7;refine qJ ?_<|zN hT hG hgl hs<|hsE;refine qF [] .nil qE ⟨by rw [hget];simp,(have ow:=hO;qt.re ow)⟩
  .have h7i:¬ (x:Int)=7:=qA;have h7b:((x:Int)==7)=false:=by simpa using h7i
   refine qJ ?_<|jN hT hG hgl hx hxi hs hsE<|h7b;refine qF [] .nil qE ⟨by rw [hget];simp [h7,h7i],(have ow:=hO;qt.re ow)⟩
abbrev Fp:qV:=kf<|.l 11 [10,9,8,7,6,5,4,3,2,1,0]<|.l 12 []<|.done
theorem qA6 {v:Int} (hv:0<=v):∃ k:Nat,v.tmod 1000=k/\k<1000:=by
 have h1:=Int.tmod_nonneg 1000 hv;have h2:=Int.tmod_lt_of_pos v (show (0:Int)<1000 by omega);exact⟨(v.tmod 1000).toNat,qA,qA⟩
theorem K7 (gl) (H:Nm->Option AO) (p:qC) (W:qL) (a x:Nat) (hP:zr p) (hw:zF p W) (ha:a<W.qI.length) (hx:x<8) (hO:qt H p W) :
  qZ prog gl 103 (Nm.under Wn) [.pt Wn 0,iv a,iv x] H (λ_ y H'=>y=qW.av (jY p W a x).2/\qt H' p (jY p W a x).1) zG:=by
 have hh:=hP.jj;have hxi:(x:Int)<8:=qA;have hll:=FI (x:=(x:Int)) hh hw ha;have hT:=hO.top;simp only [jP] at hT;have hV8:=(hw.Cu hll).1;refine qZ.q9 func103 [.cell 6 115] ntmps103 (λ_=>vN rfl) λC w g root hroot=>?_;refine qJ ?_<|qd;intro K hK;have fx:=qd;refine u0 Wn rfl zE (hF:=GW _ _ p W a x hP hw ha hx (have ow:=hO;qt.re ow)) (h:=?_);rintro y H1 ⟨rfl,hO1⟩;clear fx;have hV:=hO1.loc hll;obtain⟨l,hl⟩:∃ l,W.loc p a x=l:=⟨_,rfl⟩;obtain⟨o,ho⟩:∃ o,zI p (W.qG a) x=o:=⟨_,rfl⟩;rw [hl] at hV hV8 ⊢;rw [ho];obtain⟨s,hs⟩:∃ s,(W.vars l)[x]?=some s:=⟨_,gE qA⟩;obtain⟨_,hsE⟩:=gS hs;have hget:W.get (W.loc p a x) x=s:=by rw [hl];simp [qL.get,hs]
 have hT1:=hO1.top;simp only [jP] at hT1
 cases s with
 | some v =>
  have hlw:jY p W a x=(W,v):=by simp only [jY,hget]
  refine qJ ?_<|jN hT hT1 hV hV8 hs hsE hx<|hxi;rw [hlw];refine qF [] .nil qE ⟨qB,(have ow:=hO1;qt.re ow)⟩
 | none =>
  refine qJ ?_<|jN hT hT1 hV hV8 hs hsE hx<|hxi;intro K hK;have fx:=aI hT hT1;refine u0 Wn rfl cM (hF:=KI _ _ p W a o ha hw (have ow:=hO1;qt.re ow)) (h:=?_);rintro y H2 ⟨rfl,hO2⟩;clear fx;have hT2:=hO2.top;simp only [jP] at hT2;by_cases h4:Hm.yf p (W.qG a) o=4
  .skip
   refine qJ ?_<|zD hT hT1 hT2<|h4;intro K hK;have fx:=aI hT (aI hT1 hT2);refine u0 Wn rfl (by simp [hT2]) (hF:=Rh _ _ p W x hw hx (have ow:=hO2;qt.re ow)) (h:=?_);rintro y H3 ⟨hy,hO3⟩;clear fx;have hT3:=hO3.top;simp only [jP] at hT3
   cases hg:W.get none x with
   | some v =>
    rw [hg] at hy;simp only at hy;subst hy;have hlw:jY p W a x=(W,v):=by simp only [jY,hget,ho,h4,if_true,hg]
    refine qJ ?_<|zD hT hT1 hT2<|hT3;rw [hlw];refine qF [] .nil qE ⟨qB,(have ow:=hO3;qt.re ow)⟩
   | none =>
    rw [hg] at hy;simp only at hy;subst hy;by_cases h7:x=7
    .subst h7;have hlw:jY p W a ((7:Nat):Int)=(W,(1,70)):=by simp only [jY,hget,ho,h4,if_true,hg];simp
     refine qJ ?_<|zD hT hT1 hT2<|hT3;rw [hlw];refine qF [] .nil qE ⟨qB,(have ow:=hO3;qt.re ow)⟩
    .have hlw:jY p W a x=({ W with en:=4 },(0,0)):=by
      have:¬ (x:Int)=7:=qA;simp only [jY,hget,ho,h4,if_true,hg,this,if_false]
     have h7i:¬ (x:Int)=7:=qA;refine qJ ?_<|jI hT hT1 hT2 hT3 h7 h7i<|h4;rw [hlw];refine qF [] .nil qE ⟨qB,⟨by simp [hO3.top,jP,hT3],by simp [hO3.qI,hT3],λi a ha=>by simp [hO3.act i a ha,hT3],hO3.jl.imp λl hl=>by simp [hl,hT3],by simp [hO3.zJ,hT3],by simp [hO3.qH,hT3],by simp [hO3.jA,hT3],λi c hc=>by simp [hO3.cls i c hc,hT3],by simp [hO3.out,hT3],by simp [hO3.zo,hT3]⟩⟩
  .have hlw:jY p W a x=({ W with en:=Hm.yf p (W.qG a) o },(0,0)):=by simp only [jY,hget,ho,h4,if_false]
   refine qJ ?_<|zD hT hT1 hT2<|h4;rw [hlw];refine qF [] .nil qE ⟨qB,⟨by simp [hO2.top,jP,hT2],by simp [hO2.qI,hT2],λi a ha=>by simp [hO2.act i a ha,hT2],hO2.jl.imp λl hl=>by simp [hl,hT2],by simp [hO2.zJ,hT2],by simp [hO2.qH,hT2],by simp [hO2.jA,hT2],λi c hc=>by simp [hO2.cls i c hc,hT2],by simp [hO2.out,hT2],by simp [hO2.zo,hT2]⟩⟩
theorem LS {hp hp':Nm->Option AO} {p:qC} {W:qL} {l:Option Nat} {x:Nat} {s:qr} (h:qt hp p W) (hh:∀ m,Nm.under Wn m=true->hp' m=if m=v8 l then some (.row 3 (zA ((W.vars l).set x s))) else hp m):qt hp' p (W.set l x s):=by
 have hu:∀ j,Nm.under Wn (.c Wn 0 j)=true:=λj=>ww;have hu2:∀ j i k,Nm.under Wn (.c (.c Wn 0 j) i k)=true:=λj i k=>ww
 cases l with
 | none =>
  refine⟨?_,?_,λi a ha=>?_,?_,?_,?_,?_,λi c hc=>?_,?_,?_⟩
  .rw [hh _ ww];simp [v8];exact h.top
  .rw [hh _ (hu 1)];simp [v8];exact h.qI
  .rw [hh _ (hu2 1 i 2)];simp [v8];exact h.act i a ha
  .rw [hh _ (hu 2)];simp [v8];exact h.jl.imp λl hl=>by rw [hl];rfl
  .rw [hh _ (hu 3)];simp [v8,qL.set,qL.vars]
  .rw [hh _ (hu 4)];simp [v8];exact h.qH
  .rw [hh _ (hu 5)];simp [v8];exact h.jA
  .rw [hh _ (hu2 5 i 0)];simp [v8];exact h.cls i c hc
  .rw [hh _ (hu 6)];simp [v8];exact h.out
  .rw [hh _ (hu 7)];simp [v8];exact h.zo
 | some j =>
  have hrow:kB (.c Wn 0 1) (W.set (some j) x s).qI=kB (.c Wn 0 1) W.qI:=by
   apply y6;intro i;simp only [Au,qL.set,fE]
   cases hi:W.qI[i]? with
   | none=>rfl
   | some a=>by_cases e:j=i <;> simp [e,dY]
  refine⟨?_,?_,λi a ha=>?_,?_,?_,?_,?_,λi c hc=>?_,?_,?_⟩
  .rw [hh _ ww];simp [v8];rw [h.top];simp [jP,qL.set]
  .rw [hh _ (hu 1),hrow];simp [v8];exact h.qI
  .rw [hh _ (hu2 1 i 2)];simp only [qL.set,fE] at ha;obtain⟨b,hb,e⟩:=zu.1 ha;by_cases e2:j=i
   .subst e2;simp only [if_true] at e;subst e;simp [v8,qL.vars,hb]
   .have e3:¬ i=j:=λe=>e2 e.symm;simp only [e2,if_false] at e;subst e;simp [v8,e3];exact h.act i b hb
  .rw [hh _ (hu 2)];simp [v8];exact h.jl.imp λl hl=>by rw [hl];rfl
  .rw [hh _ (hu 3)];simp [v8];exact h.zJ
  .rw [hh _ (hu 4)];simp [v8];exact h.qH
  .rw [hh _ (hu 5)];simp [v8];exact h.jA
  .rw [hh _ (hu2 5 i 0)];simp [v8];exact h.cls i c hc
  .rw [hh _ (hu 6)];simp [v8];exact h.out
  .rw [hh _ (hu 7)];simp [v8];exact h.zo
theorem NL (gl) (H:Nm->Option AO) (p:qC) (W:qL) (a x:Nat) (v:qW) (hP:zr p) (hw:zF p W) (ha:a<W.qI.length) (hx:x<8) (hO:qt H p W) :
  qZ prog gl 157 (Nm.under Wn) [.pt Wn 0,iv a,iv x,qW.av v] H (λ_ y H'=>qt H' p (di p W a x v)) zG:=by
 have hh:=hP.jj;have hxi:(x:Int)<8:=qA;have hll:=FI (x:=(x:Int)) hh hw ha;have hT:=hO.top;simp only [jP] at hT;have hV8:=(hw.Cu hll).1;obtain⟨v1,v2⟩:=v;refine qZ.q9 func157 [] ntmps157 (λ_=>vN rfl) λC w g root hroot=>?_;refine qJ ?_<|qd;intro K hK;have fx:=qd;refine u0 Wn rfl zE (hF:=GW _ _ p W a x hP hw ha hx (have ow:=hO;qt.re ow)) (h:=?_);rintro y H1 ⟨rfl,hO1⟩;clear fx;have hV:=hO1.loc hll;obtain⟨l,hl⟩:∃ l,W.loc p a x=l:=⟨_,rfl⟩;have hlw:di p W a x (v1,v2)=W.set l x (some (v1,v2)):=by simp only [di,hl]
 rw [hl] at hV hV8 ⊢;have hT1:=hO1.top;simp only [jP] at hT1;refine qJ ?_<|jH hT hT1 hV hV8 hx<|hxi;rw [hlw];refine yb [] .nil qE (qt.fin (LS hO1 λm hm=>?_));simp [hm]
theorem qAB (gl) (H:Nm->Option AO) (p:qC) (W:qL) (a x:Nat) (hP:zr p) (hw:zF p W) (ha:a<W.qI.length) (hx:x<8) (hO:qt H p W) :
  qZ prog gl 154 (Nm.under Wn) [.pt Wn 0,iv a,iv x] H (λ_ y H'=>qt H' p (aN p W a x)) zG:=by
 have hh:=hP.jj;have hxi:(x:Int)<8:=qA;have hll:=FI (x:=(x:Int)) hh hw ha;have hT:=hO.top;simp only [jP] at hT;have hV8:=(hw.Cu hll).1;refine qZ.q9 func154 [] ntmps154 (λ_=>vN rfl) λC w g root hroot=>?_;refine qJ ?_<|qd;intro K hK;have fx:=qd;refine u0 Wn rfl zE (hF:=GW _ _ p W a x hP hw ha hx (have ow:=hO;qt.re ow)) (h:=?_);rintro y H1 ⟨rfl,hO1⟩;clear fx;have hV:=hO1.loc hll;obtain⟨l,hl⟩:∃ l,W.loc p a x=l:=⟨_,rfl⟩;obtain⟨o,ho⟩:∃ o,zI p (W.qG a) x=o:=⟨_,rfl⟩;rw [hl] at hV hV8 ⊢;rw [ho];obtain⟨s,hs⟩:∃ s,(W.vars l)[x]?=some s:=⟨_,gE qA⟩;obtain⟨_,hsE⟩:=gS hs;have hget:W.get (W.loc p a x) x=s:=by rw [hl];simp [qL.get,hs]
 have hT1:=hO1.top;simp only [jP] at hT1
 cases s with
 | some v =>
  have hlw:aN p W a x=W.set l x none:=by
   unfold aN;rw [hget];simp only [hl]
  refine qJ ?_<|jN hT hT1 hV hV8 hs hsE hx<|hxi;rw [hlw];refine yb [] .nil qE (qt.fin (LS hO1 λm hm=>?_));simp [hm]
 | none =>
  have hlw:aN p W a x={ W with en:=Hm.yf p (W.qG a) o }:=by simp only [aN,hget,ho]
  refine qJ ?_<|jN hT hT1 hV hV8 hs hsE hx<|hxi;intro K hK;have fx:=aI hT hT1;refine u0 Wn rfl cM (hF:=KI _ _ p W a o ha hw (have ow:=hO1;qt.re ow)) (h:=?_);rintro y H2 ⟨rfl,hO2⟩;clear fx;have hT2:=hO2.top;simp only [jP] at hT2;refine qJ ?_<|qk hT hT1<|hT2;rw [hlw];refine qF [] .nil qE ⟨by simp [hO2.top,jP,hT2],by simp [hO2.qI,hT2],λi a ha=>by simp [hO2.act i a ha,hT2],hO2.jl.imp λl hl=>by simp [hl,hT2],by simp [hO2.zJ,hT2],by simp [hO2.qH,hT2],by simp [hO2.jA,hT2],λi c hc=>by simp [hO2.cls i c hc,hT2],by simp [hO2.out,hT2],by simp [hO2.zo,hT2]⟩
theorem VM (gl) (H:Nm->Option AO) (p:qC) (W:qL) (u v:qW) (hu:ze W.qH.length W.qT.length u) (hv:ze W.qH.length W.qT.length v) (hO:qt H p W) :
  qZ prog gl 202 (Nm.under Wn) [.pt Wn 0,qW.av u,qW.av v] H (λ_ y H'=>y=qW.av (uM W u v).2/\qt H' p (uM W u v).1) zG:=by
 have hT:=hO.top;simp only [jP] at hT;obtain⟨u1,u2⟩:=u;obtain⟨v1,v2⟩:=v;have hu2:=hu.num;have hv2:=hv.num;simp only at hu2 hv2;have hwr:IntKind.i64.wrap (u2+v2)=u2+v2:=qm qA qA;obtain⟨q,hq,hql⟩:=qA6 (v:=u2+v2) qA;have hwq:IntKind.i64.wrap (q:Int)=q:=qm qA qA;refine qZ.q9 func202 [.cell 6 115] ntmps202 (λ_=>vN rfl) λC w g root hroot=>?_;by_cases h1:u1=1
 .by_cases h2:v1=1
  .subst h1;subst h2;have hlw:uM W (1,u2) (1,v2)=(W,(1,(q:Int))):=by simp [uM,hq]
   refine qJ ?_<|zN hT hwr hq hwq<|@qz;rw [hlw];refine qF [] .nil qE ⟨qB,(have ow:=hO;qt.re ow)⟩
  .subst h1;have hb2:(v1==1)=false:=mb;have hlw:uM W (1,u2) (v1,v2)=({ W with en:=5 },(0,0)):=by simp [uM,h2]
   refine qJ ?_<|qk hT hb2<|@qz;rw [hlw];refine qF [] .nil qE ⟨qB,⟨sD,rX,λi a ha=>rQ,hO.jl.imp λl hl=>rn,ru,o6,oi,λi c hc=>rg,o8,o9⟩⟩
 .have hb1:(u1==1)=false:=tu;have hlw:uM W (u1,u2) (v1,v2)=({ W with en:=5 },(0,0)):=by simp [uM,h1]
  refine qJ ?_<|qk hT hb1<|@qz;rw [hlw];refine qF [] .nil qE ⟨qB,⟨sD,rX,λi a ha=>rQ,hO.jl.imp λl hl=>rn,ru,o6,oi,λi c hc=>rg,o8,o9⟩⟩
theorem PB (gl) (H:Nm->Option AO) (p:qC) (W:qL) (v:qW) (x:Nat) (hw:zF p W) (hv:ze W.qH.length W.qT.length v) (hx:x<8) (hO:qt H p W) :
  qZ prog gl 205 (Nm.under Wn) [.pt Wn 0,qW.av v,iv x] H (λ_ y H'=>y=qW.av (ut W v x).2/\qt H' p (ut W v x).1) zG:=by
 have hT:=hO.top;simp only [jP] at hT;have hxi:(x:Int)<8:=qA;obtain⟨v1,v2⟩:=v;refine qZ.q9 func205 [.cell 6 115] ntmps205 (λ_=>vN rfl) λC w g root hroot=>?_;by_cases h1:v1=3
 .subst h1;have hv2:=hv.num;have hv3:=hv.cls rfl;simp only at hv2 hv3;obtain⟨i,rfl⟩:∃ i:Nat,v2=i:=⟨v2.toNat,qA⟩;have hil:i<W.qT.length:=qA;obtain⟨c,hc⟩:=gX hil;have hC:=hO.jA;have hCc:=hO.cls i c hc;have hcl:=(hw.cls c (gM hc)).1;obtain⟨s,hs⟩:∃ s,c[x]?=some s:=⟨_,gE qA⟩;obtain⟨_,hsE⟩:=gS hs
  cases s with
  | some u =>
   have hlw:ut W (3,(i:Int)) x=(W,u):=BN;have fx:=y8 hT hC hCc hil hcl hs hsE hx hxi<|@qz;refine qK ?_
   repeat ((first|refine qQ (id:=4) Fp mixed ?_);refine zK ?_;refine qK ?_)
   clear fx;rw [hlw];refine qF [] .nil qE ⟨qB,(have ow:=hO;qt.re ow)⟩
  | none =>
   have hlw:ut W (3,(i:Int)) x=({ W with en:=7 },(0,0)):=BN;have fx:=y8 hT hC hCc hil hcl hs hsE hx hxi<|@qz;refine qK ?_
   repeat ((first|refine qQ (id:=4) Fp mixed ?_);refine zK ?_;refine qK ?_)
   clear fx;rw [hlw];refine qF [] .nil qE ⟨qB,⟨sD,rX,λi a ha=>rQ,hO.jl.imp λl hl=>rn,ru,o6,oi,λi c hc=>rg,o8,o9⟩⟩
 .have hb1:(v1==3)=false:=tu;have hlw:ut W (v1,v2) x=({ W with en:=5 },(0,0)):=by simp [ut,h1]
  have fx:=qk hT hb1<|@qz;refine qK ?_
  repeat ((first|refine qQ (id:=4) Fp mixed ?_);refine zK ?_;refine qK ?_)
  clear fx;rw [hlw];refine qF [] .nil qE ⟨qB,⟨sD,rX,λi a ha=>rQ,hO.jl.imp λl hl=>rn,ru,o6,oi,λi c hc=>rg,o8,o9⟩⟩
theorem T6 (gl) (H:Nm->Option AO) (p:qC) (W:qL) (a:Nat) (xs:List Int) (hP:zr p) (hw:zF p W) (ha:a<W.qI.length) (hxs:∀ x∈xs,0<=x/\x<=7) (hxl:xs.length<=2) (hO:qt H p W) (hL:H (.u 2 0 0)=some (.row 1 (qj xs))) :
  qZ prog gl 201 zd [.pt Wn 0,iv a,.hs (.u 2 0 0) 1 0 xs.length] H (λr y H'=>y=.hs r 2 0 (zW p W a xs).2.length/\H' r=some (.row 2 (zh (zW p W a xs).2))/\qt H' p (zW p W a xs).1) zG:=by
 refine qZ.q9 func201 [.tmp 6] ntmps201 (λ_=>vK) λC w g root hroot=>?_;have hr0:=hroot root (Nm.kj _);simp only [py,Bool.or_eq_false_iff] at hr0;obtain⟨hr1,hr2⟩:=hr0;refine qJ ?_<|qd;refine zQ (λn st=>∃ (i:Nat) (V:qL) (vs:List qW),n=xs.length - i/\i<=xs.length/\vs.length=i/\zW p W a xs=((zW p V a (xs.drop i)).1,vs++(zW p V a (xs.drop i)).2)/\zF p V/\a<V.qI.length/\st.tm 0=.pt Wn 0/\st.tm 1=iv a/\st.tm 2=.hs (.u 2 0 0) 1 0 xs.length/\st.hp (.u 2 0 0)=some (.row 1 (qj xs))/\st.tm 7=.hs (.s 7) 2 0 vs.length/\st.hp (.s 7)=some (.row 2 (zh vs))/\st.tm 8=iv i/\qt st.hp p V) xs.length ?_ ?_
 .exact⟨0,W,[],qA,qA,rfl,qB,hw,ha,qB,qB,qB,ov,qB,qB,qB,(have ow:=hO;qt.re ow)⟩
 rintro n st - - ⟨i,V,vs,rfl,hi,hvl,hres,hV,haV,h0,h1,h2,hp2,h7,hp7,h8,hO⟩;have hT:=hO.top;simp only [jP] at hT
 have hstop:i=xs.length\/V.en≠0->zW p W a xs=(V,vs):=by
  intro e;rw [hres];rcases e with e|e
  .subst e;simp [zW]
  .cases hd:xs.drop i with
   | nil=>simp [zW]
   | cons y l=>simp only [zW];rw [if_pos e];simp
 by_cases hil:i<xs.length
 .by_cases hen:V.en=0
  .obtain⟨x,hx⟩:=gX hil;obtain⟨_,hxE⟩:=gS hx;obtain⟨hx0,hx7⟩:=hxs x (gM hx);obtain⟨X,rfl⟩:∃ X:Nat,x=X:=⟨x.toNat,qA⟩;have hdr:xs.drop i=(X:Int)::xs.drop (i+1):=by rw [gV hil,hxE]
   have hstep:zW p V a (xs.drop i)=((zW p (jY p V a X).1 a (xs.drop (i+1))).1,(jY p V a X).2::(zW p (jY p V a X).1 a (xs.drop (i+1))).2):=by
    rw [hdr];simp only [zW];rw [if_neg (by rw [hen];decide)]
   obtain⟨hA,_,_⟩:=CN (a:=a) (x:=(X:Int)) hV;have hl2:vs.length<=2:=qA;refine qJ ?_<|jS h0 h1 h2 hp2 h7 hp7 h8 hT hil hen<|aI hx<|hxE;intro K hK;have fx:=aI h0 (aI h1 hT);refine u0 Wn rfl zE (hF:=K7 _ _ p V a X hP hV haV qA (have ow:=hO;qt.re ow)) (h:=?_);rintro y H1 ⟨rfl,hO1⟩;clear fx;generalize hq:jY p V a X=q at hstep hA hO1;obtain⟨V',v1,v2⟩:=q;refine qJ ?_<|vI h0 h1 h2 hp2 h7 hp7 h8 hT<|hl2;refine⟨xs.length - (i+1),qA,i+1,V',vs++[(v1,v2)],rfl,qA,by simp [hvl],?_,hA.ok,uQ haV hA.grow.aF,by simp [h0,hT],zl,ya,yw,qB,mT,EM,(have ow:=hO1;qt.re ow)⟩;rw [hres,hstep];simp
  .have hend:=hstop (.inr hen);have henb:(V.en==0)=false:=dU;refine qJ ?_<|y8 h0 h1 h2 hp2 h7 hp7 h8 hT hil<|henb;rw [hend];refine qF [(.s 6,root)] (.one rfl) qE ⟨qB,by simp [hp7,hr1,hr2],qt.pF (have ow:=hO;qt.re ow) (λ_=>vK) (λm hm=>cR) xA⟩
 .have hend:=hstop (.inl qA);refine qJ ?_<|vI h0 h1 h2 hp2 h7 hp7 h8 hT<|hil;rw [hend];refine qF [(.s 6,root)] (.one rfl) qE ⟨qB,by simp [hp7,hr1,hr2],qt.pF (have ow:=hO;qt.re ow) (λ_=>vK) (λm hm=>cR) xA⟩
abbrev V6:qV:=a7<|.l 7 [6,5,4,3,2,1,0]<|.q 8<|.l 9 [4,3,2,1,0]<|.l 10 [0]<|.q 11<|.q 12<|.l 13 []<|.done
abbrev V7:qV:=A6<|.l 18 [8,7,6,5,4,3,2]<|.done
abbrev V8:qV:=ea<|.l 14 []<|.done
abbrev V9:qV:=ct<|.l 9 [3,2,1,0]<|.l 10 [3,2,1]<|.l 11 []<|.done
theorem O4 {n m:Nm} {l:List Hm.Act} {g:List AV->List AV} (h:∀ (i:Nat) a,l[i]?=some a->g [iv a.qG,iv (dY i a),.hs (.c n i 2) 3 0 8]=[iv a.qG,iv (dY i a),.hs (.c m i 2) 3 0 8]):(kB n l).map g=kB m l:=by
 apply y6;intro j;rw [jZ,Au,Au]
 cases hj:l[j]? with
 | none=>rfl
 | some a=>simp only [u7];rw [h j a hj]
theorem QB {n m:Nm} {l:List (List qr)} {g:List AV->List AV} (h:∀ (i:Nat) c,l[i]?=some c->g [.hs (.c n i 0) 3 0 8]=[.hs (.c m i 0) 3 0 8]):(kT n l).map g=kT m l:=by
 apply y6;intro j;rw [jZ,Ii,Ii]
 cases hj:l[j]? with
 | none=>rfl
 | some a=>simp only [u7];rw [h j a hj]
theorem R3 {n m:Nm} {l:List (Nat×Nat)} {g:List AV->List AV} (h:∀ (i:Nat) c,l[i]?=some c->g [iv c.1,iv c.2,.hs (.c n i 2) 3 0 0]=[iv c.1,iv c.2,.hs (.c m i 2) 3 0 0]):(kx n l).map g=kx m l:=by
 apply y6;intro j;rw [jZ,El,El]
 cases hj:l[j]? with
 | none=>rfl
 | some a=>simp only [u7];rw [h j a hj]
@[simp] theorem ZO {P:Program} {T:TypeId} {hp:Nm->Option AO} {n:Nm} {z q len:Nat} {lo hi:Option Int}:wC P T hp (.hs n z q len) lo hi=match yU P T with
  | some e=>if z=qf P e/\0<=lo.getD 0/\lo.getD 0<=hi.getD len/\(hi.getD len<=len\/q+(hi.getD len).toNat<=pX hp n z) then some (.hs n z (q+(lo.getD 0).toNat) ((hi.getD len).toNat - (lo.getD 0).toNat)) else none
  | none=>none:=rfl
@[simp] theorem mem_slrows {l:List qr} {r:List AV}:r∈zA l↔∃ s∈l,jk s=r:=mi
theorem Bp (gl):qM prog gl 64 [] (λr y H'=>y=.hs r 3 0 8/\H' r=some (.row 3 (zA jR))):=by
 have h0:List.replicate 8 [bv false,iv 0,iv 0]=zA jR:=rfl;refine qM.q9 func64 [.tmp 0] ntmps64 λC w g root=>?_;refine qJ ?_<| h0;refine qF [(.s 0,root)] (.one rfl) qE ⟨qB,by simp [<- h0]⟩
theorem EZ (gl) (l:List qr) (hl:l.length=8):qM prog gl 221 [.sl 3 (zA l)] (λr y H'=>y=.hs r 3 0 8/\H' r=some (.row 3 (zA l))):=by
 refine qM.q9 func221 [.tmp 2] ntmps221 λC w g root=>?_;refine qJ ?_<| hl;refine qF [(.s 2,root)] (.one rfl) qE ⟨qB,qB⟩
def oI (gl:Nat->Option (List AV)) (p:qC) (n:Nat):Prop:=∀ (H:Nm->Option AO) (W:qL) (a:Nat),qt H p W->zF p W->W.left<n->a<W.qI.length->W.en=0->H (.u 2 0 0)=none ->
 qZ prog gl 65 (Nm.under Wn) [.pt Wn 0,iv a] H (λ_ y H'=>y=qW.av (qi p n W a).2/\qt H' p (qi p n W a).1) zG
theorem s9 {A G G2:Prop} (k:G2) (x:A) (h:A->jL G2->G:=by
 intro fx kk;refine qK ?_
 repeat ((first|refine qQ (id:=2) V6 mixed ?_|refine qQ (id:=7) V7 mixed ?_|refine qQ (id:=10) V8 mixed ?_|refine qQ (id:=11) V9 mixed ?_);refine zK ?_;refine qK ?_)
 exact kk.h):G:=h x ⟨k⟩
theorem JC (gl) (p:qC) (n:Nat) (hR:oI gl p n) (H:Nm->Option AO) (W:qL) (b up lo:Nat) (vs all:List qW) (hP:zk p) (hw:zF p W) (hn:W.left<n) (h0:W.en=0) (hm:uf p W.qI b up) (hv:∀ v∈vs,ze W.qH.length W.qT.length v) (hr:Room 1 W)
  (hall:all.drop lo=vs) (hlo:lo+vs.length=all.length) (hpar:vl p b=vs.length) (hv2:vs.length<=1) (hO:qt H p W) (hL:H (.u 2 0 0)=some (.row 2 (zh all))) :
  qZ prog gl 203 zd [.pt Wn 0,iv b,iv up,.hs (.u 2 0 0) 2 lo vs.length] H (λr y H'=>y=.zX [qW.av (j8 p (qi p n) W b up vs).2,.hs r 3 0 8]/\H' r=some (.row 3 (zA ((j8 p (qi p n) W b up vs).1.vars (some W.qI.length))))/\qt H' p (j8 p (qi p n) W b up vs).1) zG:=by
 have hT:=hO.top;have hA:=hO.qI;obtain⟨sl,hS⟩:=hO.jl;simp only [jP] at hT;have hl1:=hr.qI;have hl2:=hr.jl;have hal:W.qI.length<=1000:=qA;have hsl:W.stack.length<=1000:=qA;refine qZ.q9 func203 [.cell 8 115,.tmp 9] ntmps203 (λ_=>vK) λC w g root hroot=>?_;have hr0:=hroot root (Nm.kj _);simp only [py,Bool.or_eq_false_iff] at hr0;obtain⟨hr1,hr2⟩:=hr0;have fx:=zN hT hA hS hal<|hsl;have d1:=Bp gl;refine s9 ?_<|@fx;clear fx d1;have hap:kB (.c Wn 0 1) W.qI++[[iv b,iv (dY W.qI.length ⟨b,up,jR⟩),.hs (.c (.c Wn 0 1) W.qI.length 2) 3 0 8]]=kB (.c Wn 0 1) (W.qI++[⟨b,up,jR⟩]):=O3 (a:=⟨b,up,jR⟩)
 have hpos:¬ W.qI.length=0:=by
  obtain⟨a,ha,_⟩:=hw.a0;have:=(gS ha).1;omega
 have hoi:dY W.qI.length ⟨b,up,jR⟩=up:=by simp only [dY,hpos,if_false]
 rw [hoi] at hap;have hb0:jT p W b up vs 0={ W with qI:=W.qI++[⟨b,up,jR⟩],stack:=W.stack++[W.qI.length] }:=by simp [jT,cK]
 refine zQ (λn st=>∃ i:Nat,n=vs.length - i/\i<=vs.length/\st.tm 0=.pt Wn 0/\st.tm 1=iv b/\st.tm 3=.hs (.u 2 0 0) 2 lo vs.length/\st.hp (.u 2 0 0)=some (.row 2 (zh all))/\st.tm 8=.pt (.s 8) 0/\st.hp (.s 8)=some (.row 2 [[iv 0,iv 0]])/\st.tm 10=iv W.qI.length/\st.tm 11=iv i/\qt st.hp p (jT p W b up vs i)) vs.length ?_ ?_
 .refine⟨0,qA,qA,qB,qB,qB,ov,qB,qB,qB,qB,?_⟩;rw [hb0];refine⟨by simp [jP],?_,λi a ha=>?_,⟨[],by simp [jK]⟩,by simp [hO.zJ],rp,xP,λi c hc=>by simp [hO.cls i c hc],oe,rr⟩
  .simp [<- hap];rw [yG qB];refine O4 λi a ha=>?_;have hne:¬ i=W.qI.length:=by have:=(gS ha).1;omega
   have hne':¬ W.qI.length=i:=qA;simp [hne,hne']
  rcases du i W.qI.length with hlt|hge
  .have ha':W.qI[i]?=some a:=by simpa [ub hlt] using ha
   have hne:¬ i=W.qI.length:=qA;have hne':¬ W.qI.length=i:=qA;simp [hO.act i a ha',hne,hne']
  .have hi:i=W.qI.length:=by
    have:=(gS ha).1;simp at this;omega
   subst hi;have ha':a=⟨b,up,jR⟩:=by simpa using ha.symm
   subst ha';simp
 clear hT hA hS hap hb0 hO;obtain⟨k,hk,hpk⟩:=hm.shape;obtain⟨_,hkE⟩:=gS hk;have jw:=(gS hk).1;rintro m st - - ⟨i,rfl,hi,t0,t1,t3,hp2,t8,hp8,t10,t11,hO⟩;have hT:=hO.top;have hA:=hO.qI;have hok:zF p (jT p W b up vs i):=Hh hw hm hv hr;have hlen:(jT p W b up vs i).qI.length=W.qI.length+1:=by simp [jT]
 simp only [jP] at hT;by_cases hil:i<vs.length
 .obtain⟨x,hx⟩:∃ x,k.params[i]?=some x:=⟨_,gE qA⟩;obtain⟨hxl,hxE⟩:=gS hx;have hxr:=(hP.sh.names k (gM hk)).params x (gM hx);obtain⟨v,hvi⟩:=gX hil;have hva:all[lo+i]?=some v:=by rw [<- hvi,<- hall,ti]
  obtain⟨hal',hvE⟩:=gS hva;have hst:=Hi (w:=W) (up:=up) hP hk hx hvi;obtain⟨X,rfl⟩:∃ X:Nat,x=X:=⟨x.toNat,qA⟩;obtain⟨v1,v2⟩:=v;refine s9 ?_<|qh t0 t1 t3 hp2 t8 hp8 t10 t11 hT hil hk hkE<|jI jw hx hxE hxl hva hvE<|hal';intro K hK;have fx:=aI t0 (aI t10 hT);refine u0 Wn rfl zE (hF:=NL _ _ p (jT p W b up vs i) W.qI.length X (v1,v2) hP.sh hok qA qA (have ow:=hO;qt.re ow)) (h:=?_);rintro y H1 hO1;clear fx;rw [hst] at hO1;have hT1:=hO1.top;simp only [jP] at hT1;refine s9 ?_<|qh t0 t1 t3 hp2 t8 hp8 t10 t11 hT hT1 hil hk<|jN hkE jw hx hxE hxl hva hvE<|hal';refine⟨vs.length - (i+1),qA,i+1,rfl,qA,kr,lG,cS,yw,fQ,by simp [hp8],by simp [t10],by simp [t11];exact qm qA qA,(have ow:=hO1;qt.re ow)⟩
 .obtain rfl:i=vs.length:=qA;have hbeg:jT p W b up vs vs.length=j2 p W b up vs:=Hg qA (qa _);rw [hbeg] at hO hok hlen hT hA;refine s9 ?_<|jH t0 t1 t3 t10 t11<|hT;intro K hK;have fx:=aI t0 (aI t10 hT);refine u0 Wn rfl zE (hF:=hR _ (j2 p W b up vs) W.qI.length (have ow:=hO;qt.re ow) hok hn qA h0 qB) (h:=?_);rintro y H1 ⟨rfl,hO1⟩;clear fx;obtain⟨hAf,hvok⟩:=eZ hP.sh n (j2 p W b up vs) W.qI.length hok hn qA h0;have hent:j8 p (qi p n) W b up vs=(aw (qi p n (j2 p W b up vs) W.qI.length).1,(qi p n (j2 p W b up vs) W.qI.length).2):=rfl;generalize qi p n (j2 p W b up vs) W.qI.length=q at hO1 hAf hvok hent;obtain⟨V,v1,v2⟩:=q;simp only at hO1 hAf hvok hent;have hVl:W.qI.length<V.qI.length:=by have:=hAf.grow.aF;omega
  obtain⟨a',ha'⟩:∃ a',V.qI[W.qI.length]?=some a':=⟨_,gE hVl⟩;obtain⟨_,haE⟩:=gS ha';have hal8:=(hAf.ok.vars _ a' ha').1;have hT1:=hO1.top;have hA1:=hO1.qI;have hV1:=hO1.act _ a' ha';obtain⟨sl1,hS1⟩:=hO1.jl;simp only [jP] at hT1;by_cases hen:V.en=0
  .have hstk:V.stack=W.stack++[W.qI.length]:=hAf.jl hen;have hsl1:V.stack.length=W.stack.length+1:=by rw [hstk];simp
   have hwr:IntKind.i64.wrap (W.stack.length:Int)=W.stack.length:=qm qA qA
   have hend:aw V={ V with stack:=W.stack }:=by
    unfold aw;rw [if_pos hen,hstk];simp
   rw [hend] at hent;rw [hsl1] at hT1;have hle1:(W.stack.length:Int)<=(W.stack.length:Int)+1:=qA;have hle0:(0:Int)<=(W.stack.length:Int):=qA;have fx:=qh t0 t1 t3 t8 hp8 t10 t11 hT hT1 hA1 hV1 hS1<|jN hen hsl1 hwr hle1 hle0 ha' haE<|hVl;have d1:=EZ gl a'.vars hal8;refine s9 ?_<|@fx;clear fx d1;rw [hent];refine qF [(.s 9,root)] (.one rfl) (by simp [t8];rfl) ⟨qB,?_,qt.pF ?_ (λ_=>vK) (λm hm=>cR) xA⟩
   .simp [hr1,hr2,qL.vars,ha']
   .exact⟨by simp [jP,hen],by simp [hA1],λi a ha=>by simp [hO1.act i a ha],⟨(W.qI.length:Int)::sl1,by simp [hS1,hstk,jK]⟩,by simp [hO1.zJ],BS,xI,λi c hc=>by simp [hO1.cls i c hc],by simp [hO1.out],xF⟩
  .have hend:aw V=V:=by
    unfold aw;rw [if_neg hen]
   have henb:(V.en==0)=false:=dU;rw [hend] at hent;have fx:=qh t0 t1 t3 t8 hp8 t10 t11 hT hT1 hA1 hV1 henb<|qk ha' haE<|hVl;have d1:=EZ gl a'.vars hal8;refine s9 ?_<|@fx;clear fx d1;rw [hent];refine qF [(.s 9,root)] (.one rfl) (by simp [t8];rfl) ⟨qB,?_,qt.pF (have ow:=hO1;qt.re ow) (λ_=>vK) (λm hm=>cR) xA⟩;simp [hr1,hr2,qL.vars,ha']
abbrev Va:qV:=bF<|.l 8 [7,6,5,4,3,2,1,0]<|.l 9 []<|.done
abbrev Vb:qV:=ea<|.done
theorem CH {A G G2:Prop} (k:G2) (x:A) (h:A->jL G2->G:=by
 intro fx kk;refine qK ?_
 repeat ((first|refine qQ (id:=4) Va mixed ?_|refine qQ (id:=5) Vb mixed ?_);refine zK ?_;refine qK ?_)
 exact kk.h):G:=h x ⟨k⟩
theorem P3 (gl) (p:qC) (n:Nat) (hR:oI gl p n) (H:Nm->Option AO) (W:qL) (f:qW) (lo:Nat) (vs all:List qW) (hP:zk p) (hw:zF p W) (hn:W.left<n) (h0:W.en=0) (hf:ze W.qH.length W.qT.length f) (hv:∀ v∈vs,ze W.qH.length W.qT.length v) (hr:Room 1 W)
  (hall:all.drop lo=vs) (hlo:lo+vs.length=all.length) (hv2:vs.length<=1) (hO:qt H p W) (hL:H (.u 2 0 0)=some (.row 2 (zh all))) :
  qZ prog gl 204 zd [.pt Wn 0,qW.av f,.hs (.u 2 0 0) 2 lo vs.length] H (λ_ y H'=>y=qW.av (uH p (qi p n) W f vs).2/\qt H' p (uH p (qi p n) W f vs).1) zG:=by
 have hT:=hO.top;simp only [jP] at hT;obtain⟨f1,f2⟩:=f;refine qZ.q9 func204 [.cell 6 115] ntmps204 (λ_=>vK) λC w g root hroot=>?_;by_cases h2:f1=2
 .subst h2;have hf2:=hf.num;have hf3:=hf.fn rfl;simp only at hf2 hf3;obtain⟨i,rfl⟩:∃ i:Nat,f2=i:=⟨f2.toNat,qA⟩;have hil:i<W.qH.length:=qA;obtain⟨g,hg⟩:=gX hil;obtain⟨_,hgE⟩:=gS hg;have hm:=hw.qH i g hg;obtain⟨k,hk,hpk⟩:=hm.shape;obtain⟨jw,hkE⟩:=gS hk;have hF:=hO.qH;by_cases hl:k.params.length=vs.length
  .have hc:uH p (qi p n) W (2,(i:Int)) vs=j8 p (qi p n) W g.1 g.2 vs:=by
    simp [uH,hg,hpk,hl]
   have hlb:((k.params.length:Int)==(vs.length:Int))=true:=by rw [hl];simp
   refine CH ?_<|y8 hT hF hil hg hgE hk hkE jw hlb<|@qz;intro K hK;have fx:=aI hT hF;refine wF zE ov (hF:=JC _ p n hR _ W g.1 g.2 lo vs all hP hw hn h0 hm hv hr hall hlo (by rw [hpk,hl]) hv2 (have ow:=hO;qt.re ow) ov) (h:=?_);rintro y H1 ⟨rfl,hp1,hO1⟩;clear fx;have hT1:=hO1.top;simp only [jP] at hT1;refine CH ?_<|qk hT hT1<|hp1;rw [hc];refine qF [] .nil qE ⟨qB,qt.pF (have ow:=hO1;qt.re ow) (λ_=>vK) (λm hm=>cR) qB⟩
  .have hc:uH p (qi p n) W (2,(i:Int)) vs=({ W with en:=6 },(0,0)):=by
    simp [uH,hg,hpk,hl]
   have hlb:((k.params.length:Int)==(vs.length:Int))=false:=by
    rw [beq_eq_false_iff_ne];omega
   refine CH ?_<|y8 hT hF hil hg hgE hk hkE jw hlb<|@qz;rw [hc];refine qF [] .nil qE ⟨qB,qt.pF ⟨sD,rX,λi a ha=>rQ,hO.jl.imp λl hl=>rn,ru,o6,oi,λi c hc=>rg,o8,o9⟩ (λ_=>vK) (λm hm=>cR) qB⟩
 .have hb1:(f1==2)=false:=mb;have hc:uH p (qi p n) W (f1,f2) vs=({ W with en:=5 },(0,0)):=by simp [uH,h2]
  refine CH ?_<|qk hT hb1<|@qz;rw [hc];refine qF [] .nil qE ⟨qB,qt.pF ⟨sD,rX,λi a ha=>rQ,hO.jl.imp λl hl=>rn,ru,o6,oi,λi c hc=>rg,o8,o9⟩ (λ_=>vK) (λm hm=>cR) qB⟩
end Go.Proofs.YtjgpejikjhojcaaGreatDoor
end
