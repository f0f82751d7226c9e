import Derived.Test.YtjgpejikjhojcaaGreatDoorT26
import Derived.Test.YtjgpejikjhojcaaGreatDoorT12
import Derived.Shelf.SlMaps.Clone
set_option linter.unusedSimpArgs false
set_option linter.unusedVariables false
set_option maxRecDepth 100000
set_option maxHeartbeats 4000000

section
namespace Go.Proofs.YtjgpejikjhojcaaGreatDoor
open Go Go.Hm Go.Proofs Tryz
abbrev V4:qb:=bQ<|.l 11 [5,4,1,0]<|.l 12 []<|.done
theorem BY (gl) (v:qR):qM prog gl 62 [qR.av v] (λ_ y _=>y=iv (Hm.shown v)):=by
 refine qM.qa func62 [.tmp 2] ntmps62 λC w g root=>?_;by_cases h1:v.1=1
 .skip
  refine qI ?_<| h1;refine qG [] .nil qH (by simp [Hm.shown,h1])
 by_cases h2:v.1=2
 .skip
  refine qI ?_<|aI h1<|h2;refine qG [] .nil qH (by simp [Hm.shown,h1,h2])
 by_cases h3:v.1=3
 .skip
  refine qI ?_<|qk h1 h2<|h3;refine qG [] .nil qH Al
 .skip
  refine qI ?_<|qk h1 h2<|h3;refine qG [] .nil qH Al
theorem iM (gl) (H:Nm->Option AO) (F:Nat) (p:qC) (W:qK) (e:Int) (hO:qZ H F p W) :
  qV prog gl 99 DM [.pt Mn 0,iv e] H (λ_ y H'=>y=bv false/\qZ H' F p { W with en:=e }) qy:=by
 have hT:=hO.top;simp only [zj] at hT;refine qV.qa func99 [.tmp 4] ntmps99 (λ_=>qv) λC w g root hroot=>?_;refine qI ?_<| hT;refine qG [] .nil qH ⟨qB,qZ.fin ⟨by simp [hO.top,zj,hT],⟨by simp [hO.kW.top,hT],λj k hj hk=>by simp [hO.kW.sc j k hj hk,hT]⟩,oN,oF,hO.run.imp λl hl=>⟨hl.1,by simp [hl.2,hT]⟩,oI,λk g hg=>by simp [hO.bx k g hg,hT],oO,λk c hc=>(hO.cls k c hc).imp λms hm=>⟨by simp [hm.1,hT],hm.2⟩,λi a ha=>by simp [hO.env i a ha,hT],λi hi=>(hO.ju i hi).imp λms hm=>⟨by simp [hm.1,hT],hm.2⟩,λk i j hk hn=>if e:k=1/\i=0/\j=0 then .inl e else hO.only k i j hk mR⟩⟩
theorem sH {A G G2:Prop} (k:G2) (x:A) (h:A->jP G2->G:=by
 intro fx kk;refine qQ ?_
 repeat ((first|refine qf (id:=1) V4 mixed ?_);refine zQ ?_;refine qQ ?_)
 exact kk.h):G:=h x ⟨k⟩
theorem EZ (gl) (H:Nm->Option AO) (F:Nat) (p:qC) (W:qK) (a x:Nat) (hP:z6 p) (hw:qt p W) (ha:a<W.qF.length) (hx:x<8) (hO:qZ H F p W) :
  qV prog gl 146 DM [.pt Mn 0,vh a,iv x] H (λ_ y H'=>y=.zT [vh (w9 (W.loc p a x)),iv (Hm.jd p (W.qD a) (zA p (W.qD a) x))]/\qZ H' F p W) qy:=by
 have hh:=hP.jR;obtain⟨c,hc⟩:=gX ha;have zF:=hw.wV a c hc;obtain⟨k,hk⟩:=gX zF;obtain⟨_,hkE⟩:=gS hk;have hbk:=v8 hc;have hT:=hO.top;have hc1:=hO.kW.top;have hc2:=hO.kW.sc;have hE:=hO.env a c hc;simp only [zj] at hT;simp only [uk] at hE;have hsr:=xy (n:=.c Mn 0 1) (len:=p.length) (i:=p.length) zF;rw [if_pos zF] at hsr;obtain⟨_,hsE⟩:=gS hsr;have hka:zt p c.qD=k.kind:=ge;refine qV.qa func146 [.tmp 6,.tmp 7] ntmps146 (λ_=>qv) λC w g root hroot=>?_;rcases sK (x:=(x:Int)) hh hw ha with⟨h1,h2⟩|⟨o,i,d,ho,h1,h2,h3,hd,hdb,hins⟩
 .rw [hbk] at h1;have hl:Hm.jd p (W.qD a) (zA p (W.qD a) x)=4:=by rw [hbk,h1];simp [Hm.jd]
  rw [hl,h2];have fx:=jQ hT hE hc1 hsr hsE zF<|h1;have c1:=db gl p hP c.qD k hk x hx;refine sH ?_<|@fx;clear fx c1;refine qG [] .nil qH ⟨by simp [w9],qZ.fin (have om:=hO;qZ.re om)⟩
 .rw [hbk] at h1;have hon:((o:Int) == -1)=false:=wW;have hol:o<p.length:=by rw [<- hdb];exact hw.wV i d hd
  rw [h2];by_cases hob:o=c.qD
  .have hai:i=a:=by rw [h3,dQ hc hob.symm]
   have hsame:((c.qD:Int)==(c.qD:Int))=true:=qB;subst hob;by_cases hk2:k.kind=2
   .have hl:Hm.jd p (W.qD a) (zA p (W.qD a) x)=4:=by
     rw [hbk,h1];simp [Hm.jd,hka,hk2]
    rw [hl];have hkb:(k.kind==2)=true:=by simpa using hk2
    have hsc:=hc2 c.qD k zF hk;have fx:=yD hT hE hc1 hsr hsE zF h1 hon hsame hsc<|aI hkb<|@qx;have c1:=db gl p hP c.qD k hk x hx;refine sH ?_<|@fx;clear fx c1;refine qG [] .nil qH ⟨by simp [w9,hai],qZ.fin (have om:=hO;qZ.re om)⟩
   .have hl:Hm.jd p (W.qD a) (zA p (W.qD a) x)=2:=by
     rw [hbk,h1];simp [Hm.jd,hka,hk2]
    rw [hl];have hkb:(k.kind==2)=false:=by simpa using hk2
    have hsc:=hc2 c.qD k zF hk;have fx:=yD hT hE hc1 hsr hsE zF h1 hon hsame hsc<|aI hkb<|@qx;have c1:=db gl p hP c.qD k hk x hx;refine sH ?_<|@fx;clear fx c1;refine qG [] .nil qH ⟨by simp [w9,hai],qZ.fin (have om:=hO;qZ.re om)⟩
  .have hl:Hm.jd p (W.qD a) (zA p (W.qD a) x)=3:=by
    have e1:¬ (o:Int)<0:=qA;have e2:¬ (o:Int)=c.qD:=qA;rw [hbk,h1];simp [Hm.jd,e1,e2]
   rw [hl];have hne:((o:Int)==(c.qD:Int))=false:=wW;obtain⟨u1,u2,u3⟩:=lH hh hw hc (λe=>hob e.symm) ho hins;have ha0:¬ a=0:=qA;rw [if_neg ha0] at hE;have fx:=vA hT hE hc1 hsr hsE zF h1 hon hne<|@qx;have c1:=db gl p hP c.qD k hk x hx;refine sH ?_<|@fx;clear fx c1;refine zU (λn st=>∃ b:Nat,n=b/\b<W.qF.length/\uZ W.qF o b b=i/\jS p (W.qD b) o=true/\st.tm 8=iv o/\st.tm 9=vh b/\qZ st.hp F p W) c.up ?_ ?_
   .exact⟨c.up,rfl,qA,by rw [<- rm hh hw ho hc (λe=>hob e.symm) hins];exact h3.symm,u3,qB,qB,(have om:=hO;qZ.re om)⟩
   clear hT hc1 hc2 hE hO;rintro n st - - ⟨b,rfl,hb,hcl,hib,t8,t9,hO⟩;obtain⟨e,he⟩:=gX hb;have hE:=hO.env n e he;simp only [uk] at hE;by_cases heb:e.qD=o
   .have hni:n=i:=by rw [<- hcl,dQ he heb]
    subst hni;subst heb;have hsame:((e.qD:Int)==(e.qD:Int))=true:=qB;refine sH ?_<|zM t8 t9 hE hsame<|@qx;refine qG [] .nil qH ⟨by simp [w9],qZ.fin (have om:=hO;qZ.re om)⟩
   .obtain⟨e1,e2,e3⟩:=lH hh hw he heb ho hib;have hneb:((e.qD:Int)==(o:Int))=false:=wW;have hn0:¬ n=0:=qA;rw [if_neg hn0] at hE;refine sH ?_<|zM t8 t9 hE hneb<|@qx;refine⟨e.up,qA,e.up,rfl,qA,?_,e3,gW,qB,(have om:=hO;qZ.re om)⟩;rw [<- hcl,rm hh hw ho he heb hib]
theorem We (gl) (H:Nm->Option AO) (F:Nat) (p:qC) (W:qK) (a x:Nat) (hP:z6 p) (hw:qt p W) (ha:a<W.qF.length) (hx:x<8) (h0:W.en=0) (hO:qZ H F p W) :
  qV prog gl 143 DM [.pt Mn 0,vh a,iv x] H (λ_ y H'=>y=.zT [qR.av (zh p W a x).2,bv (decide ((zh p W a x).1.en=0))]/\qZ H' F p (zh p W a x).1) qy:=by
 have hh:=hP.jR;have hx7:0<=(x:Int)/\(x:Int)<=7:=qA;obtain⟨hnm,hil⟩:=Bp (x:=(x:Int)) hh hw ha;have hT:=hO.top;simp only [zj] at hT;obtain⟨c,hc⟩:=gX ha;have hE:=hO.env a c hc;refine qV.qa func143 [.cell 6 115,.tmp 7] ntmps143 (λ_=>qv) λC w g root hroot=>?_;refine qI ?_<|qS;intro K hK;have fx:=qS;refine kM hO (have om:=hO;qZ.re om) (qX _) (qX _) (hF:=λhs=>EZ _ _ F p W a x hP hw ha hx hs) (h:=?_);rintro y H1 ⟨rfl,hO1⟩;clear fx;have hT1:=hO1.top;simp only [zj] at hT1;obtain⟨o,ho⟩:∃ o,zA p (W.qD a) x=o:=⟨_,rfl⟩;obtain⟨l,hl⟩:∃ l,W.loc p a x=l:=⟨_,rfl⟩;rw [hl] at hnm hil ⊢;rw [ho];obtain⟨i,hi⟩:∃ i,w9 l=i:=⟨_,rfl⟩;rw [hi] at hnm hil ⊢;obtain⟨d,hd⟩:=gX hil;have hE1:=hO1.env i d hd;simp only [uk] at hE1;obtain⟨ms,hms,hmo⟩:=hO1.ju i hil;rw [hnm] at hmo;have hlk:=hmo.get' hx7
 cases hg:W.get l x with
 | some v =>
  rw [hg] at hlk;have hlw:zh p W a x=(W,v):=by simp only [zh,hl,hg]
  refine qI ?_<|j2 hT hE hT1 hE1 hms<|hlk;rw [hlw];refine qG [] .nil qH ⟨ji,qZ.fin (have om:=hO1;qZ.re om)⟩
 | none =>
  rw [hg] at hlk;by_cases h4:Hm.jd p (W.qD a) o=4
  .have h4b:(Hm.jd p (W.qD a) o==4)=true:=by simpa using h4
   obtain⟨a0,h00,hb0⟩:=hw.a0;have hl0:=(gS h00).1;have hE0:=hO1.env 0 a0 h00;simp only [uk] at hE0;obtain⟨mg,hmg,hgo⟩:=hO1.ju 0 hl0;have hgo':kZ mg (W.vars none):=by simpa [qK.ju,qK.vars] using hgo
   have hlg:=hgo'.get' hx7
   cases hg2:W.get none x with
   | some v =>
    rw [hg2] at hlg;have hlw:zh p W a x=(W,v):=by simp only [zh,hl,ho,hg,h4,if_true,hg2]
    refine qI ?_<|yD hT hE hT1 hE1 hms hlk h4b hE0 hmg hlg<|@qx;rw [hlw];refine qG [] .nil qH ⟨ji,qZ.fin (have om:=hO1;qZ.re om)⟩
   | none =>
    rw [hg2] at hlg;by_cases h7:x=7
    .subst h7;have hlw:zh p W a ((7:Nat):Int)=(W,(1,70)):=by simp only [zh,hl,ho,hg,h4,if_true,hg2];simp
     have hlk7:lk (7:Int) ms=none:=hlk;have hlg7:lk (7:Int) mg=none:=hlg;refine qI ?_<|yD hT hE hT1 hE1 hms hlk7 h4b hE0 hmg hlg7<|@qx;rw [hlw];refine qG [] .nil qH ⟨ji,qZ.fin (have om:=hO1;qZ.re om)⟩
    .have h7i:¬ (x:Int)=7:=qA;have h7b:((x:Int)==7)=false:=by simpa using h7i
     have hlw:zh p W a x=({ W with en:=4 },(0,0)):=by
      simp only [zh,hl,ho,hg,h4,if_true,hg2,h7i,if_false]
     refine qI ?_<|yD hT hE hT1 hE1 hms hlk h4b hE0 hmg hlg<|aI h7b<|@qx;intro K hK;have fx:=aI hT (aI hE hT1);refine kM hO (have om:=hO1;qZ.re om) (qX _) (qX _) (hF:=λhs=>iM _ _ F p W 4 hs) (h:=?_);rintro y H2 ⟨rfl,hO2⟩;clear fx;have hT2:=hO2.top;simp only [zj] at hT2;refine qI ?_<|zM hT hE hT1 hE1<|hT2;rw [hlw];refine qG [] .nil qH ⟨qB,qZ.fin (have om:=hO2;qZ.re om)⟩
  .have h4b:(Hm.jd p (W.qD a) o==4)=false:=by simpa using h4
   have hlw:zh p W a x=({ W with en:=Hm.jd p (W.qD a) o },(0,0)):=by simp only [zh,hl,ho,hg,h4,if_false]
   have hne:¬ Hm.jd p (W.qD a) o=0:=oo;refine qI ?_<|jJ hT hE hT1 hE1 hms hlk h4b<|@qx;intro K hK;have fx:=aI hT (aI hE hT1);refine kM hO (have om:=hO1;qZ.re om) (qX _) (qX _) (hF:=λhs=>iM _ _ F p W (Hm.jd p (W.qD a) o) hs) (h:=?_);rintro y H2 ⟨rfl,hO2⟩;clear fx;have hT2:=hO2.top;simp only [zj] at hT2;refine qI ?_<|zM hT hE hT1 hE1<|hT2;rw [hlw];refine qG [] .nil qH ⟨by simp [hne],qZ.fin (have om:=hO2;qZ.re om)⟩
theorem QF (gl) (H:Nm->Option AO) (F:Nat) (p:qC) (W:qK) (a x:Nat) (hP:z6 p) (hw:qt p W) (ha:a<W.qF.length) (hx:x<8) (h0:W.en=0) (hO:qZ H F p W) :
  qV prog gl 144 DM [.pt Mn 0,vh a,iv x] H (λ_ y H'=>y=bv (decide ((wo p W a x).en=0))/\qZ H' F p (wo p W a x)) qy:=by
 have hh:=hP.jR;have hx7:0<=(x:Int)/\(x:Int)<=7:=qA;obtain⟨hnm,hil⟩:=Bp (x:=(x:Int)) hh hw ha;have hT:=hO.top;simp only [zj] at hT;obtain⟨c,hc⟩:=gX ha;have hE:=hO.env a c hc;refine qV.qa func144 [.tmp 6] ntmps144 (λ_=>qv) λC w g root hroot=>?_;refine qI ?_<|qS;intro K hK;have fx:=qS;refine kM hO (have om:=hO;qZ.re om) (qX _) (qX _) (hF:=λhs=>EZ _ _ F p W a x hP hw ha hx hs) (h:=?_);rintro y H1 ⟨rfl,hO1⟩;clear fx;have hT1:=hO1.top;simp only [zj] at hT1;obtain⟨o,ho⟩:∃ o,zA p (W.qD a) x=o:=⟨_,rfl⟩;obtain⟨l,hl⟩:∃ l,W.loc p a x=l:=⟨_,rfl⟩;have hnm0:=hnm;rw [hl] at hnm hil ⊢;rw [ho];obtain⟨i,hi⟩:∃ i,w9 l=i:=⟨_,rfl⟩;rw [hi] at hnm hil ⊢;obtain⟨d,hd⟩:=gX hil;have hE1:=hO1.env i d hd;simp only [uk] at hE1;obtain⟨ms,hms,hmo⟩:=hO1.ju i hil;rw [hnm] at hmo;have hlk:=hmo.get' hx7
 cases hg:W.get l x with
 | none =>
  rw [hg] at hlk
  have hlw:wo p W a x={ W with en:=Hm.jd p (W.qD a) o }:=by
   unfold wo;rw [hl,hg,ho]
  have hne:¬ Hm.jd p (W.qD a) o=0:=oo;refine qI ?_<|jQ hT hE hT1 hE1 hms hlk<|@qx;intro K hK;have fx:=aI hT (aI hE hT1);refine kM hO (have om:=hO1;qZ.re om) (qX _) (qX _) (hF:=λhs=>iM _ _ F p W (Hm.jd p (W.qD a) o) hs) (h:=?_);rintro y H2 ⟨rfl,hO2⟩;clear fx;have hT2:=hO2.top;simp only [zj] at hT2;refine qI ?_<|zM hT hE hT1 hE1<|hT2;rw [hlw];refine qG [] .nil qH ⟨by simp [hne],qZ.fin (have om:=hO2;qZ.re om)⟩
 | some v =>
  rw [hg] at hlk
  have hlw:wo p W a x=W.set l x none:=by
   unfold wo;rw [hl,hg]
  refine qI ?_<|jQ hT hE hT1 hE1 hms hlk<|@qx;intro K hK;refine ua (λst=>st.tm 35=.mp (.c (En i) 0 1)/\st.tm 36=iv x/\st.hp (.c (En i) 0 1)=some (.map (uM ms))/\qZ st.hp F p W) ⟨by simp [hT,hE],qB,by simp [hms],(have om:=hO1;qZ.re om)⟩ ?_;rintro st ⟨t35,t36,hms',hO2⟩;have fx:=aI t35 (aI t36 hms');refine qAY (h:=?_);clear fx;refine qI ?_<| hT;rw [hlw];refine qG [] .nil qH ⟨by rw [nH.2.2.2.2.2.2];simp [h0],qZ.fin (FK hh hw ha hx hl hnm0 hO2 (hmo.del hx7) λm hm=>?_)⟩;rw [hi];simp
abbrev V5:qb:=Fu<|.l 13 [12,11,10,9,8,7,6,5,4,3,2,1,0]<|.l 14 [12]<|.l 15 []<|.done
theorem Zu {v:Int} (hv:0<=v):∃ k:Nat,v.tmod 1000=k/\k<1000:=by
 have h1:=Int.tmod_nonneg 1000 hv;have h2:=Int.tmod_lt_of_pos v (show (0:Int)<1000 by omega);exact⟨(v.tmod 1000).toNat,qA,qA⟩
theorem OQ (gl) (H:Nm->Option AO) (F:Nat) (p:qC) (W:qK) (u v:qR) (h0:W.en=0) (hu:zO W.qJ.length W.qO.length u) (hv:zO W.qJ.length W.qO.length v) (hO:qZ H F p W) :
  qV prog gl 191 DM [.pt Mn 0,qR.av u,qR.av v] H (λ_ y H'=>y=.zT [qR.av (uF W u v).2,bv (decide ((uF W u v).1.en=0))]/\qZ H' F p (uF W u v).1) qy:=by
 have hT:=hO.top;simp only [zj] at hT;obtain⟨u1,u2⟩:=u;obtain⟨v1,v2⟩:=v;have hu2:=hu.num;have hv2:=hv.num;simp only at hu2 hv2;have hwr:IntKind.i64.wrap (u2+v2)=u2+v2:=qi qA qA;obtain⟨q,hq,hql⟩:=Zu (v:=u2+v2) qA;have hwq:IntKind.i64.wrap (q:Int)=q:=qi qA qA;refine qV.qa func191 [.cell 6 115,.tmp 7] ntmps191 (λ_=>qv) λC w g root hroot=>?_;by_cases h1:u1=1
 .by_cases h2:v1=1
  .subst h1;subst h2;have hlw:uF W (1,u2) (1,v2)=(W,(1,(q:Int))):=by simp [uF,hq]
   refine qI ?_<|zM hT hwr hq hwq<|@qx;rw [hlw];refine qG [] .nil qH ⟨ji,qZ.fin (have om:=hO;qZ.re om)⟩
  .subst h1;have hb2:(v1==1)=false:=oQ;have hlw:uF W (1,u2) (v1,v2)=({ W with en:=5 },(0,0)):=by simp [uF,h2]
   refine qI ?_<|qk hT hb2<|@qx;intro K hK;have fx:=hT;refine kM hO (have om:=hO;qZ.re om) (qX _) (qX _) (hF:=λhs=>iM _ _ F p W 5 hs) (h:=?_);rintro y H2 ⟨rfl,hO2⟩;clear fx;have hT2:=hO2.top;simp only [zj] at hT2;refine qI ?_<|aI hT<|hT2;rw [hlw];refine qG [] .nil qH ⟨qB,qZ.fin (have om:=hO2;qZ.re om)⟩
 .have hb1:(u1==1)=false:=tz;have hlw:uF W (u1,u2) (v1,v2)=({ W with en:=5 },(0,0)):=by simp [uF,h1]
  refine qI ?_<|qk hT hb1<|@qx;intro K hK;have fx:=hT;refine kM hO (have om:=hO;qZ.re om) (qX _) (qX _) (hF:=λhs=>iM _ _ F p W 5 hs) (h:=?_);rintro y H2 ⟨rfl,hO2⟩;clear fx;have hT2:=hO2.top;simp only [zj] at hT2;refine qI ?_<|aI hT<|hT2;rw [hlw];refine qG [] .nil qH ⟨qB,qZ.fin (have om:=hO2;qZ.re om)⟩
theorem xU {A G G2:Prop} (k:G2) (x:A) (h:A->jP G2->G:=by
 intro fx kk;refine qQ ?_
 repeat ((first|refine qf (id:=3) V5 mixed ?_);refine zQ ?_;refine qQ ?_)
 exact kk.h):G:=h x ⟨k⟩
theorem Oe (gl) (H:Nm->Option AO) (F:Nat) (p:qC) (W:qK) (v:qR) (x:Nat) (h0:W.en=0) (hw:qt p W) (hv:zO W.qJ.length W.qO.length v) (hx:x<8) (hO:qZ H F p W) :
  qV prog gl 195 DM [.pt Mn 0,qR.av v,iv x] H (λ_ y H'=>y=.zT [qR.av (uI W v x).2,bv (decide ((uI W v x).1.en=0))]/\qZ H' F p (uI W v x).1) qy:=by
 have hT:=hO.top;simp only [zj] at hT;obtain⟨v1,v2⟩:=v;refine qV.qa func195 [.cell 6 115,.tmp 7] ntmps195 (λ_=>qv) λC w g root hroot=>?_;by_cases h1:v1=3
 .subst h1;have hv2:=hv.num;have hv3:=hv.cls rfl;simp only at hv2 hv3;obtain⟨i,rfl⟩:∃ i:Nat,v2=i:=⟨v2.toNat,qA⟩;have hil:i<W.qO.length:=qA;obtain⟨c,hc⟩:=gX hil;have hC:=hO.jk;obtain⟨ms,hms,hmo⟩:=hO.cls i c hc;have hcl:=(hw.cls c (gM hc)).1;obtain⟨s,hs⟩:∃ s,c[x]?=some s:=⟨_,gE qA⟩
  have hlk:lk (x:Int) ms=s:=by
   rw [hmo.at qA];simp [hs]
  cases s with
  | some u =>
   have hlw:uI W (3,(i:Int)) x=(W,u):=At;refine xU ?_<|j2 hT hC hms hil hlk<|@qx;rw [hlw];refine qG [] .nil qH ⟨ji,qZ.fin (have om:=hO;qZ.re om)⟩
  | none =>
   have hlw:uI W (3,(i:Int)) x=({ W with en:=7 },(0,0)):=At;refine xU ?_<|j2 hT hC hms hil hlk<|@qx;intro K hK;have fx:=hT;refine kM hO (have om:=hO;qZ.re om) (qX _) (qX _) (hF:=λhs=>iM _ _ F p W 7 hs) (h:=?_);rintro y H2 ⟨rfl,hO2⟩;clear fx;have hT2:=hO2.top;simp only [zj] at hT2;refine xU ?_<|aI hT<|hT2;rw [hlw];refine qG [] .nil qH ⟨qB,qZ.fin (have om:=hO2;qZ.re om)⟩
 .have hb1:(v1==3)=false:=tz;have hlw:uI W (v1,v2) x=({ W with en:=5 },(0,0)):=by simp [uI,h1]
  refine xU ?_<|qk hT hb1<|@qx;intro K hK;have fx:=hT;refine kM hO (have om:=hO;qZ.re om) (qX _) (qX _) (hF:=λhs=>iM _ _ F p W 5 hs) (h:=?_);rintro y H2 ⟨rfl,hO2⟩;clear fx;have hT2:=hO2.top;simp only [zj] at hT2;refine xU ?_<|aI hT<|hT2;rw [hlw];refine qG [] .nil qH ⟨qB,qZ.fin (have om:=hO2;qZ.re om)⟩
theorem W9 (gl) (H:Nm->Option AO) (F:Nat) (p:qC) (W:qK) (a:Nat) (s:qP) (hP:z6 p) (hw:qt p W) (ha:a<W.qF.length) (h0:W.en=0) (hkd:0<=s.kind/\s.kind<=11) (hrd:∀ x∈s.reads,0<=x/\x<=7) (hO:qZ H F p W) :
  qV prog gl 100 DM [.pt Mn 0,vh a,s.av] H (λr y H'=>qZ H' F p (zB p W a s.reads).1/\(((zB p W a s.reads).1.en=0/\y=.zT [.hs r 2 0 (zB p W a s.reads).2.length,bv true]/\H' r=some (.row 2 (jZ (zB p W a s.reads).2)))\/((zB p W a s.reads).1.en≠0/\y=.zT [.hs r 2 0 0,bv false]))) qy:=by
 have hT:=hO.top;simp only [zj] at hT;obtain⟨c,hc⟩:=gX ha;have hE:=hO.env a c hc;have hrl:=qP.pG s;refine qV.qa func100 [.tmp 6,.tmp 7] ntmps100 (λ_=>qv) λC w g root hroot=>?_;have hr0:=hroot root (Nm.uH _);have fx:=qS;have c1:=bj gl s;refine qQ ?_;clear fx c1;intro K hK;have fx:=qS;refine Gg (hF:=Fe _ qY s hkd) (h:=?_);clear fx;refine qI ?_<|qS;refine zU (λn st=>∃ (i:Nat) (V:qK) (vs:List qR),n=s.reads.length - i/\i<=s.reads.length/\vs.length=i/\zB p W a s.reads=((zB p V a (s.reads.drop i)).1,vs++(zB p V a (s.reads.drop i)).2)/\qt p V/\V.en=0/\a<V.qF.length/\W.qF.length<=V.qF.length/\W.qJ.length<=V.qJ.length/\st.tm 0=.pt Mn 0/\st.tm 1=vh a/\st.tm 15=.hs (.s 15) 1 0 s.reads.length/\st.hp (.s 15)=some (.row 1 (qm s.reads))/\st.tm 16=iv s.reads.length/\st.tm 17=iv i/\st.tm 8=.hs (.s 8) 2 0 vs.length/\st.hp (.s 8)=some (.row 2 (jZ vs))/\qZ st.hp F p V) s.reads.length ?_ ?_
 .exact⟨0,W,[],qA,qA,rfl,qB,hw,h0,ha,qX _,qX _,qB,qB,qB,qB,qB,qB,qB,qB,(have om:=hO;qZ.re om)⟩
 rintro n st - - ⟨i,V,vs,rfl,hi,hvl,hres,hV,hen,haV,hl1,hl2,t0,t1,t15,hp15,t16,t17,t8,hp8,hO1⟩;have hT1:=hO1.top;simp only [zj] at hT1;obtain⟨d,hd⟩:=gX haV;have hE1:=hO1.env a d hd;by_cases hil:i<s.reads.length
 .obtain⟨x,hx⟩:=gX hil;obtain⟨_,hxE⟩:=gS hx;obtain⟨hx0,hx7⟩:=hrd x (gM hx);obtain⟨X,rfl⟩:∃ X:Nat,x=X:=⟨x.toNat,qA⟩;have hdr:s.reads.drop i=(X:Int)::s.reads.drop (i+1):=by rw [gO hil,hxE]
  have hstep:zB p V a (s.reads.drop i)=((zB p (zh p V a X).1 a (s.reads.drop (i+1))).1,(zh p V a X).2::(zB p (zh p V a X).1 a (s.reads.drop (i+1))).2):=by
   rw [hdr];simp only [zB];rw [if_neg (by rw [hen];decide)]
  obtain⟨hA,_,_⟩:=Bl (a:=a) (x:=(X:Int)) hV;have hl3:vs.length<=2:=qA;have hrf:=We gl (F:=F) (p:=p) (W:=V) (a:=a) (x:=X);generalize hq:zh p V a X=q at hstep hA hrf;obtain⟨V',v⟩:=q;simp only at hstep hA hrf;refine qI ?_<|yD t0 t1 t15 hp15 t16 t17 t8 hp8 hil hx<|hxE;intro K hK;have fx:=aI t0 (aI t1 hT1);refine kM hO (have om:=hO1;qZ.re om) hl1 hl2 (hF:=λhs=>hrf _ hP hV haV qA hen hs) (h:=?_);rintro y H2 ⟨rfl,hO2⟩;clear fx;have hT2:=hO2.top;simp only [zj] at hT2;by_cases hen2:V'.en=0
  .obtain⟨v1,v2⟩:=v;refine qI ?_<|qr t0 t1 t15 hp15 t16 t17 t8 hp8 hT1 hE1 hT2 hen2<|hl3;refine⟨s.reads.length - (i+1),qA,i+1,V',vs++[(v1,v2)],rfl,qA,by simp [hvl],?_,hA.ok,hen2,uW haV hA.grow.aP,ka hl1 hA.grow.aP,ka hl2 hA.grow.Bj,by simp [t0,hT1],by simp [t1,hE1],by simp [t15],by simp [hp15],by simp [t16],by simp [t17];exact qi qA qA,qB,oM,⟨by simp [hO2.top,zj,hen2],⟨by simp [hO2.kW.top,hen2],λj k hj hk=>by simp [hO2.kW.sc j k hj hk,hen2]⟩,by simp [hO2.out,hen2],by simp [hO2.yH,hen2],hO2.run.imp λl hl=>⟨hl.1,by simp [hl.2,hen2]⟩,by simp [hO2.qJ,hen2],λk g hg=>by simp [hO2.bx k g hg,hen2],by simp [hO2.jk,hen2],λk c hc=>(hO2.cls k c hc).imp λms hm=>⟨Ak,hm.2⟩,λi a ha=>by simp [hO2.env i a ha,hen2],λi hi=>(hO2.ju i hi).imp λms hm=>⟨Ak,hm.2⟩,λk i j hk hn=>if e:k=1/\i=0/\j=0 then .inl e else hO2.only k i j hk mR⟩⟩;rw [hres,hstep];simp
  .have hend:(zB p W a s.reads).1=V':=by
    rw [hres,hstep]
    cases hl:s.reads.drop (i+1) with
    | nil=>rfl
    | cons y l=>simp only [zB];rw [if_pos hen2]
   obtain⟨v1,v2⟩:=v;refine qI ?_<|qr t0 t1 t15 hp15 t16 t17 t8 hp8 hT1 hE1 hT2 hen2<|hl3;refine qG [(.s 6,root)] (.one rfl) qH ⟨by rw [hend];exact qZ.fin (have om:=hO2;qZ.re om),.inr ⟨by rw [hend];exact hen2,qB⟩⟩
 .have hge:i=s.reads.length:=qA
  have hend:zB p W a s.reads=(V,vs):=by
   rw [hres,hge];simp [zB]
  rw [hend];refine qI ?_<|yz t0 t1 t15 hp15 t16 t17 t8 hp8<|hil;refine qG [(.s 6,root)] (.one rfl) qH ⟨qZ.fin (have om:=hO1;qZ.re om),.inl ⟨hen,qB,by simp [hp8,hr0]⟩⟩
abbrev F7:qb:=pJ<|.l 14 []<|.done
def iV (gl:Nat->Option (List AV)) (F:Nat) (p:qC) (n:Nat):Prop:=∀ (H:Nm->Option AO) (W:qK) (a:Nat),qZ H F p W->qt p W->W.left<n->a<W.qF.length->W.en=0->H (.u 2 0 0)=none ->
 qV prog gl 61 DM [.pt Mn 0,vh a] H (λ_ y H'=>y=.zT [qR.av (qg p n W a).2,bv (decide ((qg p n W a).1.en=0))]/\qZ H' F p (qg p n W a).1) qy
theorem Ia (gl) (F:Nat) (p:qC) (n:Nat) (hR:iV gl F p n) (H:Nm->Option AO) (W:qK) (b up:Nat) (vs:List qR) (hP:zq p) (hw:qt p W) (hn:W.left<n) (h0:W.en=0) (hm:vL p W.qF b up) (hv:∀ v∈vs,zO W.qJ.length W.qO.length v) (hr:Room 1 W)
  (hO:qZ H F p { zd p W b up vs with stack:=W.stack }) (hV:H (.u 2 0 0)=none) :
  qV prog gl 230 DM [.pt Mn 0,vh W.qF.length] H (λ_ y H'=>y=.zT [qR.av (z8 p (qg p n) W b up vs).2,bv (decide ((z8 p (qg p n) W b up vs).1.en=0))]/\qZ H' F p (z8 p (qg p n) W b up vs).1) qy:=by
 have hT:=hO.top;obtain⟨sl,hslb,hS⟩:=hO.run;simp only [zj] at hT;obtain⟨hok,hgr⟩:=oD hw hm hv hr;have hl2:=hr.zR;have hsl:W.stack.length<=1000:=qA;have hlen:W.qF.length<(zd p W b up vs).qF.length:=oJ;obtain⟨c,hc⟩:=gX hlen;have hE:=hO.env W.qF.length c hc;have hap:zV W.stack++[[vh W.qF.length]]=zV (W.stack++[W.qF.length]):=QU;have hst:(zd p W b up vs).stack=W.stack++[W.qF.length]:=rfl;refine qV.qa func230 [.cell 4 115,.tmp 5] ntmps230 (λ_=>qv) λC w g root hroot=>?_;have fx:=qk hT hS<|hsl;refine qQ ?_
 repeat ((first|refine qf (id:=4) F7 mixed ?_);refine zQ ?_;refine qQ ?_)
 clear fx;intro K hK;have fx:=aI hT hE;have hBo:∀ hp:Nm->Option AO,qZ hp F p (zd p W b up vs)->qZ hp F p (zd p W b up vs):=λ_ h=>h;refine kM hO (w:=zd p W b up vs) ⟨by simp [zj,hT,hst],⟨rR,λj k hj hk=>pi⟩,rF,ti,⟨[],qB,by simp [hst,<- hap]⟩,rX,λk g hg=>by simp [hO.bx k g hg],tg,λk c hc=>(hO.cls k c hc).imp λms hm=>⟨cW,hm.2⟩,λi a ha=>by simp [hO.env i a ha],λi hi=>(hO.ju i hi).imp λms hm=>⟨cW,hm.2⟩,λk i j hk hn=>if e:k=1/\i=0/\j=0 then .inl e else hO.only k i j hk mR⟩ (qX _) (qX _) (hF:=λhs=>hR _ (zd p W b up vs) W.qF.length hs hok hn hlen h0 qB) (h:=?_);rintro y H1 ⟨rfl,hO1⟩;clear fx;obtain⟨hAf,hvok⟩:=dZ hP.sh n (zd p W b up vs) W.qF.length hok hn hlen h0;have hent:z8 p (qg p n) W b up vs=(kG (qg p n (zd p W b up vs) W.qF.length).1,(qg p n (zd p W b up vs) W.qF.length).2):=rfl;generalize qg p n (zd p W b up vs) W.qF.length=q at hO1 hAf hvok hent;obtain⟨V,v1,v2⟩:=q;simp only at hO1 hAf hvok hent;have hT1:=hO1.top;obtain⟨sl1,hslb1,hS1⟩:=hO1.run;simp only [zj] at hT1;by_cases hen:V.en=0
 .have hstk:V.stack=W.stack++[W.qF.length]:=hAf.zR hen;have hsl1:V.stack.length=W.stack.length+1:=by rw [hstk];simp
  have hwr:IntKind.i64.wrap (W.stack.length:Int)=W.stack.length:=qi qA qA
  have hend:kG V={ V with stack:=W.stack }:=by
   unfold kG;rw [if_pos hen,hstk];simp
  have hslb2:∀ i∈W.qF.length::sl1,i<V.qF.length:=by
   intro i hi;have:=hAf.grow.aP;rcases vB.1 hi with e|e
   .omega
   .exact hslb1 i e
  have hle1:(W.stack.length:Int)<=(W.stack.length:Int)+1:=qA;have hle0:(0:Int)<=(W.stack.length:Int):=qA;rw [hend] at hent;rw [hsl1] at hT1;have fx:=jJ hT hE hT1 hS1 hen hwr hle1<|hle0;refine qQ ?_
  repeat ((first|refine qf (id:=4) F7 mixed ?_);refine zQ ?_;refine qQ ?_)
  clear fx;rw [hent];refine qG [] .nil qH ⟨by simp [hen],qZ.fin ⟨by simp [zj,hen],⟨by simp [hO1.kW.top],λj k hj hk=>by simp [hO1.kW.sc j k hj hk]⟩,by simp [hO1.out],tV,⟨W.qF.length::sl1,hslb2,by simp [hS1,hstk]⟩,Ao,λk g hg=>by simp [hO1.bx k g hg],xD,λk c hc=>(hO1.cls k c hc).imp λms hm=>⟨cW,hm.2⟩,λi a ha=>by simp [hO1.env i a ha],λi hi=>(hO1.ju i hi).imp λms hm=>⟨cW,hm.2⟩,λk i j hk hn=>if e:k=1/\i=0/\j=0 then .inl e else hO1.only k i j hk mR⟩⟩
 .have hend:kG V=V:=by
   unfold kG;rw [if_neg hen]
  rw [hend] at hent;have fx:=zC hT hE hT1<|hen;refine qQ ?_
  repeat ((first|refine qf (id:=4) F7 mixed ?_);refine zQ ?_;refine qQ ?_)
  clear fx;rw [hent];refine qG [] .nil qH ⟨by simp [hen],qZ.fin (have om:=hO1;qZ.re om)⟩
abbrev LM:qb:=eX<|.l 9 [8,7,6,5,4,3,2,1,0]<|.l 10 []<|.done
abbrev LN:qb:=eX<|.l 9 [4,3,2,1,0]<|.l 10 [0]<|.q 11<|.q 12<|.l 13 []<|.done
@[simp] theorem cells_fn {f:Fn} {xs ys:List AV}:(AV.fn f xs ys).cells=some [.fn f xs ys]:=rfl
@[simp] theorem one_fnav {f:Fn} {xs ys:List AV}:(AV.fn f xs ys).one=true:=rfl
@[simp] theorem one_nfn:(AV.sc .nilFunc).one=true:=rfl
@[simp] theorem fn_tsz:qd prog 311=1:=qY
@[simp] theorem fn_agg:jD prog 311=some false:=qY
theorem Pa {F:Nat} {p:qC} {l:List (Nat×Nat)} {g:List AV->List AV} (h:∀ (i:Nat) c,l[i]?=some c->g (fR F p i c)=fR F p i c):(wZ F p l).map g=wZ F p l:=by
 apply vl;intro j;rw [jg,IW]
 cases hj:l[j]? with
 | none=>rfl
 | some a=>simp only [uX];rw [h j a hj]
theorem RA (gl) (H:Nm->Option AO) (p:qC) (W:qK) (a b:Nat) (k:qT) (hw:qt p W) (ha:a<W.qF.length) (hk:p[b]?=some k) (hr:Room 1 W) (hpl:k.params.length<=1000) (hO:qZ H 229 p W) :
  qV prog gl 192 DM [.pt Mn 0,vh a,iv b] H (λ_ y H'=>y=qR.av (2,(W.qJ.length:Int))/\qZ H' 229 p { W with qJ:=W.qJ++[(b,a)] }) qy:=by
 have hT:=hO.top;have hF:=hO.qJ;simp only [zj] at hT;obtain⟨zF,hkE⟩:=gS hk;obtain⟨c,hc⟩:=gX ha;have hE:=hO.env a c hc;have hfl:=hr.qJ;have hfl':W.qJ.length<=1000:=qA;have hwr:IntKind.i64.wrap (W.qJ.length:Int)=W.qJ.length:=qi qA qA;have hpar:vT p b=k.params.length:=by simp [vT,hk]
 have hno:∀ j,H (.u 8 W.qJ.length j)=none:=λj=>by
  cases e:H (.u 8 W.qJ.length j) with
  | none=>rfl
  | some o =>
   rcases hO.only 8 W.qJ.length j rfl ta with⟨h,_⟩|⟨h,_⟩|⟨_,h,_⟩
   .cases h
   .cases h
   .omega
 have hap:wZ 229 p W.qJ++[fR 229 p W.qJ.length (b,a)]=wZ 229 p (W.qJ++[(b,a)]):=P9;simp only [fR,hpar] at hap;refine qV.qa func192 [.cell 6 115] ntmps192 (λ_=>qv) λC w g root hroot=>?_;have fx:=zC hT hk hkE<|zF;refine qQ ?_
 repeat ((first|refine qf (id:=1) LM mixed ?_|refine qf (id:=2) LN mixed ?_);refine zQ ?_;refine qQ ?_)
 clear fx;intro K hK;refine kH (.s 3) (.u 8 W.qJ.length 3) (.inl rfl) (.inr po) ?_;refine kH (.s 4) (.u 8 W.qJ.length 1) (.inl rfl) (.inr po) ?_;refine kH (.s 5) (.u 8 W.qJ.length 0) (.inl rfl) (.inr po) ?_;refine kH (.s 7) (.u 8 W.qJ.length 2) (.inl rfl) (.inr po) ?_;have fx:=jQ hT hk hkE zF hF hfl'<|hwr;refine qQ ?_
 repeat ((first|refine qf (id:=1) LM mixed ?_|refine qf (id:=2) LN mixed ?_);refine zQ ?_;refine qQ ?_)
 clear fx;refine qG [] .nil qH ⟨qB,qZ.fin ⟨by simp [zj],⟨rR,λj k hj hk=>pi⟩,rF,ti,hO.run.imp λl hl=>⟨hl.1,th⟩,?_,?_,tg,λk c hc=>(hO.cls k c hc).imp λms hm=>⟨cW,hm.2⟩,λi d hd=>by simp [hO.env i d hd],λi hi=>(hO.ju i hi).imp λms hm=>⟨cW,hm.2⟩,?_⟩⟩
 .simp [<- hap];rw [yU qB];refine Pa λi c hc=>?_;have hne:¬ i=W.qJ.length:=Au;have hne':¬ W.qJ.length=i:=qA;simp [fR,bU,hne,hne']
 .intro i g hg;simp only at hg;rcases aC i W.qJ.length with hlt|hge
  .rw [vn hlt] at hg;obtain⟨b1,b2,b3,b4⟩:=hO.bx i g hg;have hne:¬ i=W.qJ.length:=qA;have hne':¬ W.qJ.length=i:=qA;exact⟨by simp [b1,hne,hne'],by simp [b2,hne,hne'],by simp [b3,hne,hne'],by simp [b4,hne,hne']⟩
  .rw [kD hge] at hg
   have hi:i=W.qJ.length:=by
    have:=(gS hg).1;simp at this;omega
   subst hi;simp at hg;subst hg;exact⟨qB,qB,by simp [hk],qB⟩
 .intro k' i j hk' hn;by_cases e8:k'=8/\i=W.qJ.length/\j<4
  .exact .inr (.inr ⟨e8.1,qn,e8.2.2⟩)
  .by_cases e1:k'=1/\i=0/\j=0
   .exact .inl e1
   .have n0:¬ (k'=8/\i=W.qJ.length/\j=0):=λe=>e8 ⟨e.1,e.2.1,qA⟩;have n1:¬ (k'=8/\i=W.qJ.length/\j=1):=λe=>e8 ⟨e.1,e.2.1,qA⟩;have n2:¬ (k'=8/\i=W.qJ.length/\j=2):=λe=>e8 ⟨e.1,e.2.1,qA⟩;have n3:¬ (k'=8/\i=W.qJ.length/\j=3):=λe=>e8 ⟨e.1,e.2.1,qA⟩;have hn':H (.u k' i j)≠none:=by simpa [hk',e1,n0,n1,n2,n3] using hn
    rcases hO.only k' i j hk' hn' with h|h|h
    .exact .inl h
    .exact .inr (.inl h)
    .exact .inr (.inr ⟨h.1,qn,h.2.2⟩)
abbrev V6:qb:=eX<|.l 9 []<|.done
def jn (p:qC) (w:qK) (b up:Nat) (vs:List qR) (i:Nat):qK:={ jI p w b up vs i with stack:=w.stack }
theorem OH {p:qC} {w:qK} {b up i:Nat} {vs:List qR} (h:qt p w) (hm:vL p w.qF b up) (hv:∀ v∈vs,zO w.qJ.length w.qO.length v) (hr:Room 1 w):qt p (jn p w b up vs i):=by
 have hb:=DA (i:=i) h hm hv hr;exact⟨hb.a0,hb.vars,hb.wV,hb.up,hb.zJ,hb.qJ,hb.cls,λj hj=>by have:=h.zR j hj;simp [jn,jI];omega,hb.ko,hb.ah,hb.wg,hb.kR,hb.wh,h.lP,hb.dV,hb.eH⟩
theorem HQ {p:qC} {w:qK} {b up i j:Nat} {vs:List qR} (e:¬ j=w.qF.length):(jn p w b up vs i).ju j=w.ju j:=by
 by_cases e0:j=0
 .simp [qK.ju,jn,jI,e0]
 .simp only [qK.ju,jn,jI,e0,if_false];rcases aC j w.qF.length with hlt|hge
  .rw [vn hlt]
  .have h1:w.qF[j]?=none:=fD qA;rw [h1,kD hge,fD qn]
theorem HR {p:qC} {w:qK} {b up i:Nat} {k:qT} {vs:List qR} (hpos:¬ w.qF.length=0) (hk:p[b]?=some k):(jn p w b up vs i).ju w.qF.length=aD (k.params.take i) (vs.take i):=by
 simp [qK.ju,jn,jI,hpos,hk]
theorem sA {A G G2:Prop} (k:G2) (x:A) (h:A->jP G2->G:=by
 intro fx kk;refine qQ ?_
 repeat ((first|refine qf (id:=5) V6 mixed ?_);refine zQ ?_;refine qQ ?_)
 exact kk.h):G:=h x ⟨k⟩
theorem Pc (gl) (F:Nat) (p:qC) (n:Nat) (hR:iV gl F p n) (H:Nm->Option AO) (W:qK) (k b up lo:Nat) (vs all:List qR) (hP:zq p) (hw:qt p W) (hn:W.left<n) (h0:W.en=0) (hg:W.qJ[k]?=some (b,up)) (hv:∀ v∈vs,zO W.qJ.length W.qO.length v) (hr:Room 1 W)
  (hall:all.drop lo=vs) (hlo:lo+vs.length=all.length) (hpar:vT p b=vs.length) (hv2:vs.length<=1) (hO:qZ H F p W) (hL:H (.u 2 0 0)=some (.row 2 (jZ all))) :
  qV prog gl 229 kY [.hs (.u 2 0 0) 2 lo vs.length,.pt (.u 8 k 0) 0,.pt (.u 8 k 1) 0,.pt (.u 8 k 2) 0,.pt (.u 8 k 3) 0] H (λ_ y H'=>y=.zT [qR.av (z8 p (qg p n) W b up vs).2,bv (decide ((z8 p (qg p n) W b up vs).1.en=0))]/\qZ H' F p (z8 p (qg p n) W b up vs).1) qy:=by
 have hm:=hw.qJ k (b,up) hg;obtain⟨kb,hk,hpk⟩:=hm.shape;simp only at hm hk hpk;obtain⟨zF,hkE⟩:=gS hk;obtain⟨b1,b2,b3,b4⟩:=hO.bx k (b,up) hg;simp only [hk] at b1 b2 b3 b4;refine qV.qa func229 [.cell 6 115,.tmp 7] ntmps229 (λ_=>n9) λC w g root hroot=>?_;refine sA ?_<|zC b1 b2 b3<|b4;intro K hK;have fx:=qS;refine Gi (h:=?_);clear fx;refine sA ?_<|zM b1 b2 b3 b4<|hk
 have hpos:¬ W.qF.length=0:=by
  obtain⟨a,ha,_⟩:=hw.a0;have:=(gS ha).1;omega
 have hno:∀ j,H (.u 7 W.qF.length j)=none:=λj=>by
  cases e:H (.u 7 W.qF.length j) with
  | none=>rfl
  | some o =>
   rcases hO.only 7 W.qF.length j rfl ta with⟨h,_⟩|⟨_,h,_⟩|⟨h,_⟩
   .cases h
   .omega
   .cases h
 refine G7 (.s 8) (En W.qF.length) (.inl rfl) (.inr po) ?_;refine zU (λm st=>∃ i:Nat,m=vs.length - i/\i<=vs.length/\st.tm 0=.hs (.u 2 0 0) 2 lo vs.length/\st.hp (.u 2 0 0)=some (.row 2 (jZ all))/\st.tm 4=.pt (.u 8 k 3) 0/\st.tm 6=.pt (.s 6) 0/\st.hp (.s 6)=some (.row 2 [[iv 0,iv 0]])/\st.tm 8=vh W.qF.length/\st.tm 16=vJ kb.params/\st.tm 17=iv vs.length/\st.tm 18=iv i/\qZ st.hp F p (jn p W b up vs i)) vs.length ?_ ?_
 .have hpos':¬ 0=W.qF.length:=λe=>hpos e.symm
  have hupl:¬ up=W.qF.length:=by
   obtain⟨c,_,e,_⟩:=hm;have:=(gS e).1;omega
  refine⟨0,qA,qA,qB,dO,qB,qB,qB,qB,qB,by simp [<- hpar,hpk],qB,?_⟩;refine⟨by simp [zj,jn,jI,hO.top,hpos'],⟨rR,λj k hj hk=>pi⟩,by simp [jn,jI,hO.out],by simp [jn,jI,hO.yH],hO.run.imp λl hl=>⟨λi hi=>by have:=hl.1 i hi;simp [jn,jI];omega,?_⟩,by simp [jn,jI,hO.qJ],λk' g hg=>?_,by simp [jn,jI,hO.jk],λk c hc=>(hO.cls k c hc).imp λms hm=>⟨cW,hm.2⟩,λi d hd=>?_,λi hi=>?_,λk' i j hk' hn=>?_⟩
  .simp [hl.2,jn];refine rr λi hi=>?_
   have hlt:i<W.qF.length:=by
    rcases jo.1 hi with e|e
    .exact hw.zR i e
    .exact hl.1 i e
   have hne:¬ i=W.qF.length:=qA;simp [hne]
  .have hgl:¬ g.2=W.qF.length:=by
    obtain⟨c,_,e,_⟩:=hw.qJ k' g hg;have:=(gS e).1;omega
   simp [hO.bx k' g hg,hgl]
  .simp only [jn,jI] at hd;rcases aC i W.qF.length with hlt|hge
   .rw [vn hlt] at hd;have hne:¬ i=W.qF.length:=qA;have hne':¬ W.qF.length=i:=qA;by_cases e0:i=0
    .subst e0;simp [hO.env 0 d hd,uk,hne,hne']
    .have hup:=(hw.up i d hd qA).1;have hupn:¬ d.up=W.qF.length:=qA;simp [hO.env i d hd,uk,e0,hne,hne',hupn]
   .rw [kD hge] at hd
    have hi:i=W.qF.length:=by
     have:=(gS hd).1;simp at this;omega
    subst hi;simp at hd;subst hd;simp [uk,hpos,hupl]
  .by_cases e:i=W.qF.length
   .subst e;rw [HR hpos hk];exact⟨[],qB,by simpa [aD] using kZ.nil⟩
   .rw [HQ e]
    have hlt:i<W.qF.length:=by
     simp [jn,jI] at hi;omega
    have hne':¬ W.qF.length=i:=qA;exact (hO.ju i hlt).imp λms hm=>⟨by simp [hm.1,e,hne'],hm.2⟩
  .by_cases e7:k'=7/\i=W.qF.length/\j=0
   .exact .inr (.inl ⟨e7.1,Ay,e7.2.2⟩)
   .by_cases e1:k'=1/\i=0/\j=0
    .exact .inl e1
    .have hn':H (.u k' i j)≠none:=by simpa [hk',e1,e7] using hn
     rcases hO.only k' i j hk' hn' with h|h|h
     .exact .inl h
     .exact .inr (.inl ⟨h.1,Ay,h.2.2⟩)
     .exact .inr (.inr h)
 rintro m st - - ⟨i,rfl,hi,t0,hp2,t4,t6,hp6,t8,t16,t17,t18,hO1⟩;have hT1:=hO1.top;simp only [zj] at hT1;have hact:(jn p W b up vs i).qF[W.qF.length]?=some ⟨b,up,aD (kb.params.take i) (vs.take i)⟩:=by simp [jn,jI,hk]
 have hE1:=hO1.env W.qF.length _ hact;simp only [uk,hpos,if_false] at hE1;obtain⟨c1,c2,c3,c4⟩:=hO1.bx k (b,up) hg;by_cases hil:i<vs.length
 .obtain⟨x,hx⟩:∃ x,kb.params[i]?=some x:=⟨_,gE qA⟩;obtain⟨hxl,hxE⟩:=gS hx;have hxr:=(hP.sh.names kb (gM hk)).params x (gM hx);obtain⟨v,hvi⟩:=gX hil;have hva:all[lo+i]?=some v:=by rw [<- hvi,<- hall,tL]
  obtain⟨hal',hvE⟩:=gS hva;have hst:=HZ (w:=W) (up:=up) hP hk hx hvi;obtain⟨X,rfl⟩:∃ X:Nat,x=X:=⟨x.toNat,qA⟩;obtain⟨v1,v2⟩:=v;have hokI:qt p (jn p W b up vs i):=OH hw hm hv hr
  have hloc:(jn p W b up vs i).loc p W.qF.length X=some W.qF.length:=by
   have ho:=hP.pm b kb hk (X:Int) (gM hx);have hnl:¬ (b:Int)<0:=qA;simp only [qK.loc,v8 hact,ho,hnl,if_false,vN];rw [dQ hact rfl]
  have hla:W.qF.length<(jn p W b up vs i).qF.length:=by simp [jn,jI]
  obtain⟨hnm,_⟩:=Bp (x:=(X:Int)) hP.sh.jR hokI hla;obtain⟨ms,hms,hmo⟩:=hO1.ju W.qF.length hla
  have hmo':kZ ms ((jn p W b up vs i).vars (some W.qF.length)):=by
   rw [hloc] at hnm;rw [<- hnm];exact hmo
  have hnext:(jn p W b up vs i).set (some W.qF.length) X (some (v1,v2))=jn p W b up vs (i+1):=by
   have hl2:(jI p W b up vs i).loc p W.qF.length X=some W.qF.length:=hloc;unfold cz at hst;rw [hl2] at hst;unfold jn;rw [<- hst]
   rfl
  refine sA ?_<|qr t0 hp2 t4 t6 hp6 t8 t16 t17 t18 hT1 hE1 hil<|jQ hx hxE hxl hva hvE hal'<|hms;intro K hK;have fx:=aI t8 hms;refine NV (h:=?_);clear fx;refine sA ?_<|qr t0 hp2 t4 t6 hp6 t8 t16 t17 t18 hT1 hE1 hil<|jQ hx hxE hxl hva hvE hal'<|hms;refine⟨vs.length - (i+1),qA,i+1,rfl,qA,kg,jq,by simp [t4],by simp [t6],gb,gW,by simp [t16],by simp [t17],zw,?_⟩;rw [<- hnext];refine FK hP.sh.jR hokI hla qA hloc hnm hO1 (hmo'.set ⟨qA,qA⟩) λm hm=>?_;by_cases e:m=.c (En W.qF.length) 0 1 <;> simp [w9,e]
 .obtain rfl:i=vs.length:=qA
  have hbeg:jn p W b up vs vs.length={ zd p W b up vs with stack:=W.stack }:=by
   unfold jn;rw [HY qA (qX _)]
  rw [hbeg] at hO1;refine sA ?_<|jJ t0 t4 t6 hp6 t8 t17 t18<|c4;intro K hK;have fx:=aI t8 hT1;refine kM hO (w:={ zd p W b up vs with stack:=W.stack }) (have om:=hO1;qZ.re om) oJ (qX _) (hF:=λhs=>Ia gl F p n hR _ W b up vs hP hw hn h0 hm hv hr hs qB) (h:=?_);rintro y H2 ⟨rfl,hO2⟩;clear fx;generalize hq:z8 p (qg p n) W b up vs=q at hO2;obtain⟨V,v1,v2⟩:=q;simp only at hO2;have hT2:=hO2.top;simp only [zj] at hT2;refine sA ?_<|zM t6 hp6 t8 hT1<|hT2;rw [hq];refine qG [] .nil (by simp [t6];rfl) ⟨qB,qZ.fin (have om:=hO2;qZ.re om)⟩
end Go.Proofs.YtjgpejikjhojcaaGreatDoor
end
section
namespace Go.Proofs.YtjgpejikjhojcaaGreatDoor
open Go Go.Hm Go.Proofs Go.RowKit Tryz
theorem Pb (b:Nat) (es:Array MapEntry) (clock:Nat) (w:World) (hb:w.heap[b]?=some (.map es clock)) :
  Calls prog 231 #[.map (some b)] w λe w'=>e=.returned (.map (some w.heap.size))/\w'=w.alloc (.map es clock):=by
 have hq:=λw=>run_eql_map_nil_sl (P:=prog) w 111 _ _ (some b) Tryz.underlying111
 go_enter func231,ntmps231
 go_wp2
 rw [run_callFunc_extern func240 qY qY qY (e:=Extern.MapsClone.clone) qY,run_maps_clone_sl w 111 hb];simp only [Result.andThen];rw [Oper.upon_value]
 go_wp2
 rw [run_typeAssert_map_sl _ 111 _ _ _ _ Tryz.underlying111];simp only [Result.andThen];rw [Oper.upon_value]
 go_wp2
 go_ret
 exact⟨rfl,rfl⟩
def EH (d:Nat) (es:List (AV×AV)) (st:St):St:=((st.kill (.s d)).zS (.s d) (.map es)).put (some d) (.mp (.s d))
theorem qAX {X:Ctx} {st:St} {K:St->Prop} {E:AV->St->Prop} {ty:TypeId} {pos:String} {aft:Array Edge} {gd:Option (Nat×Bool)} {d:Nat} {args:Array Operand} {Ts:Array TypeId} {n:Nm} {es:List (AV×AV)} {st':St} (hP:X.P=prog)
  (hd:d<X.n:=by first|(simp;done)|fail) (ha:args.toList.map (ev st)=[.mp n]:=by simp [fx];first|done|rfl) (hn:st.hp n=some (.map es):=by simp [fx];first|done|rfl) (hsc:∀ e∈es,∀ f:Nm->Option Nm,e.1.tr f=e.1/\e.2.tr f=e.2)
  (hs:EH d es st=st':=by simp [fx,EH];first|done|rfl) (h:K st') :
  q8 X ⟨some d,.call ⟨.value (.func 231),args,Ts⟩,ty,pos,aft,gd⟩ K E st:=by
 subst hs;intro a w Q hR hQ;obtain⟨C,g,h1,h2,h3,h4,h5,hg⟩:=hR;have hcal:iR X.P 231:=by rw [hP];exact⟨_,rfl,rfl,rfl⟩
 obtain⟨vs,hrun,hsz,hrel⟩:=mc (st:=st) (o:=⟨some d,.call ⟨.value (.func 231),args,Ts⟩,ty,pos,aft,gd⟩) hcal rfl _ _ _ _ _ _ hg;rw [ha] at hsz hrel;unfold Oper.wp;rw [hrun,Oper.upon_enter]
 obtain⟨v,rfl⟩:∃ v,vs=#[v]:=by
  rcases vs with⟨l⟩;simp at hsz;obtain⟨v,rfl⟩:=pX.1 hsz;exact⟨v,rfl⟩
 have hv:=hrel 0 v (.mp n) rfl rfl
 cases hv with
 | mp _ b hk =>
 have hat:=hg.inv.obj n _ hn;simp only [jU,hk] at hat;obtain⟨ms,clock,hb,hst,hlen,hrv⟩:=hat;have hC':∀ b',C b'->(w.alloc (.map ms.toArray clock)).heap[b']?=w.heap[b']?:=λb' hb'=>gP _ (hg.inv.u0 b' hb')
 have hm:=hg.made (.s d) (.map es) w.heap.size 0 (w.alloc (.map ms.toArray clock)) [] qB (λ_=>false) rfl rfl rfl qB (.inl (qX _)) qB (λb' _ hb'=>gP _ hb') (by
  simp only [jU,(kP (g:=g) (.s d) (some w.heap.size) 0).1];refine⟨ms,clock,heap_alloc_new w _,hst,hlen,λi m e hi he=>?_⟩;obtain⟨r1,r2⟩:=hrv i m e hi he;obtain⟨q1,q2⟩:=hsc e (gM he) (kl (.s d));have h1:=hg.rv (g':=g.fresh (.s d) (some w.heap.size) 0) (w':=w.alloc (.map ms.toArray clock)) rfl hC' (BU (.s d) (some w.heap.size) 0) r1;have h2:=hg.rv (g':=g.fresh (.s d) (some w.heap.size) 0) (w':=w.alloc (.map ms.toArray clock)) rfl hC' (BU (.s d) (some w.heap.size) 0) r2;rw [q1] at h1;rw [q2] at h2;exact⟨h1,h2⟩)
 have e:(st.nm (kl (.s d)) (λm=>if (λ_=>false:Nm->Bool) m then none else jG (.s d) st.hp m))=st.kill (.s d):=rI;rw [e] at hm;have hput:=hm.put (d:=some d) (v:=.map (some w.heap.size)) (x:=.mp (.s d)) (λt e=>by obtain rfl:=sI e;show d<st.n;omega) (.mp _ _ (kP _ _ _).1)
 have hcl:Calls X.P 231 #[.map (some b)] w λe w'=>e=.returned (.map (some w.heap.size))/\w'=w.alloc (.map ms.toArray clock):=by
  rw [hP];exact Pb b ms.toArray clock w hb
 refine hcl.mono ?_;rintro e w' ⟨rfl,rfl⟩;exact⟨EH d es st,⟨C,g.fresh (.s d) (some w.heap.size) 0,h1,h2,h3,h4,h5.step (.fresh rfl),hput⟩,h⟩
end Go.Proofs.YtjgpejikjhojcaaGreatDoor
end
