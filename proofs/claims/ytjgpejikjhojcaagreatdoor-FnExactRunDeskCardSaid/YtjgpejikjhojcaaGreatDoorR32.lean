import Derived.Test.YtjgpejikjhojcaaGreatDoorR31
import Derived.Shelf.SlMaps.Clone
set_option linter.unusedSimpArgs false
set_option linter.unusedVariables false
set_option maxRecDepth 100000
set_option maxHeartbeats 4000000

section
namespace Go.Proofs.YtjgpejikjhojcaaGreatDoor
open Go Go.Hm Go.Proofs Tryz
theorem Xa (gl) (H:Nm->Option AO) (F:Nat) (p:qC) (W:qL) (a x:Nat) (hP:zr p) (hw:zF p W) (ha:a<W.qI.length) (hx:x<8) (h0:W.en=0) (hO:qb H F p W) :
  qZ prog gl 143 DM [.pt Mn 0,vo a,iv x] H (λ_ y H'=>y=.zX [qW.av (jY p W a x).2,bv (decide ((jY p W a x).1.en=0))]/\qb H' F p (jY p W a x).1) zG:=by
 have hh:=hP.jj;have hx7:0<=(x:Int)/\(x:Int)<=7:=qA;obtain⟨hnm,hil⟩:=CP (x:=(x:Int)) hh hw ha;have hT:=hO.top;simp only [zx] at hT;obtain⟨c,hc⟩:=gX ha;have hE:=hO.env a c hc;refine qZ.q9 func143 [.cell 6 115,.tmp 7] ntmps143 (λ_=>zC) λC w g root hroot=>?_;refine qJ ?_<|qd;intro K hK;have fx:=qd;refine kP hO (have om:=hO;qb.re om) (qa _) (qa _) (hF:=λhs=>Ep _ _ F p W a x hP hw ha hx hs) (h:=?_);rintro y H1 ⟨rfl,hO1⟩;clear fx;have hT1:=hO1.top;simp only [zx] at hT1;obtain⟨o,ho⟩:∃ o,zI p (W.qG a) x=o:=⟨_,rfl⟩;obtain⟨l,hl⟩:∃ l,W.loc p a x=l:=⟨_,rfl⟩;rw [hl] at hnm hil ⊢;rw [ho];obtain⟨i,hi⟩:∃ i,w6 l=i:=⟨_,rfl⟩;rw [hi] at hnm hil ⊢;obtain⟨d,hd⟩:=gX hil;have hE1:=hO1.env i d hd;simp only [ud] at hE1;obtain⟨ms,hms,hmo⟩:=hO1.yJ i hil;rw [hnm] at hmo;have hlk:=hmo.get' hx7
 cases hg:W.get l x with
 | some v =>
  rw [hg] at hlk;have hlw:jY p W a x=(W,v):=by simp only [jY,hl,hg]
  refine qJ ?_<|jH hT hE hT1 hE1 hms<|hlk;rw [hlw];refine qF [] .nil qE ⟨vg,qb.fin (have om:=hO1;qb.re om)⟩
 | none =>
  rw [hg] at hlk;by_cases h4:Hm.yf p (W.qG a) o=4
  .have h4b:(Hm.yf p (W.qG a) o==4)=true:=by simpa using h4
   obtain⟨a0,h00,hb0⟩:=hw.a0;have hl0:=(gS h00).1;have hE0:=hO1.env 0 a0 h00;simp only [ud] at hE0;obtain⟨mg,hmg,hgo⟩:=hO1.yJ 0 hl0;have hgo':kn mg (W.vars none):=by simpa [qL.yJ,qL.vars] using hgo
   have hlg:=hgo'.get' hx7
   cases hg2:W.get none x with
   | some v =>
    rw [hg2] at hlg;have hlw:jY p W a x=(W,v):=by simp only [jY,hl,ho,hg,h4,if_true,hg2]
    refine qJ ?_<|jS hT hE hT1 hE1 hms hlk h4b hE0 hmg hlg<|@qz;rw [hlw];refine qF [] .nil qE ⟨vg,qb.fin (have om:=hO1;qb.re om)⟩
   | none =>
    rw [hg2] at hlg;by_cases h7:x=7
    .subst h7;have hlw:jY p W a ((7:Nat):Int)=(W,(1,70)):=by simp only [jY,hl,ho,hg,h4,if_true,hg2];simp
     have hlk7:lk (7:Int) ms=none:=hlk;have hlg7:lk (7:Int) mg=none:=hlg;refine qJ ?_<|jS hT hE hT1 hE1 hms hlk7 h4b hE0 hmg hlg7<|@qz;rw [hlw];refine qF [] .nil qE ⟨vg,qb.fin (have om:=hO1;qb.re om)⟩
    .have h7i:¬ (x:Int)=7:=qA;have h7b:((x:Int)==7)=false:=by simpa using h7i
     have hlw:jY p W a x=({ W with en:=4 },(0,0)):=by
      simp only [jY,hl,ho,hg,h4,if_true,hg2,h7i,if_false]
     refine qJ ?_<|jS hT hE hT1 hE1 hms hlk h4b hE0 hmg hlg<|aI h7b<|@qz;intro K hK;have fx:=aI hT (aI hE hT1);refine kP hO (have om:=hO1;qb.re om) (qa _) (qa _) (hF:=λhs=>iS _ _ F p W 4 hs) (h:=?_);rintro y H2 ⟨rfl,hO2⟩;clear fx;have hT2:=hO2.top;simp only [zx] at hT2;refine qJ ?_<|zN hT hE hT1 hE1<|hT2;rw [hlw];refine qF [] .nil qE ⟨qB,qb.fin (have om:=hO2;qb.re om)⟩
  .have h4b:(Hm.yf p (W.qG a) o==4)=false:=by simpa using h4
   have hlw:jY p W a x=({ W with en:=Hm.yf p (W.qG a) o },(0,0)):=by simp only [jY,hl,ho,hg,h4,if_false]
   have hne:¬ Hm.yf p (W.qG a) o=0:=AA;refine qJ ?_<|jN hT hE hT1 hE1 hms hlk h4b<|@qz;intro K hK;have fx:=aI hT (aI hE hT1);refine kP hO (have om:=hO1;qb.re om) (qa _) (qa _) (hF:=λhs=>iS _ _ F p W (Hm.yf p (W.qG a) o) hs) (h:=?_);rintro y H2 ⟨rfl,hO2⟩;clear fx;have hT2:=hO2.top;simp only [zx] at hT2;refine qJ ?_<|zN hT hE hT1 hE1<|hT2;rw [hlw];refine qF [] .nil qE ⟨by simp [hne],qb.fin (have om:=hO2;qb.re om)⟩
theorem QY (gl) (H:Nm->Option AO) (F:Nat) (p:qC) (W:qL) (a x:Nat) (hP:zr p) (hw:zF p W) (ha:a<W.qI.length) (hx:x<8) (h0:W.en=0) (hO:qb H F p W) :
  qZ prog gl 144 DM [.pt Mn 0,vo a,iv x] H (λ_ y H'=>y=bv (decide ((aN p W a x).en=0))/\qb H' F p (aN p W a x)) zG:=by
 have hh:=hP.jj;have hx7:0<=(x:Int)/\(x:Int)<=7:=qA;obtain⟨hnm,hil⟩:=CP (x:=(x:Int)) hh hw ha;have hT:=hO.top;simp only [zx] at hT;obtain⟨c,hc⟩:=gX ha;have hE:=hO.env a c hc;refine qZ.q9 func144 [.tmp 6] ntmps144 (λ_=>zC) λC w g root hroot=>?_;refine qJ ?_<|qd;intro K hK;have fx:=qd;refine kP hO (have om:=hO;qb.re om) (qa _) (qa _) (hF:=λhs=>Ep _ _ F p W a x hP hw ha hx hs) (h:=?_);rintro y H1 ⟨rfl,hO1⟩;clear fx;have hT1:=hO1.top;simp only [zx] at hT1;obtain⟨o,ho⟩:∃ o,zI p (W.qG a) x=o:=⟨_,rfl⟩;obtain⟨l,hl⟩:∃ l,W.loc p a x=l:=⟨_,rfl⟩;have hnm0:=hnm;rw [hl] at hnm hil ⊢;rw [ho];obtain⟨i,hi⟩:∃ i,w6 l=i:=⟨_,rfl⟩;rw [hi] at hnm hil ⊢;obtain⟨d,hd⟩:=gX hil;have hE1:=hO1.env i d hd;simp only [ud] at hE1;obtain⟨ms,hms,hmo⟩:=hO1.yJ i hil;rw [hnm] at hmo;have hlk:=hmo.get' hx7
 cases hg:W.get l x with
 | none =>
  rw [hg] at hlk
  have hlw:aN p W a x={ W with en:=Hm.yf p (W.qG a) o }:=by
   unfold aN;rw [hl,hg,ho]
  have hne:¬ Hm.yf p (W.qG a) o=0:=AA;refine qJ ?_<|jI hT hE hT1 hE1 hms hlk<|@qz;intro K hK;have fx:=aI hT (aI hE hT1);refine kP hO (have om:=hO1;qb.re om) (qa _) (qa _) (hF:=λhs=>iS _ _ F p W (Hm.yf p (W.qG a) o) hs) (h:=?_);rintro y H2 ⟨rfl,hO2⟩;clear fx;have hT2:=hO2.top;simp only [zx] at hT2;refine qJ ?_<|zN hT hE hT1 hE1<|hT2;rw [hlw];refine qF [] .nil qE ⟨by simp [hne],qb.fin (have om:=hO2;qb.re om)⟩
 | some v =>
  rw [hg] at hlk
  have hlw:aN p W a x=W.set l x none:=by
   unfold aN;rw [hl,hg]
  refine qJ ?_<|jI hT hE hT1 hE1 hms hlk<|@qz;intro K hK;refine kJ (λst=>st.tm 35=.mp (.c (En i) 0 1)/\st.tm 36=iv x/\st.hp (.c (En i) 0 1)=some (.map (uJ ms))/\qb st.hp F p W) ⟨by simp [hT,hE],qB,by simp [hms],(have om:=hO1;qb.re om)⟩ ?_;rintro st ⟨t35,t36,hms',hO2⟩;have fx:=aI t35 (aI t36 hms');refine qB7 (h:=?_);clear fx;refine qJ ?_<| hT;rw [hlw];refine qF [] .nil qE ⟨by rw [na.2.2.2.2.2.2];simp [h0],qb.fin (F4 hh hw ha hx hl hnm0 hO2 (hmo.del hx7) λm hm=>?_)⟩;rw [hi];simp
abbrev Vi:qV:=tD<|.l 13 [12,11,10,9,8,7,6,5,4,3,2,1,0]<|.l 14 [12]<|.l 15 []<|.done
theorem qA7 {v:Int} (hv:0<=v):∃ k:Nat,v.tmod 1000=k/\k<1000:=by
 have h1:=Int.tmod_nonneg 1000 hv;have h2:=Int.tmod_lt_of_pos v (show (0:Int)<1000 by omega);exact⟨(v.tmod 1000).toNat,qA,qA⟩
theorem Ob (gl) (H:Nm->Option AO) (F:Nat) (p:qC) (W:qL) (u v:qW) (h0:W.en=0) (hu:ze W.qH.length W.qT.length u) (hv:ze W.qH.length W.qT.length v) (hO:qb H F p W) :
  qZ prog gl 191 DM [.pt Mn 0,qW.av u,qW.av v] H (λ_ y H'=>y=.zX [qW.av (uM W u v).2,bv (decide ((uM W u v).1.en=0))]/\qb H' F p (uM W u v).1) zG:=by
 have hT:=hO.top;simp only [zx] at hT;obtain⟨u1,u2⟩:=u;obtain⟨v1,v2⟩:=v;have hu2:=hu.num;have hv2:=hv.num;simp only at hu2 hv2;have hwr:IntKind.i64.wrap (u2+v2)=u2+v2:=qm qA qA;obtain⟨q,hq,hql⟩:=qA7 (v:=u2+v2) qA;have hwq:IntKind.i64.wrap (q:Int)=q:=qm qA qA;refine qZ.q9 func191 [.cell 6 115,.tmp 7] ntmps191 (λ_=>zC) λC w g root hroot=>?_;by_cases h1:u1=1
 .by_cases h2:v1=1
  .subst h1;subst h2;have hlw:uM W (1,u2) (1,v2)=(W,(1,(q:Int))):=by simp [uM,hq]
   refine qJ ?_<|zN hT hwr hq hwq<|@qz;rw [hlw];refine qF [] .nil qE ⟨vg,qb.fin (have om:=hO;qb.re om)⟩
  .subst h1;have hb2:(v1==1)=false:=mb;have hlw:uM W (1,u2) (v1,v2)=({ W with en:=5 },(0,0)):=by simp [uM,h2]
   refine qJ ?_<|qk hT hb2<|@qz;intro K hK;have fx:=hT;refine kP hO (have om:=hO;qb.re om) (qa _) (qa _) (hF:=λhs=>iS _ _ F p W 5 hs) (h:=?_);rintro y H2 ⟨rfl,hO2⟩;clear fx;have hT2:=hO2.top;simp only [zx] at hT2;refine qJ ?_<|aI hT<|hT2;rw [hlw];refine qF [] .nil qE ⟨qB,qb.fin (have om:=hO2;qb.re om)⟩
 .have hb1:(u1==1)=false:=tu;have hlw:uM W (u1,u2) (v1,v2)=({ W with en:=5 },(0,0)):=by simp [uM,h1]
  refine qJ ?_<|qk hT hb1<|@qz;intro K hK;have fx:=hT;refine kP hO (have om:=hO;qb.re om) (qa _) (qa _) (hF:=λhs=>iS _ _ F p W 5 hs) (h:=?_);rintro y H2 ⟨rfl,hO2⟩;clear fx;have hT2:=hO2.top;simp only [zx] at hT2;refine qJ ?_<|aI hT<|hT2;rw [hlw];refine qF [] .nil qE ⟨qB,qb.fin (have om:=hO2;qb.re om)⟩
theorem xv {A G G2:Prop} (k:G2) (x:A) (h:A->jL G2->G:=by
 intro fx kk;refine qK ?_
 repeat ((first|refine qQ (id:=3) Vi mixed ?_);refine zK ?_;refine qK ?_)
 exact kk.h):G:=h x ⟨k⟩
theorem PC (gl) (H:Nm->Option AO) (F:Nat) (p:qC) (W:qL) (v:qW) (x:Nat) (h0:W.en=0) (hw:zF p W) (hv:ze W.qH.length W.qT.length v) (hx:x<8) (hO:qb H F p W) :
  qZ prog gl 195 DM [.pt Mn 0,qW.av v,iv x] H (λ_ y H'=>y=.zX [qW.av (ut W v x).2,bv (decide ((ut W v x).1.en=0))]/\qb H' F p (ut W v x).1) zG:=by
 have hT:=hO.top;simp only [zx] at hT;obtain⟨v1,v2⟩:=v;refine qZ.q9 func195 [.cell 6 115,.tmp 7] ntmps195 (λ_=>zC) λC w g root hroot=>?_;by_cases h1:v1=3
 .subst h1;have hv2:=hv.num;have hv3:=hv.cls rfl;simp only at hv2 hv3;obtain⟨i,rfl⟩:∃ i:Nat,v2=i:=⟨v2.toNat,qA⟩;have hil:i<W.qT.length:=qA;obtain⟨c,hc⟩:=gX hil;have hC:=hO.jA;obtain⟨ms,hms,hmo⟩:=hO.cls i c hc;have hcl:=(hw.cls c (gM hc)).1;obtain⟨s,hs⟩:∃ s,c[x]?=some s:=⟨_,gE qA⟩
  have hlk:lk (x:Int) ms=s:=by
   rw [hmo.at qA];simp [hs]
  cases s with
  | some u =>
   have hlw:ut W (3,(i:Int)) x=(W,u):=BN;refine xv ?_<|jH hT hC hms hil hlk<|@qz;rw [hlw];refine qF [] .nil qE ⟨vg,qb.fin (have om:=hO;qb.re om)⟩
  | none =>
   have hlw:ut W (3,(i:Int)) x=({ W with en:=7 },(0,0)):=BN;refine xv ?_<|jH hT hC hms hil hlk<|@qz;intro K hK;have fx:=hT;refine kP hO (have om:=hO;qb.re om) (qa _) (qa _) (hF:=λhs=>iS _ _ F p W 7 hs) (h:=?_);rintro y H2 ⟨rfl,hO2⟩;clear fx;have hT2:=hO2.top;simp only [zx] at hT2;refine xv ?_<|aI hT<|hT2;rw [hlw];refine qF [] .nil qE ⟨qB,qb.fin (have om:=hO2;qb.re om)⟩
 .have hb1:(v1==3)=false:=tu;have hlw:ut W (v1,v2) x=({ W with en:=5 },(0,0)):=by simp [ut,h1]
  refine xv ?_<|qk hT hb1<|@qz;intro K hK;have fx:=hT;refine kP hO (have om:=hO;qb.re om) (qa _) (qa _) (hF:=λhs=>iS _ _ F p W 5 hs) (h:=?_);rintro y H2 ⟨rfl,hO2⟩;clear fx;have hT2:=hO2.top;simp only [zx] at hT2;refine xv ?_<|aI hT<|hT2;rw [hlw];refine qF [] .nil qE ⟨qB,qb.fin (have om:=hO2;qb.re om)⟩
theorem X5 (gl) (H:Nm->Option AO) (F:Nat) (p:qC) (W:qL) (a:Nat) (s:q8) (hP:zr p) (hw:zF p W) (ha:a<W.qI.length) (h0:W.en=0) (hkd:0<=s.kind/\s.kind<=11) (hrd:∀ x∈s.reads,0<=x/\x<=7) (hO:qb H F p W) :
  qZ prog gl 100 DM [.pt Mn 0,vo a,s.av] H (λr y H'=>qb H' F p (zW p W a s.reads).1/\(((zW p W a s.reads).1.en=0/\y=.zX [.hs r 2 0 (zW p W a s.reads).2.length,bv true]/\H' r=some (.row 2 (zh (zW p W a s.reads).2)))\/((zW p W a s.reads).1.en≠0/\y=.zX [.hs r 2 0 0,bv false]))) zG:=by
 have hT:=hO.top;simp only [zx] at hT;obtain⟨c,hc⟩:=gX ha;have hE:=hO.env a c hc;have hrl:=q8.iM s;refine qZ.q9 func100 [.tmp 6,.tmp 7] ntmps100 (λ_=>zC) λC w g root hroot=>?_;have hr0:=hroot root (Nm.kj _);have fx:=qd;have c1:=bf gl s;refine qK ?_;clear fx c1;intro K hK;have fx:=qd;refine Gu (hF:=GB _ qc s hkd) (h:=?_);clear fx;refine qJ ?_<|qd;refine zQ (λn st=>∃ (i:Nat) (V:qL) (vs:List qW),n=s.reads.length - i/\i<=s.reads.length/\vs.length=i/\zW p W a s.reads=((zW p V a (s.reads.drop i)).1,vs++(zW p V a (s.reads.drop i)).2)/\zF p V/\V.en=0/\a<V.qI.length/\W.qI.length<=V.qI.length/\W.qH.length<=V.qH.length/\st.tm 0=.pt Mn 0/\st.tm 1=vo a/\st.tm 15=.hs (.s 15) 1 0 s.reads.length/\st.hp (.s 15)=some (.row 1 (qj s.reads))/\st.tm 16=iv s.reads.length/\st.tm 17=iv i/\st.tm 8=.hs (.s 8) 2 0 vs.length/\st.hp (.s 8)=some (.row 2 (zh vs))/\qb st.hp F p V) s.reads.length ?_ ?_
 .exact⟨0,W,[],qA,qA,rfl,qB,hw,h0,ha,qa _,qa _,qB,qB,qB,qB,qB,qB,qB,qB,(have om:=hO;qb.re om)⟩
 rintro n st - - ⟨i,V,vs,rfl,hi,hvl,hres,hV,hen,haV,hl1,hl2,t0,t1,t15,hp15,t16,t17,t8,hp8,hO1⟩;have hT1:=hO1.top;simp only [zx] at hT1;obtain⟨d,hd⟩:=gX haV;have hE1:=hO1.env a d hd;by_cases hil:i<s.reads.length
 .obtain⟨x,hx⟩:=gX hil;obtain⟨_,hxE⟩:=gS hx;obtain⟨hx0,hx7⟩:=hrd x (gM hx);obtain⟨X,rfl⟩:∃ X:Nat,x=X:=⟨x.toNat,qA⟩;have hdr:s.reads.drop i=(X:Int)::s.reads.drop (i+1):=by rw [gV hil,hxE]
  have hstep:zW p V a (s.reads.drop i)=((zW p (jY p V a X).1 a (s.reads.drop (i+1))).1,(jY p V a X).2::(zW p (jY p V a X).1 a (s.reads.drop (i+1))).2):=by
   rw [hdr];simp only [zW];rw [if_neg (by rw [hen];decide)]
  obtain⟨hA,_,_⟩:=CN (a:=a) (x:=(X:Int)) hV;have hl3:vs.length<=2:=qA;have hrf:=Xa gl (F:=F) (p:=p) (W:=V) (a:=a) (x:=X);generalize hq:jY p V a X=q at hstep hA hrf;obtain⟨V',v⟩:=q;simp only at hstep hA hrf;refine qJ ?_<|jS t0 t1 t15 hp15 t16 t17 t8 hp8 hil hx<|hxE;intro K hK;have fx:=aI t0 (aI t1 hT1);refine kP hO (have om:=hO1;qb.re om) hl1 hl2 (hF:=λhs=>hrf _ hP hV haV qA hen hs) (h:=?_);rintro y H2 ⟨rfl,hO2⟩;clear fx;have hT2:=hO2.top;simp only [zx] at hT2;by_cases hen2:V'.en=0
  .obtain⟨v1,v2⟩:=v;refine qJ ?_<|qh t0 t1 t15 hp15 t16 t17 t8 hp8 hT1 hE1 hT2 hen2<|hl3;refine⟨s.reads.length - (i+1),qA,i+1,V',vs++[(v1,v2)],rfl,qA,by simp [hvl],?_,hA.ok,hen2,uQ haV hA.grow.aF,ur hl1 hA.grow.aF,ur hl2 hA.grow.CL,by simp [t0,hT1],by simp [t1,hE1],by simp [t15],by simp [hp15],by simp [t16],by simp [t17];exact qm qA qA,qB,mT,⟨by simp [hO2.top,zx,hen2],⟨by simp [hO2.kg.top,hen2],λj k hj hk=>by simp [hO2.kg.sc j k hj hk,hen2]⟩,by simp [hO2.out,hen2],by simp [hO2.zo,hen2],hO2.run.imp λl hl=>⟨hl.1,by simp [hl.2,hen2]⟩,by simp [hO2.qH,hen2],λk g hg=>by simp [hO2.bx k g hg,hen2],by simp [hO2.jA,hen2],λk c hc=>(hO2.cls k c hc).imp λms hm=>⟨BY,hm.2⟩,λi a ha=>by simp [hO2.env i a ha,hen2],λi hi=>(hO2.yJ i hi).imp λms hm=>⟨BY,hm.2⟩,λk i j hk hn=>if e:k=1/\i=0/\j=0 then .inl e else hO2.only k i j hk mS⟩⟩;rw [hres,hstep];simp
  .have hend:(zW p W a s.reads).1=V':=by
    rw [hres,hstep]
    cases hl:s.reads.drop (i+1) with
    | nil=>rfl
    | cons y l=>simp only [zW];rw [if_pos hen2]
   obtain⟨v1,v2⟩:=v;refine qJ ?_<|qh t0 t1 t15 hp15 t16 t17 t8 hp8 hT1 hE1 hT2 hen2<|hl3;refine qF [(.s 6,root)] (.one rfl) qE ⟨by rw [hend];exact qb.fin (have om:=hO2;qb.re om),.inr ⟨by rw [hend];exact hen2,qB⟩⟩
 .have hge:i=s.reads.length:=qA
  have hend:zW p W a s.reads=(V,vs):=by
   rw [hres,hge];simp [zW]
  rw [hend];refine qJ ?_<|vI t0 t1 t15 hp15 t16 t17 t8 hp8<|hil;refine qF [(.s 6,root)] (.one rfl) qE ⟨qb.fin (have om:=hO1;qb.re om),.inl ⟨hen,qB,by simp [hp8,hr0]⟩⟩
abbrev Fq:qV:=ea<|.l 14 []<|.done
def ii (gl:Nat->Option (List AV)) (F:Nat) (p:qC) (n:Nat):Prop:=∀ (H:Nm->Option AO) (W:qL) (a:Nat),qb H F p W->zF p W->W.left<n->a<W.qI.length->W.en=0->H (.u 2 0 0)=none ->
 qZ prog gl 61 DM [.pt Mn 0,vo a] H (λ_ y H'=>y=.zX [qW.av (qi p n W a).2,bv (decide ((qi p n W a).1.en=0))]/\qb H' F p (qi p n W a).1) zG
theorem JA (gl) (F:Nat) (p:qC) (n:Nat) (hR:ii gl F p n) (H:Nm->Option AO) (W:qL) (b up:Nat) (vs:List qW) (hP:zk p) (hw:zF p W) (hn:W.left<n) (h0:W.en=0) (hm:uf p W.qI b up) (hv:∀ v∈vs,ze W.qH.length W.qT.length v) (hr:Room 1 W)
  (hO:qb H F p { j2 p W b up vs with stack:=W.stack }) (hV:H (.u 2 0 0)=none) :
  qZ prog gl 230 DM [.pt Mn 0,vo W.qI.length] H (λ_ y H'=>y=.zX [qW.av (j8 p (qi p n) W b up vs).2,bv (decide ((j8 p (qi p n) W b up vs).1.en=0))]/\qb H' F p (j8 p (qi p n) W b up vs).1) zG:=by
 have hT:=hO.top;obtain⟨sl,hslb,hS⟩:=hO.run;simp only [zx] at hT;obtain⟨hok,hgr⟩:=rN hw hm hv hr;have hl2:=hr.jl;have hsl:W.stack.length<=1000:=qA;have hlen:W.qI.length<(j2 p W b up vs).qI.length:=rV;obtain⟨c,hc⟩:=gX hlen;have hE:=hO.env W.qI.length c hc;have hap:za W.stack++[[vo W.qI.length]]=za (W.stack++[W.qI.length]):=Qc;have hst:(j2 p W b up vs).stack=W.stack++[W.qI.length]:=rfl;refine qZ.q9 func230 [.cell 4 115,.tmp 5] ntmps230 (λ_=>zC) λC w g root hroot=>?_;have fx:=qk hT hS<|hsl;refine qK ?_
 repeat ((first|refine qQ (id:=4) Fq mixed ?_);refine zK ?_;refine qK ?_)
 clear fx;intro K hK;have fx:=aI hT hE;have hBo:∀ hp:Nm->Option AO,qb hp F p (j2 p W b up vs)->qb hp F p (j2 p W b up vs):=λ_ h=>h;refine kP hO (w:=j2 p W b up vs) ⟨by simp [zx,hT,hst],⟨r7,λj k hj hk=>rk⟩,oe,rr,⟨[],qB,by simp [hst,<- hap]⟩,rp,λk g hg=>by simp [hO.bx k g hg],xP,λk c hc=>(hO.cls k c hc).imp λms hm=>⟨cQ,hm.2⟩,λi a ha=>by simp [hO.env i a ha],λi hi=>(hO.yJ i hi).imp λms hm=>⟨cQ,hm.2⟩,λk i j hk hn=>if e:k=1/\i=0/\j=0 then .inl e else hO.only k i j hk mS⟩ (qa _) (qa _) (hF:=λhs=>hR _ (j2 p W b up vs) W.qI.length hs hok hn hlen h0 qB) (h:=?_);rintro y H1 ⟨rfl,hO1⟩;clear fx;obtain⟨hAf,hvok⟩:=eZ hP.sh n (j2 p W b up vs) W.qI.length hok hn hlen h0;have hent:j8 p (qi p n) W b up vs=(aw (qi p n (j2 p W b up vs) W.qI.length).1,(qi p n (j2 p W b up vs) W.qI.length).2):=rfl;generalize qi p n (j2 p W b up vs) W.qI.length=q at hO1 hAf hvok hent;obtain⟨V,v1,v2⟩:=q;simp only at hO1 hAf hvok hent;have hT1:=hO1.top;obtain⟨sl1,hslb1,hS1⟩:=hO1.run;simp only [zx] at hT1;by_cases hen:V.en=0
 .have hstk:V.stack=W.stack++[W.qI.length]:=hAf.jl hen;have hsl1:V.stack.length=W.stack.length+1:=by rw [hstk];simp
  have hwr:IntKind.i64.wrap (W.stack.length:Int)=W.stack.length:=qm qA qA
  have hend:aw V={ V with stack:=W.stack }:=by
   unfold aw;rw [if_pos hen,hstk];simp
  have hslb2:∀ i∈W.qI.length::sl1,i<V.qI.length:=by
   intro i hi;have:=hAf.grow.aF;rcases vQ.1 hi with e|e
   .omega
   .exact hslb1 i e
  have hle1:(W.stack.length:Int)<=(W.stack.length:Int)+1:=qA;have hle0:(0:Int)<=(W.stack.length:Int):=qA;rw [hend] at hent;rw [hsl1] at hT1;have fx:=jN hT hE hT1 hS1 hen hwr hle1<|hle0;refine qK ?_
  repeat ((first|refine qQ (id:=4) Fq mixed ?_);refine zK ?_;refine qK ?_)
  clear fx;rw [hent];refine qF [] .nil qE ⟨by simp [hen],qb.fin ⟨by simp [zx,hen],⟨by simp [hO1.kg.top],λj k hj hk=>by simp [hO1.kg.sc j k hj hk]⟩,by simp [hO1.out],xF,⟨W.qI.length::sl1,hslb2,by simp [hS1,hstk]⟩,BS,λk g hg=>by simp [hO1.bx k g hg],xI,λk c hc=>(hO1.cls k c hc).imp λms hm=>⟨cQ,hm.2⟩,λi a ha=>by simp [hO1.env i a ha],λi hi=>(hO1.yJ i hi).imp λms hm=>⟨cQ,hm.2⟩,λk i j hk hn=>if e:k=1/\i=0/\j=0 then .inl e else hO1.only k i j hk mS⟩⟩
 .have hend:aw V=V:=by
   unfold aw;rw [if_neg hen]
  rw [hend] at hent;have fx:=zD hT hE hT1<|hen;refine qK ?_
  repeat ((first|refine qQ (id:=4) Fq mixed ?_);refine zK ?_;refine qK ?_)
  clear fx;rw [hent];refine qF [] .nil qE ⟨by simp [hen],qb.fin (have om:=hO1;qb.re om)⟩
abbrev Lm:qV:=ct<|.l 9 [8,7,6,5,4,3,2,1,0]<|.l 10 []<|.done
abbrev Ln:qV:=ct<|.l 9 [4,3,2,1,0]<|.l 10 [0]<|.q 11<|.q 12<|.l 13 []<|.done
@[simp] theorem cells_fn {f:Fn} {xs ys:List AV}:(AV.fn f xs ys).cells=some [.fn f xs ys]:=rfl
@[simp] theorem one_fnav {f:Fn} {xs ys:List AV}:(AV.fn f xs ys).one=true:=rfl
@[simp] theorem one_nfn:(AV.sc .nilFunc).one=true:=rfl
@[simp] theorem fn_tsz:qf prog 311=1:=qc
@[simp] theorem fn_agg:jO prog 311=some false:=qc
theorem Px {F:Nat} {p:qC} {l:List (Nat×Nat)} {g:List AV->List AV} (h:∀ (i:Nat) c,l[i]?=some c->g (fY F p i c)=fY F p i c):(wY F p l).map g=wY F p l:=by
 apply y6;intro j;rw [jZ,Ih]
 cases hj:l[j]? with
 | none=>rfl
 | some a=>simp only [u7];rw [h j a hj]
theorem R4 (gl) (H:Nm->Option AO) (p:qC) (W:qL) (a b:Nat) (k:qX) (hw:zF p W) (ha:a<W.qI.length) (hk:p[b]?=some k) (hr:Room 1 W) (hpl:k.params.length<=1000) (hO:qb H 229 p W) :
  qZ prog gl 192 DM [.pt Mn 0,vo a,iv b] H (λ_ y H'=>y=qW.av (2,(W.qH.length:Int))/\qb H' 229 p { W with qH:=W.qH++[(b,a)] }) zG:=by
 have hT:=hO.top;have hF:=hO.qH;simp only [zx] at hT;obtain⟨qy,hkE⟩:=gS hk;obtain⟨c,hc⟩:=gX ha;have hE:=hO.env a c hc;have hfl:=hr.qH;have hfl':W.qH.length<=1000:=qA;have hwr:IntKind.i64.wrap (W.qH.length:Int)=W.qH.length:=qm qA qA;have hpar:vl p b=k.params.length:=by simp [vl,hk]
 have hno:∀ j,H (.u 8 W.qH.length j)=none:=λj=>by
  cases e:H (.u 8 W.qH.length j) with
  | none=>rfl
  | some o =>
   rcases hO.only 8 W.qH.length j rfl xJ with⟨h,_⟩|⟨h,_⟩|⟨_,h,_⟩
   .cases h
   .cases h
   .omega
 have hap:wY 229 p W.qH++[fY 229 p W.qH.length (b,a)]=wY 229 p (W.qH++[(b,a)]):=Pw;simp only [fY,hpar] at hap;refine qZ.q9 func192 [.cell 6 115] ntmps192 (λ_=>zC) λC w g root hroot=>?_;have fx:=zD hT hk hkE<|qy;refine qK ?_
 repeat ((first|refine qQ (id:=1) Lm mixed ?_|refine qQ (id:=2) Ln mixed ?_);refine zK ?_;refine qK ?_)
 clear fx;intro K hK;refine wa (.s 3) (.u 8 W.qH.length 3) (.inl rfl) (.inr r9) ?_;refine wa (.s 4) (.u 8 W.qH.length 1) (.inl rfl) (.inr r9) ?_;refine wa (.s 5) (.u 8 W.qH.length 0) (.inl rfl) (.inr r9) ?_;refine wa (.s 7) (.u 8 W.qH.length 2) (.inl rfl) (.inr r9) ?_;have fx:=jI hT hk hkE qy hF hfl'<|hwr;refine qK ?_
 repeat ((first|refine qQ (id:=1) Lm mixed ?_|refine qQ (id:=2) Ln mixed ?_);refine zK ?_;refine qK ?_)
 clear fx;refine qF [] .nil qE ⟨qB,qb.fin ⟨by simp [zx],⟨r7,λj k hj hk=>rk⟩,oe,rr,hO.run.imp λl hl=>⟨hl.1,xN⟩,?_,?_,xP,λk c hc=>(hO.cls k c hc).imp λms hm=>⟨cQ,hm.2⟩,λi d hd=>by simp [hO.env i d hd],λi hi=>(hO.yJ i hi).imp λms hm=>⟨cQ,hm.2⟩,?_⟩⟩
 .simp [<- hap];rw [yG qB];refine Px λi c hc=>?_;have hne:¬ i=W.qH.length:=BU;have hne':¬ W.qH.length=i:=qA;simp [fY,bM,hne,hne']
 .intro i g hg;simp only at hg;rcases du i W.qH.length with hlt|hge
  .rw [ub hlt] at hg;obtain⟨b1,b2,b3,b4⟩:=hO.bx i g hg;have hne:¬ i=W.qH.length:=qA;have hne':¬ W.qH.length=i:=qA;exact⟨by simp [b1,hne,hne'],by simp [b2,hne,hne'],by simp [b3,hne,hne'],by simp [b4,hne,hne']⟩
  .rw [cG hge] at hg
   have hi:i=W.qH.length:=by
    have:=(gS hg).1;simp at this;omega
   subst hi;simp at hg;subst hg;exact⟨qB,qB,by simp [hk],qB⟩
 .intro k' i j hk' hn;by_cases e8:k'=8/\i=W.qH.length/\j<4
  .exact .inr (.inr ⟨e8.1,qu,e8.2.2⟩)
  .by_cases e1:k'=1/\i=0/\j=0
   .exact .inl e1
   .have n0:¬ (k'=8/\i=W.qH.length/\j=0):=λe=>e8 ⟨e.1,e.2.1,qA⟩;have n1:¬ (k'=8/\i=W.qH.length/\j=1):=λe=>e8 ⟨e.1,e.2.1,qA⟩;have n2:¬ (k'=8/\i=W.qH.length/\j=2):=λe=>e8 ⟨e.1,e.2.1,qA⟩;have n3:¬ (k'=8/\i=W.qH.length/\j=3):=λe=>e8 ⟨e.1,e.2.1,qA⟩;have hn':H (.u k' i j)≠none:=by simpa [hk',e1,n0,n1,n2,n3] using hn
    rcases hO.only k' i j hk' hn' with h|h|h
    .exact .inl h
    .exact .inr (.inl h)
    .exact .inr (.inr ⟨h.1,qu,h.2.2⟩)
abbrev Vj:qV:=ct<|.l 9 []<|.done
def yF (p:qC) (w:qL) (b up:Nat) (vs:List qW) (i:Nat):qL:={ jT p w b up vs i with stack:=w.stack }
theorem O2 {p:qC} {w:qL} {b up i:Nat} {vs:List qW} (h:zF p w) (hm:uf p w.qI b up) (hv:∀ v∈vs,ze w.qH.length w.qT.length v) (hr:Room 1 w):zF p (yF p w b up vs i):=by
 have hb:=Hh (i:=i) h hm hv hr;exact⟨hb.a0,hb.vars,hb.wo,hb.up,hb.zJ,hb.qH,hb.cls,λj hj=>by have:=h.jl j hj;simp [yF,jT];omega,hb.ky,hb.aY,hb.w8,hb.w9,hb.wQ,h.lW,hb.iF,hb.eK⟩
theorem H8 {p:qC} {w:qL} {b up i j:Nat} {vs:List qW} (e:¬ j=w.qI.length):(yF p w b up vs i).yJ j=w.yJ j:=by
 by_cases e0:j=0
 .simp [qL.yJ,yF,jT,e0]
 .simp only [qL.yJ,yF,jT,e0,if_false];rcases du j w.qI.length with hlt|hge
  .rw [ub hlt]
  .have h1:w.qI[j]?=none:=dQ qA;rw [h1,cG hge,dQ qu]
theorem H9 {p:qC} {w:qL} {b up i:Nat} {k:qX} {vs:List qW} (hpos:¬ w.qI.length=0) (hk:p[b]?=some k):(yF p w b up vs i).yJ w.qI.length=cK (k.params.take i) (vs.take i):=by
 simp [qL.yJ,yF,jT,hpos,hk]
theorem sZ {A G G2:Prop} (k:G2) (x:A) (h:A->jL G2->G:=by
 intro fx kk;refine qK ?_
 repeat ((first|refine qQ (id:=5) Vj mixed ?_);refine zK ?_;refine qK ?_)
 exact kk.h):G:=h x ⟨k⟩
theorem Pz (gl) (F:Nat) (p:qC) (n:Nat) (hR:ii gl F p n) (H:Nm->Option AO) (W:qL) (k b up lo:Nat) (vs all:List qW) (hP:zk p) (hw:zF p W) (hn:W.left<n) (h0:W.en=0) (hg:W.qH[k]?=some (b,up)) (hv:∀ v∈vs,ze W.qH.length W.qT.length v) (hr:Room 1 W)
  (hall:all.drop lo=vs) (hlo:lo+vs.length=all.length) (hpar:vl p b=vs.length) (hv2:vs.length<=1) (hO:qb H F p W) (hL:H (.u 2 0 0)=some (.row 2 (zh all))) :
  qZ prog gl 229 km [.hs (.u 2 0 0) 2 lo vs.length,.pt (.u 8 k 0) 0,.pt (.u 8 k 1) 0,.pt (.u 8 k 2) 0,.pt (.u 8 k 3) 0] H (λ_ y H'=>y=.zX [qW.av (j8 p (qi p n) W b up vs).2,bv (decide ((j8 p (qi p n) W b up vs).1.en=0))]/\qb H' F p (j8 p (qi p n) W b up vs).1) zG:=by
 have hm:=hw.qH k (b,up) hg;obtain⟨kb,hk,hpk⟩:=hm.shape;simp only at hm hk hpk;obtain⟨qy,hkE⟩:=gS hk;obtain⟨b1,b2,b3,b4⟩:=hO.bx k (b,up) hg;simp only [hk] at b1 b2 b3 b4;refine qZ.q9 func229 [.cell 6 115,.tmp 7] ntmps229 (λ_=>oE) λC w g root hroot=>?_;refine sZ ?_<|zD b1 b2 b3<|b4;intro K hK;have fx:=qd;refine Gv (h:=?_);clear fx;refine sZ ?_<|zN b1 b2 b3 b4<|hk
 have hpos:¬ W.qI.length=0:=by
  obtain⟨a,ha,_⟩:=hw.a0;have:=(gS ha).1;omega
 have hno:∀ j,H (.u 7 W.qI.length j)=none:=λj=>by
  cases e:H (.u 7 W.qI.length j) with
  | none=>rfl
  | some o =>
   rcases hO.only 7 W.qI.length j rfl xJ with⟨h,_⟩|⟨_,h,_⟩|⟨h,_⟩
   .cases h
   .omega
   .cases h
 refine N6 (.s 8) (En W.qI.length) (.inl rfl) (.inr r9) ?_;refine zQ (λm st=>∃ i:Nat,m=vs.length - i/\i<=vs.length/\st.tm 0=.hs (.u 2 0 0) 2 lo vs.length/\st.hp (.u 2 0 0)=some (.row 2 (zh all))/\st.tm 4=.pt (.u 8 k 3) 0/\st.tm 6=.pt (.s 6) 0/\st.hp (.s 6)=some (.row 2 [[iv 0,iv 0]])/\st.tm 8=vo W.qI.length/\st.tm 16=jG kb.params/\st.tm 17=iv vs.length/\st.tm 18=iv i/\qb st.hp F p (yF p W b up vs i)) vs.length ?_ ?_
 .have hpos':¬ 0=W.qI.length:=λe=>hpos e.symm
  have hupl:¬ up=W.qI.length:=by
   obtain⟨c,_,e,_⟩:=hm;have:=(gS e).1;omega
  refine⟨0,qA,qA,qB,ov,qB,qB,qB,qB,qB,by simp [<- hpar,hpk],qB,?_⟩;refine⟨by simp [zx,yF,jT,hO.top,hpos'],⟨r7,λj k hj hk=>rk⟩,by simp [yF,jT,hO.out],by simp [yF,jT,hO.zo],hO.run.imp λl hl=>⟨λi hi=>by have:=hl.1 i hi;simp [yF,jT];omega,?_⟩,by simp [yF,jT,hO.qH],λk' g hg=>?_,by simp [yF,jT,hO.jA],λk c hc=>(hO.cls k c hc).imp λms hm=>⟨cQ,hm.2⟩,λi d hd=>?_,λi hi=>?_,λk' i j hk' hn=>?_⟩
  .simp [hl.2,yF];refine sO λi hi=>?_
   have hlt:i<W.qI.length:=by
    rcases y9.1 hi with e|e
    .exact hw.jl i e
    .exact hl.1 i e
   have hne:¬ i=W.qI.length:=qA;simp [hne]
  .have hgl:¬ g.2=W.qI.length:=by
    obtain⟨c,_,e,_⟩:=hw.qH k' g hg;have:=(gS e).1;omega
   simp [hO.bx k' g hg,hgl]
  .simp only [yF,jT] at hd;rcases du i W.qI.length with hlt|hge
   .rw [ub hlt] at hd;have hne:¬ i=W.qI.length:=qA;have hne':¬ W.qI.length=i:=qA;by_cases e0:i=0
    .subst e0;simp [hO.env 0 d hd,ud,hne,hne']
    .have hup:=(hw.up i d hd qA).1;have hupn:¬ d.up=W.qI.length:=qA;simp [hO.env i d hd,ud,e0,hne,hne',hupn]
   .rw [cG hge] at hd
    have hi:i=W.qI.length:=by
     have:=(gS hd).1;simp at this;omega
    subst hi;simp at hd;subst hd;simp [ud,hpos,hupl]
  .by_cases e:i=W.qI.length
   .subst e;rw [H9 hpos hk];exact⟨[],qB,by simpa [cK] using kn.nil⟩
   .rw [H8 e]
    have hlt:i<W.qI.length:=by
     simp [yF,jT] at hi;omega
    have hne':¬ W.qI.length=i:=qA;exact (hO.yJ i hlt).imp λms hm=>⟨by simp [hm.1,e,hne'],hm.2⟩
  .by_cases e7:k'=7/\i=W.qI.length/\j=0
   .exact .inr (.inl ⟨e7.1,B5,e7.2.2⟩)
   .by_cases e1:k'=1/\i=0/\j=0
    .exact .inl e1
    .have hn':H (.u k' i j)≠none:=by simpa [hk',e1,e7] using hn
     rcases hO.only k' i j hk' hn' with h|h|h
     .exact .inl h
     .exact .inr (.inl ⟨h.1,B5,h.2.2⟩)
     .exact .inr (.inr h)
 rintro m st - - ⟨i,rfl,hi,t0,hp2,t4,t6,hp6,t8,t16,t17,t18,hO1⟩;have hT1:=hO1.top;simp only [zx] at hT1;have hact:(yF p W b up vs i).qI[W.qI.length]?=some ⟨b,up,cK (kb.params.take i) (vs.take i)⟩:=by simp [yF,jT,hk]
 have hE1:=hO1.env W.qI.length _ hact;simp only [ud,hpos,if_false] at hE1;obtain⟨c1,c2,c3,c4⟩:=hO1.bx k (b,up) hg;by_cases hil:i<vs.length
 .obtain⟨x,hx⟩:∃ x,kb.params[i]?=some x:=⟨_,gE qA⟩;obtain⟨hxl,hxE⟩:=gS hx;have hxr:=(hP.sh.names kb (gM hk)).params x (gM hx);obtain⟨v,hvi⟩:=gX hil;have hva:all[lo+i]?=some v:=by rw [<- hvi,<- hall,ti]
  obtain⟨hal',hvE⟩:=gS hva;have hst:=Hi (w:=W) (up:=up) hP hk hx hvi;obtain⟨X,rfl⟩:∃ X:Nat,x=X:=⟨x.toNat,qA⟩;obtain⟨v1,v2⟩:=v;have hokI:zF p (yF p W b up vs i):=O2 hw hm hv hr
  have hloc:(yF p W b up vs i).loc p W.qI.length X=some W.qI.length:=by
   have ho:=hP.pm b kb hk (X:Int) (gM hx);have hnl:¬ (b:Int)<0:=qA;simp only [qL.loc,wI hact,ho,hnl,if_false,uR];rw [sK hact rfl]
  have hla:W.qI.length<(yF p W b up vs i).qI.length:=by simp [yF,jT]
  obtain⟨hnm,_⟩:=CP (x:=(X:Int)) hP.sh.jj hokI hla;obtain⟨ms,hms,hmo⟩:=hO1.yJ W.qI.length hla
  have hmo':kn ms ((yF p W b up vs i).vars (some W.qI.length)):=by
   rw [hloc] at hnm;rw [<- hnm];exact hmo
  have hnext:(yF p W b up vs i).set (some W.qI.length) X (some (v1,v2))=yF p W b up vs (i+1):=by
   have hl2:(jT p W b up vs i).loc p W.qI.length X=some W.qI.length:=hloc;unfold di at hst;rw [hl2] at hst;unfold yF;rw [<- hst]
   rfl
  refine sZ ?_<|qh t0 hp2 t4 t6 hp6 t8 t16 t17 t18 hT1 hE1 hil<|jI hx hxE hxl hva hvE hal'<|hms;intro K hK;have fx:=aI t8 hms;refine Nh (h:=?_);clear fx;refine sZ ?_<|qh t0 hp2 t4 t6 hp6 t8 t16 t17 t18 hT1 hE1 hil<|jI hx hxE hxl hva hvE hal'<|hms;refine⟨vs.length - (i+1),qA,i+1,rfl,qA,uv,yw,by simp [t4],iy,mf,fQ,by simp [t16],by simp [t17],jM,?_⟩;rw [<- hnext];refine F4 hP.sh.jj hokI hla qA hloc hnm hO1 (hmo'.set ⟨qA,qA⟩) λm hm=>?_;by_cases e:m=.c (En W.qI.length) 0 1 <;> simp [w6,e]
 .obtain rfl:i=vs.length:=qA
  have hbeg:yF p W b up vs vs.length={ j2 p W b up vs with stack:=W.stack }:=by
   unfold yF;rw [Hg qA (qa _)]
  rw [hbeg] at hO1;refine sZ ?_<|jN t0 t4 t6 hp6 t8 t17 t18<|c4;intro K hK;have fx:=aI t8 hT1;refine kP hO (w:={ j2 p W b up vs with stack:=W.stack }) (have om:=hO1;qb.re om) rV (qa _) (hF:=λhs=>JA gl F p n hR _ W b up vs hP hw hn h0 hm hv hr hs qB) (h:=?_);rintro y H2 ⟨rfl,hO2⟩;clear fx;generalize hq:j8 p (qi p n) W b up vs=q at hO2;obtain⟨V,v1,v2⟩:=q;simp only at hO2;have hT2:=hO2.top;simp only [zx] at hT2;refine sZ ?_<|zN t6 hp6 t8 hT1<|hT2;rw [hq];refine qF [] .nil (by simp [t6];rfl) ⟨qB,qb.fin (have om:=hO2;qb.re om)⟩
end Go.Proofs.YtjgpejikjhojcaaGreatDoor
end
section
namespace Go.Proofs.YtjgpejikjhojcaaGreatDoor
open Go Go.Hm Go.Proofs Go.RowKit Tryz
theorem Py (b:Nat) (es:Array MapEntry) (clock:Nat) (w:World) (hb:w.heap[b]?=some (.map es clock)) :
  Calls prog 231 #[.map (some b)] w λe w'=>e=.returned (.map (some w.heap.size))/\w'=w.alloc (.map es clock):=by
 have hq:=λw=>run_eql_map_nil_sl (P:=prog) w 111 _ _ (some b) Tryz.underlying111
 go_enter func231,ntmps231
 go_wp2
 rw [run_callFunc_extern func240 qc qc qc (e:=Extern.MapsClone.clone) qc,run_maps_clone_sl w 111 hb];simp only [Result.andThen];rw [Oper.upon_value]
 go_wp2
 rw [run_typeAssert_map_sl _ 111 _ _ _ _ Tryz.underlying111];simp only [Result.andThen];rw [Oper.upon_value]
 go_wp2
 go_ret
 exact⟨rfl,rfl⟩
def EY (d:Nat) (es:List (AV×AV)) (st:St):St:=((st.kill (.s d)).zT (.s d) (.map es)).put (some d) (.mp (.s d))
theorem qB6 {X:Ctx} {st:St} {K:St->Prop} {E:AV->St->Prop} {ty:TypeId} {pos:String} {aft:Array Edge} {gd:Option (Nat×Bool)} {d:Nat} {args:Array Operand} {Ts:Array TypeId} {n:Nm} {es:List (AV×AV)} {st':St} (hP:X.P=prog)
  (hd:d<X.n:=by first|(simp;done)|fail) (ha:args.toList.map (ev st)=[.mp n]:=by simp [fx];first|done|rfl) (hn:st.hp n=some (.map es):=by simp [fx];first|done|rfl) (hsc:∀ e∈es,∀ f:Nm->Option Nm,e.1.tr f=e.1/\e.2.tr f=e.2)
  (hs:EY d es st=st':=by simp [fx,EY];first|done|rfl) (h:K st') :
  qn X ⟨some d,.call ⟨.value (.func 231),args,Ts⟩,ty,pos,aft,gd⟩ K E st:=by
 subst hs;intro a w Q hR hQ;obtain⟨C,g,h1,h2,h3,h4,h5,hg⟩:=hR;have hcal:ib X.P 231:=by rw [hP];exact⟨_,rfl,rfl,rfl⟩
 obtain⟨vs,hrun,hsz,hrel⟩:=mr (st:=st) (o:=⟨some d,.call ⟨.value (.func 231),args,Ts⟩,ty,pos,aft,gd⟩) hcal rfl _ _ _ _ _ _ hg;rw [ha] at hsz hrel;unfold Oper.wp;rw [hrun,Oper.upon_enter]
 obtain⟨v,rfl⟩:∃ v,vs=#[v]:=by
  rcases vs with⟨l⟩;simp at hsz;obtain⟨v,rfl⟩:=BB.1 hsz;exact⟨v,rfl⟩
 have hv:=hrel 0 v (.mp n) rfl rfl
 cases hv with
 | mp _ b hk =>
 have hat:=hg.inv.obj n _ hn;simp only [j6,hk] at hat;obtain⟨ms,clock,hb,hst,hlen,hrv⟩:=hat;have hC':∀ b',C b'->(w.alloc (.map ms.toArray clock)).heap[b']?=w.heap[b']?:=λb' hb'=>gY _ (hg.inv.uU b' hb')
 have hm:=hg.made (.s d) (.map es) w.heap.size 0 (w.alloc (.map ms.toArray clock)) [] qB (λ_=>false) rfl rfl rfl qB (.inl (qa _)) qB (λb' _ hb'=>gY _ hb') (by
  simp only [j6,(kV (g:=g) (.s d) (some w.heap.size) 0).1];refine⟨ms,clock,heap_alloc_new w _,hst,hlen,λi m e hi he=>?_⟩;obtain⟨r1,r2⟩:=hrv i m e hi he;obtain⟨q1,q2⟩:=hsc e (gM he) (kl (.s d));have h1:=hg.rv (g':=g.fresh (.s d) (some w.heap.size) 0) (w':=w.alloc (.map ms.toArray clock)) rfl hC' (Bu (.s d) (some w.heap.size) 0) r1;have h2:=hg.rv (g':=g.fresh (.s d) (some w.heap.size) 0) (w':=w.alloc (.map ms.toArray clock)) rfl hC' (Bu (.s d) (some w.heap.size) 0) r2;rw [q1] at h1;rw [q2] at h2;exact⟨h1,h2⟩)
 have e:(st.nm (kl (.s d)) (λm=>if (λ_=>false:Nm->Bool) m then none else jw (.s d) st.hp m))=st.kill (.s d):=sB;rw [e] at hm;have hput:=hm.put (d:=some d) (v:=.map (some w.heap.size)) (x:=.mp (.s d)) (λt e=>by obtain rfl:=sI e;show d<st.n;omega) (.mp _ _ (kV _ _ _).1)
 have hcl:Calls X.P 231 #[.map (some b)] w λe w'=>e=.returned (.map (some w.heap.size))/\w'=w.alloc (.map ms.toArray clock):=by
  rw [hP];exact Py b ms.toArray clock w hb
 refine hcl.mono ?_;rintro e w' ⟨rfl,rfl⟩;exact⟨EY d es st,⟨C,g.fresh (.s d) (some w.heap.size) 0,h1,h2,h3,h4,h5.step (.fresh rfl),hput⟩,h⟩
end Go.Proofs.YtjgpejikjhojcaaGreatDoor
end
