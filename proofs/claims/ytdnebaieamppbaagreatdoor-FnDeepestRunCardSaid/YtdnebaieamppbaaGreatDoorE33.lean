import Derived.Test.YtdnebaieamppbaaGreatDoorE32
import Derived.Shelf.SlMaps.Clone
set_option linter.unusedSimpArgs false
set_option linter.unusedVariables false
set_option maxRecDepth 100000
set_option maxHeartbeats 4000000

section
namespace Go.Proofs.YtdnebaieamppbaaGreatDoor
open Go Go.Hm Go.Proofs Tryz
theorem Pr (gl) (H:Nm->Option AO) (F:Nat) (p:Z0) (W:Z5) (a x:Nat) (hP:Z7 p) (hw:Zy p W) (ha:a<W.ZX.length) (hx:x<8) (h0:W.en=0) (hO:Z4 H F p W) :
  Zj prog gl 191 DM [.pt Mn 0,ptE a,iv x] H (λ_ y H'=>y=.tup [Zd.av (zk p W a x).2,bv (decide ((zk p W a x).1.en=0))]/\Z4 H' F p (zk p W a x).1) noE:=by
 have hh:=hP.Zc;have hx7:0<=(x:Int)/\(x:Int)<=7:=qA;obtain⟨hnm,hil⟩:=BL (x:=(x:Int)) hh hw ha;have hT:=hO.top;simp only [uU] at hT;obtain⟨c,hc⟩:=gX ha;have hE:=hO.env a c hc;refine Zj.Zl func191 [.cell 6 63,.tmp 7] ntmps191 (λ_=>qN) λC w g root hroot=>?_;refine qC ?_<|Zk;intro K hK;have fx:=Zk;refine yG hO (have om:=hO;Z4.re om) (qf _) (qf _) (hF:=λhs=>lL _ _ F p W a x hP hw ha hx hs) (h:=?_);rintro y H1 ⟨rfl,hO1⟩;clear fx;have hT1:=hO1.top;simp only [uU] at hT1;obtain⟨o,ho⟩:∃ o,q7 p (W.Z1 a) x=o:=⟨_,rfl⟩;obtain⟨l,hl⟩:∃ l,W.loc p a x=l:=⟨_,rfl⟩;rw [hl] at hnm hil ⊢;rw [ho];obtain⟨i,hi⟩:∃ i,BW l=i:=⟨_,rfl⟩;rw [hi] at hnm hil ⊢;obtain⟨d,hd⟩:=gX hil;have hE1:=hO1.env i d hd;simp only [yU] at hE1;obtain⟨ms,hms,hmo⟩:=hO1.nms i hil;rw [hnm] at hmo;have hlk:=hmo.get' hx7
 cases hg:W.get l x with
 | some v =>
  rw [hg] at hlk;have hlw:zk p W a x=(W,v):=by simp only [zk,hl,hg]
  refine qC ?_<|uD hT hE hT1 hE1 hms<|hlk;rw [hlw];refine qD [] .nil qE ⟨zR,Z4.fin (have om:=hO1;Z4.re om)⟩
 | none =>
  rw [hg] at hlk;by_cases h4:Hm.qAG p (W.Z1 a) o=4
  .have h4b:(Hm.qAG p (W.Z1 a) o==4)=true:=by simpa using h4
   obtain⟨a0,h00,hb0⟩:=hw.a0;have hl0:=(gS h00).1;have hE0:=hO1.env 0 a0 h00;simp only [yU] at hE0;obtain⟨mg,hmg,hgo⟩:=hO1.nms 0 hl0;have hgo':qAa mg (W.vars none):=by simpa [Z5.nms,Z5.vars] using hgo
   have hlg:=hgo'.get' hx7
   cases hg2:W.get none x with
   | some v =>
    rw [hg2] at hlg;have hlw:zk p W a x=(W,v):=by simp only [zk,hl,ho,hg,h4,if_true,hg2]
    refine qC ?_<|jJ hT hE hT1 hE1 hms hlk h4b hE0 hmg hlg<|@qL;rw [hlw];refine qD [] .nil qE ⟨zR,Z4.fin (have om:=hO1;Z4.re om)⟩
   | none =>
    rw [hg2] at hlg;by_cases h7:x=7
    .subst h7;have hlw:zk p W a ((7:Nat):Int)=(W,(1,70)):=by simp only [zk,hl,ho,hg,h4,if_true,hg2];simp
     have hlk7:lk (7:Int) ms=none:=hlk;have hlg7:lk (7:Int) mg=none:=hlg;refine qC ?_<|jJ hT hE hT1 hE1 hms hlk7 h4b hE0 hmg hlg7<|@qL;rw [hlw];refine qD [] .nil qE ⟨zR,Z4.fin (have om:=hO1;Z4.re om)⟩
    .have h7i:¬ (x:Int)=7:=qA;have h7b:((x:Int)==7)=false:=by simpa using h7i
     have hlw:zk p W a x=({ W with en:=4 },(0,0)):=by
      simp only [zk,hl,ho,hg,h4,if_true,hg2,h7i,if_false]
     refine qC ?_<|jJ hT hE hT1 hE1 hms hlk h4b hE0 hmg hlg<|aI h7b<|@qL;intro K hK;have fx:=aI hT (aI hE hT1);refine yG hO (have om:=hO1;Z4.re om) (qf _) (qf _) (hF:=λhs=>cH _ _ F p W 4 hs) (h:=?_);rintro y H2 ⟨rfl,hO2⟩;clear fx;have hT2:=hO2.top;simp only [uU] at hT2;refine qC ?_<|yS hT hE hT1 hE1<|hT2;rw [hlw];refine qD [] .nil qE ⟨qB,Z4.fin (have om:=hO2;Z4.re om)⟩
  .have h4b:(Hm.qAG p (W.Z1 a) o==4)=false:=by simpa using h4
   have hlw:zk p W a x=({ W with en:=Hm.qAG p (W.Z1 a) o },(0,0)):=by simp only [zk,hl,ho,hg,h4,if_false]
   have hne:¬ Hm.qAG p (W.Z1 a) o=0:=lJ;refine qC ?_<|kO hT hE hT1 hE1 hms hlk h4b<|@qL;intro K hK;have fx:=aI hT (aI hE hT1);refine yG hO (have om:=hO1;Z4.re om) (qf _) (qf _) (hF:=λhs=>cH _ _ F p W (Hm.qAG p (W.Z1 a) o) hs) (h:=?_);rintro y H2 ⟨rfl,hO2⟩;clear fx;have hT2:=hO2.top;simp only [uU] at hT2;refine qC ?_<|yS hT hE hT1 hE1<|hT2;rw [hlw];refine qD [] .nil qE ⟨by simp [hne],Z4.fin (have om:=hO2;Z4.re om)⟩
theorem Tv (gl) (H:Nm->Option AO) (F:Nat) (p:Z0) (W:Z5) (a x:Nat) (hP:Z7 p) (hw:Zy p W) (ha:a<W.ZX.length) (hx:x<8) (h0:W.en=0) (hO:Z4 H F p W) :
  Zj prog gl 192 DM [.pt Mn 0,ptE a,iv x] H (λ_ y H'=>y=bv (decide ((bb p W a x).en=0))/\Z4 H' F p (bb p W a x)) noE:=by
 have hh:=hP.Zc;have hx7:0<=(x:Int)/\(x:Int)<=7:=qA;obtain⟨hnm,hil⟩:=BL (x:=(x:Int)) hh hw ha;have hT:=hO.top;simp only [uU] at hT;obtain⟨c,hc⟩:=gX ha;have hE:=hO.env a c hc;refine Zj.Zl func192 [.tmp 6] ntmps192 (λ_=>qN) λC w g root hroot=>?_;refine qC ?_<|Zk;intro K hK;have fx:=Zk;refine yG hO (have om:=hO;Z4.re om) (qf _) (qf _) (hF:=λhs=>lL _ _ F p W a x hP hw ha hx hs) (h:=?_);rintro y H1 ⟨rfl,hO1⟩;clear fx;have hT1:=hO1.top;simp only [uU] at hT1;obtain⟨o,ho⟩:∃ o,q7 p (W.Z1 a) x=o:=⟨_,rfl⟩;obtain⟨l,hl⟩:∃ l,W.loc p a x=l:=⟨_,rfl⟩;have hnm0:=hnm;rw [hl] at hnm hil ⊢;rw [ho];obtain⟨i,hi⟩:∃ i,BW l=i:=⟨_,rfl⟩;rw [hi] at hnm hil ⊢;obtain⟨d,hd⟩:=gX hil;have hE1:=hO1.env i d hd;simp only [yU] at hE1;obtain⟨ms,hms,hmo⟩:=hO1.nms i hil;rw [hnm] at hmo;have hlk:=hmo.get' hx7
 cases hg:W.get l x with
 | none =>
  rw [hg] at hlk
  have hlw:bb p W a x={ W with en:=Hm.qAG p (W.Z1 a) o }:=by
   unfold bb;rw [hl,hg,ho]
  have hne:¬ Hm.qAG p (W.Z1 a) o=0:=lJ;refine qC ?_<|u4 hT hE hT1 hE1 hms hlk<|@qL;intro K hK;have fx:=aI hT (aI hE hT1);refine yG hO (have om:=hO1;Z4.re om) (qf _) (qf _) (hF:=λhs=>cH _ _ F p W (Hm.qAG p (W.Z1 a) o) hs) (h:=?_);rintro y H2 ⟨rfl,hO2⟩;clear fx;have hT2:=hO2.top;simp only [uU] at hT2;refine qC ?_<|yS hT hE hT1 hE1<|hT2;rw [hlw];refine qD [] .nil qE ⟨by simp [hne],Z4.fin (have om:=hO2;Z4.re om)⟩
 | some v =>
  rw [hg] at hlk
  have hlw:bb p W a x=W.set l x none:=by
   unfold bb;rw [hl,hg]
  refine qC ?_<|u4 hT hE hT1 hE1 hms hlk<|@qL;intro K hK;refine uJ (λst=>st.tm 35=.mp (.c (En i) 0 1)/\st.tm 36=iv x/\st.hp (.c (En i) 0 1)=some (.map (wC ms))/\Z4 st.hp F p W) ⟨by simp [hT,hE],qB,by simp [hms],(have om:=hO1;Z4.re om)⟩ ?_;rintro st ⟨t35,t36,hms',hO2⟩;have fx:=aI t35 (aI t36 hms');refine He (h:=?_);clear fx;refine qC ?_<| hT;rw [hlw];refine qD [] .nil qE ⟨by rw [be.2.2.2.2.2.2];simp [h0],Z4.fin (BD hh hw ha hx hl hnm0 hO2 (hmo.del hx7) λm hm=>?_)⟩;rw [hi];simp
abbrev YN:Zh:=nP<|.l 13 [12,11,10,9,8,7,6,5,4,3,2,1,0]<|.l 14 [12]<|.l 15 []<|.done
theorem LQ {v:Int} (hv:0<=v):∃ k:Nat,v.tmod 1000=k/\k<1000:=by
 have h1:=O5 1000 hv;have h2:=O4 v (show (0:Int)<1000 by omega);exact⟨(v.tmod 1000).toNat,qA,qA⟩
theorem WQ (gl) (H:Nm->Option AO) (F:Nat) (p:Z0) (W:Z5) (u v:Zd) (h0:W.en=0) (hu:VOk W.ZZ.length W.ZV.length u) (hv:VOk W.ZZ.length W.ZV.length v) (hO:Z4 H F p W) :
  Zj prog gl 219 DM [.pt Mn 0,Zd.av u,Zd.av v] H (λ_ y H'=>y=.tup [Zd.av (uw W u v).2,bv (decide ((uw W u v).1.en=0))]/\Z4 H' F p (uw W u v).1) noE:=by
 have hT:=hO.top;simp only [uU] at hT;obtain⟨u1,u2⟩:=u;obtain⟨v1,v2⟩:=v;have hu2:=hu.num;have hv2:=hv.num;simp only at hu2 hv2;have hwr:IntKind.i64.wrap (u2+v2)=u2+v2:=Zv qA qA;obtain⟨q,hq,hql⟩:=LQ (v:=u2+v2) qA;have hwq:IntKind.i64.wrap (q:Int)=q:=Zv qA qA;refine Zj.Zl func219 [.cell 6 63,.tmp 7] ntmps219 (λ_=>qN) λC w g root hroot=>?_;by_cases h1:u1=1
 .by_cases h2:v1=1
  .subst h1;subst h2;have hlw:uw W (1,u2) (1,v2)=(W,(1,(q:Int))):=by simp [uw,hq]
   refine qC ?_<|yS hT hwr hq hwq<|@qL;rw [hlw];refine qD [] .nil qE ⟨zR,Z4.fin (have om:=hO;Z4.re om)⟩
  .subst h1;have hb2:(v1==1)=false:=ga;have hlw:uw W (1,u2) (v1,v2)=({ W with en:=5 },(0,0)):=by simp [uw,h2]
   refine qC ?_<|jI hT hb2<|@qL;intro K hK;have fx:=hT;refine yG hO (have om:=hO;Z4.re om) (qf _) (qf _) (hF:=λhs=>cH _ _ F p W 5 hs) (h:=?_);rintro y H2 ⟨rfl,hO2⟩;clear fx;have hT2:=hO2.top;simp only [uU] at hT2;refine qC ?_<|aI hT<|hT2;rw [hlw];refine qD [] .nil qE ⟨qB,Z4.fin (have om:=hO2;Z4.re om)⟩
 .have hb1:(u1==1)=false:=tV;have hlw:uw W (u1,u2) (v1,v2)=({ W with en:=5 },(0,0)):=by simp [uw,h1]
  refine qC ?_<|jI hT hb1<|@qL;intro K hK;have fx:=hT;refine yG hO (have om:=hO;Z4.re om) (qf _) (qf _) (hF:=λhs=>cH _ _ F p W 5 hs) (h:=?_);rintro y H2 ⟨rfl,hO2⟩;clear fx;have hT2:=hO2.top;simp only [uU] at hT2;refine qC ?_<|aI hT<|hT2;rw [hlw];refine qD [] .nil qE ⟨qB,Z4.fin (have om:=hO2;Z4.re om)⟩
theorem mS {A G G2:Prop} (k:G2) (x:A) (h:A->Zx G2->G:=by
 intro fx kk;refine qG ?_
 repeat ((first|refine Ze (id:=3) YN mixed ?_);refine qZ ?_;refine qG ?_)
 exact kk.h):G:=h x ⟨k⟩
theorem E1 (gl) (H:Nm->Option AO) (F:Nat) (p:Z0) (W:Z5) (v:Zd) (x:Nat) (h0:W.en=0) (hw:Zy p W) (hv:VOk W.ZZ.length W.ZV.length v) (hx:x<8) (hO:Z4 H F p W) :
  Zj prog gl 223 DM [.pt Mn 0,Zd.av v,iv x] H (λ_ y H'=>y=.tup [Zd.av (kN W v x).2,bv (decide ((kN W v x).1.en=0))]/\Z4 H' F p (kN W v x).1) noE:=by
 have hT:=hO.top;simp only [uU] at hT;obtain⟨v1,v2⟩:=v;refine Zj.Zl func223 [.cell 6 63,.tmp 7] ntmps223 (λ_=>qN) λC w g root hroot=>?_;by_cases h1:v1=3
 .subst h1;have hv2:=hv.num;have hv3:=hv.cls rfl;simp only at hv2 hv3;obtain⟨i,rfl⟩:∃ i:Nat,v2=i:=⟨v2.toNat,qA⟩;have hil:i<W.ZV.length:=qA;obtain⟨c,hc⟩:=gX hil;have hC:=hO.Zw;obtain⟨ms,hms,hmo⟩:=hO.cls i c hc;have hcl:=(hw.cls c (gM hc)).1;obtain⟨s,hs⟩:∃ s,c[x]?=some s:=⟨_,gE qA⟩
  have hlk:lk (x:Int) ms=s:=by
   rw [hmo.at qA];simp [hs]
  cases s with
  | some u =>
   have hlw:kN W (3,(i:Int)) x=(W,u):=Br;refine mS ?_<|uD hT hC hms hil hlk<|@qL;rw [hlw];refine qD [] .nil qE ⟨zR,Z4.fin (have om:=hO;Z4.re om)⟩
  | none =>
   have hlw:kN W (3,(i:Int)) x=({ W with en:=7 },(0,0)):=Br;refine mS ?_<|uD hT hC hms hil hlk<|@qL;intro K hK;have fx:=hT;refine yG hO (have om:=hO;Z4.re om) (qf _) (qf _) (hF:=λhs=>cH _ _ F p W 7 hs) (h:=?_);rintro y H2 ⟨rfl,hO2⟩;clear fx;have hT2:=hO2.top;simp only [uU] at hT2;refine mS ?_<|aI hT<|hT2;rw [hlw];refine qD [] .nil qE ⟨qB,Z4.fin (have om:=hO2;Z4.re om)⟩
 .have hb1:(v1==3)=false:=tV;have hlw:kN W (v1,v2) x=({ W with en:=5 },(0,0)):=by simp [kN,h1]
  refine mS ?_<|jI hT hb1<|@qL;intro K hK;have fx:=hT;refine yG hO (have om:=hO;Z4.re om) (qf _) (qf _) (hF:=λhs=>cH _ _ F p W 5 hs) (h:=?_);rintro y H2 ⟨rfl,hO2⟩;clear fx;have hT2:=hO2.top;simp only [uU] at hT2;refine mS ?_<|aI hT<|hT2;rw [hlw];refine qD [] .nil qE ⟨qB,Z4.fin (have om:=hO2;Z4.re om)⟩
theorem Jm (gl) (H:Nm->Option AO) (F:Nat) (p:Z0) (W:Z5) (a:Nat) (s:Z9) (hP:Z7 p) (hw:Zy p W) (ha:a<W.ZX.length) (h0:W.en=0) (hkd:0<=s.kind/\s.kind<=11) (hrd:∀ x∈s.reads,0<=x/\x<=7) (hO:Z4 H F p W) :
  Zj prog gl 156 DM [.pt Mn 0,ptE a,s.av] H (λr y H'=>Z4 H' F p (qY p W a s.reads).1/\(((qY p W a s.reads).1.en=0/\y=.tup [.hs r 2 0 (qY p W a s.reads).2.length,bv true]/\H' r=some (.row 2 (zn (qY p W a s.reads).2)))\/((qY p W a s.reads).1.en≠0/\y=.tup [.hs r 2 0 0,bv false]))) noE:=by
 have hT:=hO.top;simp only [uU] at hT;obtain⟨c,hc⟩:=gX ha;have hE:=hO.env a c hc;have hrl:=Z9.qAX s;refine Zj.Zl func156 [.tmp 6,.tmp 7] ntmps156 (λ_=>qN) λC w g root hroot=>?_;have hr0:=hroot root (Nm.Z6 _);have fx:=Zk;have c1:=zP gl s;refine qG ?_;clear fx c1;intro K hK;have fx:=Zk;refine LG (hF:=r7 _ qI s hkd) (h:=?_);clear fx;refine qC ?_<|Zk;refine qX (λn st=>∃ (i:Nat) (V:Z5) (vs:List Zd),n=s.reads.length - i/\i<=s.reads.length/\vs.length=i/\qY p W a s.reads=((qY p V a (s.reads.drop i)).1,vs++(qY p V a (s.reads.drop i)).2)/\Zy p V/\V.en=0/\a<V.ZX.length/\W.ZX.length<=V.ZX.length/\W.ZZ.length<=V.ZZ.length/\st.tm 0=.pt Mn 0/\st.tm 1=ptE a/\st.tm 15=.hs (.s 15) 1 0 s.reads.length/\st.hp (.s 15)=some (.row 1 (qT s.reads))/\st.tm 16=iv s.reads.length/\st.tm 17=iv i/\st.tm 8=.hs (.s 8) 2 0 vs.length/\st.hp (.s 8)=some (.row 2 (zn vs))/\Z4 st.hp F p V) s.reads.length ?_ ?_
 .exact⟨0,W,[],qA,qA,rfl,qB,hw,h0,ha,qf _,qf _,qB,qB,qB,qB,qB,qB,qB,qB,(have om:=hO;Z4.re om)⟩
 rintro n st - - ⟨i,V,vs,rfl,hi,hvl,hres,hV,hen,haV,hl1,hl2,t0,t1,t15,hp15,t16,t17,t8,hp8,hO1⟩;have hT1:=hO1.top;simp only [uU] at hT1;obtain⟨d,hd⟩:=gX haV;have hE1:=hO1.env a d hd;by_cases hil:i<s.reads.length
 .obtain⟨x,hx⟩:=gX hil;obtain⟨_,hxE⟩:=gS hx;obtain⟨hx0,hx7⟩:=hrd x (gM hx);obtain⟨X,rfl⟩:∃ X:Nat,x=X:=⟨x.toNat,qA⟩;have hdr:s.reads.drop i=(X:Int)::s.reads.drop (i+1):=by rw [Ea hil,hxE]
  have hstep:qY p V a (s.reads.drop i)=((qY p (zk p V a X).1 a (s.reads.drop (i+1))).1,(zk p V a X).2::(qY p (zk p V a X).1 a (s.reads.drop (i+1))).2):=by
   rw [hdr];simp only [qY];rw [if_neg (by rw [hen];decide)]
  obtain⟨hA,_,_⟩:=mR (a:=a) (x:=(X:Int)) hV;have hl3:vs.length<=2:=qA;have hrf:=Pr gl (F:=F) (p:=p) (W:=V) (a:=a) (x:=X);generalize hq:zk p V a X=q at hstep hA hrf;obtain⟨V',v⟩:=q;simp only at hstep hA hrf;refine qC ?_<|jJ t0 t1 t15 hp15 t16 t17 t8 hp8 hil hx<|hxE;intro K hK;have fx:=aI t0 (aI t1 hT1);refine yG hO (have om:=hO1;Z4.re om) hl1 hl2 (hF:=λhs=>hrf _ hP hV haV qA hen hs) (h:=?_);rintro y H2 ⟨rfl,hO2⟩;clear fx;have hT2:=hO2.top;simp only [uU] at hT2;by_cases hen2:V'.en=0
  .obtain⟨v1,v2⟩:=v;refine qC ?_<|qU t0 t1 t15 hp15 t16 t17 t8 hp8 hT1 hE1 hT2 hen2<|hl3;refine⟨s.reads.length - (i+1),qA,i+1,V',vs++[(v1,v2)],rfl,qA,by simp [hvl],?_,hA.ok,hen2,aR haV hA.grow.qAk,vk hl1 hA.grow.qAk,vk hl2 hA.grow.qCy,by simp [t0,hT1],by simp [t1,hE1],by simp [t15],by simp [hp15],by simp [t16],by simp [t17];exact Zv qA qA,qB,gc,⟨by simp [hO2.top,uU,hen2],⟨by simp [hO2.scs.top,hen2],λj k hj hk=>by simp [hO2.scs.sc j k hj hk,hen2]⟩,by simp [hO2.out,hen2],by simp [hO2.trc,hen2],hO2.run.imp λl hl=>⟨hl.1,by simp [hl.2,hen2]⟩,by simp [hO2.ZZ,hen2],λk g hg=>by simp [hO2.bx k g hg,hen2],by simp [hO2.Zw,hen2],λk c hc=>(hO2.cls k c hc).imp λms hm=>⟨CK,hm.2⟩,λi a ha=>by simp [hO2.env i a ha,hen2],λi hi=>(hO2.nms i hi).imp λms hm=>⟨CK,hm.2⟩,λk i j hk hn=>if e:k=1/\i=0/\j=0 then .inl e else hO2.only k i j hk dN⟩⟩;rw [hres,hstep];simp
  .have hend:(qY p W a s.reads).1=V':=by
    rw [hres,hstep]
    cases hl:s.reads.drop (i+1) with
    | nil=>rfl
    | cons y l=>simp only [qY];rw [if_pos hen2]
   obtain⟨v1,v2⟩:=v;refine qC ?_<|qU t0 t1 t15 hp15 t16 t17 t8 hp8 hT1 hE1 hT2 hen2<|hl3;refine qD [(.s 6,root)] (.one rfl) qE ⟨by rw [hend];exact Z4.fin (have om:=hO2;Z4.re om),.inr ⟨by rw [hend];exact hen2,qB⟩⟩
 .have hge:i=s.reads.length:=qA
  have hend:qY p W a s.reads=(V,vs):=by
   rw [hres,hge];simp [qY]
  rw [hend];refine qC ?_<|bA t0 t1 t15 hp15 t16 t17 t8 hp8<|hil;refine qD [(.s 6,root)] (.one rfl) qE ⟨Z4.fin (have om:=hO1;Z4.re om),.inl ⟨hen,qB,by simp [hp8,hr0]⟩⟩
abbrev TL:Zh:=wP<|.l 14 []<|.done
def RW (gl:Nat->Option (List AV)) (F:Nat) (p:Z0) (n:Nat):Prop:=∀ (H:Nm->Option AO) (W:Z5) (a:Nat),Z4 H F p W->Zy p W->W.left<n->a<W.ZX.length->W.en=0->H (.u 2 0 0)=none ->
 Zj prog gl 101 DM [.pt Mn 0,ptE a] H (λ_ y H'=>y=.tup [Zd.av (zY p n W a).2,bv (decide ((zY p n W a).1.en=0))]/\Z4 H' F p (zY p n W a).1) noE
theorem EL (gl) (F:Nat) (p:Z0) (n:Nat) (hR:RW gl F p n) (H:Nm->Option AO) (W:Z5) (b up:Nat) (vs:List Zd) (hP:Zm p) (hw:Zy p W) (hn:W.left<n) (h0:W.en=0) (hm:jZ p W.ZX b up) (hv:∀ v∈vs,VOk W.ZZ.length W.ZV.length v) (hr:Room 1 W)
  (hO:Z4 H F p { qn p W b up vs with stack:=W.stack }) (hV:H (.u 2 0 0)=none) :
  Zj prog gl 236 DM [.pt Mn 0,ptE W.ZX.length] H (λ_ y H'=>y=.tup [Zd.av (qm p (zY p n) W b up vs).2,bv (decide ((qm p (zY p n) W b up vs).1.en=0))]/\Z4 H' F p (qm p (zY p n) W b up vs).1) noE:=by
 have hT:=hO.top;obtain⟨sl,hslb,hS⟩:=hO.run;simp only [uU] at hT;obtain⟨hok,hgr⟩:=ko hw hm hv hr;have hl2:=hr.stk;have hsl:W.stack.length<=1000:=qA;have hlen:W.ZX.length<(qn p W b up vs).ZX.length:=eP;obtain⟨c,hc⟩:=gX hlen;have hE:=hO.env W.ZX.length c hc;have hap:zQ W.stack++[[ptE W.ZX.length]]=zQ (W.stack++[W.ZX.length]):=KU;have hst:(qn p W b up vs).stack=W.stack++[W.ZX.length]:=rfl;refine Zj.Zl func236 [.cell 4 63,.tmp 5] ntmps236 (λ_=>qN) λC w g root hroot=>?_;have fx:=jI hT hS<|hsl;refine qG ?_
 repeat ((first|refine Ze (id:=4) TL mixed ?_);refine qZ ?_;refine qG ?_)
 clear fx;intro K hK;have fx:=aI hT hE;have hBo:∀ hp:Nm->Option AO,Z4 hp F p (qn p W b up vs)->Z4 hp F p (qn p W b up vs):=λ_ h=>h;refine yG hO (w:=qn p W b up vs) ⟨by simp [uU,hT,hst],⟨br,λj k hj hk=>bq⟩,lc,oO,⟨[],qB,by simp [hst,<- hap]⟩,oN,λk g hg=>by simp [hO.bx k g hg],tS,λk c hc=>(hO.cls k c hc).imp λms hm=>⟨vu,hm.2⟩,λi a ha=>gK,λi hi=>(hO.nms i hi).imp λms hm=>⟨vu,hm.2⟩,λk i j hk hn=>if e:k=1/\i=0/\j=0 then .inl e else hO.only k i j hk dN⟩ (qf _) (qf _) (hF:=λhs=>hR _ (qn p W b up vs) W.ZX.length hs hok hn hlen h0 qB) (h:=?_);rintro y H1 ⟨rfl,hO1⟩;clear fx;obtain⟨hAf,hvok⟩:=kT hP.sh n (qn p W b up vs) W.ZX.length hok hn hlen h0;have hent:qm p (zY p n) W b up vs=(nh (zY p n (qn p W b up vs) W.ZX.length).1,(zY p n (qn p W b up vs) W.ZX.length).2):=rfl;generalize zY p n (qn p W b up vs) W.ZX.length=q at hO1 hAf hvok hent;obtain⟨V,v1,v2⟩:=q;simp only at hO1 hAf hvok hent;have hT1:=hO1.top;obtain⟨sl1,hslb1,hS1⟩:=hO1.run;simp only [uU] at hT1;by_cases hen:V.en=0
 .have hstk:V.stack=W.stack++[W.ZX.length]:=hAf.stk hen;have hsl1:V.stack.length=W.stack.length+1:=by rw [hstk];simp
  have hwr:IntKind.i64.wrap (W.stack.length:Int)=W.stack.length:=Zv qA qA
  have hend:nh V={ V with stack:=W.stack }:=by
   unfold nh;rw [if_pos hen,hstk];simp
  have hslb2:∀ i∈W.ZX.length::sl1,i<V.ZX.length:=by
   intro i hi;have:=hAf.grow.qAk;rcases aH.1 hi with e|e
   .omega
   .exact hslb1 i e
  have hle1:(W.stack.length:Int)<=(W.stack.length:Int)+1:=qA;have hle0:(0:Int)<=(W.stack.length:Int):=qA;rw [hend] at hent;rw [hsl1] at hT1;have fx:=kO hT hE hT1 hS1 hen hwr hle1<|hle0;refine qG ?_
  repeat ((first|refine Ze (id:=4) TL mixed ?_);refine qZ ?_;refine qG ?_)
  clear fx;rw [hent];refine qD [] .nil qE ⟨by simp [hen],Z4.fin ⟨by simp [uU,hen],⟨by simp [hO1.scs.top],λj k hj hk=>HI⟩,by simp [hO1.out],tK,⟨W.ZX.length::sl1,hslb2,by simp [hS1,hstk]⟩,CR,λk g hg=>by simp [hO1.bx k g hg],tH,λk c hc=>(hO1.cls k c hc).imp λms hm=>⟨vu,hm.2⟩,λi a ha=>by simp [hO1.env i a ha],λi hi=>(hO1.nms i hi).imp λms hm=>⟨vu,hm.2⟩,λk i j hk hn=>if e:k=1/\i=0/\j=0 then .inl e else hO1.only k i j hk dN⟩⟩
 .have hend:nh V=V:=by
   unfold nh;rw [if_neg hen]
  rw [hend] at hent;have fx:=yE hT hE hT1<|hen;refine qG ?_
  repeat ((first|refine Ze (id:=4) TL mixed ?_);refine qZ ?_;refine qG ?_)
  clear fx;rw [hent];refine qD [] .nil qE ⟨by simp [hen],Z4.fin (have om:=hO1;Z4.re om)⟩
abbrev Vh:Zh:=wo<|.l 9 [8,7,6,5,4,3,2,1,0]<|.l 10 []<|.done
abbrev Vg:Zh:=wo<|.l 9 [4,3,2,1,0]<|.l 10 [0]<|.q 11<|.q 12<|.l 13 []<|.done
@[simp] theorem cells_fn {f:Fn} {xs ys:List AV}:(AV.fn f xs ys).cells=some [.fn f xs ys]:=rfl
@[simp] theorem one_fnav {f:Fn} {xs ys:List AV}:(AV.fn f xs ys).one=true:=rfl
@[simp] theorem one_nfn:(AV.sc .nilFunc).one=true:=rfl
@[simp] theorem fn_tsz:Zq prog 301=1:=qI
@[simp] theorem fn_agg:ky prog 301=some false:=qI
theorem GA {F:Nat} {p:Z0} {l:List (Nat×Nat)} {g:List AV->List AV} (h:∀ (i:Nat) c,l[i]?=some c->g (Nc F p i c)=Nc F p i c):(vY F p l).map g=vY F p l:=by
 apply wK;intro j;rw [kx,sk]
 cases hj:l[j]? with
 | none=>rfl
 | some a=>simp only [kv];rw [h j a hj]
theorem Fl (gl) (H:Nm->Option AO) (p:Z0) (W:Z5) (a b:Nat) (k:Za) (hw:Zy p W) (ha:a<W.ZX.length) (hk:p[b]?=some k) (hr:Room 1 W) (hpl:k.params.length<=1000) (hO:Z4 H 235 p W) :
  Zj prog gl 220 DM [.pt Mn 0,ptE a,iv b] H (λ_ y H'=>y=Zd.av (2,(W.ZZ.length:Int))/\Z4 H' 235 p { W with ZZ:=W.ZZ++[(b,a)] }) noE:=by
 have hT:=hO.top;have hF:=hO.ZZ;simp only [uU] at hT;obtain⟨Zs,hkE⟩:=gS hk;obtain⟨c,hc⟩:=gX ha;have hE:=hO.env a c hc;have hfl:=hr.ZZ;have hfl':W.ZZ.length<=1000:=qA;have hwr:IntKind.i64.wrap (W.ZZ.length:Int)=W.ZZ.length:=Zv qA qA;have hpar:cp p b=k.params.length:=by simp [cp,hk]
 have hno:∀ j,H (.u 8 W.ZZ.length j)=none:=λj=>by
  cases e:H (.u 8 W.ZZ.length j) with
  | none=>rfl
  | some o =>
   rcases hO.only 8 W.ZZ.length j rfl tL with⟨h,_⟩|⟨h,_⟩|⟨_,h,_⟩
   .cases h
   .cases h
   .omega
 have hap:vY 235 p W.ZZ++[Nc 235 p W.ZZ.length (b,a)]=vY 235 p (W.ZZ++[(b,a)]):=GB;simp only [Nc,hpar] at hap;refine Zj.Zl func220 [.cell 6 63] ntmps220 (λ_=>qN) λC w g root hroot=>?_;have fx:=yE hT hk hkE<|Zs;refine qG ?_
 repeat ((first|refine Ze (id:=1) Vh mixed ?_|refine Ze (id:=2) Vg mixed ?_);refine qZ ?_;refine qG ?_)
 clear fx;intro K hK;refine pI (.s 3) (.u 8 W.ZZ.length 3) (.inl rfl) (.inr l0) ?_;refine pI (.s 4) (.u 8 W.ZZ.length 1) (.inl rfl) (.inr l0) ?_;refine pI (.s 5) (.u 8 W.ZZ.length 0) (.inl rfl) (.inr l0) ?_;refine pI (.s 7) (.u 8 W.ZZ.length 2) (.inl rfl) (.inr l0) ?_;have fx:=u4 hT hk hkE Zs hF hfl'<|hwr;refine qG ?_
 repeat ((first|refine Ze (id:=1) Vh mixed ?_|refine Ze (id:=2) Vg mixed ?_);refine qZ ?_;refine qG ?_)
 clear fx;refine qD [] .nil qE ⟨qB,Z4.fin ⟨by simp [uU],⟨br,λj k hj hk=>bq⟩,lc,oO,hO.run.imp λl hl=>⟨hl.1,tv⟩,?_,?_,tS,λk c hc=>(hO.cls k c hc).imp λms hm=>⟨vu,hm.2⟩,λi d hd=>by simp [hO.env i d hd],λi hi=>(hO.nms i hi).imp λms hm=>⟨vu,hm.2⟩,?_⟩⟩
 .simp [<- hap];rw [b9 qB];refine GA λi c hc=>?_;have hne:¬ i=W.ZZ.length:=CC;have hne':¬ W.ZZ.length=i:=qA;simp [Nc,trL,hne,hne']
 .intro i g hg;simp only at hg;rcases fF i W.ZZ.length with hlt|hge
  .rw [uW hlt] at hg;obtain⟨b1,b2,b3,b4⟩:=hO.bx i g hg;have hne:¬ i=W.ZZ.length:=qA;have hne':¬ W.ZZ.length=i:=qA;exact⟨by simp [b1,hne,hne'],by simp [b2,hne,hne'],by simp [b3,hne,hne'],by simp [b4,hne,hne']⟩
  .rw [b7 hge] at hg
   have hi:i=W.ZZ.length:=by
    have:=(gS hg).1;simp at this;omega
   subst hi;simp at hg;subst hg;exact⟨qB,qB,by simp [hk],qB⟩
 .intro k' i j hk' hn;by_cases e8:k'=8/\i=W.ZZ.length/\j<4
  .exact .inr (.inr ⟨e8.1,qc,e8.2.2⟩)
  .by_cases e1:k'=1/\i=0/\j=0
   .exact .inl e1
   .have n0:¬ (k'=8/\i=W.ZZ.length/\j=0):=λe=>e8 ⟨e.1,e.2.1,qA⟩;have n1:¬ (k'=8/\i=W.ZZ.length/\j=1):=λe=>e8 ⟨e.1,e.2.1,qA⟩;have n2:¬ (k'=8/\i=W.ZZ.length/\j=2):=λe=>e8 ⟨e.1,e.2.1,qA⟩;have n3:¬ (k'=8/\i=W.ZZ.length/\j=3):=λe=>e8 ⟨e.1,e.2.1,qA⟩;have hn':H (.u k' i j)≠none:=by simpa [hk',e1,n0,n1,n2,n3] using hn
    rcases hO.only k' i j hk' hn' with h|h|h
    .exact .inl h
    .exact .inr (.inl h)
    .exact .inr (.inr ⟨h.1,qc,h.2.2⟩)
abbrev YM:Zh:=wo<|.l 9 []<|.done
def cY (p:Z0) (w:Z5) (b up:Nat) (vs:List Zd) (i:Nat):Z5:={ wi p w b up vs i with stack:=w.stack }
theorem UG {p:Z0} {w:Z5} {b up i:Nat} {vs:List Zd} (h:Zy p w) (hm:jZ p w.ZX b up) (hv:∀ v∈vs,VOk w.ZZ.length w.ZV.length v) (hr:Room 1 w):Zy p (cY p w b up vs i):=by
 have hb:=HM (i:=i) h hm hv hr;exact⟨hb.a0,hb.vars,hb.qBC,hb.up,hb.Zg,hb.ZZ,hb.cls,λj hj=>by have:=h.stk j hj;simp [cY,wi];omega,hb.qAe,hb.qAu,hb.qBU,hb.qBQ,hb.ntr,h.qCJ,hb.qCS,hb.enr⟩
theorem Ix {p:Z0} {w:Z5} {b up i j:Nat} {vs:List Zd} (e:¬ j=w.ZX.length):(cY p w b up vs i).nms j=w.nms j:=by
 by_cases e0:j=0
 .simp [Z5.nms,cY,wi,e0]
 .simp only [Z5.nms,cY,wi,e0,if_false];rcases fF j w.ZX.length with hlt|hge
  .rw [uW hlt]
  .have h1:w.ZX[j]?=none:=pQ qA;rw [h1,b7 hge,pQ qc]
theorem Em {p:Z0} {w:Z5} {b up i:Nat} {k:Za} {vs:List Zd} (hpos:¬ w.ZX.length=0) (hk:p[b]?=some k):(cY p w b up vs i).nms w.ZX.length=wD (k.params.take i) (vs.take i):=by
 simp [Z5.nms,cY,wi,hpos,hk]
theorem iG {A G G2:Prop} (k:G2) (x:A) (h:A->Zx G2->G:=by
 intro fx kk;refine qG ?_
 repeat ((first|refine Ze (id:=5) YM mixed ?_);refine qZ ?_;refine qG ?_)
 exact kk.h):G:=h x ⟨k⟩
theorem K3 (gl) (F:Nat) (p:Z0) (n:Nat) (hR:RW gl F p n) (H:Nm->Option AO) (W:Z5) (k b up lo:Nat) (vs all:List Zd) (hP:Zm p) (hw:Zy p W) (hn:W.left<n) (h0:W.en=0) (hg:W.ZZ[k]?=some (b,up)) (hv:∀ v∈vs,VOk W.ZZ.length W.ZV.length v) (hr:Room 1 W)
  (hall:all.drop lo=vs) (hlo:lo+vs.length=all.length) (hpar:cp p b=vs.length) (hv2:vs.length<=1) (hO:Z4 H F p W) (hL:H (.u 2 0 0)=some (.row 2 (zn all))) :
  Zj prog gl 235 DM2 [.hs (.u 2 0 0) 2 lo vs.length,.pt (.u 8 k 0) 0,.pt (.u 8 k 1) 0,.pt (.u 8 k 2) 0,.pt (.u 8 k 3) 0] H (λ_ y H'=>y=.tup [Zd.av (qm p (zY p n) W b up vs).2,bv (decide ((qm p (zY p n) W b up vs).1.en=0))]/\Z4 H' F p (qm p (zY p n) W b up vs).1) noE:=by
 have hm:=hw.ZZ k (b,up) hg;obtain⟨kb,hk,hpk⟩:=hm.shape;simp only at hm hk hpk;obtain⟨Zs,hkE⟩:=gS hk;obtain⟨b1,b2,b3,b4⟩:=hO.bx k (b,up) hg;simp only [hk] at b1 b2 b3 b4;refine Zj.Zl func235 [.cell 6 63,.tmp 7] ntmps235 (λ_=>cD) λC w g root hroot=>?_;refine iG ?_<|yE b1 b2 b3<|b4;intro K hK;have fx:=Zk;refine PB (h:=?_);clear fx;refine iG ?_<|yS b1 b2 b3 b4<|hk
 have hpos:¬ W.ZX.length=0:=by
  obtain⟨a,ha,_⟩:=hw.a0;have:=(gS ha).1;omega
 have hno:∀ j,H (.u 7 W.ZX.length j)=none:=λj=>by
  cases e:H (.u 7 W.ZX.length j) with
  | none=>rfl
  | some o =>
   rcases hO.only 7 W.ZX.length j rfl tL with⟨h,_⟩|⟨_,h,_⟩|⟨h,_⟩
   .cases h
   .omega
   .cases h
 refine Cl (.s 8) (En W.ZX.length) (.inl rfl) (.inr l0) ?_;refine qX (λm st=>∃ i:Nat,m=vs.length - i/\i<=vs.length/\st.tm 0=.hs (.u 2 0 0) 2 lo vs.length/\st.hp (.u 2 0 0)=some (.row 2 (zn all))/\st.tm 4=.pt (.u 8 k 3) 0/\st.tm 6=.pt (.s 6) 0/\st.hp (.s 6)=some (.row 2 [[iv 0,iv 0]])/\st.tm 8=ptE W.ZX.length/\st.tm 16=isl kb.params/\st.tm 17=iv vs.length/\st.tm 18=iv i/\Z4 st.hp F p (cY p W b up vs i)) vs.length ?_ ?_
 .have hpos':¬ 0=W.ZX.length:=λe=>hpos e.symm
  have hupl:¬ up=W.ZX.length:=by
   obtain⟨c,_,e,_⟩:=hm;have:=(gS e).1;omega
  refine⟨0,qA,qA,qB,cT,qB,qB,qB,qB,qB,by simp [<- hpar,hpk],qB,?_⟩;refine⟨by simp [uU,cY,wi,hO.top,hpos'],⟨br,λj k hj hk=>bq⟩,by simp [cY,wi,hO.out],by simp [cY,wi,hO.trc],hO.run.imp λl hl=>⟨λi hi=>by have:=hl.1 i hi;simp [cY,wi];omega,?_⟩,by simp [cY,wi,hO.ZZ],λk' g hg=>?_,by simp [cY,wi,hO.Zw],λk c hc=>(hO.cls k c hc).imp λms hm=>⟨vu,hm.2⟩,λi d hd=>?_,λi hi=>?_,λk' i j hk' hn=>?_⟩
  .simp [hl.2,cY];refine iK λi hi=>?_
   have hlt:i<W.ZX.length:=by
    rcases dY.1 hi with e|e
    .exact hw.stk i e
    .exact hl.1 i e
   have hne:¬ i=W.ZX.length:=qA;simp [hne]
  .have hgl:¬ g.2=W.ZX.length:=by
    obtain⟨c,_,e,_⟩:=hw.ZZ k' g hg;have:=(gS e).1;omega
   simp [hO.bx k' g hg,hgl]
  .simp only [cY,wi] at hd;rcases fF i W.ZX.length with hlt|hge
   .rw [uW hlt] at hd;have hne:¬ i=W.ZX.length:=qA;have hne':¬ W.ZX.length=i:=qA;by_cases e0:i=0
    .subst e0;simp [hO.env 0 d hd,yU,hne,hne']
    .have hup:=(hw.up i d hd qA).1;have hupn:¬ d.up=W.ZX.length:=qA;simp [hO.env i d hd,yU,e0,hne,hne',hupn]
   .rw [b7 hge] at hd
    have hi:i=W.ZX.length:=by
     have:=(gS hd).1;simp at this;omega
    subst hi;simp at hd;subst hd;simp [yU,hpos,hupl]
  .by_cases e:i=W.ZX.length
   .subst e;rw [Em hpos hk];exact⟨[],qB,by simpa [wD] using qAa.nil⟩
   .rw [Ix e]
    have hlt:i<W.ZX.length:=by
     simp [cY,wi] at hi;omega
    have hne':¬ W.ZX.length=i:=qA;exact (hO.nms i hlt).imp λms hm=>⟨by simp [hm.1,e,hne'],hm.2⟩
  .by_cases e7:k'=7/\i=W.ZX.length/\j=0
   .exact .inr (.inl ⟨e7.1,CJ,e7.2.2⟩)
   .by_cases e1:k'=1/\i=0/\j=0
    .exact .inl e1
    .have hn':H (.u k' i j)≠none:=by simpa [hk',e1,e7] using hn
     rcases hO.only k' i j hk' hn' with h|h|h
     .exact .inl h
     .exact .inr (.inl ⟨h.1,CJ,h.2.2⟩)
     .exact .inr (.inr h)
 rintro m st - - ⟨i,rfl,hi,t0,hp2,t4,t6,hp6,t8,t16,t17,t18,hO1⟩;have hT1:=hO1.top;simp only [uU] at hT1;have hact:(cY p W b up vs i).ZX[W.ZX.length]?=some ⟨b,up,wD (kb.params.take i) (vs.take i)⟩:=by simp [cY,wi,hk]
 have hE1:=hO1.env W.ZX.length _ hact;simp only [yU,hpos,if_false] at hE1;obtain⟨c1,c2,c3,c4⟩:=hO1.bx k (b,up) hg;by_cases hil:i<vs.length
 .obtain⟨x,hx⟩:∃ x,kb.params[i]?=some x:=⟨_,gE qA⟩;obtain⟨hxl,hxE⟩:=gS hx;have hxr:=(hP.sh.names kb (gM hk)).params x (gM hx);obtain⟨v,hvi⟩:=gX hil;have hva:all[lo+i]?=some v:=by rw [<- hvi,<- hall,List.getElem?_drop]
  obtain⟨hal',hvE⟩:=gS hva;have hst:=AX (w:=W) (up:=up) hP hk hx hvi;obtain⟨X,rfl⟩:∃ X:Nat,x=X:=⟨x.toNat,qA⟩;obtain⟨v1,v2⟩:=v;have hokI:Zy p (cY p W b up vs i):=UG hw hm hv hr
  have hloc:(cY p W b up vs i).loc p W.ZX.length X=some W.ZX.length:=by
   have ho:=hP.pm b kb hk (X:Int) (gM hx);have hnl:¬ (b:Int)<0:=qA;simp only [Z5.loc,jq hact,ho,hnl,if_false,b6];rw [yD hact rfl]
  have hla:W.ZX.length<(cY p W b up vs i).ZX.length:=by simp [cY,wi]
  obtain⟨hnm,_⟩:=BL (x:=(X:Int)) hP.sh.Zc hokI hla;obtain⟨ms,hms,hmo⟩:=hO1.nms W.ZX.length hla
  have hmo':qAa ms ((cY p W b up vs i).vars (some W.ZX.length)):=by
   rw [hloc] at hnm;rw [<- hnm];exact hmo
  have hnext:(cY p W b up vs i).set (some W.ZX.length) X (some (v1,v2))=cY p W b up vs (i+1):=by
   have hl2:(wi p W b up vs i).loc p W.ZX.length X=some W.ZX.length:=hloc;unfold wm at hst;rw [hl2] at hst;unfold cY;rw [<- hst]
   rfl
  refine iG ?_<|qU t0 hp2 t4 t6 hp6 t8 t16 t17 t18 hT1 hE1 hil<|u4 hx hxE hxl hva hvE hal'<|hms;intro K hK;have fx:=aI t8 hms;refine im (h:=?_);clear fx;refine iG ?_<|qU t0 hp2 t4 t6 hp6 t8 t16 t17 t18 hT1 hE1 hil<|u4 hx hxE hxl hva hvE hal'<|hms;refine⟨vs.length - (i+1),qA,i+1,rfl,qA,vv,zF,by simp [t4],cR,aX,fz,by simp [t16],by simp [t17],zD,?_⟩;rw [<- hnext];refine BD hP.sh.Zc hokI hla qA hloc hnm hO1 (hmo'.set ⟨qA,qA⟩) λm hm=>?_;by_cases e:m=.c (En W.ZX.length) 0 1 <;> simp [BW,e]
 .obtain rfl:i=vs.length:=qA
  have hbeg:cY p W b up vs vs.length={ qn p W b up vs with stack:=W.stack }:=by
   unfold cY;rw [Iv qA (qf _)]
  rw [hbeg] at hO1;refine iG ?_<|kO t0 t4 t6 hp6 t8 t17 t18<|c4;intro K hK;have fx:=aI t8 hT1;refine yG hO (w:={ qn p W b up vs with stack:=W.stack }) (have om:=hO1;Z4.re om) eP (qf _) (hF:=λhs=>EL gl F p n hR _ W b up vs hP hw hn h0 hm hv hr hs qB) (h:=?_);rintro y H2 ⟨rfl,hO2⟩;clear fx;generalize hq:qm p (zY p n) W b up vs=q at hO2;obtain⟨V,v1,v2⟩:=q;simp only at hO2;have hT2:=hO2.top;simp only [uU] at hT2;refine iG ?_<|yS t6 hp6 t8 hT1<|hT2;rw [hq];refine qD [] .nil (by simp [t6];rfl) ⟨qB,Z4.fin (have om:=hO2;Z4.re om)⟩
end Go.Proofs.YtdnebaieamppbaaGreatDoor
end
section
namespace Go.Proofs.YtdnebaieamppbaaGreatDoor
open Go Go.Hm Go.Proofs Go.RowKit Tryz
theorem Fz (b:Nat) (es:Array MapEntry) (clock:Nat) (w:World) (hb:w.heap[b]?=some (.map es clock)) :
  Calls prog 237 #[.map (some b)] w λe w'=>e=.returned (.map (some w.heap.size))/\w'=w.alloc (.map es clock):=by
 have hq:=λw=>run_eql_map_nil_sl (P:=prog) w 155 _ _ (some b) Tryz.underlying155
 go_enter func237,ntmps237
 go_wp2
 rw [run_callFunc_extern func249 qI qI qI (e:=Extern.MapsClone.clone) qI,run_maps_clone_sl w 155 hb];simp only [Result.andThen];rw [Oper.upon_value]
 go_wp2
 rw [run_typeAssert_map_sl _ 155 _ _ _ _ Tryz.underlying155];simp only [Result.andThen];rw [Oper.upon_value]
 go_wp2
 go_ret
 exact⟨rfl,rfl⟩
def Ym (d:Nat) (es:List (AV×AV)) (st:St):St:=((st.kill (.s d)).Zp (.s d) (.map es)).put (some d) (.mp (.s d))
theorem SZ {X:Ctx} {st:St} {K:St->Prop} {E:AV->St->Prop} {ty:TypeId} {pos:String} {aft:Array Edge} {gd:Option (Nat×Bool)} {d:Nat} {args:Array Operand} {Ts:Array TypeId} {n:Nm} {es:List (AV×AV)} {st':St} (hP:X.P=prog)
  (hd:d<X.n:=by first|(simp;done)|fail) (ha:args.toList.map (ev st)=[.mp n]:=by simp [fx];first|done|rfl) (hn:st.hp n=some (.map es):=by simp [fx];first|done|rfl) (hsc:∀ e∈es,∀ f:Nm->Option Nm,e.1.tr f=e.1/\e.2.tr f=e.2)
  (hs:Ym d es st=st':=by simp [fx,Ym];first|done|rfl) (h:K st') :
  qS X ⟨some d,.call ⟨.value (.func 237),args,Ts⟩,ty,pos,aft,gd⟩ K E st:=by
 subst hs;intro a w Q hR hQ;obtain⟨C,g,h1,h2,h3,h4,h5,hg⟩:=hR;have hcal:cE X.P 237:=by rw [hP];exact⟨_,rfl,rfl,rfl⟩
 obtain⟨vs,hrun,hsz,hrel⟩:=iL (st:=st) (o:=⟨some d,.call ⟨.value (.func 237),args,Ts⟩,ty,pos,aft,gd⟩) hcal rfl _ _ _ _ _ _ hg;rw [ha] at hsz hrel;unfold Oper.wp;rw [hrun,Oper.upon_enter]
 obtain⟨v,rfl⟩:∃ v,vs=#[v]:=by
  rcases vs with⟨l⟩;simp at hsz;obtain⟨v,rfl⟩:=E9.1 hsz;exact⟨v,rfl⟩
 have hv:=hrel 0 v (.mp n) rfl rfl
 cases hv with
 | mp _ b hk =>
 have hat:=hg.inv.obj n _ hn;simp only [OAt,hk] at hat;obtain⟨ms,clock,hb,hst,hlen,hrv⟩:=hat;have hC':∀ b',C b'->(w.alloc (.map ms.toArray clock)).heap[b']?=w.heap[b']?:=λb' hb'=>kr _ (hg.inv.clt b' hb')
 have hm:=hg.made (.s d) (.map es) w.heap.size 0 (w.alloc (.map ms.toArray clock)) [] qB (λ_=>false) rfl rfl rfl qB (.inl (qf _)) qB (λb' _ hb'=>kr _ hb') (by
  simp only [OAt,(zO (g:=g) (.s d) (some w.heap.size) 0).1];refine⟨ms,clock,heap_alloc_new w _,hst,hlen,λi m e hi he=>?_⟩;obtain⟨r1,r2⟩:=hrv i m e hi he;obtain⟨q1,q2⟩:=hsc e (gM he) (kl (.s d));have h1:=hg.rv (g':=g.fresh (.s d) (some w.heap.size) 0) (w':=w.alloc (.map ms.toArray clock)) rfl hC' (pZ (.s d) (some w.heap.size) 0) r1;have h2:=hg.rv (g':=g.fresh (.s d) (some w.heap.size) 0) (w':=w.alloc (.map ms.toArray clock)) rfl hC' (pZ (.s d) (some w.heap.size) 0) r2;rw [q1] at h1;rw [q2] at h2;exact⟨h1,h2⟩)
 have e:(st.nm (kl (.s d)) (λm=>if (λ_=>false:Nm->Bool) m then none else hkl (.s d) st.hp m))=st.kill (.s d):=lX;rw [e] at hm;have hput:=hm.put (d:=some d) (v:=.map (some w.heap.size)) (x:=.mp (.s d)) (λt e=>HH) (.mp _ _ (zO _ _ _).1)
 have hcl:Calls X.P 237 #[.map (some b)] w λe w'=>e=.returned (.map (some w.heap.size))/\w'=w.alloc (.map ms.toArray clock):=by
  rw [hP];exact Fz b ms.toArray clock w hb
 refine hcl.mono ?_;rintro e w' ⟨rfl,rfl⟩;exact⟨Ym d es st,⟨C,g.fresh (.s d) (some w.heap.size) 0,h1,h2,h3,h4,h5.step (.fresh rfl),hput⟩,h⟩
end Go.Proofs.YtdnebaieamppbaaGreatDoor
end
