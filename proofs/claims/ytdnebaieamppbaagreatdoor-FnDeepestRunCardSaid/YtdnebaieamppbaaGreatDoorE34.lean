import Derived.Test.YtdnebaieamppbaaGreatDoorE33
set_option linter.unusedSimpArgs false
set_option linter.unusedVariables false
set_option maxRecDepth 100000
set_option maxHeartbeats 4000000

section
namespace Go.Proofs.YtdnebaieamppbaaGreatDoor
open Go Go.Hm Go.Proofs Tryz
abbrev YL:Zh:=wo<|.l 9 [4,3,2,1,0]<|.l 10 [4,3,2,1,0]<|.l 11 [0]<|.q 12<|.q 13<|.l 14 []<|.done
theorem QS {ms:Iz}:∀ e∈wC ms,∀ f:Nm->Option Nm,e.1.tr f=e.1/\e.2.tr f=e.2:=by
 intro e he f;simp only [wC,fG] at he;obtain⟨q,_,rfl⟩:=he;simp
theorem iF {A G G2:Prop} (k:G2) (x:A) (h:A->Zx G2->G:=by
 intro fx kk;refine qG ?_
 repeat ((first|refine Ze (id:=5) YL mixed ?_);refine qZ ?_;refine qG ?_)
 exact kk.h):G:=h x ⟨k⟩
theorem Qt (gl) (F:Nat) (p:Z0) (n:Nat) (hR:RW gl F p n) (H:Nm->Option AO) (W:Z5) (a b:Nat) (hP:Zm p) (hw:Zy p W) (hn:W.left<n) (h0:W.en=0) (hm:jZ p W.ZX b a) (hr:Room 2 W) (hO:Z4 H F p W) (hV:H (.u 2 0 0)=none) :
  Zj prog gl 221 DM [.pt Mn 0,ptE a,iv b] H (λ_ y H'=>y=.tup [Zd.av (kI p (zY p n) W b a).2,bv (decide ((kI p (zY p n) W b a).1.en=0))]/\Z4 H' F p (kI p (zY p n) W b a).1) noE:=by
 obtain⟨k,hk,hpk⟩:=hm.shape;obtain⟨Zs,hkE⟩:=gS hk;have hT:=hO.top;simp only [uU] at hT
 have hpos:¬ W.ZX.length=0:=by
  obtain⟨a,ha,_⟩:=hw.a0;have:=(gS ha).1;omega
 have hpos':¬ 0=W.ZX.length:=λe=>hpos e.symm
 have hupl:¬ a=W.ZX.length:=by
  obtain⟨c,_,e,_⟩:=hm;have:=(gS e).1;omega
 have hno:∀ j,H (.u 7 W.ZX.length j)=none:=λj=>by
  cases e:H (.u 7 W.ZX.length j) with
  | none=>rfl
  | some o =>
   rcases hO.only 7 W.ZX.length j rfl tL with⟨h,_⟩|⟨_,h,_⟩|⟨h,_⟩
   .cases h
   .omega
   .cases h
 have hbeg:cY p W b a [] 0={ qn p W b a [] with stack:=W.stack }:=by
  simp [cY,wi,qn,wD]
 have hcl:kI p (zY p n) W b a=if (qm p (zY p n) W b a []).1.en≠0 then ((qm p (zY p n) W b a []).1,(0,0)) else
  ({ (qm p (zY p n) W b a []).1 with ZV:=(qm p (zY p n) W b a []).1.ZV++[(qm p (zY p n) W b a []).1.vars (some W.ZX.length)] },(3,((qm p (zY p n) W b a []).1.ZV.length:Int))):=rfl
 obtain⟨⟨e1,e2,e3⟩,e4⟩:=mn (vs:=[]) (kT hP.sh n) hw hn h0 hm qB (hr.mono qA);have hrc:(qm p (zY p n) W b a []).1.ZV.length<=1000:=by have:=e1.qBU;omega
 have hlen:W.ZX.length<(qm p (zY p n) W b a []).1.ZX.length:=by
  obtain⟨g1,g2⟩:=ko (vs:=[]) hw hm (λv hv=>eJ) (hr.mono qA);obtain⟨⟨_,r2,_⟩,_⟩:=kT hP.sh n (qn p W b a []) W.ZX.length g1 hn eP h0;have:=r2.qAk;unfold qm nh
  split <;> simp [qn] at this ⊢ <;> omega
 have hlf:W.ZZ.length<=(qm p (zY p n) W b a []).1.ZZ.length:=e2.qCy;have hent:=EL gl F p n hR (W:=W) (b:=b) (up:=a) (vs:=[]);refine Zj.Zl func221 [.cell 6 63,.tmp 7] ntmps221 (λ_=>qN) λC w g root hroot=>?_;refine iF ?_<|Zk;intro K hK;have fx:=Zk;refine PB (h:=?_);clear fx;refine iF ?_<| hT;intro K hK;refine pI (.s 8) (En W.ZX.length) (.inl rfl) (.inr l0) ?_;have fx:=hT;refine yG hO (w:=cY p W b a [] 0) ?_ (by simp [cY,wi]) (qf _) (hF:=λhs=>hent _ hP hw hn h0 hm qB (hr.mono qA) (by rw [<- hbeg];exact hs) (by simp [hV])) (h:=?_)
 .clear fx;refine⟨by simp [uU,cY,wi,hO.top,hpos'],⟨br,λj k hj hk=>bq⟩,by simp [cY,wi,hO.out],by simp [cY,wi,hO.trc],hO.run.imp λl hl=>⟨λi hi=>by have:=hl.1 i hi;simp [cY,wi];omega,?_⟩,by simp [cY,wi,hO.ZZ],λk' g hg=>?_,by simp [cY,wi,hO.Zw],λk c hc=>(hO.cls k c hc).imp λms hm=>⟨vu,hm.2⟩,λi d hd=>?_,λi hi=>?_,λk' i j hk' hn=>?_⟩
  .simp [hl.2,cY];refine iK λi hi=>?_
   have hlt:i<W.ZX.length:=by
    rcases dY.1 hi with e|e
    .exact hw.stk i e
    .exact hl.1 i e
   have hne:¬ i=W.ZX.length:=qA;simp [hne]
  .have hgl:¬ g.2=W.ZX.length:=by
    obtain⟨c,_,e,_⟩:=hw.ZZ k' g hg;have:=(gS e).1;omega
   simp [hO.bx k' g hg,hgl]
  .simp only [cY,wi] at hd;rcases fF i W.ZX.length with hlt|hge
   .rw [uW hlt] at hd;have hne:¬ i=W.ZX.length:=qA;have hne':¬ W.ZX.length=i:=qA;by_cases e0:i=0
    .subst e0;simp [hO.env 0 d hd,yU,hne,hne']
    .have hup:=(hw.up i d hd qA).1;have hupn:¬ d.up=W.ZX.length:=qA;simp [hO.env i d hd,yU,e0,hne,hne',hupn]
   .rw [b7 hge] at hd
    have hi:i=W.ZX.length:=by
     have:=(gS hd).1;simp at this;omega
    subst hi;simp at hd;subst hd;simp [yU,hpos,hupl]
  .by_cases e:i=W.ZX.length
   .subst e;rw [Em (vs:=[]) hpos hk];exact⟨[],qB,by simpa [wD] using qAa.nil⟩
   .rw [Ix e]
    have hlt:i<W.ZX.length:=by
     simp [cY,wi] at hi;omega
    have hne':¬ W.ZX.length=i:=qA;exact (hO.nms i hlt).imp λms hm=>⟨by simp [hm.1,e,hne'],hm.2⟩
  .by_cases e7:k'=7/\i=W.ZX.length/\j=0
   .exact .inr (.inl ⟨e7.1,CJ,e7.2.2⟩)
   .by_cases e1:k'=1/\i=0/\j=0
    .exact .inl e1
    .have hn':H (.u k' i j)≠none:=by simpa [hk',e1,e7] using hn
     rcases hO.only k' i j hk' hn' with h|h|h
     .exact .inl h
     .exact .inr (.inl ⟨h.1,CJ,h.2.2⟩)
     .exact .inr (.inr h)
 rintro y H2 ⟨rfl,hO2⟩;clear fx;generalize qm p (zY p n) W b a []=q2 at hO2 hcl e1 hrc hlen hlf;obtain⟨U,v1,v2⟩:=q2;simp only at hO2 hcl e1 hrc hlen hlf;have hT2:=hO2.top;simp only [uU] at hT2;obtain⟨d,hd⟩:=gX hlen;have hE2:=hO2.env W.ZX.length d hd;simp only [yU,hpos,if_false] at hE2;by_cases hen2:U.en=0
 case neg =>
  rw [if_pos hen2] at hcl;refine iF ?_<|yE hT hT2 hen2<|hE2;rw [hcl];refine qD [] .nil qE ⟨by simp [hen2],Z4.fin (have om:=hO2;Z4.re om)⟩
 rw [if_neg nz] at hcl;obtain⟨ms,hms,hmo⟩:=hO2.nms W.ZX.length hlen;have hnv:U.nms W.ZX.length=U.vars (some W.ZX.length):=by simp [Z5.nms,Z5.vars,hpos,hd]
 rw [hnv] at hmo;generalize hnve:U.vars (some W.ZX.length)=nv at hmo hcl hnv;refine iF ?_<|yS hT hT2 hen2 hE2<|hms;intro K hK;have fx:=aI hT (aI hT2 (aI hE2 hms));refine SZ rfl (n:=.c (En W.ZX.length) 0 1) (es:=wC ms) (hsc:=QS) (h:=?_);clear fx;have hC:=hO2.Zw;have hwr:IntKind.i64.wrap (U.ZV.length:Int)=U.ZV.length:=Zv qA qA;refine iF ?_<|yE hT hT2 hE2<|hms;refine pI (.c (.s 35) 0 0) (.c Mn (U.ZV.length+1) 9) (.inl rfl) (.inl rfl) ?_;refine iF ?_<|u4 hT hT2 hC hrc hwr hE2<|hms;rw [hcl];have hap:vX Mn U.ZV++[[.mp (.c Mn (U.ZV.length+1) 9)]]=vX Mn (U.ZV++[nv]):=Fv;refine qD [] .nil qE ⟨by simp [hen2],Z4.fin ⟨by simp [hT2,uU],⟨by simp [hO2.scs.top],λj k hj hk=>by simp [hO2.scs.sc j k hj hk]⟩,by simp [hO2.out],by simp [hO2.trc],hO2.run.imp λl hl=>⟨hl.1,tv⟩,by simp [hO2.ZZ],λk g hg=>by simp [hO2.bx k g hg],?_,λk c hc=>?_,λi a ha=>by simp [hO2.env i a ha],λi hi=>?_,λk i j hk hn=>if e:k=1/\i=0/\j=0 then .inl e else hO2.only k i j hk dN⟩⟩
 .simp [<- hap];rw [b9 qB];refine si λi c hc=>?_;have hne:¬ i=U.ZV.length:=CC;have hne':¬ U.ZV.length=i:=qA;simp [hne,hne']
 .simp only at hc;rcases fF k U.ZV.length with hlt|hge
  .rw [uW hlt] at hc;have hne:¬ k=U.ZV.length:=qA;have hne':¬ U.ZV.length=k:=qA;exact (hO2.cls k c hc).imp λms hm=>⟨by simp [hm.1,hne,hne'],hm.2⟩
  .rw [b7 hge] at hc
   have hi:k=U.ZV.length:=by
    have:=(gS hc).1;simp at this;omega
   subst hi;simp at hc;subst hc;exact⟨ms,qB,hmo⟩
 .by_cases e:i=W.ZX.length
  .subst e;have hnv':({ U with ZV:=U.ZV++[nv] }:Z5).nms W.ZX.length=nv:=hnv;exact⟨ms,by simp [hms],by rw [hnv'];exact hmo⟩
  .exact (hO2.nms i hi).imp λms hm=>⟨by simp [hm.1,e],hm.2⟩
abbrev YK:Zh:=aS<|.l 8 [7,6,5,4,3,2,1,0]<|.l 9 []<|.done
@[simp] theorem nilS_nfn:zT (AV.sc .nilFunc)=false:=rfl
@[simp] theorem nilS_fn {f:Fn} {xs ys:List AV}:zT (AV.fn f xs ys)=false:=rfl
theorem iE {A G G2:Prop} (k:G2) (x:A) (h:A->Zx G2->G:=by
 intro fx kk;refine qG ?_
 repeat ((first|refine Ze (id:=3) YK mixed ?_);refine qZ ?_;refine qG ?_)
 exact kk.h):G:=h x ⟨k⟩
theorem RB (gl) (p:Z0) (n:Nat) (hR:RW gl 235 p n) (H:Nm->Option AO) (W:Z5) (f:Zd) (lo:Nat) (vs all:List Zd) (hP:Zm p) (hw:Zy p W) (hn:W.left<n) (h0:W.en=0) (hf:VOk W.ZZ.length W.ZV.length f) (hv:∀ v∈vs,VOk W.ZZ.length W.ZV.length v) (hr:Room 1 W)
  (hall:all.drop lo=vs) (hlo:lo+vs.length=all.length) (hv2:vs.length<=1) (hO:Z4 H 235 p W) (hL:H (.u 2 0 0)=some (.row 2 (zn all))) :
  Zj prog gl 222 DM2 [.pt Mn 0,Zd.av f,.hs (.u 2 0 0) 2 lo vs.length] H (λ_ y H'=>y=.tup [Zd.av (u6 p (zY p n) W f vs).2,bv (decide ((u6 p (zY p n) W f vs).1.en=0))]/\Z4 H' 235 p (u6 p (zY p n) W f vs).1) noE:=by
 have hT:=hO.top;simp only [uU] at hT;obtain⟨f1,f2⟩:=f;refine Zj.Zl func222 [.cell 6 63,.tmp 7] ntmps222 (λ_=>cD) λC w g root hroot=>?_;by_cases h2:f1=2
 .subst h2;have hf2:=hf.num;have hf3:=hf.fn rfl;simp only at hf2 hf3;obtain⟨i,rfl⟩:∃ i:Nat,f2=i:=⟨f2.toNat,qA⟩;have hil:i<W.ZZ.length:=qA;obtain⟨⟨g1,g2⟩,hg⟩:∃ g,W.ZZ[i]?=some g:=⟨_,gE hil⟩;obtain⟨_,hgE⟩:=gS hg;have hm:=hw.ZZ i _ hg;obtain⟨k,hk,hpk⟩:=hm.shape;have hF:=hO.ZZ;have hcc:Nc 235 p i (g1,g2)=[iv (cp p g1),.fn (.func 235) [] [.pt (.u 8 i 0) 0,.pt (.u 8 i 1) 0,.pt (.u 8 i 2) 0,.pt (.u 8 i 3) 0]]:=rfl;obtain⟨c1,c2,c3,c4⟩:=hO.bx i _ hg;simp only at hm hk hpk c1 c2 c3 c4;by_cases hl:cp p g1=vs.length
  .have hc:u6 p (zY p n) W (2,(i:Int)) vs=qm p (zY p n) W g1 g2 vs:=by
    simp [u6,hg,hl]
   have hlb:((cp p g1:Int)==(vs.length:Int))=true:=by rw [hl];simp
   refine iE ?_<|kO hT hF hil hg hgE hcc hlb<|@qL;intro K hK;have fx:=aI hT hF;refine PD (xs:=[]) (ys:=[.pt (.u 8 i 0) 0,.pt (.u 8 i 1) 0,.pt (.u 8 i 2) 0,.pt (.u 8 i 3) 0]) hO (have om:=hO;Z4.re om) cT (qf _) (qf _) (hF:=λhs=>K3 gl _ p n hR _ W i g1 g2 lo vs all hP hw hn h0 hg hv hr hall hlo hl hv2 hs cT) (h:=?_);rintro y H1 ⟨rfl,hO1⟩;clear fx;have hT1:=hO1.top;simp only [uU] at hT1;refine iE ?_<|aI hT<|hT1;rw [hc];refine qD [] .nil qE ⟨qB,Z4.fin (have om:=hO1;Z4.re om)⟩
  .have hc:u6 p (zY p n) W (2,(i:Int)) vs=({ W with en:=6 },(0,0)):=by
    simp [u6,hg,hl]
   have hlb:((cp p g1:Int)==(vs.length:Int))=false:=by
    rw [beq_eq_false_iff_ne];omega
   refine iE ?_<|kO hT hF hil hg hgE hcc hlb<|@qL;intro K hK;have fx:=hT;refine yG hO (have om:=hO;Z4.re om) (qf _) (qf _) (hF:=λhs=>cH _ _ _ p W 6 hs) (h:=?_);rintro y H2 ⟨rfl,hO2⟩;clear fx;have hT2:=hO2.top;simp only [uU] at hT2;refine iE ?_<|aI hT<|hT2;rw [hc];refine qD [] .nil qE ⟨qB,Z4.fin (have om:=hO2;Z4.re om)⟩
 .have hb1:(f1==2)=false:=ga;have hc:u6 p (zY p n) W (f1,f2) vs=({ W with en:=5 },(0,0)):=by simp [u6,h2]
  refine iE ?_<|jI hT hb1<|@qL;intro K hK;have fx:=hT;refine yG hO (have om:=hO;Z4.re om) (qf _) (qf _) (hF:=λhs=>cH _ _ _ p W 5 hs) (h:=?_);rintro y H2 ⟨rfl,hO2⟩;clear fx;have hT2:=hO2.top;simp only [uU] at hT2;refine iE ?_<|aI hT<|hT2;rw [hc];refine qD [] .nil qE ⟨qB,Z4.fin (have om:=hO2;Z4.re om)⟩
abbrev YJ:Zh:=bI<|.l 7 []<|.q 8<|.q 9<|.l 10 []<|.l 11 []<|.done
abbrev Vf:Zh:=wE<|.l 6 []<|.q 7<|.q 8<|.l 9 []<|.l 10 []<|.done
theorem vb {A G G2:Prop} (k:G2) (x:A) (h:A->Zx G2->G:=by
 intro fx kk;refine qG ?_
 repeat ((first|refine Ze (id:=7) YJ mixed ?_|refine Ze (id:=13) Vf mixed ?_|refine Ze (id:=14) Vf mixed ?_);refine qZ ?_;refine qG ?_)
 exact kk.h):G:=h x ⟨k⟩
theorem FF (gl) (p:Z0) (n:Nat) (hR:RW gl 235 p n) (H:Nm->Option AO) (W:Z5) (a:Nat) (k:Za) (s:Z9) (vs:List Zd) (hP:Zm p) (hw:Zy p W) (hn:W.left<n) (h0:W.en=0) (ha:a<W.ZX.length) (hk:p[W.Z1 a]?=some k) (hs:s∈k.body) (hkd:0<=s.kind/\s.kind<=6) (hr:Room 2 W)
  (hl:vs.length=s.reads.length) (hvok:∀ v∈vs,VOk W.ZZ.length W.ZV.length v) (hO:Z4 H 235 p W) (hL:H (.u 2 0 0)=some (.row 2 (zn vs))) :
  Zj prog gl 193 DM2 [.pt Mn 0,ptE a,s.av,.hs (.u 2 0 0) 2 0 vs.length] H (λ_ y H'=>y=.tup [Zd.av (ju p (zY p n) W a s vs).2,bv (decide ((ju p (zY p n) W a s vs).1.en=0))]/\Z4 H' 235 p (ju p (zY p n) W a s vs).1) noE:=by
 have hT:=hO.top;simp only [uU] at hT;have hst:=hP.sh.stm _ k hk s hs;have hnm:=hP.sh.names k (gM hk);have hp1:=hL;obtain⟨c,hc⟩:=gX ha;have hE:=hO.env a c hc;obtain⟨kd,to,sa,sb⟩:=s;simp only at hkd;refine Zj.Zl func193 [.cell 8 63,.tmp 9] ntmps193 (λ_=>cD) λC w g root hroot=>?_;have hkc:kd=0\/kd=1\/kd=2\/kd=3\/kd=4\/kd=5\/kd=6:=qA;rcases hkc with rfl|rfl|rfl|rfl|rfl|rfl|rfl
 .have hw0:ju p (zY p n) W a ⟨0,to,sa,sb⟩ vs=(W,(1,sa)):=bZ;refine vb ?_<|jI hT hp1<|@qL;rw [hw0];refine qD [] .nil qE ⟨zR,Z4.fin (have om:=hO;Z4.re om)⟩
 .obtain⟨u,rfl⟩:∃ u,vs=[u]:=by
   match vs,hl with
   | [u],_=>exact⟨u,rfl⟩
   | [],h=>simp [Z9.reads] at h
   | _::_::_,h=>simp [Z9.reads] at h
  have hw0:ju p (zY p n) W a ⟨1,to,sa,sb⟩ [u]=(W,u):=bZ;refine vb ?_<|jI hT hp1<|@qL;rw [hw0];refine qD [] .nil qE ⟨zR,Z4.fin (have om:=hO;Z4.re om)⟩
 .obtain⟨u,v,rfl⟩:∃ u v,vs=[u,v]:=by
   match vs,hl with
   | [u,v],_=>exact⟨u,v,rfl⟩
   | [],h=>simp [Z9.reads] at h
   | [_],h=>simp [Z9.reads] at h
   | _::_::_::_,h=>simp [Z9.reads] at h
  have hw0:ju p (zY p n) W a ⟨2,to,sa,sb⟩ [u,v]=uw W u v:=bZ;refine vb ?_<|jI hT hp1<|@qL;intro K hK;have fx:=aI hT hp1;refine yG hO (have om:=hO;Z4.re om) (qf _) (qf _) (hF:=λhs=>WQ _ _ _ p W u v h0 (hvok u qB) (hvok v qB) hs) (h:=?_);rintro y H2 ⟨rfl,hO2⟩;clear fx;have hT2:=hO2.top;simp only [uU] at hT2;refine vb ?_<|yE hT hp1 hT2<|@qL;rw [hw0];refine qD [] .nil qE ⟨qB,Z4.fin (have om:=hO2;Z4.re om)⟩
 .obtain⟨q,hq1,hq2,hq3,hq4⟩:=zN.made hst (.inl rfl);simp only at hq1 hq3;obtain⟨A,rfl⟩:∃ A:Nat,sa=A:=⟨sa.toNat,qA⟩;simp only [b6] at hq1;have hw0:ju p (zY p n) W a ⟨3,to,(A:Int),sb⟩ vs=({ W with ZZ:=W.ZZ++[(A,a)] },(2,(W.ZZ.length:Int))):=bZ;refine vb ?_<|jI hT hp1<|@qL;intro K hK;have fx:=hT;refine yG hO (have om:=hO;Z4.re om) (qf _) (qf _) (hF:=λhs=>Fl _ _ p W a A q hw ha hq1 (hr.mono qA) (by have hh:=hP.sh.head A q hq1;simp only [vG] at hh;split at hh <;> omega) hs) (h:=?_);rintro y H2 ⟨rfl,hO2⟩;clear fx;have hT2:=hO2.top;simp only [uU] at hT2;refine vb ?_<|yE hT hp1 hT2<|@qL;rw [hw0];refine qD [] .nil qE ⟨zR,Z4.fin (have om:=hO2;Z4.re om)⟩
 .have hm:=Ad hst ha (.inr rfl);obtain⟨q,hq1,hq2,hq3,hq4⟩:=zN.made hst (.inr rfl);simp only at hm hq3;obtain⟨A,rfl⟩:∃ A:Nat,sa=A:=⟨sa.toNat,qA⟩;simp only [b6] at hm;have hw0:ju p (zY p n) W a ⟨4,to,(A:Int),sb⟩ vs=kI p (zY p n) W A a:=bZ;refine vb ?_<|jI hT hp1<|@qL;intro K hK;have fx:=hT;refine yG hO (have om:=hO;Z4.re om) (qf _) (qf _) (hF:=λhs=>Qt gl _ p n hR _ W a A hP hw hn h0 hm hr hs qB) (h:=?_);rintro y H2 ⟨rfl,hO2⟩;clear fx;have hT2:=hO2.top;simp only [uU] at hT2;refine vb ?_<|yE hT hp1 hT2<|@qL;rw [hw0];refine qD [] .nil qE ⟨qB,Z4.fin (have om:=hO2;Z4.re om)⟩
 .have hpos:0<vs.length:=by
   rw [hl];by_cases e:sb=-1 <;> simp [Z9.reads,e]
  have hlt:vs.length<=2:=by
   rw [hl];by_cases e:sb=-1 <;> simp [Z9.reads,e]
  obtain⟨u,tl,rfl⟩:∃ u tl,vs=u::tl:=by
   match vs,hpos with
   | u::tl,_=>exact⟨u,tl,rfl⟩
  have htl:tl.length<=1:=by simp at hlt;omega
  have hw0:ju p (zY p n) W a ⟨5,to,sa,sb⟩ (u::tl)=u6 p (zY p n) W u tl:=bZ;have hle1:(1:Int)<=(tl.length:Int)+1:=qA;have htn:((tl.length:Int)+1).toNat=tl.length+1:=qA;refine vb ?_<|uD hT hp1 htl hle1 htn<|@qL;intro K hK;have fx:=aI hT hp1;refine A4 hO (have om:=hO;Z4.re om) jy (qf _) (qf _) (hF:=λhs=>RB gl p n hR _ W u 1 tl (u::tl) hP hw hn h0 (hvok u qB) (λv hv=>hvok v (by simp [hv])) (hr.mono qA) rfl qc htl hs jy) (h:=?_);rintro y H2 ⟨rfl,hO2⟩;clear fx;have hT2:=hO2.top;simp only [uU] at hT2;refine vb ?_<|u4 hT hp1 hT2 htl hle1 htn<|@qL;rw [hw0];refine qD [] .nil qE ⟨qB,Z4.fin (have om:=hO2;Z4.re om)⟩
 .obtain⟨u,rfl⟩:∃ u,vs=[u]:=by
   match vs,hl with
   | [u],_=>exact⟨u,rfl⟩
   | [],h=>simp [Z9.reads] at h
   | _::_::_,h=>simp [Z9.reads] at h
  have hsb:0<=sb/\sb<=7:=by
   simp only [zN] at hst;simp at hst;omega
  obtain⟨x,rfl⟩:∃ x:Nat,sb=x:=⟨sb.toNat,qA⟩;have hw0:ju p (zY p n) W a ⟨6,to,sa,(x:Int)⟩ [u]=kN W u x:=bZ;refine vb ?_<|jI hT hp1<|@qL;intro K hK;have fx:=aI hT hp1;refine yG hO (have om:=hO;Z4.re om) (qf _) (qf _) (hF:=λhs=>E1 _ _ _ p W u x h0 hw (hvok u qB) qA hs) (h:=?_);rintro y H2 ⟨rfl,hO2⟩;clear fx;have hT2:=hO2.top;simp only [uU] at hT2;refine vb ?_<|yE hT hp1 hT2<|@qL;rw [hw0];refine qD [] .nil qE ⟨qB,Z4.fin (have om:=hO2;Z4.re om)⟩
abbrev YI:Zh:=aS<|.l 8 [4,3,2,1,0]<|.l 9 [4,3,2,1,0]<|.l 10 [0]<|.q 11<|.q 12<|.l 13 []<|.done
abbrev YH:Zh:=bI<|.l 7 []<|.done
def doW (p:Z0) (R:Z5->Nat->Z5×Zd) (W:Z5) (a:Nat) (s:Z9) (vs:List Zd):Z5 :=
 if s.kind=9\/s.kind=10 then W else if s.kind=11 then bb p W a s.to else
 if s.kind=7 then { W with out:=W.out++[Hm.shown (vs.getD 0 (0,0))] } else
 if (ju p R W a s vs).1.en≠0 then (ju p R W a s vs).1 else wm p (ju p R W a s vs).1 a s.to (ju p R W a s vs).2
theorem La {p:Z0} {R:Z5->Nat->Z5×Zd} {W:Z5} {a:Nat} {s:Z9} {vs:List Zd} (h0:W.en=0) (h:qY p W a s.reads=(W,vs)):cd p R W a s=doW p R W a s vs:=by
 have hv:zo p R W a s=ju p R W a s vs:=by
  unfold zo;rw [h];simp [h0]
 by_cases h7:s.kind=7
 .have hv7:zo p R W a s=(W,vs.getD 0 (0,0)):=by
   rw [hv];simp [ju,h7]
  simp [cd,doW,h7,hv7,h0]
 .simp only [cd,doW,hv,h7,if_false]
theorem uh {A G G2:Prop} (k:G2) (x:A) (h:A->Zx G2->G:=by
 intro fx kk;refine qG ?_
 repeat ((first|refine Ze (id:=6) YI mixed ?_|refine Ze (id:=14) YH mixed ?_);refine qZ ?_;refine qG ?_)
 exact kk.h):G:=h x ⟨k⟩
theorem Yl (gl) (p:Z0) (n:Nat) (hR:RW gl 235 p n) (H:Nm->Option AO) (W:Z5) (a:Nat) (k:Za) (s:Z9) (vs:List Zd) (hP:Zm p) (hw:Zy p W) (hn:W.left<n) (h0:W.en=0) (ha:a<W.ZX.length) (hk:p[W.Z1 a]?=some k) (hs:s∈k.body) (h8:s.kind≠8) (hr:Room 2 W)
  (hl:vs.length=s.reads.length) (hvok:∀ v∈vs,VOk W.ZZ.length W.ZV.length v) (hO:Z4 H 235 p W) (hL:H (.u 2 0 0)=some (.row 2 (zn vs))) :
  Zj prog gl 157 DM2 [.pt Mn 0,ptE a,s.av,.hs (.u 2 0 0) 2 0 vs.length] H (λ_ y H'=>y=bv (decide ((doW p (zY p n) W a s vs).en=0))/\Z4 H' 235 p (doW p (zY p n) W a s vs)) noE:=by
 have hh:=hP.sh.Zc;have hT:=hO.top;simp only [uU] at hT;have hst:=hP.sh.stm _ k hk s hs;have hnm:=hP.sh.names k (gM hk);have hkd:=hnm.kinds s hs;have hto:=hnm.tos s hs;have hvl:=FF gl p n hR;have hp1:=hL;obtain⟨c,hc⟩:=gX ha;have hE:=hO.env a c hc;obtain⟨kd,to,sa,sb⟩:=s;simp only at h8 hkd hto;obtain⟨x,rfl⟩:∃ x:Nat,to=x:=⟨to.toNat,qA⟩;have hx7:0<=(x:Int)/\(x:Int)<=7:=qA;refine Zj.Zl func157 [.tmp 8] ntmps157 (λ_=>cD) λC w g root hroot=>?_;by_cases h9:kd=9
 .subst h9;have hq:doW p (zY p n) W a ⟨9,x,sa,sb⟩ vs=W:=by simp [doW]
  refine uh ?_<| hT;rw [hq];refine qD [] .nil qE ⟨zR,Z4.fin (have om:=hO;Z4.re om)⟩
 by_cases h10:kd=10
 .subst h10;have hq:doW p (zY p n) W a ⟨10,x,sa,sb⟩ vs=W:=by simp [doW]
  refine uh ?_<| hT;rw [hq];refine qD [] .nil qE ⟨zR,Z4.fin (have om:=hO;Z4.re om)⟩
 have hb9:(kd==9)=false:=by simpa using h9
 have hb10:(kd==10)=false:=by simpa using h10
 by_cases h11:kd=11
 .subst h11;have hq:doW p (zY p n) W a ⟨11,x,sa,sb⟩ vs=bb p W a x:=by simp [doW]
  refine uh ?_<| hT;intro K hK;have fx:=hT;refine yG hO (have om:=hO;Z4.re om) (qf _) (qf _) (hF:=λhs=>Tv _ _ _ p W a x hP.sh hw ha qA h0 hs) (h:=?_);rintro y H1 ⟨rfl,hO1⟩;clear fx;have hT1:=hO1.top;simp only [uU] at hT1;refine uh ?_<|aI hT<|hT1;rw [hq];refine qD [] .nil qE ⟨qB,Z4.fin (have om:=hO1;Z4.re om)⟩
 have hb11:(kd==11)=false:=by simpa using h11
 by_cases h7:kd=7
 .subst h7
  obtain⟨u,rfl⟩:∃ u,vs=[u]:=by
   match vs,hl with
   | [u],_=>exact⟨u,rfl⟩
   | [],h=>simp [Z9.reads] at h
   | _::_::_,h=>simp [Z9.reads] at h
  have hq:doW p (zY p n) W a ⟨7,x,sa,sb⟩ [u]={ W with out:=W.out++[Hm.shown u] }:=by simp [doW]
  have hU:=hO.out;have hol:=hw.qBQ;have hol':W.out.length<=1000:=qA;have hap:qT W.out++[[iv (Hm.shown u)]]=qT (W.out++[Hm.shown u]):=zd;have hsh:=uN gl u;obtain⟨u1,u2⟩:=u;have fx:=yS hT hU hol' hp1<|@qL;have c1:=hsh;refine uh ?_<|fx;clear fx c1;rw [hq];refine qD [] .nil qE ⟨zR,Z4.fin ⟨by simp [uU,hT],⟨br,λj k hj hk=>bq⟩,?_,oO,hO.run.imp λl hl=>⟨hl.1,tv⟩,oN,λk g hg=>by simp [hO.bx k g hg],tS,λk c hc=>(hO.cls k c hc).imp λms hm=>⟨vu,hm.2⟩,λi a ha=>gK,λi hi=>(hO.nms i hi).imp λms hm=>⟨vu,hm.2⟩,λk i j hk hn=>if e:k=1/\i=0/\j=0 then .inl e else hO.only k i j hk dN⟩⟩;simp
 have hb7:(kd==7)=false:=by simpa using h7
 have hk6:0<=kd/\kd<=6:=qA
 have hq:doW p (zY p n) W a ⟨kd,x,sa,sb⟩ vs=if (ju p (zY p n) W a ⟨kd,x,sa,sb⟩ vs).1.en≠0 then (ju p (zY p n) W a ⟨kd,x,sa,sb⟩ vs).1 else wm p (ju p (zY p n) W a ⟨kd,x,sa,sb⟩ vs).1 a x (ju p (zY p n) W a ⟨kd,x,sa,sb⟩ vs).2:=by
  simp only [doW,h9,h10,h11,h7,if_false,false_or]
 refine uh ?_<|yS hT hb9 hb10 hb11<|hb7;intro K hK;have fx:=hT;refine A4 hO (have om:=hO;Z4.re om) jy (qf _) (qf _) (hF:=λhs'=>hvl _ W a k ⟨kd,x,sa,sb⟩ vs hP hw hn h0 ha hk hs hk6 hr hl hvok hs' jy) (h:=?_);rintro y H1 ⟨rfl,hO1⟩;clear fx;obtain⟨hA,hvok1⟩:=A5 (vs:=vs) (kT hP.sh n) hw hn h0 ha hst hvok hr;generalize ju p (zY p n) W a ⟨kd,x,sa,sb⟩ vs=q at hO1 hA hvok1 hq;obtain⟨V,v⟩:=q;simp only at hO1 hA hvok1 hq;have hT1:=hO1.top;simp only [uU] at hT1;have haV:a<V.ZX.length:=aR ha hA.grow.qAk;have hla:=hA.grow.qAk;have hlf:=hA.grow.qCy;obtain⟨c1,hc1⟩:=gX haV;have hE1:=hO1.env a c1 hc1;by_cases hen:V.en=0
 case neg =>
  rw [if_pos hen] at hq;obtain⟨v1,v2⟩:=v;refine uh ?_<|yS hT hT1 hE hE1<|hen;rw [hq];refine qD [] .nil qE ⟨by simp [hen],Z4.fin (have om:=hO1;Z4.re om)⟩
 rw [if_neg dM] at hq;obtain⟨hnm1,hil⟩:=BL (x:=(x:Int)) hh hA.ok haV;have hnm0:=hnm1;obtain⟨o,ho⟩:∃ o,Hm.qAG p (V.Z1 a) (q7 p (V.Z1 a) x)=o:=⟨_,rfl⟩;obtain⟨l,hll⟩:∃ l,V.loc p a x=l:=⟨_,rfl⟩;have hhl:=lL gl (F:=235) (p:=p) (W:=V) (a:=a) (x:=x);rw [ho,hll] at hhl;rw [hll] at hnm1 hil;obtain⟨i,hi⟩:∃ i,BW l=i:=⟨_,rfl⟩;rw [hi] at hnm1 hil hhl;obtain⟨v1,v2⟩:=v;refine uh ?_<|yS hT hT1 hE hE1<|hen;intro K hK;have fx:=aI hT hT1;refine yG hO (have om:=hO1;Z4.re om) hla hlf (hF:=λhs=>hhl _ hP.sh hA.ok haV qA hs) (h:=?_);rintro y H2 ⟨rfl,hO2⟩;clear fx;have hT2:=hO2.top;simp only [uU] at hT2;obtain⟨d,hd⟩:=gX hil;have hE2:=hO2.env i d hd;simp only [yU] at hE2;have hE2a:=hO2.env a c1 hc1;obtain⟨ms,hms,hmo⟩:=hO2.nms i hil;rw [hnm1] at hmo
 have hstq:wm p V a x (v1,v2)=V.set l x (some (v1,v2)):=by
  unfold wm;rw [hll]
 refine uh ?_<|kO hT hT1 hE hE1 hT2 hE2 hE2a<|hms;intro K hK;refine uJ (λst=>st.tm 61=.mp (.c (En i) 0 1)/\st.tm 63=iv x/\st.tm 64=Zd.av (v1,v2)/\st.hp (.c (En i) 0 1)=some (.map (wC ms))/\Z4 st.hp 235 p V) ⟨by simp [hT2,hE2],qB,qB,by simp [hms],(have om:=hO2;Z4.re om)⟩ ?_;rintro st ⟨t61,t63,t64,hms',hO3⟩;have fx:=aI t61 (aI t63 (aI t64 hms'));refine im (h:=?_);clear fx;refine uh ?_<| hT;rw [hq,hstq];refine qD [] .nil qE ⟨by rw [be.2.2.2.2.2.2];simp [hen],Z4.fin (BD hh hA.ok haV qA hll hnm0 hO3 (hmo.set hx7) λm hm=>?_)⟩;rw [hi];simp
abbrev YG:Zh:=wP<|.done
abbrev YF:Zh:=yz<|.l 11 [5,4,3,2,1,0]<|.l 12 [5,0]<|.q 13<|.q 14<|.l 15 []<|.done
theorem Ms {p:Z0} {w:Z5} {a:Nat} {x:Int} (h0:w.en=0):(zk p w a x).1.en≠0->(zk p w a x).2=(0,0):=by
 unfold zk
 repeat' split
 all_goals simp [h0]
theorem Rs {p:Z0} {w:Z5} {a:Nat} {x:Int} (h0:w.en=0):qY p w a [x]=((zk p w a x).1,[(zk p w a x).2]):=by
 simp [qY,h0]
theorem OV {p:Z0} {R:Z5->Nat->Z5×Zd} {a i:Nat} {V:Z5} {s:Z9} {l:List Z9} (h0:V.en=0) (hl:V.left≠0) (hq:(qY p (qq V a i) a s.reads).1.en≠0):vK p R a V i (s::l)=((qY p (qq V a i) a s.reads).1,(0,0)):=by
 have ht:(qq V a i).en=0:=h0;by_cases h8:s.kind=8
 .have hrd:s.reads=[s.a]:=by simp [Z9.reads,h8]
  rw [hrd,Rs ht] at hq ⊢;simp only at hq;simp only [vK,hl,h8,if_true,if_false];rw [<- Ms ht hq]
 .have hst:cd p R (qq V a i) a s=(qY p (qq V a i) a s.reads).1:=by
   by_cases h9:s.kind=9\/s.kind=10\/s.kind=11
   .have hrd:s.reads=[]:=by rcases h9 with e|e|e <;> simp [Z9.reads,e]
    rw [hrd] at hq;simp only [qY] at hq;exact absurd ht hq
   .have hv:zo p R (qq V a i) a s=((qY p (qq V a i) a s.reads).1,(0,0)):=by
     unfold zo;rw [if_pos hq]
    have e1:¬ (s.kind=9\/s.kind=10):=qA;have e2:¬ s.kind=11:=qA;unfold cd;rw [if_neg e1,if_neg e2,hv,if_pos hq]
  simp only [vK,hl,h8,if_false];rw [hst,if_pos hq]
theorem OT {p:Z0} {R:Z5->Nat->Z5×Zd} {a i:Nat} {V:Z5} {s:Z9} {l:List Z9} {vs:List Zd} (h0:V.en=0) (hl:V.left≠0) (h8:s.kind=8) (hq:qY p (qq V a i) a s.reads=(qq V a i,vs)):∃ v,vs=[v]/\vK p R a V i (s::l)=(qq V a i,v):=by
 have ht:(qq V a i).en=0:=h0;have hrd:s.reads=[s.a]:=by simp [Z9.reads,h8]
 rw [hrd,Rs ht] at hq;obtain⟨e1,e2⟩:=xF hq;refine⟨_,e2.symm,?_⟩;simp only [vK,hl,h8,if_true,if_false];exact Prod.ext e1 rfl
theorem RG {p:Z0} {R:Z5->Nat->Z5×Zd} {a i:Nat} {V:Z5} {s:Z9} {l:List Z9} {vs:List Zd} (h0:V.en=0) (hl:V.left≠0) (h8:s.kind≠8) (hq:qY p (qq V a i) a s.reads=(qq V a i,vs)):vK p R a V i (s::l)=if (doW p R (qq V a i) a s vs).en≠0 then (doW p R (qq V a i) a s vs,(0,0)) else vK p R a (doW p R (qq V a i) a s vs) (i+1) l:=by
 have ht:(qq V a i).en=0:=h0;simp only [vK,hl,h8,if_false];rw [La ht hq]
theorem ug {A G G2:Prop} (k:G2) (x:A) (h:A->Zx G2->G:=by
 intro fx kk;refine qG ?_
 repeat ((first|refine Ze (id:=1) YG mixed ?_|refine Ze (id:=7) YF mixed ?_);refine qZ ?_;refine qG ?_)
 exact kk.h):G:=h x ⟨k⟩
theorem DS (gl) (p:Z0) (n:Nat) (hR:RW gl 235 p n) (hP:Zm p):RW gl 235 p (n+1):=by
 intro H W a hO hw hn ha h0 hV
 show Zj prog gl 101 DM [.pt Mn 0,ptE a] H _ noE
 obtain⟨c,hc⟩:=gX ha;have Zs:=hw.qBC a c hc;obtain⟨k,hk⟩:=gX Zs;obtain⟨_,hkE⟩:=gS hk;have hbk:=jq hc;have hT:=hO.top;have hE:=hO.env a c hc;simp only [uU] at hT;simp only [yU] at hE;have hb12:=hP.sh.body k (gM hk);have hrun:zY p (n+1) W a=vK p (zY p n) a W 0 k.body:=by simp only [zY,hbk,hk]
 have hO0:=hO;refine Zj.Zl func101 [.cell 4 63,.tmp 5] ntmps101 (λ_=>qN) λC w g root hroot=>?_;refine ug ?_<|yS hT hE hk hkE<|Zs;refine qX (λm st=>∃ (i:Nat) (V:Z5),m=k.body.length - i/\i<=k.body.length/\zY p (n+1) W a=vK p (zY p n) a V i (k.body.drop i)/\Zy p V/\V.left<n+1/\a<V.ZX.length/\V.en=0/\V.Z1 a=c.Z1/\W.ZX.length<=V.ZX.length/\W.ZZ.length<=V.ZZ.length/\st.tm 0=.pt Mn 0/\st.tm 1=ptE a/\st.tm 4=.pt (.s 4) 0/\st.hp (.s 4)=some (.row 2 [[iv 0,iv 0]])/\st.tm 21=ssl k.body/\st.tm 22=iv k.body.length/\st.tm 23=iv i/\Z4 st.hp 235 p V) k.body.length ?_ ?_
 .exact⟨0,W,qA,qA,by simpa using hrun,hw,hn,ha,h0,hbk,qf _,qf _,qu,by simp [hE],qB,qB,qB,qB,qB,(have om:=hO;Z4.re om)⟩
 clear hT hE hO;rintro m st - - ⟨i,V,rfl,hi,hres,hw',hn',ha',h0',hbV,hl1,hl2,t0,t1,t4,hp4,t21,t22,t23,hO⟩;clear hrun h0 hn hw hc ha;obtain⟨d,hd⟩:∃ d,V.ZX[a]?=some d:=⟨_,gE ha'⟩;have hdb:d.Z1=c.Z1:=by rw [<- jq hd];exact hbV
 have hT:=hO.top;have hE:=hO.env a d hd;simp only [uU] at hT;simp only [yU] at hE;by_cases hil:i<k.body.length
 case neg =>
  have hge:i=k.body.length:=qA;rw [hge,List.drop_length] at hres;simp only [vK] at hres;refine ug ?_<|kO t0 t1 t4 hp4 t21 t22 t23<|hil;rw [hres];refine qD [] .nil eS ⟨by simp [h0'],Z4.fin (have om:=hO;Z4.re om)⟩
 obtain⟨s,hs⟩:=gX hil;obtain⟨_,hsE⟩:=gS hs;have hsm:=gM hs;have hdr:k.body.drop i=s::k.body.drop (i+1):=by rw [Ea hil,hsE]
 rw [hdr] at hres;by_cases hl:V.left=0
 .have hr2:vK p (zY p n) a V i (s::k.body.drop (i+1))=({ V with en:=1 },(0,0)):=by simp only [vK,hl,if_true]
  rw [hr2] at hres;refine ug ?_<|jJ t0 t1 t4 hp4 t21 t22 t23 hil hs hsE<|aI hT<|hl;intro K hK;have fx:=aI t0 hT;refine yG hO0 (have om:=hO;Z4.re om) hl1 hl2 (hF:=λhs=>cH _ _ _ p V 1 hs) (h:=?_);rintro y H2 ⟨rfl,hO2⟩;clear fx;have hT2:=hO2.top;simp only [uU] at hT2;refine ug ?_<|u4 t0 t1 t4 hp4 hT hT2<|hl;rw [hres];refine qD [] .nil eS ⟨qB,Z4.fin (have om:=hO2;Z4.re om)⟩
 obtain⟨l,hll⟩:∃ l,V.left=l+1:=⟨V.left - 1,qA⟩;obtain⟨tk1,tk2⟩:=gq (a:=a) (i:=i) hw' hl;have hTt:qq V a i={ V with left:=l,trace:=V.trace++[(d.Z1,i)] }:=by simp only [qq,jq hd];rw [hll];rfl
 have hbV2:(qq V a i).Z1 a=d.Z1:=OD;have hleft:(qq V a i).left<n:=by simp only [qq];omega
 have hTr:=hO.trc;have hnt:=hw'.ntr;have hnl:=hw'.qAe;have htl':V.trace.length<=1000:=qA;have hl8:l<=1000:=qA;have hlb:((l:Int)+1==0)=false:=vP;have hwl:IntKind.i64.wrap (l:Int)=l:=Zv qA qA;have hap:yw V.trace++[[iv d.Z1,iv i]]=yw (V.trace++[(d.Z1,i)]):=iD;have hkd:=(hP.sh.names k (gM hk)).kinds s hsm;have hrd:=(hP.sh.names k (gM hk)).reads s hsm;refine ug ?_<|qU t0 t1 t4 hp4 t21 t22 t23 hil hs hsE hT hll<|yS hlb hwl hTr htl'<|hE;intro K hK;have fx:=aI t0 (aI t1 hT);refine yG hO0 (w:=qq V a i) (by rw [hTt];exact⟨by simp [hT,uU],⟨br,λj k hj hk=>bq⟩,lc,tG,hO.run.imp λl hl=>⟨hl.1,tv⟩,oN,λk g hg=>by simp [hO.bx k g hg],tS,λk c hc=>(hO.cls k c hc).imp λms hm=>⟨vu,hm.2⟩,λi a ha=>gK,λi hi=>(hO.nms i hi).imp λms hm=>⟨vu,hm.2⟩,λk i j hk hn=>if e:k=1/\i=0/\j=0 then .inl e else hO.only k i j hk dN⟩) hl1 hl2 (hF:=λhs'=>Jm _ _ _ p (qq V a i) a s hP.sh tk1 ha' h0' hkd hrd hs') (h:=?_);rintro y H1 ⟨hO1,hy⟩;clear fx;have hbad:=OV (p:=p) (R:=zY p n) (a:=a) (i:=i) (V:=V) (s:=s) (l:=k.body.drop (i+1)) h0' hl;have hret:s.kind=8->∀ vs,qY p (qq V a i) a s.reads=(qq V a i,vs)->∃ v,vs=[v]/\vK p (zY p n) a V i (s::k.body.drop (i+1))=(qq V a i,v):=λh8 vs hq=>OT h0' hl h8 hq
 have hdo:s.kind≠8->∀ vs,qY p (qq V a i) a s.reads=(qq V a i,vs)->vK p (zY p n) a V i (s::k.body.drop (i+1))=if (doW p (zY p n) (qq V a i) a s vs).en≠0 then (doW p (zY p n) (qq V a i) a s vs,(0,0)) else vK p (zY p n) a (doW p (zY p n) (qq V a i) a s vs) (i+1) (k.body.drop (i+1)):=λh8 vs hq=>RG h0' hl h8 hq
 have hsdo:∀ vs,qY p (qq V a i) a s.reads=(qq V a i,vs)->cd p (zY p n) (qq V a i) a s=doW p (zY p n) (qq V a i) a s vs:=λvs h=>La h0' h;obtain⟨hA,hvok,hcase,hlen,_⟩:=ww (a:=a) (l:=s.reads) tk1;generalize qY p (qq V a i) a s.reads=q at hO1 hy hbad hret hdo hsdo hA hvok hcase hlen;obtain⟨U,vs⟩:=q;simp only at hO1 hy hbad hret hdo hsdo hA hvok hcase hlen;have hT1:=hO1.top;simp only [uU] at hT1;obtain⟨d1,hd1⟩:∃ c,U.ZX[a]?=some c:=⟨_,gE (aR ha' hA.grow.qAk)⟩;have hE1:=hO1.env a d1 hd1;rcases hy with⟨hen,rfl,hp1⟩|⟨hen,rfl⟩
 case inr =>
  refine ug ?_<|jJ t0 t1 t4 hp4 t21 t22 t23 hT hE hT1<|hE1;rw [hres,hbad hen];refine qD [] .nil eS ⟨by simp [hen],Z4.fin (have om:=hO1;Z4.re om)⟩
 obtain rfl:U=qq V a i:=by
  rcases hcase with e|⟨e,he,h⟩
  .exact e
  .rw [h] at hen;exact absurd hen he
 by_cases h8:s.kind=8
 .have hb8:(s.kind==8)=true:=by simpa using h8
  obtain⟨⟨v1,v2⟩,rfl,hb⟩:=hret h8 _ rfl;refine ug ?_<|qU t0 t1 t4 hp4 t21 t22 t23 hT hE hT1 hE1 hp1<|hb8;rw [hres,hb];have ht0:(qq V a i).en=0:=h0';refine qD [] .nil eS ⟨by simp [ht0],Z4.fin (have om:=hO1;Z4.re om)⟩
 have hb8:(s.kind==8)=false:=by simpa using h8
 have hres2:=hdo h8 _ rfl;rw [hres2] at hres;have hst:=hP.sh.stm _ k hk s hsm;have hSo:=nL (s:=s) (k:=k) (kT hP.sh n) tk1 hleft h0' ha' (by rw [hbV2,hdb];exact hst) tk2;rw [hsdo vs rfl] at hSo;have hk':p[(qq V a i).Z1 a]?=some k:=by rw [hbV2,hdb];exact hk
 refine ug ?_<|qU t0 t1 t4 hp4 t21 t22 t23 hT hE hT1 hE1 hp1<|hb8;intro K hK;refine pI (.s 8) (.u 2 0 0) (.inl rfl) (.inr tj) ?_;have fx:=aI t0 (aI t1 (aI hT (aI hT1 (aI hp1 (aI hE hE1)))));refine A4 hO0 (w:=qq V a i) ⟨by simp [hO1.top,uU],⟨by simp [hO1.scs.top],λj k hj hk=>HI⟩,by simp [hO1.out],tK,hO1.run.imp λl hl=>⟨hl.1,tv⟩,CR,λk g hg=>by simp [hO1.bx k g hg],tH,λk c hc=>(hO1.cls k c hc).imp λms hm=>⟨vu,hm.2⟩,λi a ha=>by simp [hO1.env i a ha],λi hi=>(hO1.nms i hi).imp λms hm=>⟨vu,hm.2⟩,λk i j hk hn=>if e:k=1/\i=0/\j=0 then .inl e else hO1.only k i j hk (by have e2:¬ k=2:=(λe=>by rw [e] at hk;cases hk);simpa [hk,e,e2] using hn)⟩ jy hl1 hl2 (hF:=λhs'=>Yl gl p n hR _ (qq V a i) a k s vs hP tk1 hleft h0' ha' hk' hsm h8 tk2 (hlen hen) hvok hs' jy) (h:=?_);rintro y H2 ⟨rfl,hO2⟩;clear fx;generalize doW p (zY p n) (qq V a i) a s vs=U at hO2 hres hSo;have hAf:=hSo.tick hl;have hT2:=hO2.top;simp only [uU] at hT2;obtain⟨d2,hd2⟩:∃ c,U.ZX[a]?=some c:=⟨_,gE (aR ha' hAf.grow.qAk)⟩;have hE2:=hO2.env a d2 hd2;by_cases hen2:U.en=0
 .rw [if_neg nz] at hres;refine ug ?_<|qU t0 t1 t4 hp4 t21 t22 t23 hT hE hT1 hE1 hp1<|jI hT2 hE2<|hen2;exact⟨k.body.length - (i+1),qA,i+1,U,rfl,qA,hres,hAf.ok,by have:=hAf.grow.left;omega,aR ha' hAf.grow.qAk,hen2,by rw [hAf.grow.Z1 hd];exact hbV,vk hl1 hAf.grow.qAk,vk hl2 hAf.grow.qCy,by simp [t0,hT,hT1],by simp [t1,hE,hE1],by simp [t4],kj,by simp [t21],by simp [t22],by simp [t23];exact Zv qA qA,⟨by simp [hO2.top,uU,hen2],⟨by simp [hO2.scs.top,hen2],λj k hj hk=>by simp [hO2.scs.sc j k hj hk,hen2]⟩,by simp [hO2.out,hen2],by simp [hO2.trc,hen2],hO2.run.imp λl hl=>⟨hl.1,by simp [hl.2,hen2]⟩,by simp [hO2.ZZ,hen2],λk g hg=>by simp [hO2.bx k g hg,hen2],by simp [hO2.Zw,hen2],λk c hc=>(hO2.cls k c hc).imp λms hm=>⟨CK,hm.2⟩,λi a ha=>by simp [hO2.env i a ha,hen2],λi hi=>(hO2.nms i hi).imp λms hm=>⟨CK,hm.2⟩,λk i j hk hn=>if e:k=1/\i=0/\j=0 then .inl e else hO2.only k i j hk dN⟩⟩
 .rw [if_pos nz] at hres;refine ug ?_<|qU t0 t1 t4 hp4 t21 t22 t23 hT hE hT1 hE1 hp1<|jI hT2 hE2<|hen2;rw [hres];refine qD [] .nil eS ⟨by simp [hen2],Z4.fin (have om:=hO2;Z4.re om)⟩
theorem xn (gl) (p:Z0) (hP:Zm p):∀ n,RW gl 235 p n
 | 0=>λH W a _ _ h=>absurd h qA
 | n+1=>DS gl p n (xn gl p hP n) hP
abbrev YE:Zh:=.q 0<|.q 1<|.q 3<|.l 2 [3,0]<|.q 4<|.l 5 []<|.l 6 []<|.done
abbrev YD:Zh:=wo<|.l 9 [4,3,2,1,0]<|.l 10 [0]<|.q 11<|.q 12<|.l 13 []<|.done
theorem mc {A G G2:Prop} (k:G2) (x:A) (h:A->Zx G2->G:=by
 intro fx kk;refine qG ?_
 repeat ((first|refine Ze (id:=1) YE mixed ?_|refine Ze (id:=3) YD mixed ?_);refine qZ ?_;refine qG ?_)
 exact kk.h):G:=h x ⟨k⟩
theorem bj (gl) (H:Nm->Option AO) (p:Z0) (f:Nat) (hP:Zm p) (hf:f<=150) (hN:∀ k i j,H (.u k i j)=none) :
  Zj prog gl 46 DM [pav p,iv f] H (λ_ y H'=>y=.pt Mn 0/\Z4 H' 235 p (yI p f)) noE:=by
 have hw:=ce hP.sh hf;have hs:=hP.sh.sml;have hh:=hP.sh.Zc;refine Zj.Zl func46 [.tmp 4] ntmps46 (λ_=>qN) λC w g root hroot=>?_;have fx:=Zk;have e1:=dh gl p hs hh hP.sh.names;refine mc ?_<|fx;clear fx e1;intro K hK;rintro y H' ⟨rfl,hO⟩;obtain⟨ho1,ho2⟩:=hO.qAH
 try refine⟨qB,?_⟩
 refine mc ?_<| ho1;intro K hK;refine pI (.s 5) Mn (.inl rfl) (.inr (by simp [dz,hN])) ?_;have fx:=Zk;refine PB (h:=?_);clear fx;refine mc ?_<| ho1;intro K hK;refine pI (.c Mn 0 6) (En 0) (.inl rfl) (.inr (by simp [dz,hN])) ?_;have fx:=Zk;refine eZ (λk i j he=>by simp [dz,hN] at he) (hF:=xn gl p hP 151 _ (zK f) 0 ?_ hw (by simp only [zK];omega) gF rfl qB) (h:=?_)
 .clear fx;refine⟨by simp [uU,zK],⟨zp,λj k hj hk=>CF⟩,by simp [zK,qT],by simp [zK,yw],⟨[],qB,by simp [zK,zQ]⟩,by simp [zK,vY],λk g hg=>by simp [zK] at hg,by simp [zK,vX],λk c hc=>by simp [zK] at hc,λi a ha=>?_,λi hi=>?_,λk i j hk hn=>?_⟩
  .have hi:i=0:=by
    have:=(gS ha).1;simp [zK] at this;omega
   subst hi;have ha':a=⟨0,0,q9⟩:=by simpa [zK] using ha.symm
   subst ha';simp [yU]
   rfl
  .obtain rfl:i=0:=by simpa [zK] using hi
   exact⟨[],by simp [wC],by simpa [Z5.nms,zK] using qAa.nil⟩
  .by_cases e1:k=1/\i=0/\j=0
   .exact .inl e1
   .by_cases e7:k=7/\i=0/\j=0
    .exact .inr (.inl ⟨e7.1,by simp [zK,e7.2.1],e7.2.2⟩)
    .exact absurd hn (by simp [hk,e1,e7,hN])
 rintro y H1 ⟨rfl,hO1⟩;clear fx;have hT1:=hO1.top;simp only [uU] at hT1;have hme:(zY p 151 (zK f) 0).1=yI p f:=rfl;rw [hme] at hO1 hT1;refine mc ?_<| hT1;refine qD [] .nil qE ⟨qB,Z4.fin (have om:=hO1;Z4.re om)⟩
theorem yl (gl) (f:Int):qb prog gl 42 [iv f] (λ_ y _=>y=bv (decide (0<=f)&&decide (f<=150))):=by
 refine qb.Zl func42 [.tmp 2] ntmps42 λC w g root=>?_;by_cases h1:0<=f
 .by_cases h2:f<=150
  .skip
   refine qC ?_<|aI h1<|h2;refine qD [] .nil qE (by simp [h1,h2])
  .skip
   refine qC ?_<|aI h1<|h2;refine qD [] .nil qE (by simp [h1,h2])
 .skip
  refine qC ?_<| h1;refine qD [] .nil qE qy
end Go.Proofs.YtdnebaieamppbaaGreatDoor
end
