import Derived.Test.YtjgpejikjhojcaaGreatDoorT30
set_option linter.unusedSimpArgs false
set_option linter.unusedVariables false
set_option maxRecDepth 100000
set_option maxHeartbeats 4000000

section
namespace Go.Proofs.YtjgpejikjhojcaaGreatDoor
open Go Go.Hm Go.Proofs Tryz
abbrev V7:qb:=eX<|.l 9 [4,3,2,1,0]<|.l 10 [4,3,2,1,0]<|.l 11 [0]<|.q 12<|.q 13<|.l 14 []<|.done
theorem Te {ms:cN}:∀ e∈uM ms,∀ f:Nm->Option Nm,e.1.tr f=e.1/\e.2.tr f=e.2:=by
 intro e he f;simp only [uM,wU] at he;obtain⟨q,_,rfl⟩:=he;simp
theorem sB {A G G2:Prop} (k:G2) (x:A) (h:A->jP G2->G:=by
 intro fx kk;refine qQ ?_
 repeat ((first|refine qf (id:=5) V7 mixed ?_);refine zQ ?_;refine qQ ?_)
 exact kk.h):G:=h x ⟨k⟩
theorem P7 (gl) (F:Nat) (p:qC) (n:Nat) (hR:iV gl F p n) (H:Nm->Option AO) (W:qK) (a b:Nat) (hP:zq p) (hw:qt p W) (hn:W.left<n) (h0:W.en=0) (hm:vL p W.qF b a) (hr:Room 2 W) (hO:qZ H F p W) (hV:H (.u 2 0 0)=none) :
  qV prog gl 193 DM [.pt Mn 0,vh a,iv b] H (λ_ y H'=>y=.zT [qR.av (aZ p (qg p n) W b a).2,bv (decide ((aZ p (qg p n) W b a).1.en=0))]/\qZ H' F p (aZ p (qg p n) W b a).1) qy:=by
 obtain⟨k,hk,hpk⟩:=hm.shape;obtain⟨zF,hkE⟩:=gS hk;have hT:=hO.top;simp only [zj] at hT
 have hpos:¬ W.qF.length=0:=by
  obtain⟨a,ha,_⟩:=hw.a0;have:=(gS ha).1;omega
 have hpos':¬ 0=W.qF.length:=λe=>hpos e.symm
 have hupl:¬ a=W.qF.length:=by
  obtain⟨c,_,e,_⟩:=hm;have:=(gS e).1;omega
 have hno:∀ j,H (.u 7 W.qF.length j)=none:=λj=>by
  cases e:H (.u 7 W.qF.length j) with
  | none=>rfl
  | some o =>
   rcases hO.only 7 W.qF.length j rfl ta with⟨h,_⟩|⟨_,h,_⟩|⟨h,_⟩
   .cases h
   .omega
   .cases h
 have hbeg:jn p W b a [] 0={ zd p W b a [] with stack:=W.stack }:=by
  simp [jn,jI,zd,aD]
 have hcl:aZ p (qg p n) W b a=if (z8 p (qg p n) W b a []).1.en≠0 then ((z8 p (qg p n) W b a []).1,(0,0)) else
  ({ (z8 p (qg p n) W b a []).1 with qO:=(z8 p (qg p n) W b a []).1.qO++[(z8 p (qg p n) W b a []).1.vars (some W.qF.length)] },(3,((z8 p (qg p n) W b a []).1.qO.length:Int))):=rfl
 obtain⟨⟨e1,e2,e3⟩,e4⟩:=BL (vs:=[]) (dZ hP.sh n) hw hn h0 hm qB (hr.mono qA);have hrc:(z8 p (qg p n) W b a []).1.qO.length<=1000:=by have:=e1.wg;omega
 have hlen:W.qF.length<(z8 p (qg p n) W b a []).1.qF.length:=by
  obtain⟨g1,g2⟩:=oD (vs:=[]) hw hm (λv hv=>oH) (hr.mono qA);obtain⟨⟨_,r2,_⟩,_⟩:=dZ hP.sh n (zd p W b a []) W.qF.length g1 hn oJ h0;have:=r2.aP;unfold z8 kG
  split <;> simp [zd] at this ⊢ <;> omega
 have hlf:W.qJ.length<=(z8 p (qg p n) W b a []).1.qJ.length:=e2.Bj;have hent:=Ia gl F p n hR (W:=W) (b:=b) (up:=a) (vs:=[]);refine qV.qa func193 [.cell 6 115,.tmp 7] ntmps193 (λ_=>qv) λC w g root hroot=>?_;refine sB ?_<|qS;intro K hK;have fx:=qS;refine Gi (h:=?_);clear fx;refine sB ?_<| hT;intro K hK;refine kH (.s 8) (En W.qF.length) (.inl rfl) (.inr po) ?_;have fx:=hT;refine kM hO (w:=jn p W b a [] 0) ?_ (by simp [jn,jI]) (qX _) (hF:=λhs=>hent _ hP hw hn h0 hm qB (hr.mono qA) (by rw [<- hbeg];exact hs) (by simp [hV])) (h:=?_)
 .clear fx;refine⟨by simp [zj,jn,jI,hO.top,hpos'],⟨rR,λj k hj hk=>pi⟩,by simp [jn,jI,hO.out],by simp [jn,jI,hO.yH],hO.run.imp λl hl=>⟨λi hi=>by have:=hl.1 i hi;simp [jn,jI];omega,?_⟩,by simp [jn,jI,hO.qJ],λk' g hg=>?_,by simp [jn,jI,hO.jk],λk c hc=>(hO.cls k c hc).imp λms hm=>⟨cW,hm.2⟩,λi d hd=>?_,λi hi=>?_,λk' i j hk' hn=>?_⟩
  .simp [hl.2,jn];refine rr λi hi=>?_
   have hlt:i<W.qF.length:=by
    rcases jo.1 hi with e|e
    .exact hw.zR i e
    .exact hl.1 i e
   have hne:¬ i=W.qF.length:=qA;simp [hne]
  .have hgl:¬ g.2=W.qF.length:=by
    obtain⟨c,_,e,_⟩:=hw.qJ k' g hg;have:=(gS e).1;omega
   simp [hO.bx k' g hg,hgl]
  .simp only [jn,jI] at hd;rcases aC i W.qF.length with hlt|hge
   .rw [vn hlt] at hd;have hne:¬ i=W.qF.length:=qA;have hne':¬ W.qF.length=i:=qA;by_cases e0:i=0
    .subst e0;simp [hO.env 0 d hd,uk,hne,hne']
    .have hup:=(hw.up i d hd qA).1;have hupn:¬ d.up=W.qF.length:=qA;simp [hO.env i d hd,uk,e0,hne,hne',hupn]
   .rw [kD hge] at hd
    have hi:i=W.qF.length:=by
     have:=(gS hd).1;simp at this;omega
    subst hi;simp at hd;subst hd;simp [uk,hpos,hupl]
  .by_cases e:i=W.qF.length
   .subst e;rw [HR (vs:=[]) hpos hk];exact⟨[],qB,by simpa [aD] using kZ.nil⟩
   .rw [HQ e]
    have hlt:i<W.qF.length:=by
     simp [jn,jI] at hi;omega
    have hne':¬ W.qF.length=i:=qA;exact (hO.ju i hlt).imp λms hm=>⟨by simp [hm.1,e,hne'],hm.2⟩
  .by_cases e7:k'=7/\i=W.qF.length/\j=0
   .exact .inr (.inl ⟨e7.1,Ay,e7.2.2⟩)
   .by_cases e1:k'=1/\i=0/\j=0
    .exact .inl e1
    .have hn':H (.u k' i j)≠none:=by simpa [hk',e1,e7] using hn
     rcases hO.only k' i j hk' hn' with h|h|h
     .exact .inl h
     .exact .inr (.inl ⟨h.1,Ay,h.2.2⟩)
     .exact .inr (.inr h)
 rintro y H2 ⟨rfl,hO2⟩;clear fx;generalize z8 p (qg p n) W b a []=q2 at hO2 hcl e1 hrc hlen hlf;obtain⟨U,v1,v2⟩:=q2;simp only at hO2 hcl e1 hrc hlen hlf;have hT2:=hO2.top;simp only [zj] at hT2;obtain⟨d,hd⟩:=gX hlen;have hE2:=hO2.env W.qF.length d hd;simp only [uk,hpos,if_false] at hE2;by_cases hen2:U.en=0
 case neg =>
  rw [if_pos hen2] at hcl;refine sB ?_<|zC hT hT2 hen2<|hE2;rw [hcl];refine qG [] .nil qH ⟨by simp [hen2],qZ.fin (have om:=hO2;qZ.re om)⟩
 rw [if_neg rW] at hcl;obtain⟨ms,hms,hmo⟩:=hO2.ju W.qF.length hlen;have hnv:U.ju W.qF.length=U.vars (some W.qF.length):=by simp [qK.ju,qK.vars,hpos,hd]
 rw [hnv] at hmo;generalize hnve:U.vars (some W.qF.length)=nv at hmo hcl hnv;refine sB ?_<|zM hT hT2 hen2 hE2<|hms;intro K hK;have fx:=aI hT (aI hT2 (aI hE2 hms));refine qAX rfl (n:=.c (En W.qF.length) 0 1) (es:=uM ms) (hsc:=Te) (h:=?_);clear fx;have hC:=hO2.jk;have hwr:IntKind.i64.wrap (U.qO.length:Int)=U.qO.length:=qi qA qA;refine sB ?_<|zC hT hT2 hE2<|hms;refine kH (.c (.s 35) 0 0) (.c Mn (U.qO.length+1) 9) (.inl rfl) (.inl rfl) ?_;refine sB ?_<|jQ hT hT2 hC hrc hwr hE2<|hms;rw [hcl];have hap:w5 Mn U.qO++[[.mp (.c Mn (U.qO.length+1) 9)]]=w5 Mn (U.qO++[nv]):=Pf;refine qG [] .nil qH ⟨by simp [hen2],qZ.fin ⟨by simp [hT2,zj],⟨by simp [hO2.kW.top],λj k hj hk=>by simp [hO2.kW.sc j k hj hk]⟩,by simp [hO2.out],by simp [hO2.yH],hO2.run.imp λl hl=>⟨hl.1,th⟩,by simp [hO2.qJ],λk g hg=>by simp [hO2.bx k g hg],?_,λk c hc=>?_,λi a ha=>by simp [hO2.env i a ha],λi hi=>?_,λk i j hk hn=>if e:k=1/\i=0/\j=0 then .inl e else hO2.only k i j hk mR⟩⟩
 .simp [<- hap];rw [yU qB];refine IZ λi c hc=>?_;have hne:¬ i=U.qO.length:=Au;have hne':¬ U.qO.length=i:=qA;simp [hne,hne']
 .simp only at hc;rcases aC k U.qO.length with hlt|hge
  .rw [vn hlt] at hc;have hne:¬ k=U.qO.length:=qA;have hne':¬ U.qO.length=k:=qA;exact (hO2.cls k c hc).imp λms hm=>⟨by simp [hm.1,hne,hne'],hm.2⟩
  .rw [kD hge] at hc
   have hi:k=U.qO.length:=by
    have:=(gS hc).1;simp at this;omega
   subst hi;simp at hc;subst hc;exact⟨ms,qB,hmo⟩
 .by_cases e:i=W.qF.length
  .subst e;have hnv':({ U with qO:=U.qO++[nv] }:qK).ju W.qF.length=nv:=hnv;exact⟨ms,by simp [hms],by rw [hnv'];exact hmo⟩
  .exact (hO2.ju i hi).imp λms hm=>⟨by simp [hm.1,e],hm.2⟩
abbrev V8:qb:=iI<|.l 8 [7,6,5,4,3,2,1,0]<|.l 9 []<|.done
@[simp] theorem nilS_nfn:jK (AV.sc .nilFunc)=false:=rfl
@[simp] theorem nilS_fn {f:Fn} {xs ys:List AV}:jK (AV.fn f xs ys)=false:=rfl
theorem sC {A G G2:Prop} (k:G2) (x:A) (h:A->jP G2->G:=by
 intro fx kk;refine qQ ?_
 repeat ((first|refine qf (id:=3) V8 mixed ?_);refine zQ ?_;refine qQ ?_)
 exact kk.h):G:=h x ⟨k⟩
theorem PM (gl) (p:qC) (n:Nat) (hR:iV gl 229 p n) (H:Nm->Option AO) (W:qK) (f:qR) (lo:Nat) (vs all:List qR) (hP:zq p) (hw:qt p W) (hn:W.left<n) (h0:W.en=0) (hf:zO W.qJ.length W.qO.length f) (hv:∀ v∈vs,zO W.qJ.length W.qO.length v) (hr:Room 1 W)
  (hall:all.drop lo=vs) (hlo:lo+vs.length=all.length) (hv2:vs.length<=1) (hO:qZ H 229 p W) (hL:H (.u 2 0 0)=some (.row 2 (jZ all))) :
  qV prog gl 194 kY [.pt Mn 0,qR.av f,.hs (.u 2 0 0) 2 lo vs.length] H (λ_ y H'=>y=.zT [qR.av (vb p (qg p n) W f vs).2,bv (decide ((vb p (qg p n) W f vs).1.en=0))]/\qZ H' 229 p (vb p (qg p n) W f vs).1) qy:=by
 have hT:=hO.top;simp only [zj] at hT;obtain⟨f1,f2⟩:=f;refine qV.qa func194 [.cell 6 115,.tmp 7] ntmps194 (λ_=>n9) λC w g root hroot=>?_;by_cases h2:f1=2
 .subst h2;have hf2:=hf.num;have hf3:=hf.fn rfl;simp only at hf2 hf3;obtain⟨i,rfl⟩:∃ i:Nat,f2=i:=⟨f2.toNat,qA⟩;have hil:i<W.qJ.length:=qA;obtain⟨⟨g1,g2⟩,hg⟩:∃ g,W.qJ[i]?=some g:=⟨_,gE hil⟩;obtain⟨_,hgE⟩:=gS hg;have hm:=hw.qJ i _ hg;obtain⟨k,hk,hpk⟩:=hm.shape;have hF:=hO.qJ;have hcc:fR 229 p i (g1,g2)=[iv (vT p g1),.fn (.func 229) [] [.pt (.u 8 i 0) 0,.pt (.u 8 i 1) 0,.pt (.u 8 i 2) 0,.pt (.u 8 i 3) 0]]:=rfl;obtain⟨c1,c2,c3,c4⟩:=hO.bx i _ hg;simp only at hm hk hpk c1 c2 c3 c4;by_cases hl:vT p g1=vs.length
  .have hc:vb p (qg p n) W (2,(i:Int)) vs=z8 p (qg p n) W g1 g2 vs:=by
    simp [vb,hg,hl]
   have hlb:((vT p g1:Int)==(vs.length:Int))=true:=by rw [hl];simp
   refine sC ?_<|jJ hT hF hil hg hgE hcc hlb<|@qx;intro K hK;have fx:=aI hT hF;refine qAW (xs:=[]) (ys:=[.pt (.u 8 i 0) 0,.pt (.u 8 i 1) 0,.pt (.u 8 i 2) 0,.pt (.u 8 i 3) 0]) hO (have om:=hO;qZ.re om) dO (qX _) (qX _) (hF:=λhs=>Pc gl _ p n hR _ W i g1 g2 lo vs all hP hw hn h0 hg hv hr hall hlo hl hv2 hs dO) (h:=?_);rintro y H1 ⟨rfl,hO1⟩;clear fx;have hT1:=hO1.top;simp only [zj] at hT1;refine sC ?_<|aI hT<|hT1;rw [hc];refine qG [] .nil qH ⟨qB,qZ.fin (have om:=hO1;qZ.re om)⟩
  .have hc:vb p (qg p n) W (2,(i:Int)) vs=({ W with en:=6 },(0,0)):=by
    simp [vb,hg,hl]
   have hlb:((vT p g1:Int)==(vs.length:Int))=false:=by
    rw [beq_eq_false_iff_ne];omega
   refine sC ?_<|jJ hT hF hil hg hgE hcc hlb<|@qx;intro K hK;have fx:=hT;refine kM hO (have om:=hO;qZ.re om) (qX _) (qX _) (hF:=λhs=>iM _ _ _ p W 6 hs) (h:=?_);rintro y H2 ⟨rfl,hO2⟩;clear fx;have hT2:=hO2.top;simp only [zj] at hT2;refine sC ?_<|aI hT<|hT2;rw [hc];refine qG [] .nil qH ⟨qB,qZ.fin (have om:=hO2;qZ.re om)⟩
 .have hb1:(f1==2)=false:=oQ;have hc:vb p (qg p n) W (f1,f2) vs=({ W with en:=5 },(0,0)):=by simp [vb,h2]
  refine sC ?_<|qk hT hb1<|@qx;intro K hK;have fx:=hT;refine kM hO (have om:=hO;qZ.re om) (qX _) (qX _) (hF:=λhs=>iM _ _ _ p W 5 hs) (h:=?_);rintro y H2 ⟨rfl,hO2⟩;clear fx;have hT2:=hO2.top;simp only [zj] at hT2;refine sC ?_<|aI hT<|hT2;rw [hc];refine qG [] .nil qH ⟨qB,qZ.fin (have om:=hO2;qZ.re om)⟩
abbrev V9:qb:=da<|.l 7 []<|.q 8<|.q 9<|.l 10 []<|.l 11 []<|.done
abbrev LO:qb:=nG<|.l 6 []<|.q 7<|.q 8<|.l 9 []<|.l 10 []<|.done
theorem eM {A G G2:Prop} (k:G2) (x:A) (h:A->jP G2->G:=by
 intro fx kk;refine qQ ?_
 repeat ((first|refine qf (id:=7) V9 mixed ?_|refine qf (id:=13) LO mixed ?_|refine qf (id:=14) LO mixed ?_);refine zQ ?_;refine qQ ?_)
 exact kk.h):G:=h x ⟨k⟩
theorem Γ (gl) (p:qC) (n:Nat) (hR:iV gl 229 p n) (H:Nm->Option AO) (W:qK) (a:Nat) (k:qT) (s:qP) (vs:List qR) (hP:zq p) (hw:qt p W) (hn:W.left<n) (h0:W.en=0) (ha:a<W.qF.length) (hk:p[W.qD a]?=some k) (hs:s∈k.body) (hkd:0<=s.kind/\s.kind<=6) (hr:Room 2 W)
  (hl:vs.length=s.reads.length) (hvok:∀ v∈vs,zO W.qJ.length W.qO.length v) (hO:qZ H 229 p W) (hL:H (.u 2 0 0)=some (.row 2 (jZ vs))) :
  qV prog gl 145 kY [.pt Mn 0,vh a,s.av,.hs (.u 2 0 0) 2 0 vs.length] H (λ_ y H'=>y=.zT [qR.av (j9 p (qg p n) W a s vs).2,bv (decide ((j9 p (qg p n) W a s vs).1.en=0))]/\qZ H' 229 p (j9 p (qg p n) W a s vs).1) qy:=by
 have hT:=hO.top;simp only [zj] at hT;have hst:=hP.sh.an _ k hk s hs;have hnm:=hP.sh.names k (gM hk);have hp1:=hL;obtain⟨c,hc⟩:=gX ha;have hE:=hO.env a c hc;obtain⟨kd,to,sa,sb⟩:=s;simp only at hkd;refine qV.qa func145 [.cell 8 115,.tmp 9] ntmps145 (λ_=>n9) λC w g root hroot=>?_;have hkc:kd=0\/kd=1\/kd=2\/kd=3\/kd=4\/kd=5\/kd=6:=qA;rcases hkc with rfl|rfl|rfl|rfl|rfl|rfl|rfl
 .have hw0:j9 p (qg p n) W a ⟨0,to,sa,sb⟩ vs=(W,(1,sa)):=bg;refine eM ?_<|qk hT hp1<|@qx;rw [hw0];refine qG [] .nil qH ⟨ji,qZ.fin (have om:=hO;qZ.re om)⟩
 .obtain⟨u,rfl⟩:∃ u,vs=[u]:=by
   match vs,hl with
   | [u],_=>exact⟨u,rfl⟩
   | [],h=>simp [qP.reads] at h
   | _::_::_,h=>simp [qP.reads] at h
  have hw0:j9 p (qg p n) W a ⟨1,to,sa,sb⟩ [u]=(W,u):=bg;refine eM ?_<|qk hT hp1<|@qx;rw [hw0];refine qG [] .nil qH ⟨ji,qZ.fin (have om:=hO;qZ.re om)⟩
 .obtain⟨u,v,rfl⟩:∃ u v,vs=[u,v]:=by
   match vs,hl with
   | [u,v],_=>exact⟨u,v,rfl⟩
   | [],h=>simp [qP.reads] at h
   | [_],h=>simp [qP.reads] at h
   | _::_::_::_,h=>simp [qP.reads] at h
  have hw0:j9 p (qg p n) W a ⟨2,to,sa,sb⟩ [u,v]=uF W u v:=bg;refine eM ?_<|qk hT hp1<|@qx;intro K hK;have fx:=aI hT hp1;refine kM hO (have om:=hO;qZ.re om) (qX _) (qX _) (hF:=λhs=>OQ _ _ _ p W u v h0 (hvok u qB) (hvok v qB) hs) (h:=?_);rintro y H2 ⟨rfl,hO2⟩;clear fx;have hT2:=hO2.top;simp only [zj] at hT2;refine eM ?_<|zC hT hp1 hT2<|@qx;rw [hw0];refine qG [] .nil qH ⟨qB,qZ.fin (have om:=hO2;qZ.re om)⟩
 .obtain⟨q,hq1,hq2,hq3,hq4⟩:=zW.made hst (.inl rfl);simp only at hq1 hq3;obtain⟨A,rfl⟩:∃ A:Nat,sa=A:=⟨sa.toNat,qA⟩;simp only [vN] at hq1;have hw0:j9 p (qg p n) W a ⟨3,to,(A:Int),sb⟩ vs=({ W with qJ:=W.qJ++[(A,a)] },(2,(W.qJ.length:Int))):=bg;refine eM ?_<|qk hT hp1<|@qx;intro K hK;have fx:=hT;refine kM hO (have om:=hO;qZ.re om) (qX _) (qX _) (hF:=λhs=>RA _ _ p W a A q hw ha hq1 (hr.mono qA) (by have hh:=hP.sh.head A q hq1;simp only [uU] at hh;split at hh <;> omega) hs) (h:=?_);rintro y H2 ⟨rfl,hO2⟩;clear fx;have hT2:=hO2.top;simp only [zj] at hT2;refine eM ?_<|zC hT hp1 hT2<|@qx;rw [hw0];refine qG [] .nil qH ⟨ji,qZ.fin (have om:=hO2;qZ.re om)⟩
 .have hm:=GP hst ha (.inr rfl);obtain⟨q,hq1,hq2,hq3,hq4⟩:=zW.made hst (.inr rfl);simp only at hm hq3;obtain⟨A,rfl⟩:∃ A:Nat,sa=A:=⟨sa.toNat,qA⟩;simp only [vN] at hm;have hw0:j9 p (qg p n) W a ⟨4,to,(A:Int),sb⟩ vs=aZ p (qg p n) W A a:=bg;refine eM ?_<|qk hT hp1<|@qx;intro K hK;have fx:=hT;refine kM hO (have om:=hO;qZ.re om) (qX _) (qX _) (hF:=λhs=>P7 gl _ p n hR _ W a A hP hw hn h0 hm hr hs qB) (h:=?_);rintro y H2 ⟨rfl,hO2⟩;clear fx;have hT2:=hO2.top;simp only [zj] at hT2;refine eM ?_<|zC hT hp1 hT2<|@qx;rw [hw0];refine qG [] .nil qH ⟨qB,qZ.fin (have om:=hO2;qZ.re om)⟩
 .have hpos:0<vs.length:=by
   rw [hl];by_cases e:sb=-1 <;> simp [qP.reads,e]
  have hlt:vs.length<=2:=by
   rw [hl];by_cases e:sb=-1 <;> simp [qP.reads,e]
  obtain⟨u,tl,rfl⟩:∃ u tl,vs=u::tl:=by
   match vs,hpos with
   | u::tl,_=>exact⟨u,tl,rfl⟩
  have htl:tl.length<=1:=by simp at hlt;omega
  have hw0:j9 p (qg p n) W a ⟨5,to,sa,sb⟩ (u::tl)=vb p (qg p n) W u tl:=bg;have hle1:(1:Int)<=(tl.length:Int)+1:=qA;have htn:((tl.length:Int)+1).toNat=tl.length+1:=qA;refine eM ?_<|j2 hT hp1 htl hle1 htn<|@qx;intro K hK;have fx:=aI hT hp1;refine Gf hO (have om:=hO;qZ.re om) vI (qX _) (qX _) (hF:=λhs=>PM gl p n hR _ W u 1 tl (u::tl) hP hw hn h0 (hvok u qB) (λv hv=>hvok v rC) (hr.mono qA) rfl qn htl hs vI) (h:=?_);rintro y H2 ⟨rfl,hO2⟩;clear fx;have hT2:=hO2.top;simp only [zj] at hT2;refine eM ?_<|jQ hT hp1 hT2 htl hle1 htn<|@qx;rw [hw0];refine qG [] .nil qH ⟨qB,qZ.fin (have om:=hO2;qZ.re om)⟩
 .obtain⟨u,rfl⟩:∃ u,vs=[u]:=by
   match vs,hl with
   | [u],_=>exact⟨u,rfl⟩
   | [],h=>simp [qP.reads] at h
   | _::_::_,h=>simp [qP.reads] at h
  have hsb:0<=sb/\sb<=7:=by
   simp only [zW] at hst;simp at hst;omega
  obtain⟨x,rfl⟩:∃ x:Nat,sb=x:=⟨sb.toNat,qA⟩;have hw0:j9 p (qg p n) W a ⟨6,to,sa,(x:Int)⟩ [u]=uI W u x:=bg;refine eM ?_<|qk hT hp1<|@qx;intro K hK;have fx:=aI hT hp1;refine kM hO (have om:=hO;qZ.re om) (qX _) (qX _) (hF:=λhs=>Oe _ _ _ p W u x h0 hw (hvok u qB) qA hs) (h:=?_);rintro y H2 ⟨rfl,hO2⟩;clear fx;have hT2:=hO2.top;simp only [zj] at hT2;refine eM ?_<|zC hT hp1 hT2<|@qx;rw [hw0];refine qG [] .nil qH ⟨qB,qZ.fin (have om:=hO2;qZ.re om)⟩
abbrev Va:qb:=iI<|.l 8 [4,3,2,1,0]<|.l 9 [4,3,2,1,0]<|.l 10 [0]<|.q 11<|.q 12<|.l 13 []<|.done
abbrev Vb:qb:=da<|.l 7 []<|.done
def kF (p:qC) (R:qK->Nat->qK×qR) (W:qK) (a:Nat) (s:qP) (vs:List qR):qK :=
 if s.kind=9\/s.kind=10 then W else if s.kind=11 then wo p W a s.to else
 if s.kind=7 then { W with out:=W.out++[Hm.shown (vs.getD 0 (0,0))] } else
 if (j9 p R W a s vs).1.en≠0 then (j9 p R W a s vs).1 else cz p (j9 p R W a s vs).1 a s.to (j9 p R W a s vs).2
theorem Mi {p:qC} {R:qK->Nat->qK×qR} {W:qK} {a:Nat} {s:qP} {vs:List qR} (h0:W.en=0) (h:zB p W a s.reads=(W,vs)):vE p R W a s=kF p R W a s vs:=by
 have hv:y7 p R W a s=j9 p R W a s vs:=by
  unfold y7;rw [h];simp [h0]
 by_cases h7:s.kind=7
 .have hv7:y7 p R W a s=(W,vs.getD 0 (0,0)):=by
   rw [hv];simp [j9,h7]
  simp [vE,kF,h7,hv7,h0]
 .simp only [vE,kF,hv,h7,if_false]
theorem gn {A G G2:Prop} (k:G2) (x:A) (h:A->jP G2->G:=by
 intro fx kk;refine qQ ?_
 repeat ((first|refine qf (id:=6) Va mixed ?_|refine qf (id:=14) Vb mixed ?_);refine zQ ?_;refine qQ ?_)
 exact kk.h):G:=h x ⟨k⟩
theorem QB (gl) (p:qC) (n:Nat) (hR:iV gl 229 p n) (H:Nm->Option AO) (W:qK) (a:Nat) (k:qT) (s:qP) (vs:List qR) (hP:zq p) (hw:qt p W) (hn:W.left<n) (h0:W.en=0) (ha:a<W.qF.length) (hk:p[W.qD a]?=some k) (hs:s∈k.body) (h8:s.kind≠8) (hr:Room 2 W)
  (hl:vs.length=s.reads.length) (hvok:∀ v∈vs,zO W.qJ.length W.qO.length v) (hO:qZ H 229 p W) (hL:H (.u 2 0 0)=some (.row 2 (jZ vs))) :
  qV prog gl 101 kY [.pt Mn 0,vh a,s.av,.hs (.u 2 0 0) 2 0 vs.length] H (λ_ y H'=>y=bv (decide ((kF p (qg p n) W a s vs).en=0))/\qZ H' 229 p (kF p (qg p n) W a s vs)) qy:=by
 have hh:=hP.sh.jR;have hT:=hO.top;simp only [zj] at hT;have hst:=hP.sh.an _ k hk s hs;have hnm:=hP.sh.names k (gM hk);have hkd:=hnm.kinds s hs;have hto:=hnm.zN s hs;have hvl:=Γ gl p n hR;have hp1:=hL;obtain⟨c,hc⟩:=gX ha;have hE:=hO.env a c hc;obtain⟨kd,to,sa,sb⟩:=s;simp only at h8 hkd hto;obtain⟨x,rfl⟩:∃ x:Nat,to=x:=⟨to.toNat,qA⟩;have hx7:0<=(x:Int)/\(x:Int)<=7:=qA;refine qV.qa func101 [.tmp 8] ntmps101 (λ_=>n9) λC w g root hroot=>?_;by_cases h9:kd=9
 .subst h9;have hq:kF p (qg p n) W a ⟨9,x,sa,sb⟩ vs=W:=by simp [kF]
  refine gn ?_<| hT;rw [hq];refine qG [] .nil qH ⟨ji,qZ.fin (have om:=hO;qZ.re om)⟩
 by_cases h10:kd=10
 .subst h10;have hq:kF p (qg p n) W a ⟨10,x,sa,sb⟩ vs=W:=by simp [kF]
  refine gn ?_<| hT;rw [hq];refine qG [] .nil qH ⟨ji,qZ.fin (have om:=hO;qZ.re om)⟩
 have hb9:(kd==9)=false:=by simpa using h9
 have hb10:(kd==10)=false:=by simpa using h10
 by_cases h11:kd=11
 .subst h11;have hq:kF p (qg p n) W a ⟨11,x,sa,sb⟩ vs=wo p W a x:=by simp [kF]
  refine gn ?_<| hT;intro K hK;have fx:=hT;refine kM hO (have om:=hO;qZ.re om) (qX _) (qX _) (hF:=λhs=>QF _ _ _ p W a x hP.sh hw ha qA h0 hs) (h:=?_);rintro y H1 ⟨rfl,hO1⟩;clear fx;have hT1:=hO1.top;simp only [zj] at hT1;refine gn ?_<|aI hT<|hT1;rw [hq];refine qG [] .nil qH ⟨qB,qZ.fin (have om:=hO1;qZ.re om)⟩
 have hb11:(kd==11)=false:=by simpa using h11
 by_cases h7:kd=7
 .subst h7
  obtain⟨u,rfl⟩:∃ u,vs=[u]:=by
   match vs,hl with
   | [u],_=>exact⟨u,rfl⟩
   | [],h=>simp [qP.reads] at h
   | _::_::_,h=>simp [qP.reads] at h
  have hq:kF p (qg p n) W a ⟨7,x,sa,sb⟩ [u]={ W with out:=W.out++[Hm.shown u] }:=by simp [kF]
  have hU:=hO.out;have hol:=hw.kR;have hol':W.out.length<=1000:=qA;have hap:qm W.out++[[iv (Hm.shown u)]]=qm (W.out++[Hm.shown u]):=yO;have hsh:=BY gl u;obtain⟨u1,u2⟩:=u;have fx:=zM hT hU hol' hp1<|@qx;have c1:=hsh;refine gn ?_<|@fx;clear fx c1;rw [hq];refine qG [] .nil qH ⟨ji,qZ.fin ⟨by simp [zj,hT],⟨rR,λj k hj hk=>pi⟩,?_,ti,hO.run.imp λl hl=>⟨hl.1,th⟩,rX,λk g hg=>by simp [hO.bx k g hg],tg,λk c hc=>(hO.cls k c hc).imp λms hm=>⟨cW,hm.2⟩,λi a ha=>by simp [hO.env i a ha],λi hi=>(hO.ju i hi).imp λms hm=>⟨cW,hm.2⟩,λk i j hk hn=>if e:k=1/\i=0/\j=0 then .inl e else hO.only k i j hk mR⟩⟩;simp
 have hb7:(kd==7)=false:=by simpa using h7
 have hk6:0<=kd/\kd<=6:=qA
 have hq:kF p (qg p n) W a ⟨kd,x,sa,sb⟩ vs=if (j9 p (qg p n) W a ⟨kd,x,sa,sb⟩ vs).1.en≠0 then (j9 p (qg p n) W a ⟨kd,x,sa,sb⟩ vs).1 else cz p (j9 p (qg p n) W a ⟨kd,x,sa,sb⟩ vs).1 a x (j9 p (qg p n) W a ⟨kd,x,sa,sb⟩ vs).2:=by
  simp only [kF,h9,h10,h11,h7,if_false,false_or]
 refine gn ?_<|zM hT hb9 hb10 hb11<|hb7;intro K hK;have fx:=hT;refine Gf hO (have om:=hO;qZ.re om) vI (qX _) (qX _) (hF:=λhs'=>hvl _ W a k ⟨kd,x,sa,sb⟩ vs hP hw hn h0 ha hk hs hk6 hr hl hvok hs' vI) (h:=?_);rintro y H1 ⟨rfl,hO1⟩;clear fx;obtain⟨hA,hvok1⟩:=Gd (vs:=vs) (dZ hP.sh n) hw hn h0 ha hst hvok hr;generalize j9 p (qg p n) W a ⟨kd,x,sa,sb⟩ vs=q at hO1 hA hvok1 hq;obtain⟨V,v⟩:=q;simp only at hO1 hA hvok1 hq;have hT1:=hO1.top;simp only [zj] at hT1;have haV:a<V.qF.length:=uW ha hA.grow.aP;have hla:=hA.grow.aP;have hlf:=hA.grow.Bj;obtain⟨c1,hc1⟩:=gX haV;have hE1:=hO1.env a c1 hc1;by_cases hen:V.en=0
 case neg =>
  rw [if_pos hen] at hq;obtain⟨v1,v2⟩:=v;refine gn ?_<|zM hT hT1 hE hE1<|hen;rw [hq];refine qG [] .nil qH ⟨by simp [hen],qZ.fin (have om:=hO1;qZ.re om)⟩
 rw [if_neg dM] at hq;obtain⟨hnm1,hil⟩:=Bp (x:=(x:Int)) hh hA.ok haV;have hnm0:=hnm1;obtain⟨o,ho⟩:∃ o,Hm.jd p (V.qD a) (zA p (V.qD a) x)=o:=⟨_,rfl⟩;obtain⟨l,hll⟩:∃ l,V.loc p a x=l:=⟨_,rfl⟩;have hhl:=EZ gl (F:=229) (p:=p) (W:=V) (a:=a) (x:=x);rw [ho,hll] at hhl;rw [hll] at hnm1 hil;obtain⟨i,hi⟩:∃ i,w9 l=i:=⟨_,rfl⟩;rw [hi] at hnm1 hil hhl;obtain⟨v1,v2⟩:=v;refine gn ?_<|zM hT hT1 hE hE1<|hen;intro K hK;have fx:=aI hT hT1;refine kM hO (have om:=hO1;qZ.re om) hla hlf (hF:=λhs=>hhl _ hP.sh hA.ok haV qA hs) (h:=?_);rintro y H2 ⟨rfl,hO2⟩;clear fx;have hT2:=hO2.top;simp only [zj] at hT2;obtain⟨d,hd⟩:=gX hil;have hE2:=hO2.env i d hd;simp only [uk] at hE2;have hE2a:=hO2.env a c1 hc1;obtain⟨ms,hms,hmo⟩:=hO2.ju i hil;rw [hnm1] at hmo
 have hstq:cz p V a x (v1,v2)=V.set l x (some (v1,v2)):=by
  unfold cz;rw [hll]
 refine gn ?_<|jJ hT hT1 hE hE1 hT2 hE2 hE2a<|hms;intro K hK;refine ua (λst=>st.tm 61=.mp (.c (En i) 0 1)/\st.tm 63=iv x/\st.tm 64=qR.av (v1,v2)/\st.hp (.c (En i) 0 1)=some (.map (uM ms))/\qZ st.hp 229 p V) ⟨by simp [hT2,hE2],qB,qB,by simp [hms],(have om:=hO2;qZ.re om)⟩ ?_;rintro st ⟨t61,t63,t64,hms',hO3⟩;have fx:=aI t61 (aI t63 (aI t64 hms'));refine NV (h:=?_);clear fx;refine gn ?_<| hT;rw [hq,hstq];refine qG [] .nil qH ⟨by rw [nH.2.2.2.2.2.2];simp [hen],qZ.fin (FK hh hA.ok haV qA hll hnm0 hO3 (hmo.set hx7) λm hm=>?_)⟩;rw [hi];simp
abbrev Vc:qb:=pJ<|.done
abbrev Vd:qb:=bQ<|.l 11 [5,4,3,2,1,0]<|.l 12 [5,0]<|.q 13<|.q 14<|.l 15 []<|.done
theorem TE {p:qC} {w:qK} {a:Nat} {x:Int} (h0:w.en=0):(zh p w a x).1.en≠0->(zh p w a x).2=(0,0):=by
 unfold zh
 repeat' split
 all_goals simp [h0]
theorem KB {p:qC} {w:qK} {a:Nat} {x:Int} (h0:w.en=0):zB p w a [x]=((zh p w a x).1,[(zh p w a x).2]):=by
 simp [zB,h0]
theorem PB {p:qC} {R:qK->Nat->qK×qR} {a i:Nat} {V:qK} {s:qP} {l:List qP} (h0:V.en=0) (hl:V.left≠0) (hq:(zB p (zD V a i) a s.reads).1.en≠0):y9 p R a V i (s::l)=((zB p (zD V a i) a s.reads).1,(0,0)):=by
 have ht:(zD V a i).en=0:=h0;by_cases h8:s.kind=8
 .have hrd:s.reads=[s.a]:=by simp [qP.reads,h8]
  rw [hrd,KB ht] at hq ⊢;simp only at hq;simp only [y9,hl,h8,if_true,if_false];rw [<- TE ht hq]
 .have hst:vE p R (zD V a i) a s=(zB p (zD V a i) a s.reads).1:=by
   by_cases h9:s.kind=9\/s.kind=10\/s.kind=11
   .have hrd:s.reads=[]:=by rcases h9 with e|e|e <;> simp [qP.reads,e]
    rw [hrd] at hq;simp only [zB] at hq;exact absurd ht hq
   .have hv:y7 p R (zD V a i) a s=((zB p (zD V a i) a s.reads).1,(0,0)):=by
     unfold y7;rw [if_pos hq]
    have e1:¬ (s.kind=9\/s.kind=10):=qA;have e2:¬ s.kind=11:=qA;unfold vE;rw [if_neg e1,if_neg e2,hv,if_pos hq]
  simp only [y9,hl,h8,if_false];rw [hst,if_pos hq]
theorem PE {p:qC} {R:qK->Nat->qK×qR} {a i:Nat} {V:qK} {s:qP} {l:List qP} {vs:List qR} (h0:V.en=0) (hl:V.left≠0) (h8:s.kind=8) (hq:zB p (zD V a i) a s.reads=(zD V a i,vs)):∃ v,vs=[v]/\y9 p R a V i (s::l)=(zD V a i,v):=by
 have ht:(zD V a i).en=0:=h0;have hrd:s.reads=[s.a]:=by simp [qP.reads,h8]
 rw [hrd,KB ht] at hq;obtain⟨e1,e2⟩:=fA hq;refine⟨_,e2.symm,?_⟩;simp only [y9,hl,h8,if_true,if_false];exact Prod.ext e1 rfl
theorem PC {p:qC} {R:qK->Nat->qK×qR} {a i:Nat} {V:qK} {s:qP} {l:List qP} {vs:List qR} (h0:V.en=0) (hl:V.left≠0) (h8:s.kind≠8) (hq:zB p (zD V a i) a s.reads=(zD V a i,vs)):y9 p R a V i (s::l)=if (kF p R (zD V a i) a s vs).en≠0 then (kF p R (zD V a i) a s vs,(0,0)) else y9 p R a (kF p R (zD V a i) a s vs) (i+1) l:=by
 have ht:(zD V a i).en=0:=h0;simp only [y9,hl,h8,if_false];rw [Mi ht hq]
theorem gp {A G G2:Prop} (k:G2) (x:A) (h:A->jP G2->G:=by
 intro fx kk;refine qQ ?_
 repeat ((first|refine qf (id:=1) Vc mixed ?_|refine qf (id:=7) Vd mixed ?_);refine zQ ?_;refine qQ ?_)
 exact kk.h):G:=h x ⟨k⟩
theorem XE (gl) (p:qC) (n:Nat) (hR:iV gl 229 p n) (hP:zq p):iV gl 229 p (n+1):=by
 intro H W a hO hw hn ha h0 hV
 show qV prog gl 61 DM [.pt Mn 0,vh a] H _ qy
 obtain⟨c,hc⟩:=gX ha;have zF:=hw.wV a c hc;obtain⟨k,hk⟩:=gX zF;obtain⟨_,hkE⟩:=gS hk;have hbk:=v8 hc;have hT:=hO.top;have hE:=hO.env a c hc;simp only [zj] at hT;simp only [uk] at hE;have hb12:=hP.sh.body k (gM hk);have hrun:qg p (n+1) W a=y9 p (qg p n) a W 0 k.body:=by simp only [qg,hbk,hk]
 have hO0:=hO;refine qV.qa func61 [.cell 4 115,.tmp 5] ntmps61 (λ_=>qv) λC w g root hroot=>?_;refine gp ?_<|zM hT hE hk hkE<|zF;refine zU (λm st=>∃ (i:Nat) (V:qK),m=k.body.length - i/\i<=k.body.length/\qg p (n+1) W a=y9 p (qg p n) a V i (k.body.drop i)/\qt p V/\V.left<n+1/\a<V.qF.length/\V.en=0/\V.qD a=c.qD/\W.qF.length<=V.qF.length/\W.qJ.length<=V.qJ.length/\st.tm 0=.pt Mn 0/\st.tm 1=vh a/\st.tm 4=.pt (.s 4) 0/\st.hp (.s 4)=some (.row 2 [[iv 0,iv 0]])/\st.tm 21=eZ k.body/\st.tm 22=iv k.body.length/\st.tm 23=iv i/\qZ st.hp 229 p V) k.body.length ?_ ?_
 .exact⟨0,W,qA,qA,by simpa using hrun,hw,hn,ha,h0,hbk,qX _,qX _,zG,by simp [hE],qB,qB,qB,qB,qB,(have om:=hO;qZ.re om)⟩
 clear hT hE hO;rintro m st - - ⟨i,V,rfl,hi,hres,hw',hn',ha',h0',hbV,hl1,hl2,t0,t1,t4,hp4,t21,t22,t23,hO⟩;clear hrun h0 hn hw hc ha;obtain⟨d,hd⟩:∃ d,V.qF[a]?=some d:=⟨_,gE ha'⟩;have hdb:d.qD=c.qD:=by rw [<- v8 hd];exact hbV
 have hT:=hO.top;have hE:=hO.env a d hd;simp only [zj] at hT;simp only [uk] at hE;by_cases hil:i<k.body.length
 case neg =>
  have hge:i=k.body.length:=qA;rw [hge,List.drop_length] at hres;simp only [y9] at hres;refine gp ?_<|jJ t0 t1 t4 hp4 t21 t22 t23<|hil;rw [hres];refine qG [] .nil iq ⟨by simp [h0'],qZ.fin (have om:=hO;qZ.re om)⟩
 obtain⟨s,hs⟩:=gX hil;obtain⟨_,hsE⟩:=gS hs;have hsm:=gM hs;have hdr:k.body.drop i=s::k.body.drop (i+1):=by rw [gO hil,hsE]
 rw [hdr] at hres;by_cases hl:V.left=0
 .have hr2:y9 p (qg p n) a V i (s::k.body.drop (i+1))=({ V with en:=1 },(0,0)):=by simp only [y9,hl,if_true]
  rw [hr2] at hres;refine gp ?_<|yD t0 t1 t4 hp4 t21 t22 t23 hil hs hsE<|aI hT<|hl;intro K hK;have fx:=aI t0 hT;refine kM hO0 (have om:=hO;qZ.re om) hl1 hl2 (hF:=λhs=>iM _ _ _ p V 1 hs) (h:=?_);rintro y H2 ⟨rfl,hO2⟩;clear fx;have hT2:=hO2.top;simp only [zj] at hT2;refine gp ?_<|jQ t0 t1 t4 hp4 hT hT2<|hl;rw [hres];refine qG [] .nil iq ⟨qB,qZ.fin (have om:=hO2;qZ.re om)⟩
 obtain⟨l,hll⟩:∃ l,V.left=l+1:=⟨V.left - 1,qA⟩;obtain⟨tk1,tk2⟩:=AQ (a:=a) (i:=i) hw' hl;have hTt:zD V a i={ V with left:=l,trace:=V.trace++[(d.qD,i)] }:=by simp only [zD,v8 hd];rw [hll];rfl
 have hbV2:(zD V a i).qD a=d.qD:=IB;have hleft:(zD V a i).left<n:=by simp only [zD];omega
 have hTr:=hO.yH;have hnt:=hw'.wh;have hnl:=hw'.ko;have htl':V.trace.length<=1000:=qA;have hl8:l<=1000:=qA;have hlb:((l:Int)+1==0)=false:=wW;have hwl:IntKind.i64.wrap (l:Int)=l:=qi qA qA;have hap:vf V.trace++[[iv d.qD,iv i]]=vf (V.trace++[(d.qD,i)]):=Ev;have hkd:=(hP.sh.names k (gM hk)).kinds s hsm;have hrd:=(hP.sh.names k (gM hk)).reads s hsm;refine gp ?_<|qr t0 t1 t4 hp4 t21 t22 t23 hil hs hsE hT hll<|zM hlb hwl hTr htl'<|hE;intro K hK;have fx:=aI t0 (aI t1 hT);refine kM hO0 (w:=zD V a i) (by rw [hTt];exact⟨by simp [hT,zj],⟨rR,λj k hj hk=>pi⟩,rF,by simp [<- hap],hO.run.imp λl hl=>⟨hl.1,th⟩,rX,λk g hg=>by simp [hO.bx k g hg],tg,λk c hc=>(hO.cls k c hc).imp λms hm=>⟨cW,hm.2⟩,λi a ha=>by simp [hO.env i a ha],λi hi=>(hO.ju i hi).imp λms hm=>⟨cW,hm.2⟩,λk i j hk hn=>if e:k=1/\i=0/\j=0 then .inl e else hO.only k i j hk mR⟩) hl1 hl2 (hF:=λhs'=>W9 _ _ _ p (zD V a i) a s hP.sh tk1 ha' h0' hkd hrd hs') (h:=?_);rintro y H1 ⟨hO1,hy⟩;clear fx;have hbad:=PB (p:=p) (R:=qg p n) (a:=a) (i:=i) (V:=V) (s:=s) (l:=k.body.drop (i+1)) h0' hl;have hret:s.kind=8->∀ vs,zB p (zD V a i) a s.reads=(zD V a i,vs)->∃ v,vs=[v]/\y9 p (qg p n) a V i (s::k.body.drop (i+1))=(zD V a i,v):=λh8 vs hq=>PE h0' hl h8 hq
 have hdo:s.kind≠8->∀ vs,zB p (zD V a i) a s.reads=(zD V a i,vs)->y9 p (qg p n) a V i (s::k.body.drop (i+1))=if (kF p (qg p n) (zD V a i) a s vs).en≠0 then (kF p (qg p n) (zD V a i) a s vs,(0,0)) else y9 p (qg p n) a (kF p (qg p n) (zD V a i) a s vs) (i+1) (k.body.drop (i+1)):=λh8 vs hq=>PC h0' hl h8 hq
 have hsdo:∀ vs,zB p (zD V a i) a s.reads=(zD V a i,vs)->vE p (qg p n) (zD V a i) a s=kF p (qg p n) (zD V a i) a s vs:=λvs h=>Mi h0' h;obtain⟨hA,hvok,hcase,hlen,_⟩:=ot (a:=a) (l:=s.reads) tk1;generalize zB p (zD V a i) a s.reads=q at hO1 hy hbad hret hdo hsdo hA hvok hcase hlen;obtain⟨U,vs⟩:=q;simp only at hO1 hy hbad hret hdo hsdo hA hvok hcase hlen;have hT1:=hO1.top;simp only [zj] at hT1;obtain⟨d1,hd1⟩:∃ c,U.qF[a]?=some c:=⟨_,gE (uW ha' hA.grow.aP)⟩;have hE1:=hO1.env a d1 hd1;rcases hy with⟨hen,rfl,hp1⟩|⟨hen,rfl⟩
 case inr =>
  refine gp ?_<|yD t0 t1 t4 hp4 t21 t22 t23 hT hE hT1<|hE1;rw [hres,hbad hen];refine qG [] .nil iq ⟨by simp [hen],qZ.fin (have om:=hO1;qZ.re om)⟩
 obtain rfl:U=zD V a i:=by
  rcases hcase with e|⟨e,he,h⟩
  .exact e
  .rw [h] at hen;exact absurd hen he
 by_cases h8:s.kind=8
 .have hb8:(s.kind==8)=true:=by simpa using h8
  obtain⟨⟨v1,v2⟩,rfl,hb⟩:=hret h8 _ rfl;refine gp ?_<|qr t0 t1 t4 hp4 t21 t22 t23 hT hE hT1 hE1 hp1<|hb8;rw [hres,hb];have ht0:(zD V a i).en=0:=h0';refine qG [] .nil iq ⟨by simp [ht0],qZ.fin (have om:=hO1;qZ.re om)⟩
 have hb8:(s.kind==8)=false:=by simpa using h8
 have hres2:=hdo h8 _ rfl;rw [hres2] at hres;have hst:=hP.sh.an _ k hk s hsm;have hSo:=AN (s:=s) (k:=k) (dZ hP.sh n) tk1 hleft h0' ha' (by rw [hbV2,hdb];exact hst) tk2;rw [hsdo vs rfl] at hSo;have hk':p[(zD V a i).qD a]?=some k:=by rw [hbV2,hdb];exact hk
 refine gp ?_<|qr t0 t1 t4 hp4 t21 t22 t23 hT hE hT1 hE1 hp1<|hb8;intro K hK;refine kH (.s 8) (.u 2 0 0) (.inl rfl) (.inr rQ) ?_;have fx:=aI t0 (aI t1 (aI hT (aI hT1 (aI hp1 (aI hE hE1)))));refine Gf hO0 (w:=zD V a i) ⟨by simp [hO1.top,zj],⟨by simp [hO1.kW.top],λj k hj hk=>by simp [hO1.kW.sc j k hj hk]⟩,by simp [hO1.out],tV,hO1.run.imp λl hl=>⟨hl.1,th⟩,Ao,λk g hg=>by simp [hO1.bx k g hg],xD,λk c hc=>(hO1.cls k c hc).imp λms hm=>⟨cW,hm.2⟩,λi a ha=>by simp [hO1.env i a ha],λi hi=>(hO1.ju i hi).imp λms hm=>⟨cW,hm.2⟩,λk i j hk hn=>if e:k=1/\i=0/\j=0 then .inl e else hO1.only k i j hk (by have e2:¬ k=2:=(λe=>by rw [e] at hk;cases hk);simpa [hk,e,e2] using hn)⟩ vI hl1 hl2 (hF:=λhs'=>QB gl p n hR _ (zD V a i) a k s vs hP tk1 hleft h0' ha' hk' hsm h8 tk2 (hlen hen) hvok hs' vI) (h:=?_);rintro y H2 ⟨rfl,hO2⟩;clear fx;generalize kF p (qg p n) (zD V a i) a s vs=U at hO2 hres hSo;have hAf:=hSo.tick hl;have hT2:=hO2.top;simp only [zj] at hT2;obtain⟨d2,hd2⟩:∃ c,U.qF[a]?=some c:=⟨_,gE (uW ha' hAf.grow.aP)⟩;have hE2:=hO2.env a d2 hd2;by_cases hen2:U.en=0
 .rw [if_neg rW] at hres;refine gp ?_<|qr t0 t1 t4 hp4 t21 t22 t23 hT hE hT1 hE1 hp1<|qk hT2 hE2<|hen2;exact⟨k.body.length - (i+1),qA,i+1,U,rfl,qA,hres,hAf.ok,by have:=hAf.grow.left;omega,uW ha' hAf.grow.aP,hen2,by rw [hAf.grow.qD hd];exact hbV,ka hl1 hAf.grow.aP,ka hl2 hAf.grow.Bj,by simp [t0,hT,hT1],by simp [t1,hE,hE1],by simp [t4],aG,by simp [t21],by simp [t22],by simp [t23];exact qi qA qA,⟨by simp [hO2.top,zj,hen2],⟨by simp [hO2.kW.top,hen2],λj k hj hk=>by simp [hO2.kW.sc j k hj hk,hen2]⟩,by simp [hO2.out,hen2],by simp [hO2.yH,hen2],hO2.run.imp λl hl=>⟨hl.1,by simp [hl.2,hen2]⟩,by simp [hO2.qJ,hen2],λk g hg=>by simp [hO2.bx k g hg,hen2],by simp [hO2.jk,hen2],λk c hc=>(hO2.cls k c hc).imp λms hm=>⟨Ak,hm.2⟩,λi a ha=>by simp [hO2.env i a ha,hen2],λi hi=>(hO2.ju i hi).imp λms hm=>⟨Ak,hm.2⟩,λk i j hk hn=>if e:k=1/\i=0/\j=0 then .inl e else hO2.only k i j hk mR⟩⟩
 .rw [if_pos rW] at hres;refine gp ?_<|qr t0 t1 t4 hp4 t21 t22 t23 hT hE hT1 hE1 hp1<|qk hT2 hE2<|hen2;rw [hres];refine qG [] .nil iq ⟨by simp [hen2],qZ.fin (have om:=hO2;qZ.re om)⟩
theorem Le (gl) (p:qC) (hP:zq p):∀ n,iV gl 229 p n
 | 0=>λH W a _ _ h=>absurd h qA
 | n+1=>XE gl p n (Le gl p hP n) hP
abbrev Ve:qb:=.q 0<|.q 1<|.q 3<|.l 2 [3,0]<|.q 4<|.l 5 []<|.l 6 []<|.done
abbrev Vf:qb:=eX<|.l 9 [4,3,2,1,0]<|.l 10 [0]<|.q 11<|.q 12<|.l 13 []<|.done
theorem B8 {A G G2:Prop} (k:G2) (x:A) (h:A->jP G2->G:=by
 intro fx kk;refine qQ ?_
 repeat ((first|refine qf (id:=1) Ve mixed ?_|refine qf (id:=3) Vf mixed ?_);refine zQ ?_;refine qQ ?_)
 exact kk.h):G:=h x ⟨k⟩
theorem T4 (gl) (H:Nm->Option AO) (p:qC) (f:Nat) (hP:zq p) (hf:f<=150) (hN:∀ k i j,H (.u k i j)=none) :
  qV prog gl 28 DM [yu p,iv f] H (λ_ y H'=>y=.pt Mn 0/\qZ H' 229 p (vt p f)) qy:=by
 have hw:=AK hP.sh hf;have hs:=hP.sh.ft;have hh:=hP.sh.jR;refine qV.qa func28 [.tmp 4] ntmps28 (λ_=>qv) λC w g root hroot=>?_;have fx:=qS;have e1:=Fx gl p hs hh hP.sh.names;refine B8 ?_<|@fx;clear fx e1;intro K hK;rintro y H' ⟨rfl,hO⟩;obtain⟨ho1,ho2⟩:=hO.uC
 try refine⟨qB,?_⟩
 refine B8 ?_<| ho1;intro K hK;refine kH (.s 5) Mn (.inl rfl) (.inr (by simp [jb,hN])) ?_;have fx:=qS;refine Gi (h:=?_);clear fx;refine B8 ?_<| ho1;intro K hK;refine kH (.c Mn 0 6) (En 0) (.inl rfl) (.inr (by simp [jb,hN])) ?_;have fx:=qS;refine tA (λk i j he=>by simp [jb,hN] at he) (hF:=Le gl p hP 151 _ (jX f) 0 ?_ hw (by simp only [jX];omega) gY rfl qB) (h:=?_)
 .clear fx;refine⟨by simp [zj,jX],⟨uw,λj k hj hk=>Av⟩,by simp [jX,qm],by simp [jX,vf],⟨[],qB,by simp [jX,zV]⟩,by simp [jX,wZ],λk g hg=>by simp [jX] at hg,by simp [jX,w5],λk c hc=>by simp [jX] at hc,λi a ha=>?_,λi hi=>?_,λk i j hk hn=>?_⟩
  .have hi:i=0:=by
    have:=(gS ha).1;simp [jX] at this;omega
   subst hi;have ha':a=⟨0,0,j3⟩:=by simpa [jX] using ha.symm
   subst ha';simp [uk]
   rfl
  .obtain rfl:i=0:=by simpa [jX] using hi
   exact⟨[],by simp [uM],by simpa [qK.ju,jX] using kZ.nil⟩
  .by_cases e1:k=1/\i=0/\j=0
   .exact .inl e1
   .by_cases e7:k=7/\i=0/\j=0
    .exact .inr (.inl ⟨e7.1,by simp [jX,e7.2.1],e7.2.2⟩)
    .exact absurd hn (by simp [hk,e1,e7,hN])
 rintro y H1 ⟨rfl,hO1⟩;clear fx;have hT1:=hO1.top;simp only [zj] at hT1;have hme:(qg p 151 (jX f) 0).1=vt p f:=rfl;rw [hme] at hO1 hT1;refine B8 ?_<| hT1;refine qG [] .nil qH ⟨qB,qZ.fin (have om:=hO1;qZ.re om)⟩
theorem xS (gl) (f:Int):qM prog gl 27 [iv f] (λ_ y _=>y=bv (decide (0<=f)&&decide (f<=150))):=by
 refine qM.qa func27 [.tmp 2] ntmps27 λC w g root=>?_;by_cases h1:0<=f
 .by_cases h2:f<=150
  .skip
   refine qI ?_<|aI h1<|h2;refine qG [] .nil qH (by simp [h1,h2])
  .skip
   refine qI ?_<|aI h1<|h2;refine qG [] .nil qH (by simp [h1,h2])
 .skip
  refine qI ?_<| h1;refine qG [] .nil qH zx
end Go.Proofs.YtjgpejikjhojcaaGreatDoor
end
