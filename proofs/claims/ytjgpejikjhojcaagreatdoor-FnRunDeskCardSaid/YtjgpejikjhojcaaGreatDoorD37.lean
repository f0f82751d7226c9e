import Derived.Test.YtjgpejikjhojcaaGreatDoorD36
set_option linter.all false
set_option maxRecDepth 100000
set_option maxHeartbeats 4000000
open Option renaming some->Z,none->Y
open Bool renaming true->B,false->M
open List renaming length->O

section
namespace Go.Proofs.YtjgpejikjhojcaaGreatDoor
open Go Go.Hm Go.Proofs Tryz
variable{A G G2:Prop}{R:qM->Nat->qM×q8}{V w:qM}{a i:Nat}{l:List qT}{p:qC}{s:qT}{vs:List q8}{x:Int}
abbrev YU:qV:=eG<|.l 9 [4,3,2,1,0]<|.l 10 [4,3,2,1,0]<|.l 11 [0]<|.q 12<|.q 13<|.l 14 []<|.done
def WY{ms:dK}:∀e∈ud ms,∀f:Nm->Option Nm,e.1.tr f=e.1/\e.2.tr f=e.2:=by
 intro e he f;simp only[ud,wi]at he;obtain⟨q,_,rfl⟩:=he;simp
def xS(k:G2)(x:A)(h:A->jH G2->G:=by
 intro fx kk;refine qK ?_
 repeat((first|refine qP (id:=5) YU mixed ?_);refine zC ?_;refine qK ?_)
 exact kk.h):G:=h x ⟨k⟩
theorem SV(gl)(F:Nat)(p:qC)(n:Nat)(hR:mC gl F p n)(H:Nm->Option AO)(W:qM)(a b:Nat)(hP:zi p)(hw:zI p W)(hn:W.left<n)(h0:W.en=0)(hm:kH p W.qJ b a)(hr:Room 2 W)(hO:qd H F p W)(hV:H (.u 2 0 0)=Y):
  qX prog gl 193 DM [.pt Mn 0,uH a,iv b] H (λ_ y H'=>y=.zT [q8.av (co p (qm p n) W b a).2,bv (decide ((co p (qm p n) W b a).1.en=0))]/\qd H' F p (co p (qm p n) W b a).1) qw:=by
 obtain⟨k,hk,hpk⟩:=hm.shape;obtain⟨qv,hkE⟩:=gS hk;have hT:=hO.top;simp only[jE]at hT
 have hpos:¬O W.qJ=0:=by
  obtain⟨a,ha,_⟩:=hw.a0;have:=(gS ha).1;omega
 have hpos':¬0=O W.qJ:=λe=>hpos e.symm
 have hupl:¬a=O W.qJ:=by
  obtain⟨c,_,e,_⟩:=hm;have:=(gS e).1;omega
 have hno:∀j,H (.u 7 (O W.qJ) j)=Y:=λj=>by
  cases e:H (.u 7 (O W.qJ) j)with
  |none=>rfl
  |some o=>
   rcases hO.only 7 (O W.qJ) j rfl Aw with⟨h,_⟩|⟨_,h,_⟩|⟨h,_⟩
   .cases h
   .omega
   .cases h
 have hbeg:yR p W b a [] 0={ja p W b a []with stack:=W.stack}:=by
  simp[yR,j4,ja,dR]
 have hcl:co p (qm p n) W b a=if(jj p (qm p n) W b a []).1.en≠0 then((jj p (qm p n) W b a []).1,(0,0))else
  ({ (jj p (qm p n) W b a []).1 with qU:=(jj p (qm p n) W b a []).1.qU++[(jj p (qm p n) W b a []).1.vars (Z (O W.qJ))]},(3,(O (jj p (qm p n) W b a []).1.qU:Int))):=rfl
 obtain⟨⟨e1,e2,e3⟩,e4⟩:=DV (vs:=[]) (fz hP.sh n) hw hn h0 hm qB (hr.mono qA);have hrc:O (jj p (qm p n) W b a []).1.qU<=1000:=by have:=e1.aR;omega
 have hlen:O W.qJ<O (jj p (qm p n) W b a []).1.qJ:=by
  obtain⟨g1,g2⟩:=sm (vs:=[]) hw hm (λv hv=>tD) (hr.mono qA);obtain⟨⟨_,r2,_⟩,_⟩:=fz hP.sh n (ja p W b a []) (O W.qJ) g1 hn tB h0;have:=r2.aq;unfold jj cA
  split<;>simp[ja]at this ⊢<;>omega
 have hlf:O W.qI<=O (jj p (qm p n) W b a []).1.qI:=e2.Dl;have hent:=Kz gl F p n hR (W:=W) (b:=b) (up:=a) (vs:=[]);refine qX.q9 func193 [.cell 6 115,.tmp 7] ntmps193 (λ_=>zF) λC w g root hroot=>?_;refine xS ?_<|qW;intro K hK;have fx:=qW;refine Iv (h:=?_);clear fx;refine xS ?_<| hT;intro K hK;refine kU (.s 8) (En (O W.qJ)) (.inl rfl) (.inr sw) ?_;have fx:=hT;refine km hO (w:=yR p W b a [] 0) ?_ (by simp[yR,j4]) (qb _) (hF:=λhs=>hent _ hP hw hn h0 hm qB (hr.mono qA) (by rw[<- hbeg];exact hs) (by simp[hV])) (h:=?_)
 .clear fx;refine⟨by simp[jE,yR,j4,hO.top,hpos'],⟨te,λj k hj hk=>tA⟩,by simp[yR,j4,hO.out],by simp[yR,j4,hO.zt],hO.run.imp λl hl=>⟨λi hi=>by have:=hl.1 i hi;simp[yR,j4];omega,?_⟩,by simp[yR,j4,hO.qI],λk' g hg=>?_,by simp[yR,j4,hO.jG],λk c hc=>(hO.cls k c hc).imp λms hm=>⟨dX,hm.2⟩,λi d hd=>?_,λi hi=>?_,λk' i j hk' hn=>?_⟩
  .simp [hl.2,yR];refine xF λi hi=>?_
   have hlt:i<O W.qJ:=by
    rcases yI.1 hi with e|e
    .exact hw.jw i e
    .exact hl.1 i e
   have hne:¬i=O W.qJ:=qA;simp[hne]
  .have hgl:¬g.2=O W.qJ:=by
    obtain⟨c,_,e,_⟩:=hw.qI k' g hg;have:=(gS e).1;omega
   simp[hO.bx k' g hg,hgl]
  .simp only[yR,j4]at hd;rcases dN i (O W.qJ)with hlt|hge
   .rw [ua hlt]at hd;have hne:¬i=O W.qJ:=qA;have hne':¬O W.qJ=i:=qA;by_cases e0:i=0
    .subst e0;simp[hO.env 0 d hd,kF,hne,hne']
    .have hup:=(hw.up i d hd qA).1;have hupn:¬d.up=O W.qJ:=qA;simp[hO.env i d hd,kF,e0,hne,hne',hupn]
   .rw [bn hge]at hd
    have hi:i=O W.qJ:=by
     have:=(gS hd).1;simp at this;omega
    subst hi;simp at hd;subst hd;simp[kF,hpos,hupl]
  .by_cases e:i=O W.qJ
   .subst e;rw[J7 (vs:=[]) hpos hk];exact⟨[],qB,by simpa[dR]using wN.nil⟩
   .rw [J6 e]
    have hlt:i<O W.qJ:=by
     simp[yR,j4]at hi;omega
    have hne':¬O W.qJ=i:=qA;exact(hO.yS i hlt).imp λms hm=>⟨by simp[hm.1,e,hne'],hm.2⟩
  .by_cases e7:k'=7/\i=O W.qJ/\j=0
   .exact .inr (.inl ⟨e7.1,DF,e7.2.2⟩)
   .by_cases e1:k'=1/\i=0/\j=0
    .exact .inl e1
    .have hn':H (.u k' i j)≠Y:=by simpa[hk',e1,e7]using hn
     rcases hO.only k' i j hk' hn' with h|h|h
     .exact .inl h
     .exact .inr (.inl ⟨h.1,DF,h.2.2⟩)
     .exact .inr (.inr h)
 rintro y H2 ⟨rfl,hO2⟩;clear fx;generalize jj p (qm p n) W b a []=q2 at hO2 hcl e1 hrc hlen hlf;obtain⟨U,v1,v2⟩:=q2;simp only at hO2 hcl e1 hrc hlen hlf;have hT2:=hO2.top;simp only[jE]at hT2;obtain⟨d,hd⟩:=gX hlen;have hE2:=hO2.env (O W.qJ) d hd;simp only[kF,hpos,if_false]at hE2;by_cases hen2:U.en=0
 case neg=>
  rw[if_pos hen2]at hcl;refine xS ?_<|qz hT hT2 hen2<|hE2;rw[hcl];refine qE [] .nil qD ⟨by simp[hen2],qd.fin (have om:=hO2;qd.re om)⟩
 rw[if_neg tM]at hcl;obtain⟨ms,hms,hmo⟩:=hO2.yS (O W.qJ) hlen;have hnv:U.yS (O W.qJ)=U.vars (Z (O W.qJ)):=by simp[qM.yS,qM.vars,hpos,hd]
 rw[hnv]at hmo;generalize hnve:U.vars (Z (O W.qJ))=nv at hmo hcl hnv;refine xS ?_<|zJ hT hT2 hen2 hE2<|hms;intro K hK;have fx:=aI hT (aI hT2 (aI hE2 hms));refine qER rfl (n:=.c (En (O W.qJ)) 0 1) (es:=ud ms) (hsc:=WY) (h:=?_);clear fx;have hC:=hO2.jG;have hwr:IntKind.i64.wrap (O U.qU:Int)=O U.qU:=qk qA qA;refine xS ?_<|qz hT hT2 hE2<|hms;refine kU (.c (.s 35) 0 0) (.c Mn (O U.qU+1) 9) (.inl rfl) (.inl rfl) ?_;refine xS ?_<|zy hT hT2 hC hrc hwr hE2<|hms;rw[hcl];have hap:aL Mn U.qU++[[.mp (.c Mn (O U.qU+1) 9)]]=aL Mn (U.qU++[nv]):=S3;refine qE [] .nil qD ⟨by simp[hen2],qd.fin ⟨by simp[hT2,jE],⟨by simp[hO2.wH.top],λj k hj hk=>by simp[hO2.wH.sc j k hj hk]⟩,by simp[hO2.out],by simp[hO2.zt],hO2.run.imp λl hl=>⟨hl.1,A9⟩,by simp[hO2.qI],λk g hg=>by simp[hO2.bx k g hg],?_,λk c hc=>?_,λi a ha=>by simp[hO2.env i a ha],λi hi=>?_,λk i j hk hn=>if e:k=1/\i=0/\j=0 then .inl e else hO2.only k i j hk oN⟩⟩
 .simp [<- hap];rw[jg qB];refine Km λi c hc=>?_;have hne:¬i=O U.qU:=Cb;have hne':¬O U.qU=i:=qA;simp[hne,hne']
 .simp only at hc;rcases dN k (O U.qU)with hlt|hge
  .rw [ua hlt]at hc;have hne:¬k=O U.qU:=qA;have hne':¬O U.qU=k:=qA;exact(hO2.cls k c hc).imp λms hm=>⟨by simp[hm.1,hne,hne'],hm.2⟩
  .rw [bn hge]at hc
   have hi:k=O U.qU:=by
    have:=(gS hc).1;simp at this;omega
   subst hi;simp at hc;subst hc;exact⟨ms,qB,hmo⟩
 .by_cases e:i=O W.qJ
  .subst e;have hnv':({U with qU:=U.qU++[nv]}:qM).yS (O W.qJ)=nv:=hnv;exact⟨ms,by simp[hms],by rw[hnv'];exact hmo⟩
  .exact (hO2.yS i hi).imp λms hm=>⟨by simp[hm.1,e],hm.2⟩
abbrev YV:qV:=bB<|.l 8 [7,6,5,4,3,2,1,0]<|.l 9 []<|.done
@[simp]theorem nilS_nfn:j5 (AV.sc .nilFunc)=M:=rfl
@[simp]theorem nilS_fn{f:Fn}{xs ys:List AV}:j5 (AV.fn f xs ys)=M:=rfl
def xT(k:G2)(x:A)(h:A->jH G2->G:=by
 intro fx kk;refine qK ?_
 repeat((first|refine qP (id:=3) YV mixed ?_);refine zC ?_;refine qK ?_)
 exact kk.h):G:=h x ⟨k⟩
def Ro(gl)(p:qC)(n:Nat)(hR:mC gl 229 p n)(H:Nm->Option AO)(W:qM)(f:q8)(lo:Nat)(vs all:List q8)(hP:zi p)(hw:zI p W)(hn:W.left<n)(h0:W.en=0)(hf:zh (O W.qI) (O W.qU) f)(hv:∀v∈vs,zh (O W.qI) (O W.qU) v)(hr:Room 1 W)
  (hall:all.drop lo=vs)(hlo:lo+O vs=O all)(hv2:O vs<=1)(hO:qd H 229 p W)(hL:H (.u 2 0 0)=Z (.row 2 (zm all))):
  qX prog gl 194 wM [.pt Mn 0,q8.av f,.hs (.u 2 0 0) 2 lo (O vs)] H (λ_ y H'=>y=.zT [q8.av (ub p (qm p n) W f vs).2,bv (decide ((ub p (qm p n) W f vs).1.en=0))]/\qd H' 229 p (ub p (qm p n) W f vs).1) qw:=by
 have hT:=hO.top;simp only[jE]at hT;obtain⟨f1,f2⟩:=f;refine qX.q9 func194 [.cell 6 115,.tmp 7] ntmps194 (λ_=>pa) λC w g root hroot=>?_;by_cases h2:f1=2
 .subst h2;have hf2:=hf.num;have hf3:=hf.fn rfl;simp only at hf2 hf3;obtain⟨i,rfl⟩:∃i:Nat,f2=i:=⟨f2.toNat,qA⟩;have hil:i<O W.qI:=qA;obtain⟨⟨g1,g2⟩,hg⟩:∃g,W.qI[i]?=Z g:=⟨_,gE hil⟩;obtain⟨_,hgE⟩:=gS hg;have hm:=hw.qI i _ hg;obtain⟨k,hk,hpk⟩:=hm.shape;have hF:=hO.qI;have hcc:iH 229 p i (g1,g2)=[iv (uG p g1),.fn (.func 229) [] [.pt (.u 8 i 0) 0,.pt (.u 8 i 1) 0,.pt (.u 8 i 2) 0,.pt (.u 8 i 3) 0]]:=rfl;obtain⟨c1,c2,c3,c4⟩:=hO.bx i _ hg;simp only at hm hk hpk c1 c2 c3 c4;by_cases hl:uG p g1=O vs
  .have hc:ub p (qm p n) W (2,(i:Int)) vs=jj p (qm p n) W g1 g2 vs:=by
    simp[ub,hg,hl]
   have hlb:((uG p g1:Int)==(O vs:Int))=B:=by rw[hl];simp
   refine xT ?_<|jA hT hF hil hg hgE hcc hlb<|@zA;intro K hK;have fx:=aI hT hF;refine qEQ (xs:=[]) (ys:=[.pt (.u 8 i 0) 0,.pt (.u 8 i 1) 0,.pt (.u 8 i 2) 0,.pt (.u 8 i 3) 0]) hO (have om:=hO;qd.re om) ed (qb _) (qb _) (hF:=λhs=>SZ gl _ p n hR _ W i g1 g2 lo vs all hP hw hn h0 hg hv hr hall hlo hl hv2 hs ed) (h:=?_);rintro y H1 ⟨rfl,hO1⟩;clear fx;have hT1:=hO1.top;simp only[jE]at hT1;refine xT ?_<|aI hT<|hT1;rw[hc];refine qE [] .nil qD ⟨qB,qd.fin (have om:=hO1;qd.re om)⟩
  .have hc:ub p (qm p n) W (2,(i:Int)) vs=({W with en:=6},(0,0)):=by
    simp[ub,hg,hl]
   have hlb:((uG p g1:Int)==(O vs:Int))=M:=by
    rw[beq_eq_false_iff_ne];omega
   refine xT ?_<|jA hT hF hil hg hgE hcc hlb<|@zA;intro K hK;have fx:=hT;refine km hO (have om:=hO;qd.re om) (qb _) (qb _) (hF:=λhs=>lm _ _ _ p W 6 hs) (h:=?_);rintro y H2 ⟨rfl,hO2⟩;clear fx;have hT2:=hO2.top;simp only[jE]at hT2;refine xT ?_<|aI hT<|hT2;rw[hc];refine qE [] .nil qD ⟨qB,qd.fin (have om:=hO2;qd.re om)⟩
 .have hb1:(f1==2)=M:=lH;have hc:ub p (qm p n) W (f1,f2) vs=({W with en:=5},(0,0)):=by simp[ub,h2]
  refine xT ?_<|ql hT hb1<|@zA;intro K hK;have fx:=hT;refine km hO (have om:=hO;qd.re om) (qb _) (qb _) (hF:=λhs=>lm _ _ _ p W 5 hs) (h:=?_);rintro y H2 ⟨rfl,hO2⟩;clear fx;have hT2:=hO2.top;simp only[jE]at hT2;refine xT ?_<|aI hT<|hT2;rw[hc];refine qE [] .nil qD ⟨qB,qd.fin (have om:=hO2;qd.re om)⟩
abbrev YW:qV:=ba<|.l 7 []<|.q 8<|.q 9<|.l 10 []<|.l 11 []<|.done
abbrev Nr:qV:=bA<|.l 6 []<|.q 7<|.q 8<|.l 9 []<|.l 10 []<|.done
def fi(k:G2)(x:A)(h:A->jH G2->G:=by
 intro fx kk;refine qK ?_
 repeat((first|refine qP (id:=7) YW mixed ?_|refine qP (id:=13) Nr mixed ?_|refine qP (id:=14) Nr mixed ?_);refine zC ?_;refine qK ?_)
 exact kk.h):G:=h x ⟨k⟩
def qDn(gl)(p:qC)(n:Nat)(hR:mC gl 229 p n)(H:Nm->Option AO)(W:qM)(a:Nat)(k:qY)(s:qT)(vs:List q8)(hP:zi p)(hw:zI p W)(hn:W.left<n)(h0:W.en=0)(ha:a<O W.qJ)(hk:p[W.qG a]?=Z k)(hs:s∈k.body)(hkd:0<=s.kind/\s.kind<=6)(hr:Room 2 W)
  (hl:O vs=O s.reads)(hvok:∀v∈vs,zh (O W.qI) (O W.qU) v)(hO:qd H 229 p W)(hL:H (.u 2 0 0)=Z (.row 2 (zm vs))):
  qX prog gl 145 wM [.pt Mn 0,uH a,s.av,.hs (.u 2 0 0) 2 0 (O vs)] H (λ_ y H'=>y=.zT [q8.av (yY p (qm p n) W a s vs).2,bv (decide ((yY p (qm p n) W a s vs).1.en=0))]/\qd H' 229 p (yY p (qm p n) W a s vs).1) qw:=by
 have hT:=hO.top;simp only[jE]at hT;have hst:=hP.sh.fD _ k hk s hs;have hnm:=hP.sh.names k (gM hk);have hp1:=hL;obtain⟨c,hc⟩:=gX ha;have hE:=hO.env a c hc;obtain⟨kd,to,sa,sb⟩:=s;simp only at hkd;refine qX.q9 func145 [.cell 8 115,.tmp 9] ntmps145 (λ_=>pa) λC w g root hroot=>?_;have hkc:kd=0\/kd=1\/kd=2\/kd=3\/kd=4\/kd=5\/kd=6:=qA;rcases hkc with rfl|rfl|rfl|rfl|rfl|rfl|rfl
 .have hw0:yY p (qm p n) W a ⟨0,to,sa,sb⟩ vs=(W,(1,sa)):=ci;refine fi ?_<|ql hT hp1<|@zA;rw[hw0];refine qE [] .nil qD ⟨yL,qd.fin (have om:=hO;qd.re om)⟩
 .obtain⟨u,rfl⟩:∃u,vs=[u]:=by
   match vs,hl with
   |[u],_=>exact⟨u,rfl⟩
   |[],h=>simp[qT.reads]at h
   |_::_::_,h=>simp[qT.reads]at h
  have hw0:yY p (qm p n) W a ⟨1,to,sa,sb⟩ [u]=(W,u):=ci;refine fi ?_<|ql hT hp1<|@zA;rw[hw0];refine qE [] .nil qD ⟨yL,qd.fin (have om:=hO;qd.re om)⟩
 .obtain⟨u,v,rfl⟩:∃u v,vs=[u,v]:=by
   match vs,hl with
   |[u,v],_=>exact⟨u,v,rfl⟩
   |[],h=>simp[qT.reads]at h
   |[_],h=>simp[qT.reads]at h
   |_::_::_::_,h=>simp[qT.reads]at h
  have hw0:yY p (qm p n) W a ⟨2,to,sa,sb⟩ [u,v]=uf W u v:=ci;refine fi ?_<|ql hT hp1<|@zA;intro K hK;have fx:=aI hT hp1;refine km hO (have om:=hO;qd.re om) (qb _) (qb _) (hF:=λhs=>Qs _ _ _ p W u v h0 (hvok u qB) (hvok v qB) hs) (h:=?_);rintro y H2 ⟨rfl,hO2⟩;clear fx;have hT2:=hO2.top;simp only[jE]at hT2;refine fi ?_<|qz hT hp1 hT2<|@zA;rw[hw0];refine qE [] .nil qD ⟨qB,qd.fin (have om:=hO2;qd.re om)⟩
 .obtain⟨q,hq1,hq2,hq3,hq4⟩:=zp.made hst (.inl rfl);simp only at hq1 hq3;obtain⟨A,rfl⟩:∃A:Nat,sa=A:=⟨sa.toNat,qA⟩;simp only[un]at hq1;have hw0:yY p (qm p n) W a ⟨3,to,(A:Int),sb⟩ vs=({W with qI:=W.qI++[(A,a)]},(2,(O W.qI:Int))):=ci;refine fi ?_<|ql hT hp1<|@zA;intro K hK;have fx:=hT;refine km hO (have om:=hO;qd.re om) (qb _) (qb _) (hF:=λhs=>Ty _ _ p W a A q hw ha hq1 (hr.mono qA) (by have hh:=hP.sh.head A q hq1;simp only[ul]at hh;split at hh<;>omega) hs) (h:=?_);rintro y H2 ⟨rfl,hO2⟩;clear fx;have hT2:=hO2.top;simp only[jE]at hT2;refine fi ?_<|qz hT hp1 hT2<|@zA;rw[hw0];refine qE [] .nil qD ⟨yL,qd.fin (have om:=hO2;qd.re om)⟩
 .have hm:=I7 hst ha (.inr rfl);obtain⟨q,hq1,hq2,hq3,hq4⟩:=zp.made hst (.inr rfl);simp only at hm hq3;obtain⟨A,rfl⟩:∃A:Nat,sa=A:=⟨sa.toNat,qA⟩;simp only[un]at hm;have hw0:yY p (qm p n) W a ⟨4,to,(A:Int),sb⟩ vs=co p (qm p n) W A a:=ci;refine fi ?_<|ql hT hp1<|@zA;intro K hK;have fx:=hT;refine km hO (have om:=hO;qd.re om) (qb _) (qb _) (hF:=λhs=>SV gl _ p n hR _ W a A hP hw hn h0 hm hr hs qB) (h:=?_);rintro y H2 ⟨rfl,hO2⟩;clear fx;have hT2:=hO2.top;simp only[jE]at hT2;refine fi ?_<|qz hT hp1 hT2<|@zA;rw[hw0];refine qE [] .nil qD ⟨qB,qd.fin (have om:=hO2;qd.re om)⟩
 .have hpos:0<O vs:=by
   rw[hl];by_cases e:sb=-1<;>simp[qT.reads,e]
  have hlt:O vs<=2:=by
   rw[hl];by_cases e:sb=-1<;>simp[qT.reads,e]
  obtain⟨u,tl,rfl⟩:∃u tl,vs=u::tl:=by
   match vs,hpos with
   |u::tl,_=>exact⟨u,tl,rfl⟩
  have htl:O tl<=1:=by simp at hlt;omega
  have hw0:yY p (qm p n) W a ⟨5,to,sa,sb⟩ (u::tl)=ub p (qm p n) W u tl:=ci;have hle1:(1:Int)<=(O tl:Int)+1:=qA;have htn:((O tl:Int)+1).toNat=O tl+1:=qA;refine fi ?_<|zx hT hp1 htl hle1 htn<|@zA;intro K hK;have fx:=aI hT hp1;refine It hO (have om:=hO;qd.re om) vY (qb _) (qb _) (hF:=λhs=>Ro gl p n hR _ W u 1 tl (u::tl) hP hw hn h0 (hvok u qB) (λv hv=>hvok v tW) (hr.mono qA) rfl qp htl hs vY) (h:=?_);rintro y H2 ⟨rfl,hO2⟩;clear fx;have hT2:=hO2.top;simp only[jE]at hT2;refine fi ?_<|zy hT hp1 hT2 htl hle1 htn<|@zA;rw[hw0];refine qE [] .nil qD ⟨qB,qd.fin (have om:=hO2;qd.re om)⟩
 .obtain⟨u,rfl⟩:∃u,vs=[u]:=by
   match vs,hl with
   |[u],_=>exact⟨u,rfl⟩
   |[],h=>simp[qT.reads]at h
   |_::_::_,h=>simp[qT.reads]at h
  have hsb:0<=sb/\sb<=7:=by
   simp only[zp]at hst;simp at hst;omega
  obtain⟨x,rfl⟩:∃x:Nat,sb=x:=⟨sb.toNat,qA⟩;have hw0:yY p (qm p n) W a ⟨6,to,sa,(x:Int)⟩ [u]=kO W u x:=ci;refine fi ?_<|ql hT hp1<|@zA;intro K hK;have fx:=aI hT hp1;refine km hO (have om:=hO;qd.re om) (qb _) (qb _) (hF:=λhs=>RQ _ _ _ p W u x h0 hw (hvok u qB) qA hs) (h:=?_);rintro y H2 ⟨rfl,hO2⟩;clear fx;have hT2:=hO2.top;simp only[jE]at hT2;refine fi ?_<|qz hT hp1 hT2<|@zA;rw[hw0];refine qE [] .nil qD ⟨qB,qd.fin (have om:=hO2;qd.re om)⟩
abbrev YX:qV:=bB<|.l 8 [4,3,2,1,0]<|.l 9 [4,3,2,1,0]<|.l 10 [0]<|.q 11<|.q 12<|.l 13 []<|.done
abbrev YY:qV:=ba<|.l 7 []<|.done
def kY(p:qC)(R:qM->Nat->qM×q8)(W:qM)(a:Nat)(s:qT)(vs:List q8):qM:=
 if s.kind=9\/s.kind=10 then W else if s.kind=11 then bD p W a s.to else
 if s.kind=7 then{W with out:=W.out++[Hm.shown (vs.getD 0 (0,0))]}else
 if(yY p R W a s vs).1.en≠0 then(yY p R W a s vs).1 else fE p (yY p R W a s vs).1 a s.to (yY p R W a s vs).2
def PR{W:qM}(h0:W.en=0)(h:z7 p W a s.reads=(W,vs)):uZ p R W a s=kY p R W a s vs:=by
 have hv:vf p R W a s=yY p R W a s vs:=by
  unfold vf;rw[h];simp[h0]
 by_cases h7:s.kind=7
 .have hv7:vf p R W a s=(W,vs.getD 0 (0,0)):=by
   rw[hv];simp[yY,h7]
  simp[uZ,kY,h7,hv7,h0]
 .simp only[uZ,kY,hv,h7,if_false]
def lV(k:G2)(x:A)(h:A->jH G2->G:=by
 intro fx kk;refine qK ?_
 repeat((first|refine qP (id:=6) YX mixed ?_|refine qP (id:=14) YY mixed ?_);refine zC ?_;refine qK ?_)
 exact kk.h):G:=h x ⟨k⟩
def Sn(gl)(p:qC)(n:Nat)(hR:mC gl 229 p n)(H:Nm->Option AO)(W:qM)(a:Nat)(k:qY)(s:qT)(vs:List q8)(hP:zi p)(hw:zI p W)(hn:W.left<n)(h0:W.en=0)(ha:a<O W.qJ)(hk:p[W.qG a]?=Z k)(hs:s∈k.body)(h8:s.kind≠8)(hr:Room 2 W)
  (hl:O vs=O s.reads)(hvok:∀v∈vs,zh (O W.qI) (O W.qU) v)(hO:qd H 229 p W)(hL:H (.u 2 0 0)=Z (.row 2 (zm vs))):
  qX prog gl 101 wM [.pt Mn 0,uH a,s.av,.hs (.u 2 0 0) 2 0 (O vs)] H (λ_ y H'=>y=bv (decide ((kY p (qm p n) W a s vs).en=0))/\qd H' 229 p (kY p (qm p n) W a s vs)) qw:=by
 have hh:=hP.sh.jK;have hT:=hO.top;simp only[jE]at hT;have hst:=hP.sh.fD _ k hk s hs;have hnm:=hP.sh.names k (gM hk);have hkd:=hnm.kinds s hs;have hto:=hnm.zE s hs;have hvl:=qDn gl p n hR;have hp1:=hL;obtain⟨c,hc⟩:=gX ha;have hE:=hO.env a c hc;obtain⟨kd,to,sa,sb⟩:=s;simp only at h8 hkd hto;obtain⟨x,rfl⟩:∃x:Nat,to=x:=⟨to.toNat,qA⟩;have hx7:0<=(x:Int)/\(x:Int)<=7:=qA;refine qX.q9 func101 [.tmp 8] ntmps101 (λ_=>pa) λC w g root hroot=>?_;by_cases h9:kd=9
 .subst h9;have hq:kY p (qm p n) W a ⟨9,x,sa,sb⟩ vs=W:=by simp[kY]
  refine lV ?_<| hT;rw[hq];refine qE [] .nil qD ⟨yL,qd.fin (have om:=hO;qd.re om)⟩
 by_cases h10:kd=10
 .subst h10;have hq:kY p (qm p n) W a ⟨10,x,sa,sb⟩ vs=W:=by simp[kY]
  refine lV ?_<| hT;rw[hq];refine qE [] .nil qD ⟨yL,qd.fin (have om:=hO;qd.re om)⟩
 have hb9:(kd==9)=M:=by simpa using h9
 have hb10:(kd==10)=M:=by simpa using h10
 by_cases h11:kd=11
 .subst h11;have hq:kY p (qm p n) W a ⟨11,x,sa,sb⟩ vs=bD p W a x:=by simp[kY]
  refine lV ?_<| hT;intro K hK;have fx:=hT;refine km hO (have om:=hO;qd.re om) (qb _) (qb _) (hF:=λhs=>Sq _ _ _ p W a x hP.sh hw ha qA h0 hs) (h:=?_);rintro y H1 ⟨rfl,hO1⟩;clear fx;have hT1:=hO1.top;simp only[jE]at hT1;refine lV ?_<|aI hT<|hT1;rw[hq];refine qE [] .nil qD ⟨qB,qd.fin (have om:=hO1;qd.re om)⟩
 have hb11:(kd==11)=M:=by simpa using h11
 by_cases h7:kd=7
 .subst h7
  obtain⟨u,rfl⟩:∃u,vs=[u]:=by
   match vs,hl with
   |[u],_=>exact⟨u,rfl⟩
   |[],h=>simp[qT.reads]at h
   |_::_::_,h=>simp[qT.reads]at h
  have hq:kY p (qm p n) W a ⟨7,x,sa,sb⟩ [u]={W with out:=W.out++[Hm.shown u]}:=by simp[kY]
  have hU:=hO.out;have hol:=hw.aS;have hol':O W.out<=1000:=qA;have hap:qh W.out++[[iv (Hm.shown u)]]=qh (W.out++[Hm.shown u]):=y3;have hsh:=Gb gl u;obtain⟨u1,u2⟩:=u;have fx:=zJ hT hU hol' hp1<|@zA;have c1:=hsh;refine lV ?_<|@fx;clear fx c1;rw[hq];refine qE [] .nil qD ⟨yL,qd.fin ⟨by simp[jE,hT],⟨te,λj k hj hk=>tA⟩,?_,tq,hO.run.imp λl hl=>⟨hl.1,A9⟩,tJ,λk g hg=>by simp[hO.bx k g hg],A5,λk c hc=>(hO.cls k c hc).imp λms hm=>⟨dX,hm.2⟩,λi a ha=>by simp[hO.env i a ha],λi hi=>(hO.yS i hi).imp λms hm=>⟨dX,hm.2⟩,λk i j hk hn=>if e:k=1/\i=0/\j=0 then .inl e else hO.only k i j hk oN⟩⟩;simp
 have hb7:(kd==7)=M:=by simpa using h7
 have hk6:0<=kd/\kd<=6:=qA
 have hq:kY p (qm p n) W a ⟨kd,x,sa,sb⟩ vs=if(yY p (qm p n) W a ⟨kd,x,sa,sb⟩ vs).1.en≠0 then(yY p (qm p n) W a ⟨kd,x,sa,sb⟩ vs).1 else fE p (yY p (qm p n) W a ⟨kd,x,sa,sb⟩ vs).1 a x (yY p (qm p n) W a ⟨kd,x,sa,sb⟩ vs).2:=by
  simp only[kY,h9,h10,h11,h7,if_false,false_or]
 refine lV ?_<|zJ hT hb9 hb10 hb11<|hb7;intro K hK;have fx:=hT;refine It hO (have om:=hO;qd.re om) vY (qb _) (qb _) (hF:=λhs'=>hvl _ W a k ⟨kd,x,sa,sb⟩ vs hP hw hn h0 ha hk hs hk6 hr hl hvok hs' vY) (h:=?_);rintro y H1 ⟨rfl,hO1⟩;clear fx;obtain⟨hA,hvok1⟩:=Is (vs:=vs) (fz hP.sh n) hw hn h0 ha hst hvok hr;generalize yY p (qm p n) W a ⟨kd,x,sa,sb⟩ vs=q at hO1 hA hvok1 hq;obtain⟨V,v⟩:=q;simp only at hO1 hA hvok1 hq;have hT1:=hO1.top;simp only[jE]at hT1;have haV:a<O V.qJ:=um ha hA.grow.aq;have hla:=hA.grow.aq;have hlf:=hA.grow.Dl;obtain⟨c1,hc1⟩:=gX haV;have hE1:=hO1.env a c1 hc1;by_cases hen:V.en=0
 case neg=>
  rw[if_pos hen]at hq;obtain⟨v1,v2⟩:=v;refine lV ?_<|zJ hT hT1 hE hE1<|hen;rw[hq];refine qE [] .nil qD ⟨by simp[hen],qd.fin (have om:=hO1;qd.re om)⟩
 rw[if_neg ec]at hq;obtain⟨hnm1,hil⟩:=Dp (x:=(x:Int)) hh hA.ok haV;have hnm0:=hnm1;obtain⟨o,ho⟩:∃o,Hm.yw p (V.qG a) (zN p (V.qG a) x)=o:=⟨_,rfl⟩;obtain⟨l,hll⟩:∃l,V.loc p a x=l:=⟨_,rfl⟩;have hhl:=Ga gl (F:=229) (p:=p) (W:=V) (a:=a) (x:=x);rw[ho,hll]at hhl;rw[hll]at hnm1 hil;obtain⟨i,hi⟩:∃i,aP l=i:=⟨_,rfl⟩;rw[hi]at hnm1 hil hhl;obtain⟨v1,v2⟩:=v;refine lV ?_<|zJ hT hT1 hE hE1<|hen;intro K hK;have fx:=aI hT hT1;refine km hO (have om:=hO1;qd.re om) hla hlf (hF:=λhs=>hhl _ hP.sh hA.ok haV qA hs) (h:=?_);rintro y H2 ⟨rfl,hO2⟩;clear fx;have hT2:=hO2.top;simp only[jE]at hT2;obtain⟨d,hd⟩:=gX hil;have hE2:=hO2.env i d hd;simp only[kF]at hE2;have hE2a:=hO2.env a c1 hc1;obtain⟨ms,hms,hmo⟩:=hO2.yS i hil;rw[hnm1]at hmo
 have hstq:fE p V a x (v1,v2)=V.set l x (Z (v1,v2)):=by
  unfold fE;rw[hll]
 refine lV ?_<|jA hT hT1 hE hE1 hT2 hE2 hE2a<|hms;intro K hK;refine uM (λst=>st.tm 61=.mp (.c (En i) 0 1)/\st.tm 63=iv x/\st.tm 64=q8.av (v1,v2)/\st.hp (.c (En i) 0 1)=Z (.map (ud ms))/\qd st.hp 229 p V) ⟨by simp[hT2,hE2],qB,qB,by simp[hms],(have om:=hO2;qd.re om)⟩ ?_;rintro st ⟨t61,t63,t64,hms',hO3⟩;have fx:=aI t61 (aI t63 (aI t64 hms'));refine Pu (h:=?_);clear fx;refine lV ?_<| hT;rw[hq,hstq];refine qE [] .nil qD ⟨by rw[pL.2.2.2.2.2.2];simp[hen],qd.fin (HT hh hA.ok haV qA hll hnm0 hO3 (hmo.set hx7) λm hm=>?_)⟩;rw[hi];simp
abbrev YZ:qV:=gA<|.done
abbrev Y0:qV:=wG<|.l 11 [5,4,3,2,1,0]<|.l 12 [5,0]<|.q 13<|.q 14<|.l 15 []<|.done
def Vt(h0:w.en=0):(j9 p w a x).1.en≠0->(j9 p w a x).2=(0,0):=by
 unfold j9
 repeat' split
 all_goals simp[h0]
def Mb(h0:w.en=0):z7 p w a [x]=((j9 p w a x).1,[(j9 p w a x).2]):=by
 simp[z7,h0]
def Ra(h0:V.en=0)(hl:V.left≠0)(hq:(z7 p (zZ V a i) a s.reads).1.en≠0):ve p R a V i (s::l)=((z7 p (zZ V a i) a s.reads).1,(0,0)):=by
 have ht:(zZ V a i).en=0:=h0;by_cases h8:s.kind=8
 .have hrd:s.reads=[s.a]:=by simp[qT.reads,h8]
  rw[hrd,Mb ht]at hq ⊢;simp only at hq;simp only[ve,hl,h8,if_true,if_false];rw[<- Vt ht hq]
 .have hst:uZ p R (zZ V a i) a s=(z7 p (zZ V a i) a s.reads).1:=by
   by_cases h9:s.kind=9\/s.kind=10\/s.kind=11
   .have hrd:s.reads=[]:=by rcases h9 with e|e|e<;>simp[qT.reads,e]
    rw[hrd]at hq;simp only[z7]at hq;exact absurd ht hq
   .have hv:vf p R (zZ V a i) a s=((z7 p (zZ V a i) a s.reads).1,(0,0)):=by
     unfold vf;rw[if_pos hq]
    have e1:¬(s.kind=9\/s.kind=10):=qA;have e2:¬s.kind=11:=qA;unfold uZ;rw[if_neg e1,if_neg e2,hv,if_pos hq]
  simp only[ve,hl,h8,if_false];rw[hst,if_pos hq]
def Rd(h0:V.en=0)(hl:V.left≠0)(h8:s.kind=8)(hq:z7 p (zZ V a i) a s.reads=(zZ V a i,vs)):∃v,vs=[v]/\ve p R a V i (s::l)=(zZ V a i,v):=by
 have ht:(zZ V a i).en=0:=h0;have hrd:s.reads=[s.a]:=by simp[qT.reads,h8]
 rw[hrd,Mb ht]at hq;obtain⟨e1,e2⟩:=ga hq;refine⟨_,e2.symm,?_⟩;simp only[ve,hl,h8,if_true,if_false];exact Prod.ext e1 rfl
def Rb(h0:V.en=0)(hl:V.left≠0)(h8:s.kind≠8)(hq:z7 p (zZ V a i) a s.reads=(zZ V a i,vs)):ve p R a V i (s::l)=if(kY p R (zZ V a i) a s vs).en≠0 then(kY p R (zZ V a i) a s vs,(0,0))else ve p R a (kY p R (zZ V a i) a s vs) (i+1) l:=by
 have ht:(zZ V a i).en=0:=h0;simp only[ve,hl,h8,if_false];rw[PR ht hq]
def lW(k:G2)(x:A)(h:A->jH G2->G:=by
 intro fx kk;refine qK ?_
 repeat((first|refine qP (id:=1) YZ mixed ?_|refine qP (id:=7) Y0 mixed ?_);refine zC ?_;refine qK ?_)
 exact kk.h):G:=h x ⟨k⟩
theorem qAP(gl)(p:qC)(n:Nat)(hR:mC gl 229 p n)(hP:zi p):mC gl 229 p (n+1):=by
 intro H W a hO hw hn ha h0 hV
 show qX prog gl 61 DM [.pt Mn 0,uH a] H _ qw
 obtain⟨c,hc⟩:=gX ha;have qv:=hw.af a c hc;obtain⟨k,hk⟩:=gX qv;obtain⟨_,hkE⟩:=gS hk;have hbk:=wk hc;have hT:=hO.top;have hE:=hO.env a c hc;simp only[jE]at hT;simp only[kF]at hE;have hb12:=hP.sh.body k (gM hk);have hrun:qm p (n+1) W a=ve p (qm p n) a W 0 k.body:=by simp only[qm,hbk,hk]
 have hO0:=hO;refine qX.q9 func61 [.cell 4 115,.tmp 5] ntmps61 (λ_=>zF) λC w g root hroot=>?_;refine lW ?_<|zJ hT hE hk hkE<|qv;refine zK (λm st=>∃(i:Nat)(V:qM),m=O k.body-i/\i<=O k.body/\qm p (n+1) W a=ve p (qm p n) a V i (k.body.drop i)/\zI p V/\V.left<n+1/\a<O V.qJ/\V.en=0/\V.qG a=c.qG/\O W.qJ<=O V.qJ/\O W.qI<=O V.qI/\st.tm 0=.pt Mn 0/\st.tm 1=uH a/\st.tm 4=.pt (.s 4) 0/\st.hp (.s 4)=Z (.row 2 [[iv 0,iv 0]])/\st.tm 21=gD k.body/\st.tm 22=iv (O k.body)/\st.tm 23=iv i/\qd st.hp 229 p V) (O k.body) ?_ ?_
 .exact⟨0,W,qA,qA,by simpa using hrun,hw,hn,ha,h0,hbk,qb _,qb _,zG,by simp[hE],qB,qB,qB,qB,qB,(have om:=hO;qd.re om)⟩
 clear hT hE hO;rintro m st - - ⟨i,V,rfl,hi,hres,hw',hn',ha',h0',hbV,hl1,hl2,t0,t1,t4,hp4,t21,t22,t23,hO⟩;clear hrun h0 hn hw hc ha;obtain⟨d,hd⟩:∃d,V.qJ[a]?=Z d:=⟨_,gE ha'⟩;have hdb:d.qG=c.qG:=by rw[<- wk hd];exact hbV
 have hT:=hO.top;have hE:=hO.env a d hd;simp only[jE]at hT;simp only[kF]at hE;by_cases hil:i<O k.body
 case neg=>
  have hge:i=O k.body:=qA;rw[hge,List.drop_length]at hres;simp only[ve]at hres;refine lW ?_<|jA t0 t1 t4 hp4 t21 t22 t23<|hil;rw[hres];refine qE [] .nil mW ⟨by simp[h0'],qd.fin (have om:=hO;qd.re om)⟩
 obtain⟨s,hs⟩:=gX hil;obtain⟨_,hsE⟩:=gS hs;have hsm:=gM hs;have hdr:k.body.drop i=s::k.body.drop (i+1):=by rw[iz hil,hsE]
 rw[hdr]at hres;by_cases hl:V.left=0
 .have hr2:ve p (qm p n) a V i (s::k.body.drop (i+1))=({V with en:=1},(0,0)):=by simp only[ve,hl,if_true]
  rw[hr2]at hres;refine lW ?_<|jU t0 t1 t4 hp4 t21 t22 t23 hil hs hsE<|aI hT<|hl;intro K hK;have fx:=aI t0 hT;refine km hO0 (have om:=hO;qd.re om) hl1 hl2 (hF:=λhs=>lm _ _ _ p V 1 hs) (h:=?_);rintro y H2 ⟨rfl,hO2⟩;clear fx;have hT2:=hO2.top;simp only[jE]at hT2;refine lW ?_<|zy t0 t1 t4 hp4 hT hT2<|hl;rw[hres];refine qE [] .nil mW ⟨qB,qd.fin (have om:=hO2;qd.re om)⟩
 obtain⟨l,hll⟩:∃l,V.left=l+1:=⟨V.left - 1,qA⟩;obtain⟨tk1,tk2⟩:=E4 (a:=a) (i:=i) hw' hl;have hTt:zZ V a i={V with left:=l,trace:=V.trace++[(d.qG,i)]}:=by simp only[zZ,wk hd];rw[hll];rfl
 have hbV2:(zZ V a i).qG a=d.qG:=KJ;have hleft:(zZ V a i).left<n:=by simp only[zZ];omega
 have hTr:=hO.zt;have hnt:=hw'.aA;have hnl:=hw'.wU;have htl':O V.trace<=1000:=qA;have hl8:l<=1000:=qA;have hlb:((l:Int)+1==0)=M:=kQ;have hwl:IntKind.i64.wrap (l:Int)=l:=qk qA qA;have hap:vR V.trace++[[iv d.qG,iv i]]=vR (V.trace++[(d.qG,i)]):=Dq;have hkd:=(hP.sh.names k (gM hk)).kinds s hsm;have hrd:=(hP.sh.names k (gM hk)).reads s hsm;refine lW ?_<|qg t0 t1 t4 hp4 t21 t22 t23 hil hs hsE hT hll<|zJ hlb hwl hTr htl'<|hE;intro K hK;have fx:=aI t0 (aI t1 hT);refine km hO0 (w:=zZ V a i) (by rw[hTt];exact⟨by simp[hT,jE],⟨te,λj k hj hk=>tA⟩,rP,Am,hO.run.imp λl hl=>⟨hl.1,A9⟩,tJ,λk g hg=>by simp[hO.bx k g hg],A5,λk c hc=>(hO.cls k c hc).imp λms hm=>⟨dX,hm.2⟩,λi a ha=>by simp[hO.env i a ha],λi hi=>(hO.yS i hi).imp λms hm=>⟨dX,hm.2⟩,λk i j hk hn=>if e:k=1/\i=0/\j=0 then .inl e else hO.only k i j hk oN⟩) hl1 hl2 (hF:=λhs'=>ι _ _ _ p (zZ V a i) a s hP.sh tk1 ha' h0' hkd hrd hs') (h:=?_);rintro y H1 ⟨hO1,hy⟩;clear fx;have hbad:=Ra (p:=p) (R:=qm p n) (a:=a) (i:=i) (V:=V) (s:=s) (l:=k.body.drop (i+1)) h0' hl;have hret:s.kind=8->∀vs,z7 p (zZ V a i) a s.reads=(zZ V a i,vs)->∃v,vs=[v]/\ve p (qm p n) a V i (s::k.body.drop (i+1))=(zZ V a i,v):=λh8 vs hq=>Rd h0' hl h8 hq
 have hdo:s.kind≠8->∀vs,z7 p (zZ V a i) a s.reads=(zZ V a i,vs)->ve p (qm p n) a V i (s::k.body.drop (i+1))=if(kY p (qm p n) (zZ V a i) a s vs).en≠0 then(kY p (qm p n) (zZ V a i) a s vs,(0,0))else ve p (qm p n) a (kY p (qm p n) (zZ V a i) a s vs) (i+1) (k.body.drop (i+1)):=λh8 vs hq=>Rb h0' hl h8 hq
 have hsdo:∀vs,z7 p (zZ V a i) a s.reads=(zZ V a i,vs)->uZ p (qm p n) (zZ V a i) a s=kY p (qm p n) (zZ V a i) a s vs:=λvs h=>PR h0' h;obtain⟨hA,hvok,hcase,hlen,_⟩:=xW (a:=a) (l:=s.reads) tk1;generalize z7 p (zZ V a i) a s.reads=q at hO1 hy hbad hret hdo hsdo hA hvok hcase hlen;obtain⟨U,vs⟩:=q;simp only at hO1 hy hbad hret hdo hsdo hA hvok hcase hlen;have hT1:=hO1.top;simp only[jE]at hT1;obtain⟨d1,hd1⟩:∃c,U.qJ[a]?=Z c:=⟨_,gE (um ha' hA.grow.aq)⟩;have hE1:=hO1.env a d1 hd1;rcases hy with⟨hen,rfl,hp1⟩|⟨hen,rfl⟩
 case inr=>
  refine lW ?_<|jU t0 t1 t4 hp4 t21 t22 t23 hT hE hT1<|hE1;rw[hres,hbad hen];refine qE [] .nil mW ⟨by simp[hen],qd.fin (have om:=hO1;qd.re om)⟩
 obtain rfl:U=zZ V a i:=by
  rcases hcase with e|⟨e,he,h⟩
  .exact e
  .rw [h]at hen;exact absurd hen he
 by_cases h8:s.kind=8
 .have hb8:(s.kind==8)=B:=by simpa using h8
  obtain⟨⟨v1,v2⟩,rfl,hb⟩:=hret h8 _ rfl;refine lW ?_<|qg t0 t1 t4 hp4 t21 t22 t23 hT hE hT1 hE1 hp1<|hb8;rw[hres,hb];have ht0:(zZ V a i).en=0:=h0';refine qE [] .nil mW ⟨by simp[ht0],qd.fin (have om:=hO1;qd.re om)⟩
 have hb8:(s.kind==8)=M:=by simpa using h8
 have hres2:=hdo h8 _ rfl;rw[hres2]at hres;have hst:=hP.sh.fD _ k hk s hsm;have hSo:=EW (s:=s) (k:=k) (fz hP.sh n) tk1 hleft h0' ha' (by rw[hbV2,hdb];exact hst) tk2;rw[hsdo vs rfl]at hSo;have hk':p[(zZ V a i).qG a]?=Z k:=by rw[hbV2,hdb];exact hk
 refine lW ?_<|qg t0 t1 t4 hp4 t21 t22 t23 hT hE hT1 hE1 hp1<|hb8;intro K hK;refine kU (.s 8) (.u 2 0 0) (.inl rfl) (.inr td) ?_;have fx:=aI t0 (aI t1 (aI hT (aI hT1 (aI hp1 (aI hE hE1)))));refine It hO0 (w:=zZ V a i) ⟨by simp[hO1.top,jE],⟨by simp[hO1.wH.top],λj k hj hk=>by simp[hO1.wH.sc j k hj hk]⟩,by simp[hO1.out],Ad,hO1.run.imp λl hl=>⟨hl.1,A9⟩,DC,λk g hg=>by simp[hO1.bx k g hg],Ak,λk c hc=>(hO1.cls k c hc).imp λms hm=>⟨dX,hm.2⟩,λi a ha=>by simp[hO1.env i a ha],λi hi=>(hO1.yS i hi).imp λms hm=>⟨dX,hm.2⟩,λk i j hk hn=>if e:k=1/\i=0/\j=0 then .inl e else hO1.only k i j hk (by have e2:¬k=2:=(λe=>by rw[e]at hk;cases hk);simpa[hk,e,e2]using hn)⟩ vY hl1 hl2 (hF:=λhs'=>Sn gl p n hR _ (zZ V a i) a k s vs hP tk1 hleft h0' ha' hk' hsm h8 tk2 (hlen hen) hvok hs' vY) (h:=?_);rintro y H2 ⟨rfl,hO2⟩;clear fx;generalize kY p (qm p n) (zZ V a i) a s vs=U at hO2 hres hSo;have hAf:=hSo.tick hl;have hT2:=hO2.top;simp only[jE]at hT2;obtain⟨d2,hd2⟩:∃c,U.qJ[a]?=Z c:=⟨_,gE (um ha' hAf.grow.aq)⟩;have hE2:=hO2.env a d2 hd2;by_cases hen2:U.en=0
 .rw [if_neg tM]at hres;refine lW ?_<|qg t0 t1 t4 hp4 t21 t22 t23 hT hE hT1 hE1 hp1<|ql hT2 hE2<|hen2;exact⟨O k.body-(i+1),qA,i+1,U,rfl,qA,hres,hAf.ok,by have:=hAf.grow.left;omega,um ha' hAf.grow.aq,hen2,by rw[hAf.grow.qG hd];exact hbV,uV hl1 hAf.grow.aq,uV hl2 hAf.grow.Dl,by simp[t0,hT,hT1],by simp[t1,hE,hE1],tO,aJ,by simp[t21],by simp[t22],by simp[t23];exact qk qA qA,⟨by simp[hO2.top,jE,hen2],⟨by simp[hO2.wH.top,hen2],λj k hj hk=>by simp[hO2.wH.sc j k hj hk,hen2]⟩,by simp[hO2.out,hen2],by simp[hO2.zt,hen2],hO2.run.imp λl hl=>⟨hl.1,by simp[hl.2,hen2]⟩,by simp[hO2.qI,hen2],λk g hg=>by simp[hO2.bx k g hg,hen2],by simp[hO2.jG,hen2],λk c hc=>(hO2.cls k c hc).imp λms hm=>⟨DB,hm.2⟩,λi a ha=>by simp[hO2.env i a ha,hen2],λi hi=>(hO2.yS i hi).imp λms hm=>⟨DB,hm.2⟩,λk i j hk hn=>if e:k=1/\i=0/\j=0 then .inl e else hO2.only k i j hk oN⟩⟩
 .rw [if_pos tM]at hres;refine lW ?_<|qg t0 t1 t4 hp4 t21 t22 t23 hT hE hT1 hE1 hp1<|ql hT2 hE2<|hen2;rw[hres];refine qE [] .nil mW ⟨by simp[hen2],qd.fin (have om:=hO2;qd.re om)⟩
def OR(gl)(p:qC)(hP:zi p):∀n,mC gl 229 p n
 |0=>λH W a _ _ h=>absurd h qA
 |n+1=>qAP gl p n (OR gl p hP n) hP
abbrev Y1:qV:=.q 0<|.q 1<|.q 3<|.l 2 [3,0]<|.q 4<|.l 5 []<|.l 6 []<|.done
abbrev Y2:qV:=eG<|.l 9 [4,3,2,1,0]<|.l 10 [0]<|.q 11<|.q 12<|.l 13 []<|.done
def Dd(k:G2)(x:A)(h:A->jH G2->G:=by
 intro fx kk;refine qK ?_
 repeat((first|refine qP (id:=1) Y1 mixed ?_|refine qP (id:=3) Y2 mixed ?_);refine zC ?_;refine qK ?_)
 exact kk.h):G:=h x ⟨k⟩
def Ml(gl)(H:Nm->Option AO)(p:qC)(f:Nat)(hP:zi p)(hf:f<=150)(hN:∀k i j,H (.u k i j)=Y):
  qX prog gl 28 DM [jB p,iv f] H (λ_ y H'=>y=.pt Mn 0/\qd H' 229 p (v7 p f)) qw:=by
 have hw:=EV hP.sh hf;have hs:=hP.sh.bc;have hh:=hP.sh.jK;refine qX.q9 func28 [.tmp 4] ntmps28 (λ_=>zF) λC w g root hroot=>?_;have fx:=qW;have e1:=EQ gl p hs hh hP.sh.names;refine Dd ?_<|@fx;clear fx e1;intro K hK;rintro y H' ⟨rfl,hO⟩;obtain⟨ho1,ho2⟩:=hO.vj
 try refine⟨qB,?_⟩
 refine Dd ?_<| ho1;intro K hK;refine kU (.s 5) Mn (.inl rfl) (.inr (by simp[jt,hN])) ?_;have fx:=qW;refine Iv (h:=?_);clear fx;refine Dd ?_<| ho1;intro K hK;refine kU (.c Mn 0 6) (En 0) (.inl rfl) (.inr (by simp[jt,hN])) ?_;have fx:=qW;refine sR (λk i j he=>by simp[jt,hN]at he) (hF:=OR gl p hP 151 _ (jb f) 0 ?_ hw (by simp only[jb];omega) lK rfl qB) (h:=?_)
 .clear fx;refine⟨by simp[jE,jb],⟨kR,λj k hj hk=>Cv⟩,by simp[jb,qh],by simp[jb,vR],⟨[],qB,by simp[jb,zd]⟩,by simp[jb,aK],λk g hg=>by simp[jb]at hg,by simp[jb,aL],λk c hc=>by simp[jb]at hc,λi a ha=>?_,λi hi=>?_,λk i j hk hn=>?_⟩
  .have hi:i=0:=by
    have:=(gS ha).1;simp[jb]at this;omega
   subst hi;have ha':a=⟨0,0,jZ⟩:=by simpa[jb]using ha.symm
   subst ha';simp[kF]
   rfl
  .obtain rfl:i=0:=by simpa[jb]using hi
   exact⟨[],by simp[ud],by simpa[qM.yS,jb]using wN.nil⟩
  .by_cases e1:k=1/\i=0/\j=0
   .exact .inl e1
   .by_cases e7:k=7/\i=0/\j=0
    .exact .inr (.inl ⟨e7.1,by simp[jb,e7.2.1],e7.2.2⟩)
    .exact absurd hn (by simp[hk,e1,e7,hN])
 rintro y H1 ⟨rfl,hO1⟩;clear fx;have hT1:=hO1.top;simp only[jE]at hT1;have hme:(qm p 151 (jb f) 0).1=v7 p f:=rfl;rw[hme]at hO1 hT1;refine Dd ?_<| hT1;refine qE [] .nil qD ⟨qB,qd.fin (have om:=hO1;qd.re om)⟩
def xL(gl)(f:Int):qL prog gl 27 [iv f] (λ_ y _=>y=bv (decide (0<=f)&&decide (f<=150))):=by
 refine qL.q9 func27 [.tmp 2] ntmps27 λC w g root=>?_;by_cases h1:0<=f
 .by_cases h2:f<=150
  .skip
   refine qH ?_<|aI h1<|h2;refine qE [] .nil qD (by simp[h1,h2])
  .skip
   refine qH ?_<|aI h1<|h2;refine qE [] .nil qD (by simp[h1,h2])
 .skip
  refine qH ?_<| h1;refine qE [] .nil qD zY
end Go.Proofs.YtjgpejikjhojcaaGreatDoor
end
