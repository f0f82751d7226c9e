import Derived.Test.YtjgpejikjhojcaaGreatDoorR32
set_option linter.unusedSimpArgs false
set_option linter.unusedVariables false
set_option maxRecDepth 100000
set_option maxHeartbeats 4000000

section
namespace Go.Proofs.YtjgpejikjhojcaaGreatDoor
open Go Go.Hm Go.Proofs Tryz
abbrev Vk:qV:=ct<|.l 9 [4,3,2,1,0]<|.l 10 [4,3,2,1,0]<|.l 11 [0]<|.q 12<|.q 13<|.l 14 []<|.done
theorem Tw {ms:cD}:∀ e∈uJ ms,∀ f:Nm->Option Nm,e.1.tr f=e.1/\e.2.tr f=e.2:=by
 intro e he f;simp only [uJ,bV] at he;obtain⟨q,_,rfl⟩:=he;simp
theorem s5 {A G G2:Prop} (k:G2) (x:A) (h:A->jL G2->G:=by
 intro fx kk;refine qK ?_
 repeat ((first|refine qQ (id:=5) Vk mixed ?_);refine zK ?_;refine qK ?_)
 exact kk.h):G:=h x ⟨k⟩
theorem Pv (gl) (F:Nat) (p:qC) (n:Nat) (hR:ii gl F p n) (H:Nm->Option AO) (W:qL) (a b:Nat) (hP:zk p) (hw:zF p W) (hn:W.left<n) (h0:W.en=0) (hm:uf p W.qI b a) (hr:Room 2 W) (hO:qb H F p W) (hV:H (.u 2 0 0)=none) :
  qZ prog gl 193 DM [.pt Mn 0,vo a,iv b] H (λ_ y H'=>y=.zX [qW.av (bc p (qi p n) W b a).2,bv (decide ((bc p (qi p n) W b a).1.en=0))]/\qb H' F p (bc p (qi p n) W b a).1) zG:=by
 obtain⟨k,hk,hpk⟩:=hm.shape;obtain⟨qy,hkE⟩:=gS hk;have hT:=hO.top;simp only [zx] at hT
 have hpos:¬ W.qI.length=0:=by
  obtain⟨a,ha,_⟩:=hw.a0;have:=(gS ha).1;omega
 have hpos':¬ 0=W.qI.length:=λe=>hpos e.symm
 have hupl:¬ a=W.qI.length:=by
  obtain⟨c,_,e,_⟩:=hm;have:=(gS e).1;omega
 have hno:∀ j,H (.u 7 W.qI.length j)=none:=λj=>by
  cases e:H (.u 7 W.qI.length j) with
  | none=>rfl
  | some o =>
   rcases hO.only 7 W.qI.length j rfl xJ with⟨h,_⟩|⟨_,h,_⟩|⟨h,_⟩
   .cases h
   .omega
   .cases h
 have hbeg:yF p W b a [] 0={ j2 p W b a [] with stack:=W.stack }:=by
  simp [yF,jT,j2,cK]
 have hcl:bc p (qi p n) W b a=if (j8 p (qi p n) W b a []).1.en≠0 then ((j8 p (qi p n) W b a []).1,(0,0)) else
  ({ (j8 p (qi p n) W b a []).1 with qT:=(j8 p (qi p n) W b a []).1.qT++[(j8 p (qi p n) W b a []).1.vars (some W.qI.length)] },(3,((j8 p (qi p n) W b a []).1.qT.length:Int))):=rfl
 obtain⟨⟨e1,e2,e3⟩,e4⟩:=Br (vs:=[]) (eZ hP.sh n) hw hn h0 hm qB (hr.mono qA);have hrc:(j8 p (qi p n) W b a []).1.qT.length<=1000:=by have:=e1.w8;omega
 have hlen:W.qI.length<(j8 p (qi p n) W b a []).1.qI.length:=by
  obtain⟨g1,g2⟩:=rN (vs:=[]) hw hm (λv hv=>rZ) (hr.mono qA);obtain⟨⟨_,r2,_⟩,_⟩:=eZ hP.sh n (j2 p W b a []) W.qI.length g1 hn rV h0;have:=r2.aF;unfold j8 aw
  split <;> simp [j2] at this ⊢ <;> omega
 have hlf:W.qH.length<=(j8 p (qi p n) W b a []).1.qH.length:=e2.CL;have hent:=JA gl F p n hR (W:=W) (b:=b) (up:=a) (vs:=[]);refine qZ.q9 func193 [.cell 6 115,.tmp 7] ntmps193 (λ_=>zC) λC w g root hroot=>?_;refine s5 ?_<|qd;intro K hK;have fx:=qd;refine Gv (h:=?_);clear fx;refine s5 ?_<| hT;intro K hK;refine wa (.s 8) (En W.qI.length) (.inl rfl) (.inr r9) ?_;have fx:=hT;refine kP hO (w:=yF p W b a [] 0) ?_ (by simp [yF,jT]) (qa _) (hF:=λhs=>hent _ hP hw hn h0 hm qB (hr.mono qA) (by rw [<- hbeg];exact hs) (by simp [hV])) (h:=?_)
 .clear fx;refine⟨by simp [zx,yF,jT,hO.top,hpos'],⟨r7,λj k hj hk=>rk⟩,by simp [yF,jT,hO.out],by simp [yF,jT,hO.zo],hO.run.imp λl hl=>⟨λi hi=>by have:=hl.1 i hi;simp [yF,jT];omega,?_⟩,by simp [yF,jT,hO.qH],λk' g hg=>?_,by simp [yF,jT,hO.jA],λk c hc=>(hO.cls k c hc).imp λms hm=>⟨cQ,hm.2⟩,λi d hd=>?_,λi hi=>?_,λk' i j hk' hn=>?_⟩
  .simp [hl.2,yF];refine sO λi hi=>?_
   have hlt:i<W.qI.length:=by
    rcases y9.1 hi with e|e
    .exact hw.jl i e
    .exact hl.1 i e
   have hne:¬ i=W.qI.length:=qA;simp [hne]
  .have hgl:¬ g.2=W.qI.length:=by
    obtain⟨c,_,e,_⟩:=hw.qH k' g hg;have:=(gS e).1;omega
   simp [hO.bx k' g hg,hgl]
  .simp only [yF,jT] at hd;rcases du i W.qI.length with hlt|hge
   .rw [ub hlt] at hd;have hne:¬ i=W.qI.length:=qA;have hne':¬ W.qI.length=i:=qA;by_cases e0:i=0
    .subst e0;simp [hO.env 0 d hd,ud,hne,hne']
    .have hup:=(hw.up i d hd qA).1;have hupn:¬ d.up=W.qI.length:=qA;simp [hO.env i d hd,ud,e0,hne,hne',hupn]
   .rw [cG hge] at hd
    have hi:i=W.qI.length:=by
     have:=(gS hd).1;simp at this;omega
    subst hi;simp at hd;subst hd;simp [ud,hpos,hupl]
  .by_cases e:i=W.qI.length
   .subst e;rw [H9 (vs:=[]) hpos hk];exact⟨[],qB,by simpa [cK] using kn.nil⟩
   .rw [H8 e]
    have hlt:i<W.qI.length:=by
     simp [yF,jT] at hi;omega
    have hne':¬ W.qI.length=i:=qA;exact (hO.yJ i hlt).imp λms hm=>⟨by simp [hm.1,e,hne'],hm.2⟩
  .by_cases e7:k'=7/\i=W.qI.length/\j=0
   .exact .inr (.inl ⟨e7.1,B5,e7.2.2⟩)
   .by_cases e1:k'=1/\i=0/\j=0
    .exact .inl e1
    .have hn':H (.u k' i j)≠none:=by simpa [hk',e1,e7] using hn
     rcases hO.only k' i j hk' hn' with h|h|h
     .exact .inl h
     .exact .inr (.inl ⟨h.1,B5,h.2.2⟩)
     .exact .inr (.inr h)
 rintro y H2 ⟨rfl,hO2⟩;clear fx;generalize j8 p (qi p n) W b a []=q2 at hO2 hcl e1 hrc hlen hlf;obtain⟨U,v1,v2⟩:=q2;simp only at hO2 hcl e1 hrc hlen hlf;have hT2:=hO2.top;simp only [zx] at hT2;obtain⟨d,hd⟩:=gX hlen;have hE2:=hO2.env W.qI.length d hd;simp only [ud,hpos,if_false] at hE2;by_cases hen2:U.en=0
 case neg =>
  rw [if_pos hen2] at hcl;refine s5 ?_<|zD hT hT2 hen2<|hE2;rw [hcl];refine qF [] .nil qE ⟨by simp [hen2],qb.fin (have om:=hO2;qb.re om)⟩
 rw [if_neg rm] at hcl;obtain⟨ms,hms,hmo⟩:=hO2.yJ W.qI.length hlen;have hnv:U.yJ W.qI.length=U.vars (some W.qI.length):=by simp [qL.yJ,qL.vars,hpos,hd]
 rw [hnv] at hmo;generalize hnve:U.vars (some W.qI.length)=nv at hmo hcl hnv;refine s5 ?_<|zN hT hT2 hen2 hE2<|hms;intro K hK;have fx:=aI hT (aI hT2 (aI hE2 hms));refine qB6 rfl (n:=.c (En W.qI.length) 0 1) (es:=uJ ms) (hsc:=Tw) (h:=?_);clear fx;have hC:=hO2.jA;have hwr:IntKind.i64.wrap (U.qT.length:Int)=U.qT.length:=qm qA qA;refine s5 ?_<|zD hT hT2 hE2<|hms;refine wa (.c (.s 35) 0 0) (.c Mn (U.qT.length+1) 9) (.inl rfl) (.inl rfl) ?_;refine s5 ?_<|jI hT hT2 hC hrc hwr hE2<|hms;rw [hcl];have hap:wZ Mn U.qT++[[.mp (.c Mn (U.qT.length+1) 9)]]=wZ Mn (U.qT++[nv]):=QD;refine qF [] .nil qE ⟨by simp [hen2],qb.fin ⟨by simp [hT2,zx],⟨by simp [hO2.kg.top],λj k hj hk=>by simp [hO2.kg.sc j k hj hk]⟩,by simp [hO2.out],by simp [hO2.zo],hO2.run.imp λl hl=>⟨hl.1,xN⟩,by simp [hO2.qH],λk g hg=>by simp [hO2.bx k g hg],?_,λk c hc=>?_,λi a ha=>by simp [hO2.env i a ha],λi hi=>?_,λk i j hk hn=>if e:k=1/\i=0/\j=0 then .inl e else hO2.only k i j hk mS⟩⟩
 .simp [<- hap];rw [yG qB];refine Ik λi c hc=>?_;have hne:¬ i=U.qT.length:=BU;have hne':¬ U.qT.length=i:=qA;simp [hne,hne']
 .simp only at hc;rcases du k U.qT.length with hlt|hge
  .rw [ub hlt] at hc;have hne:¬ k=U.qT.length:=qA;have hne':¬ U.qT.length=k:=qA;exact (hO2.cls k c hc).imp λms hm=>⟨by simp [hm.1,hne,hne'],hm.2⟩
  .rw [cG hge] at hc
   have hi:k=U.qT.length:=by
    have:=(gS hc).1;simp at this;omega
   subst hi;simp at hc;subst hc;exact⟨ms,qB,hmo⟩
 .by_cases e:i=W.qI.length
  .subst e;have hnv':({ U with qT:=U.qT++[nv] }:qL).yJ W.qI.length=nv:=hnv;exact⟨ms,by simp [hms],by rw [hnv'];exact hmo⟩
  .exact (hO2.yJ i hi).imp λms hm=>⟨by simp [hm.1,e],hm.2⟩
abbrev Vl:qV:=bF<|.l 8 [7,6,5,4,3,2,1,0]<|.l 9 []<|.done
@[simp] theorem nilS_nfn:jV (AV.sc .nilFunc)=false:=rfl
@[simp] theorem nilS_fn {f:Fn} {xs ys:List AV}:jV (AV.fn f xs ys)=false:=rfl
theorem s6 {A G G2:Prop} (k:G2) (x:A) (h:A->jL G2->G:=by
 intro fx kk;refine qK ?_
 repeat ((first|refine qQ (id:=3) Vl mixed ?_);refine zK ?_;refine qK ?_)
 exact kk.h):G:=h x ⟨k⟩
theorem P0 (gl) (p:qC) (n:Nat) (hR:ii gl 229 p n) (H:Nm->Option AO) (W:qL) (f:qW) (lo:Nat) (vs all:List qW) (hP:zk p) (hw:zF p W) (hn:W.left<n) (h0:W.en=0) (hf:ze W.qH.length W.qT.length f) (hv:∀ v∈vs,ze W.qH.length W.qT.length v) (hr:Room 1 W)
  (hall:all.drop lo=vs) (hlo:lo+vs.length=all.length) (hv2:vs.length<=1) (hO:qb H 229 p W) (hL:H (.u 2 0 0)=some (.row 2 (zh all))) :
  qZ prog gl 194 km [.pt Mn 0,qW.av f,.hs (.u 2 0 0) 2 lo vs.length] H (λ_ y H'=>y=.zX [qW.av (uH p (qi p n) W f vs).2,bv (decide ((uH p (qi p n) W f vs).1.en=0))]/\qb H' 229 p (uH p (qi p n) W f vs).1) zG:=by
 have hT:=hO.top;simp only [zx] at hT;obtain⟨f1,f2⟩:=f;refine qZ.q9 func194 [.cell 6 115,.tmp 7] ntmps194 (λ_=>oE) λC w g root hroot=>?_;by_cases h2:f1=2
 .subst h2;have hf2:=hf.num;have hf3:=hf.fn rfl;simp only at hf2 hf3;obtain⟨i,rfl⟩:∃ i:Nat,f2=i:=⟨f2.toNat,qA⟩;have hil:i<W.qH.length:=qA;obtain⟨⟨g1,g2⟩,hg⟩:∃ g,W.qH[i]?=some g:=⟨_,gE hil⟩;obtain⟨_,hgE⟩:=gS hg;have hm:=hw.qH i _ hg;obtain⟨k,hk,hpk⟩:=hm.shape;have hF:=hO.qH;have hcc:fY 229 p i (g1,g2)=[iv (vl p g1),.fn (.func 229) [] [.pt (.u 8 i 0) 0,.pt (.u 8 i 1) 0,.pt (.u 8 i 2) 0,.pt (.u 8 i 3) 0]]:=rfl;obtain⟨c1,c2,c3,c4⟩:=hO.bx i _ hg;simp only at hm hk hpk c1 c2 c3 c4;by_cases hl:vl p g1=vs.length
  .have hc:uH p (qi p n) W (2,(i:Int)) vs=j8 p (qi p n) W g1 g2 vs:=by
    simp [uH,hg,hl]
   have hlb:((vl p g1:Int)==(vs.length:Int))=true:=by rw [hl];simp
   refine s6 ?_<|jN hT hF hil hg hgE hcc hlb<|@qz;intro K hK;have fx:=aI hT hF;refine qB5 (xs:=[]) (ys:=[.pt (.u 8 i 0) 0,.pt (.u 8 i 1) 0,.pt (.u 8 i 2) 0,.pt (.u 8 i 3) 0]) hO (have om:=hO;qb.re om) ov (qa _) (qa _) (hF:=λhs=>Pz gl _ p n hR _ W i g1 g2 lo vs all hP hw hn h0 hg hv hr hall hlo hl hv2 hs ov) (h:=?_);rintro y H1 ⟨rfl,hO1⟩;clear fx;have hT1:=hO1.top;simp only [zx] at hT1;refine s6 ?_<|aI hT<|hT1;rw [hc];refine qF [] .nil qE ⟨qB,qb.fin (have om:=hO1;qb.re om)⟩
  .have hc:uH p (qi p n) W (2,(i:Int)) vs=({ W with en:=6 },(0,0)):=by
    simp [uH,hg,hl]
   have hlb:((vl p g1:Int)==(vs.length:Int))=false:=by
    rw [beq_eq_false_iff_ne];omega
   refine s6 ?_<|jN hT hF hil hg hgE hcc hlb<|@qz;intro K hK;have fx:=hT;refine kP hO (have om:=hO;qb.re om) (qa _) (qa _) (hF:=λhs=>iS _ _ _ p W 6 hs) (h:=?_);rintro y H2 ⟨rfl,hO2⟩;clear fx;have hT2:=hO2.top;simp only [zx] at hT2;refine s6 ?_<|aI hT<|hT2;rw [hc];refine qF [] .nil qE ⟨qB,qb.fin (have om:=hO2;qb.re om)⟩
 .have hb1:(f1==2)=false:=mb;have hc:uH p (qi p n) W (f1,f2) vs=({ W with en:=5 },(0,0)):=by simp [uH,h2]
  refine s6 ?_<|qk hT hb1<|@qz;intro K hK;have fx:=hT;refine kP hO (have om:=hO;qb.re om) (qa _) (qa _) (hF:=λhs=>iS _ _ _ p W 5 hs) (h:=?_);rintro y H2 ⟨rfl,hO2⟩;clear fx;have hT2:=hO2.top;simp only [zx] at hT2;refine s6 ?_<|aI hT<|hT2;rw [hc];refine qF [] .nil qE ⟨qB,qb.fin (have om:=hO2;qb.re om)⟩
abbrev Vm:qV:=a7<|.l 7 []<|.q 8<|.q 9<|.l 10 []<|.l 11 []<|.done
abbrev Lo:qV:=aL<|.l 6 []<|.q 7<|.q 8<|.l 9 []<|.l 10 []<|.done
theorem eP {A G G2:Prop} (k:G2) (x:A) (h:A->jL G2->G:=by
 intro fx kk;refine qK ?_
 repeat ((first|refine qQ (id:=7) Vm mixed ?_|refine qQ (id:=13) Lo mixed ?_|refine qQ (id:=14) Lo mixed ?_);refine zK ?_;refine qK ?_)
 exact kk.h):G:=h x ⟨k⟩
theorem qBG (gl) (p:qC) (n:Nat) (hR:ii gl 229 p n) (H:Nm->Option AO) (W:qL) (a:Nat) (k:qX) (s:q8) (vs:List qW) (hP:zk p) (hw:zF p W) (hn:W.left<n) (h0:W.en=0) (ha:a<W.qI.length) (hk:p[W.qG a]?=some k) (hs:s∈k.body) (hkd:0<=s.kind/\s.kind<=6) (hr:Room 2 W)
  (hl:vs.length=s.reads.length) (hvok:∀ v∈vs,ze W.qH.length W.qT.length v) (hO:qb H 229 p W) (hL:H (.u 2 0 0)=some (.row 2 (zh vs))) :
  qZ prog gl 145 km [.pt Mn 0,vo a,s.av,.hs (.u 2 0 0) 2 0 vs.length] H (λ_ y H'=>y=.zX [qW.av (yN p (qi p n) W a s vs).2,bv (decide ((yN p (qi p n) W a s vs).1.en=0))]/\qb H' 229 p (yN p (qi p n) W a s vs).1) zG:=by
 have hT:=hO.top;simp only [zx] at hT;have hst:=hP.sh.ed _ k hk s hs;have hnm:=hP.sh.names k (gM hk);have hp1:=hL;obtain⟨c,hc⟩:=gX ha;have hE:=hO.env a c hc;obtain⟨kd,to,sa,sb⟩:=s;simp only at hkd;refine qZ.q9 func145 [.cell 8 115,.tmp 9] ntmps145 (λ_=>oE) λC w g root hroot=>?_;have hkc:kd=0\/kd=1\/kd=2\/kd=3\/kd=4\/kd=5\/kd=6:=qA;rcases hkc with rfl|rfl|rfl|rfl|rfl|rfl|rfl
 .have hw0:yN p (qi p n) W a ⟨0,to,sa,sb⟩ vs=(W,(1,sa)):=b6;refine eP ?_<|qk hT hp1<|@qz;rw [hw0];refine qF [] .nil qE ⟨vg,qb.fin (have om:=hO;qb.re om)⟩
 .obtain⟨u,rfl⟩:∃ u,vs=[u]:=by
   match vs,hl with
   | [u],_=>exact⟨u,rfl⟩
   | [],h=>simp [q8.reads] at h
   | _::_::_,h=>simp [q8.reads] at h
  have hw0:yN p (qi p n) W a ⟨1,to,sa,sb⟩ [u]=(W,u):=b6;refine eP ?_<|qk hT hp1<|@qz;rw [hw0];refine qF [] .nil qE ⟨vg,qb.fin (have om:=hO;qb.re om)⟩
 .obtain⟨u,v,rfl⟩:∃ u v,vs=[u,v]:=by
   match vs,hl with
   | [u,v],_=>exact⟨u,v,rfl⟩
   | [],h=>simp [q8.reads] at h
   | [_],h=>simp [q8.reads] at h
   | _::_::_::_,h=>simp [q8.reads] at h
  have hw0:yN p (qi p n) W a ⟨2,to,sa,sb⟩ [u,v]=uM W u v:=b6;refine eP ?_<|qk hT hp1<|@qz;intro K hK;have fx:=aI hT hp1;refine kP hO (have om:=hO;qb.re om) (qa _) (qa _) (hF:=λhs=>Ob _ _ _ p W u v h0 (hvok u qB) (hvok v qB) hs) (h:=?_);rintro y H2 ⟨rfl,hO2⟩;clear fx;have hT2:=hO2.top;simp only [zx] at hT2;refine eP ?_<|zD hT hp1 hT2<|@qz;rw [hw0];refine qF [] .nil qE ⟨qB,qb.fin (have om:=hO2;qb.re om)⟩
 .obtain⟨q,hq1,hq2,hq3,hq4⟩:=zt.made hst (.inl rfl);simp only at hq1 hq3;obtain⟨A,rfl⟩:∃ A:Nat,sa=A:=⟨sa.toNat,qA⟩;simp only [uR] at hq1;have hw0:yN p (qi p n) W a ⟨3,to,(A:Int),sb⟩ vs=({ W with qH:=W.qH++[(A,a)] },(2,(W.qH.length:Int))):=b6;refine eP ?_<|qk hT hp1<|@qz;intro K hK;have fx:=hT;refine kP hO (have om:=hO;qb.re om) (qa _) (qa _) (hF:=λhs=>R4 _ _ p W a A q hw ha hq1 (hr.mono qA) (by have hh:=hP.sh.head A q hq1;simp only [uq] at hh;split at hh <;> omega) hs) (h:=?_);rintro y H2 ⟨rfl,hO2⟩;clear fx;have hT2:=hO2.top;simp only [zx] at hT2;refine eP ?_<|zD hT hp1 hT2<|@qz;rw [hw0];refine qF [] .nil qE ⟨vg,qb.fin (have om:=hO2;qb.re om)⟩
 .have hm:=G7 hst ha (.inr rfl);obtain⟨q,hq1,hq2,hq3,hq4⟩:=zt.made hst (.inr rfl);simp only at hm hq3;obtain⟨A,rfl⟩:∃ A:Nat,sa=A:=⟨sa.toNat,qA⟩;simp only [uR] at hm;have hw0:yN p (qi p n) W a ⟨4,to,(A:Int),sb⟩ vs=bc p (qi p n) W A a:=b6;refine eP ?_<|qk hT hp1<|@qz;intro K hK;have fx:=hT;refine kP hO (have om:=hO;qb.re om) (qa _) (qa _) (hF:=λhs=>Pv gl _ p n hR _ W a A hP hw hn h0 hm hr hs qB) (h:=?_);rintro y H2 ⟨rfl,hO2⟩;clear fx;have hT2:=hO2.top;simp only [zx] at hT2;refine eP ?_<|zD hT hp1 hT2<|@qz;rw [hw0];refine qF [] .nil qE ⟨qB,qb.fin (have om:=hO2;qb.re om)⟩
 .have hpos:0<vs.length:=by
   rw [hl];by_cases e:sb=-1 <;> simp [q8.reads,e]
  have hlt:vs.length<=2:=by
   rw [hl];by_cases e:sb=-1 <;> simp [q8.reads,e]
  obtain⟨u,tl,rfl⟩:∃ u tl,vs=u::tl:=by
   match vs,hpos with
   | u::tl,_=>exact⟨u,tl,rfl⟩
  have htl:tl.length<=1:=by simp at hlt;omega
  have hw0:yN p (qi p n) W a ⟨5,to,sa,sb⟩ (u::tl)=uH p (qi p n) W u tl:=b6;have hle1:(1:Int)<=(tl.length:Int)+1:=qA;have htn:((tl.length:Int)+1).toNat=tl.length+1:=qA;refine eP ?_<|jH hT hp1 htl hle1 htn<|@qz;intro K hK;have fx:=aI hT hp1;refine Gt hO (have om:=hO;qb.re om) uS (qa _) (qa _) (hF:=λhs=>P0 gl p n hR _ W u 1 tl (u::tl) hP hw hn h0 (hvok u qB) (λv hv=>hvok v sF) (hr.mono qA) rfl qu htl hs uS) (h:=?_);rintro y H2 ⟨rfl,hO2⟩;clear fx;have hT2:=hO2.top;simp only [zx] at hT2;refine eP ?_<|jI hT hp1 hT2 htl hle1 htn<|@qz;rw [hw0];refine qF [] .nil qE ⟨qB,qb.fin (have om:=hO2;qb.re om)⟩
 .obtain⟨u,rfl⟩:∃ u,vs=[u]:=by
   match vs,hl with
   | [u],_=>exact⟨u,rfl⟩
   | [],h=>simp [q8.reads] at h
   | _::_::_,h=>simp [q8.reads] at h
  have hsb:0<=sb/\sb<=7:=by
   simp only [zt] at hst;simp at hst;omega
  obtain⟨x,rfl⟩:∃ x:Nat,sb=x:=⟨sb.toNat,qA⟩;have hw0:yN p (qi p n) W a ⟨6,to,sa,(x:Int)⟩ [u]=ut W u x:=b6;refine eP ?_<|qk hT hp1<|@qz;intro K hK;have fx:=aI hT hp1;refine kP hO (have om:=hO;qb.re om) (qa _) (qa _) (hF:=λhs=>PC _ _ _ p W u x h0 hw (hvok u qB) qA hs) (h:=?_);rintro y H2 ⟨rfl,hO2⟩;clear fx;have hT2:=hO2.top;simp only [zx] at hT2;refine eP ?_<|zD hT hp1 hT2<|@qz;rw [hw0];refine qF [] .nil qE ⟨qB,qb.fin (have om:=hO2;qb.re om)⟩
abbrev Vo:qV:=bF<|.l 8 [4,3,2,1,0]<|.l 9 [4,3,2,1,0]<|.l 10 [0]<|.q 11<|.q 12<|.l 13 []<|.done
abbrev Vp:qV:=a7<|.l 7 []<|.done
def kE (p:qC) (R:qL->Nat->qL×qW) (W:qL) (a:Nat) (s:q8) (vs:List qW):qL :=
 if s.kind=9\/s.kind=10 then W else if s.kind=11 then aN p W a s.to else
 if s.kind=7 then { W with out:=W.out++[Hm.shown (vs.getD 0 (0,0))] } else
 if (yN p R W a s vs).1.en≠0 then (yN p R W a s vs).1 else di p (yN p R W a s vs).1 a s.to (yN p R W a s vs).2
theorem NH {p:qC} {R:qL->Nat->qL×qW} {W:qL} {a:Nat} {s:q8} {vs:List qW} (h0:W.en=0) (h:zW p W a s.reads=(W,vs)):uD p R W a s=kE p R W a s vs:=by
 have hv:vO p R W a s=yN p R W a s vs:=by
  unfold vO;rw [h];simp [h0]
 by_cases h7:s.kind=7
 .have hv7:vO p R W a s=(W,vs.getD 0 (0,0)):=by
   rw [hv];simp [yN,h7]
  simp [uD,kE,h7,hv7,h0]
 .simp only [uD,kE,hv,h7,if_false]
theorem gy {A G G2:Prop} (k:G2) (x:A) (h:A->jL G2->G:=by
 intro fx kk;refine qK ?_
 repeat ((first|refine qQ (id:=6) Vo mixed ?_|refine qQ (id:=14) Vp mixed ?_);refine zK ?_;refine qK ?_)
 exact kk.h):G:=h x ⟨k⟩
theorem QV (gl) (p:qC) (n:Nat) (hR:ii gl 229 p n) (H:Nm->Option AO) (W:qL) (a:Nat) (k:qX) (s:q8) (vs:List qW) (hP:zk p) (hw:zF p W) (hn:W.left<n) (h0:W.en=0) (ha:a<W.qI.length) (hk:p[W.qG a]?=some k) (hs:s∈k.body) (h8:s.kind≠8) (hr:Room 2 W)
  (hl:vs.length=s.reads.length) (hvok:∀ v∈vs,ze W.qH.length W.qT.length v) (hO:qb H 229 p W) (hL:H (.u 2 0 0)=some (.row 2 (zh vs))) :
  qZ prog gl 101 km [.pt Mn 0,vo a,s.av,.hs (.u 2 0 0) 2 0 vs.length] H (λ_ y H'=>y=bv (decide ((kE p (qi p n) W a s vs).en=0))/\qb H' 229 p (kE p (qi p n) W a s vs)) zG:=by
 have hh:=hP.sh.jj;have hT:=hO.top;simp only [zx] at hT;have hst:=hP.sh.ed _ k hk s hs;have hnm:=hP.sh.names k (gM hk);have hkd:=hnm.kinds s hs;have hto:=hnm.zB s hs;have hvl:=qBG gl p n hR;have hp1:=hL;obtain⟨c,hc⟩:=gX ha;have hE:=hO.env a c hc;obtain⟨kd,to,sa,sb⟩:=s;simp only at h8 hkd hto;obtain⟨x,rfl⟩:∃ x:Nat,to=x:=⟨to.toNat,qA⟩;have hx7:0<=(x:Int)/\(x:Int)<=7:=qA;refine qZ.q9 func101 [.tmp 8] ntmps101 (λ_=>oE) λC w g root hroot=>?_;by_cases h9:kd=9
 .subst h9;have hq:kE p (qi p n) W a ⟨9,x,sa,sb⟩ vs=W:=by simp [kE]
  refine gy ?_<| hT;rw [hq];refine qF [] .nil qE ⟨vg,qb.fin (have om:=hO;qb.re om)⟩
 by_cases h10:kd=10
 .subst h10;have hq:kE p (qi p n) W a ⟨10,x,sa,sb⟩ vs=W:=by simp [kE]
  refine gy ?_<| hT;rw [hq];refine qF [] .nil qE ⟨vg,qb.fin (have om:=hO;qb.re om)⟩
 have hb9:(kd==9)=false:=by simpa using h9
 have hb10:(kd==10)=false:=by simpa using h10
 by_cases h11:kd=11
 .subst h11;have hq:kE p (qi p n) W a ⟨11,x,sa,sb⟩ vs=aN p W a x:=by simp [kE]
  refine gy ?_<| hT;intro K hK;have fx:=hT;refine kP hO (have om:=hO;qb.re om) (qa _) (qa _) (hF:=λhs=>QY _ _ _ p W a x hP.sh hw ha qA h0 hs) (h:=?_);rintro y H1 ⟨rfl,hO1⟩;clear fx;have hT1:=hO1.top;simp only [zx] at hT1;refine gy ?_<|aI hT<|hT1;rw [hq];refine qF [] .nil qE ⟨qB,qb.fin (have om:=hO1;qb.re om)⟩
 have hb11:(kd==11)=false:=by simpa using h11
 by_cases h7:kd=7
 .subst h7
  obtain⟨u,rfl⟩:∃ u,vs=[u]:=by
   match vs,hl with
   | [u],_=>exact⟨u,rfl⟩
   | [],h=>simp [q8.reads] at h
   | _::_::_,h=>simp [q8.reads] at h
  have hq:kE p (qi p n) W a ⟨7,x,sa,sb⟩ [u]={ W with out:=W.out++[Hm.shown u] }:=by simp [kE]
  have hU:=hO.out;have hol:=hw.w9;have hol':W.out.length<=1000:=qA;have hap:qj W.out++[[iv (Hm.shown u)]]=qj (W.out++[Hm.shown u]):=wJ;have hsh:=Er gl u;obtain⟨u1,u2⟩:=u;have fx:=zN hT hU hol' hp1<|@qz;have c1:=hsh;refine gy ?_<|@fx;clear fx c1;rw [hq];refine qF [] .nil qE ⟨vg,qb.fin ⟨by simp [zx,hT],⟨r7,λj k hj hk=>rk⟩,?_,rr,hO.run.imp λl hl=>⟨hl.1,xN⟩,rp,λk g hg=>by simp [hO.bx k g hg],xP,λk c hc=>(hO.cls k c hc).imp λms hm=>⟨cQ,hm.2⟩,λi a ha=>by simp [hO.env i a ha],λi hi=>(hO.yJ i hi).imp λms hm=>⟨cQ,hm.2⟩,λk i j hk hn=>if e:k=1/\i=0/\j=0 then .inl e else hO.only k i j hk mS⟩⟩;simp
 have hb7:(kd==7)=false:=by simpa using h7
 have hk6:0<=kd/\kd<=6:=qA
 have hq:kE p (qi p n) W a ⟨kd,x,sa,sb⟩ vs=if (yN p (qi p n) W a ⟨kd,x,sa,sb⟩ vs).1.en≠0 then (yN p (qi p n) W a ⟨kd,x,sa,sb⟩ vs).1 else di p (yN p (qi p n) W a ⟨kd,x,sa,sb⟩ vs).1 a x (yN p (qi p n) W a ⟨kd,x,sa,sb⟩ vs).2:=by
  simp only [kE,h9,h10,h11,h7,if_false,false_or]
 refine gy ?_<|zN hT hb9 hb10 hb11<|hb7;intro K hK;have fx:=hT;refine Gt hO (have om:=hO;qb.re om) uS (qa _) (qa _) (hF:=λhs'=>hvl _ W a k ⟨kd,x,sa,sb⟩ vs hP hw hn h0 ha hk hs hk6 hr hl hvok hs' uS) (h:=?_);rintro y H1 ⟨rfl,hO1⟩;clear fx;obtain⟨hA,hvok1⟩:=Gr (vs:=vs) (eZ hP.sh n) hw hn h0 ha hst hvok hr;generalize yN p (qi p n) W a ⟨kd,x,sa,sb⟩ vs=q at hO1 hA hvok1 hq;obtain⟨V,v⟩:=q;simp only at hO1 hA hvok1 hq;have hT1:=hO1.top;simp only [zx] at hT1;have haV:a<V.qI.length:=uQ ha hA.grow.aF;have hla:=hA.grow.aF;have hlf:=hA.grow.CL;obtain⟨c1,hc1⟩:=gX haV;have hE1:=hO1.env a c1 hc1;by_cases hen:V.en=0
 case neg =>
  rw [if_pos hen] at hq;obtain⟨v1,v2⟩:=v;refine gy ?_<|zN hT hT1 hE hE1<|hen;rw [hq];refine qF [] .nil qE ⟨by simp [hen],qb.fin (have om:=hO1;qb.re om)⟩
 rw [if_neg dU] at hq;obtain⟨hnm1,hil⟩:=CP (x:=(x:Int)) hh hA.ok haV;have hnm0:=hnm1;obtain⟨o,ho⟩:∃ o,Hm.yf p (V.qG a) (zI p (V.qG a) x)=o:=⟨_,rfl⟩;obtain⟨l,hll⟩:∃ l,V.loc p a x=l:=⟨_,rfl⟩;have hhl:=Ep gl (F:=229) (p:=p) (W:=V) (a:=a) (x:=x);rw [ho,hll] at hhl;rw [hll] at hnm1 hil;obtain⟨i,hi⟩:∃ i,w6 l=i:=⟨_,rfl⟩;rw [hi] at hnm1 hil hhl;obtain⟨v1,v2⟩:=v;refine gy ?_<|zN hT hT1 hE hE1<|hen;intro K hK;have fx:=aI hT hT1;refine kP hO (have om:=hO1;qb.re om) hla hlf (hF:=λhs=>hhl _ hP.sh hA.ok haV qA hs) (h:=?_);rintro y H2 ⟨rfl,hO2⟩;clear fx;have hT2:=hO2.top;simp only [zx] at hT2;obtain⟨d,hd⟩:=gX hil;have hE2:=hO2.env i d hd;simp only [ud] at hE2;have hE2a:=hO2.env a c1 hc1;obtain⟨ms,hms,hmo⟩:=hO2.yJ i hil;rw [hnm1] at hmo
 have hstq:di p V a x (v1,v2)=V.set l x (some (v1,v2)):=by
  unfold di;rw [hll]
 refine gy ?_<|jN hT hT1 hE hE1 hT2 hE2 hE2a<|hms;intro K hK;refine kJ (λst=>st.tm 61=.mp (.c (En i) 0 1)/\st.tm 63=iv x/\st.tm 64=qW.av (v1,v2)/\st.hp (.c (En i) 0 1)=some (.map (uJ ms))/\qb st.hp 229 p V) ⟨by simp [hT2,hE2],qB,qB,by simp [hms],(have om:=hO2;qb.re om)⟩ ?_;rintro st ⟨t61,t63,t64,hms',hO3⟩;have fx:=aI t61 (aI t63 (aI t64 hms'));refine Nh (h:=?_);clear fx;refine gy ?_<| hT;rw [hq,hstq];refine qF [] .nil qE ⟨by rw [na.2.2.2.2.2.2];simp [hen],qb.fin (F4 hh hA.ok haV qA hll hnm0 hO3 (hmo.set hx7) λm hm=>?_)⟩;rw [hi];simp
abbrev Vq:qV:=ea<|.done
abbrev Vr:qV:=kf<|.l 11 [5,4,3,2,1,0]<|.l 12 [5,0]<|.q 13<|.q 14<|.l 15 []<|.done
theorem T4 {p:qC} {w:qL} {a:Nat} {x:Int} (h0:w.en=0):(jY p w a x).1.en≠0->(jY p w a x).2=(0,0):=by
 unfold jY
 repeat' split
 all_goals simp [h0]
theorem K8 {p:qC} {w:qL} {a:Nat} {x:Int} (h0:w.en=0):zW p w a [x]=((jY p w a x).1,[(jY p w a x).2]):=by
 simp [zW,h0]
theorem PN {p:qC} {R:qL->Nat->qL×qW} {a i:Nat} {V:qL} {s:q8} {l:List q8} (h0:V.en=0) (hl:V.left≠0) (hq:(zW p (zV V a i) a s.reads).1.en≠0):vM p R a V i (s::l)=((zW p (zV V a i) a s.reads).1,(0,0)):=by
 have ht:(zV V a i).en=0:=h0;by_cases h8:s.kind=8
 .have hrd:s.reads=[s.a]:=by simp [q8.reads,h8]
  rw [hrd,K8 ht] at hq ⊢;simp only at hq;simp only [vM,hl,h8,if_true,if_false];rw [<- T4 ht hq]
 .have hst:uD p R (zV V a i) a s=(zW p (zV V a i) a s.reads).1:=by
   by_cases h9:s.kind=9\/s.kind=10\/s.kind=11
   .have hrd:s.reads=[]:=by rcases h9 with e|e|e <;> simp [q8.reads,e]
    rw [hrd] at hq;simp only [zW] at hq;exact absurd ht hq
   .have hv:vO p R (zV V a i) a s=((zW p (zV V a i) a s.reads).1,(0,0)):=by
     unfold vO;rw [if_pos hq]
    have e1:¬ (s.kind=9\/s.kind=10):=qA;have e2:¬ s.kind=11:=qA;unfold uD;rw [if_neg e1,if_neg e2,hv,if_pos hq]
  simp only [vM,hl,h8,if_false];rw [hst,if_pos hq]
theorem PQ {p:qC} {R:qL->Nat->qL×qW} {a i:Nat} {V:qL} {s:q8} {l:List q8} {vs:List qW} (h0:V.en=0) (hl:V.left≠0) (h8:s.kind=8) (hq:zW p (zV V a i) a s.reads=(zV V a i,vs)):∃ v,vs=[v]/\vM p R a V i (s::l)=(zV V a i,v):=by
 have ht:(zV V a i).en=0:=h0;have hrd:s.reads=[s.a]:=by simp [q8.reads,h8]
 rw [hrd,K8 ht] at hq;obtain⟨e1,e2⟩:=fC hq;refine⟨_,e2.symm,?_⟩;simp only [vM,hl,h8,if_true,if_false];exact Prod.ext e1 rfl
theorem PO {p:qC} {R:qL->Nat->qL×qW} {a i:Nat} {V:qL} {s:q8} {l:List q8} {vs:List qW} (h0:V.en=0) (hl:V.left≠0) (h8:s.kind≠8) (hq:zW p (zV V a i) a s.reads=(zV V a i,vs)):vM p R a V i (s::l)=if (kE p R (zV V a i) a s vs).en≠0 then (kE p R (zV V a i) a s vs,(0,0)) else vM p R a (kE p R (zV V a i) a s vs) (i+1) l:=by
 have ht:(zV V a i).en=0:=h0;simp only [vM,hl,h8,if_false];rw [NH ht hq]
theorem gz {A G G2:Prop} (k:G2) (x:A) (h:A->jL G2->G:=by
 intro fx kk;refine qK ?_
 repeat ((first|refine qQ (id:=1) Vq mixed ?_|refine qQ (id:=7) Vr mixed ?_);refine zK ?_;refine qK ?_)
 exact kk.h):G:=h x ⟨k⟩
theorem YC (gl) (p:qC) (n:Nat) (hR:ii gl 229 p n) (hP:zk p):ii gl 229 p (n+1):=by
 intro H W a hO hw hn ha h0 hV
 show qZ prog gl 61 DM [.pt Mn 0,vo a] H _ zG
 obtain⟨c,hc⟩:=gX ha;have qy:=hw.wo a c hc;obtain⟨k,hk⟩:=gX qy;obtain⟨_,hkE⟩:=gS hk;have hbk:=wI hc;have hT:=hO.top;have hE:=hO.env a c hc;simp only [zx] at hT;simp only [ud] at hE;have hb12:=hP.sh.body k (gM hk);have hrun:qi p (n+1) W a=vM p (qi p n) a W 0 k.body:=by simp only [qi,hbk,hk]
 have hO0:=hO;refine qZ.q9 func61 [.cell 4 115,.tmp 5] ntmps61 (λ_=>zC) λC w g root hroot=>?_;refine gz ?_<|zN hT hE hk hkE<|qy;refine zQ (λm st=>∃ (i:Nat) (V:qL),m=k.body.length - i/\i<=k.body.length/\qi p (n+1) W a=vM p (qi p n) a V i (k.body.drop i)/\zF p V/\V.left<n+1/\a<V.qI.length/\V.en=0/\V.qG a=c.qG/\W.qI.length<=V.qI.length/\W.qH.length<=V.qH.length/\st.tm 0=.pt Mn 0/\st.tm 1=vo a/\st.tm 4=.pt (.s 4) 0/\st.hp (.s 4)=some (.row 2 [[iv 0,iv 0]])/\st.tm 21=ec k.body/\st.tm 22=iv k.body.length/\st.tm 23=iv i/\qb st.hp 229 p V) k.body.length ?_ ?_
 .exact⟨0,W,qA,qA,by simpa using hrun,hw,hn,ha,h0,hbk,qa _,qa _,zE,by simp [hE],qB,qB,qB,qB,qB,(have om:=hO;qb.re om)⟩
 clear hT hE hO;rintro m st - - ⟨i,V,rfl,hi,hres,hw',hn',ha',h0',hbV,hl1,hl2,t0,t1,t4,hp4,t21,t22,t23,hO⟩;clear hrun h0 hn hw hc ha;obtain⟨d,hd⟩:∃ d,V.qI[a]?=some d:=⟨_,gE ha'⟩;have hdb:d.qG=c.qG:=by rw [<- wI hd];exact hbV
 have hT:=hO.top;have hE:=hO.env a d hd;simp only [zx] at hT;simp only [ud] at hE;by_cases hil:i<k.body.length
 case neg =>
  have hge:i=k.body.length:=qA;rw [hge,List.drop_length] at hres;simp only [vM] at hres;refine gz ?_<|jN t0 t1 t4 hp4 t21 t22 t23<|hil;rw [hres];refine qF [] .nil iw ⟨by simp [h0'],qb.fin (have om:=hO;qb.re om)⟩
 obtain⟨s,hs⟩:=gX hil;obtain⟨_,hsE⟩:=gS hs;have hsm:=gM hs;have hdr:k.body.drop i=s::k.body.drop (i+1):=by rw [gV hil,hsE]
 rw [hdr] at hres;by_cases hl:V.left=0
 .have hr2:vM p (qi p n) a V i (s::k.body.drop (i+1))=({ V with en:=1 },(0,0)):=by simp only [vM,hl,if_true]
  rw [hr2] at hres;refine gz ?_<|jS t0 t1 t4 hp4 t21 t22 t23 hil hs hsE<|aI hT<|hl;intro K hK;have fx:=aI t0 hT;refine kP hO0 (have om:=hO;qb.re om) hl1 hl2 (hF:=λhs=>iS _ _ _ p V 1 hs) (h:=?_);rintro y H2 ⟨rfl,hO2⟩;clear fx;have hT2:=hO2.top;simp only [zx] at hT2;refine gz ?_<|jI t0 t1 t4 hp4 hT hT2<|hl;rw [hres];refine qF [] .nil iw ⟨qB,qb.fin (have om:=hO2;qb.re om)⟩
 obtain⟨l,hll⟩:∃ l,V.left=l+1:=⟨V.left - 1,qA⟩;obtain⟨tk1,tk2⟩:=Cn (a:=a) (i:=i) hw' hl;have hTt:zV V a i={ V with left:=l,trace:=V.trace++[(d.qG,i)] }:=by simp only [zV,wI hd];rw [hll];rfl
 have hbV2:(zV V a i).qG a=d.qG:=IT;have hleft:(zV V a i).left<n:=by simp only [zV];omega
 have hTr:=hO.zo;have hnt:=hw'.wQ;have hnl:=hw'.ky;have htl':V.trace.length<=1000:=qA;have hl8:l<=1000:=qA;have hlb:((l:Int)+1==0)=false:=ku;have hwl:IntKind.i64.wrap (l:Int)=l:=qm qA qA;have hap:yy V.trace++[[iv d.qG,iv i]]=yy (V.trace++[(d.qG,i)]):=CQ;have hkd:=(hP.sh.names k (gM hk)).kinds s hsm;have hrd:=(hP.sh.names k (gM hk)).reads s hsm;refine gz ?_<|qh t0 t1 t4 hp4 t21 t22 t23 hil hs hsE hT hll<|zN hlb hwl hTr htl'<|hE;intro K hK;have fx:=aI t0 (aI t1 hT);refine kP hO0 (w:=zV V a i) (by rw [hTt];exact⟨by simp [hT,zx],⟨r7,λj k hj hk=>rk⟩,oe,xM,hO.run.imp λl hl=>⟨hl.1,xN⟩,rp,λk g hg=>by simp [hO.bx k g hg],xP,λk c hc=>(hO.cls k c hc).imp λms hm=>⟨cQ,hm.2⟩,λi a ha=>by simp [hO.env i a ha],λi hi=>(hO.yJ i hi).imp λms hm=>⟨cQ,hm.2⟩,λk i j hk hn=>if e:k=1/\i=0/\j=0 then .inl e else hO.only k i j hk mS⟩) hl1 hl2 (hF:=λhs'=>X5 _ _ _ p (zV V a i) a s hP.sh tk1 ha' h0' hkd hrd hs') (h:=?_);rintro y H1 ⟨hO1,hy⟩;clear fx;have hbad:=PN (p:=p) (R:=qi p n) (a:=a) (i:=i) (V:=V) (s:=s) (l:=k.body.drop (i+1)) h0' hl;have hret:s.kind=8->∀ vs,zW p (zV V a i) a s.reads=(zV V a i,vs)->∃ v,vs=[v]/\vM p (qi p n) a V i (s::k.body.drop (i+1))=(zV V a i,v):=λh8 vs hq=>PQ h0' hl h8 hq
 have hdo:s.kind≠8->∀ vs,zW p (zV V a i) a s.reads=(zV V a i,vs)->vM p (qi p n) a V i (s::k.body.drop (i+1))=if (kE p (qi p n) (zV V a i) a s vs).en≠0 then (kE p (qi p n) (zV V a i) a s vs,(0,0)) else vM p (qi p n) a (kE p (qi p n) (zV V a i) a s vs) (i+1) (k.body.drop (i+1)):=λh8 vs hq=>PO h0' hl h8 hq
 have hsdo:∀ vs,zW p (zV V a i) a s.reads=(zV V a i,vs)->uD p (qi p n) (zV V a i) a s=kE p (qi p n) (zV V a i) a s vs:=λvs h=>NH h0' h;obtain⟨hA,hvok,hcase,hlen,_⟩:=sd (a:=a) (l:=s.reads) tk1;generalize zW p (zV V a i) a s.reads=q at hO1 hy hbad hret hdo hsdo hA hvok hcase hlen;obtain⟨U,vs⟩:=q;simp only at hO1 hy hbad hret hdo hsdo hA hvok hcase hlen;have hT1:=hO1.top;simp only [zx] at hT1;obtain⟨d1,hd1⟩:∃ c,U.qI[a]?=some c:=⟨_,gE (uQ ha' hA.grow.aF)⟩;have hE1:=hO1.env a d1 hd1;rcases hy with⟨hen,rfl,hp1⟩|⟨hen,rfl⟩
 case inr =>
  refine gz ?_<|jS t0 t1 t4 hp4 t21 t22 t23 hT hE hT1<|hE1;rw [hres,hbad hen];refine qF [] .nil iw ⟨by simp [hen],qb.fin (have om:=hO1;qb.re om)⟩
 obtain rfl:U=zV V a i:=by
  rcases hcase with e|⟨e,he,h⟩
  .exact e
  .rw [h] at hen;exact absurd hen he
 by_cases h8:s.kind=8
 .have hb8:(s.kind==8)=true:=by simpa using h8
  obtain⟨⟨v1,v2⟩,rfl,hb⟩:=hret h8 _ rfl;refine gz ?_<|qh t0 t1 t4 hp4 t21 t22 t23 hT hE hT1 hE1 hp1<|hb8;rw [hres,hb];have ht0:(zV V a i).en=0:=h0';refine qF [] .nil iw ⟨by simp [ht0],qb.fin (have om:=hO1;qb.re om)⟩
 have hb8:(s.kind==8)=false:=by simpa using h8
 have hres2:=hdo h8 _ rfl;rw [hres2] at hres;have hst:=hP.sh.ed _ k hk s hsm;have hSo:=Ci (s:=s) (k:=k) (eZ hP.sh n) tk1 hleft h0' ha' (by rw [hbV2,hdb];exact hst) tk2;rw [hsdo vs rfl] at hSo;have hk':p[(zV V a i).qG a]?=some k:=by rw [hbV2,hdb];exact hk
 refine gz ?_<|qh t0 t1 t4 hp4 t21 t22 t23 hT hE hT1 hE1 hp1<|hb8;intro K hK;refine wa (.s 8) (.u 2 0 0) (.inl rfl) (.inr B6) ?_;have fx:=aI t0 (aI t1 (aI hT (aI hT1 (aI hp1 (aI hE hE1)))));refine Gt hO0 (w:=zV V a i) ⟨by simp [hO1.top,zx],⟨by simp [hO1.kg.top],λj k hj hk=>by simp [hO1.kg.sc j k hj hk]⟩,by simp [hO1.out],xF,hO1.run.imp λl hl=>⟨hl.1,xN⟩,BS,λk g hg=>by simp [hO1.bx k g hg],xI,λk c hc=>(hO1.cls k c hc).imp λms hm=>⟨cQ,hm.2⟩,λi a ha=>by simp [hO1.env i a ha],λi hi=>(hO1.yJ i hi).imp λms hm=>⟨cQ,hm.2⟩,λk i j hk hn=>if e:k=1/\i=0/\j=0 then .inl e else hO1.only k i j hk (by have e2:¬ k=2:=(λe=>by rw [e] at hk;cases hk);simpa [hk,e,e2] using hn)⟩ uS hl1 hl2 (hF:=λhs'=>QV gl p n hR _ (zV V a i) a k s vs hP tk1 hleft h0' ha' hk' hsm h8 tk2 (hlen hen) hvok hs' uS) (h:=?_);rintro y H2 ⟨rfl,hO2⟩;clear fx;generalize kE p (qi p n) (zV V a i) a s vs=U at hO2 hres hSo;have hAf:=hSo.tick hl;have hT2:=hO2.top;simp only [zx] at hT2;obtain⟨d2,hd2⟩:∃ c,U.qI[a]?=some c:=⟨_,gE (uQ ha' hAf.grow.aF)⟩;have hE2:=hO2.env a d2 hd2;by_cases hen2:U.en=0
 .rw [if_neg rm] at hres;refine gz ?_<|qh t0 t1 t4 hp4 t21 t22 t23 hT hE hT1 hE1 hp1<|qk hT2 hE2<|hen2;exact⟨k.body.length - (i+1),qA,i+1,U,rfl,qA,hres,hAf.ok,by have:=hAf.grow.left;omega,uQ ha' hAf.grow.aF,hen2,by rw [hAf.grow.qG hd];exact hbV,ur hl1 hAf.grow.aF,ur hl2 hAf.grow.CL,by simp [t0,hT,hT1],by simp [t1,hE,hE1],by simp [t4],wu,by simp [t21],by simp [t22],by simp [t23];exact qm qA qA,⟨by simp [hO2.top,zx,hen2],⟨by simp [hO2.kg.top,hen2],λj k hj hk=>by simp [hO2.kg.sc j k hj hk,hen2]⟩,by simp [hO2.out,hen2],by simp [hO2.zo,hen2],hO2.run.imp λl hl=>⟨hl.1,by simp [hl.2,hen2]⟩,by simp [hO2.qH,hen2],λk g hg=>by simp [hO2.bx k g hg,hen2],by simp [hO2.jA,hen2],λk c hc=>(hO2.cls k c hc).imp λms hm=>⟨BY,hm.2⟩,λi a ha=>by simp [hO2.env i a ha,hen2],λi hi=>(hO2.yJ i hi).imp λms hm=>⟨BY,hm.2⟩,λk i j hk hn=>if e:k=1/\i=0/\j=0 then .inl e else hO2.only k i j hk mS⟩⟩
 .rw [if_pos rm] at hres;refine gz ?_<|qh t0 t1 t4 hp4 t21 t22 t23 hT hE hT1 hE1 hp1<|qk hT2 hE2<|hen2;rw [hres];refine qF [] .nil iw ⟨by simp [hen2],qb.fin (have om:=hO2;qb.re om)⟩
theorem MM (gl) (p:qC) (hP:zk p):∀ n,ii gl 229 p n
 | 0=>λH W a _ _ h=>absurd h qA
 | n+1=>YC gl p n (MM gl p hP n) hP
abbrev Vs:qV:=.q 0<|.q 1<|.q 3<|.l 2 [3,0]<|.q 4<|.l 5 []<|.l 6 []<|.done
abbrev Vt:qV:=ct<|.l 9 [4,3,2,1,0]<|.l 10 [0]<|.q 11<|.q 12<|.l 13 []<|.done
theorem CD {A G G2:Prop} (k:G2) (x:A) (h:A->jL G2->G:=by
 intro fx kk;refine qK ?_
 repeat ((first|refine qQ (id:=1) Vs mixed ?_|refine qQ (id:=3) Vt mixed ?_);refine zK ?_;refine qK ?_)
 exact kk.h):G:=h x ⟨k⟩
theorem Kg (gl) (H:Nm->Option AO) (p:qC) (f:Nat) (hP:zk p) (hf:f<=150) (hN:∀ k i j,H (.u k i j)=none) :
  qZ prog gl 28 DM [jB p,iv f] H (λ_ y H'=>y=.pt Mn 0/\qb H' 229 p (uB p f)) zG:=by
 have hw:=Ch hP.sh hf;have hs:=hP.sh.br;have hh:=hP.sh.jj;refine qZ.q9 func28 [.tmp 4] ntmps28 (λ_=>zC) λC w g root hroot=>?_;have fx:=qd;have e1:=Cc gl p hs hh hP.sh.names;refine CD ?_<|@fx;clear fx e1;intro K hK;rintro y H' ⟨rfl,hO⟩;obtain⟨ho1,ho2⟩:=hO.vh
 try refine⟨qB,?_⟩
 refine CD ?_<| ho1;intro K hK;refine wa (.s 5) Mn (.inl rfl) (.inr (by simp [yR,hN])) ?_;have fx:=qd;refine Gv (h:=?_);clear fx;refine CD ?_<| ho1;intro K hK;refine wa (.c Mn 0 6) (En 0) (.inl rfl) (.inr (by simp [yR,hN])) ?_;have fx:=qd;refine pp (λk i j he=>by simp [yR,hN] at he) (hF:=MM gl p hP 151 _ (j4 f) 0 ?_ hw (by simp only [j4];omega) gk rfl qB) (h:=?_)
 .clear fx;refine⟨by simp [zx,j4],⟨by simp [ho1],λj k hj hk=>Bc⟩,by simp [j4,qj],by simp [j4,yy],⟨[],qB,by simp [j4,za]⟩,by simp [j4,wY],λk g hg=>by simp [j4] at hg,by simp [j4,wZ],λk c hc=>by simp [j4] at hc,λi a ha=>?_,λi hi=>?_,λk i j hk hn=>?_⟩
  .have hi:i=0:=by
    have:=(gS ha).1;simp [j4] at this;omega
   subst hi;have ha':a=⟨0,0,jR⟩:=by simpa [j4] using ha.symm
   subst ha';simp [ud]
   rfl
  .obtain rfl:i=0:=by simpa [j4] using hi
   exact⟨[],by simp [uJ],by simpa [qL.yJ,j4] using kn.nil⟩
  .by_cases e1:k=1/\i=0/\j=0
   .exact .inl e1
   .by_cases e7:k=7/\i=0/\j=0
    .exact .inr (.inl ⟨e7.1,by simp [j4,e7.2.1],e7.2.2⟩)
    .exact absurd hn (by simp [hk,e1,e7,hN])
 rintro y H1 ⟨rfl,hO1⟩;clear fx;have hT1:=hO1.top;simp only [zx] at hT1;have hme:(qi p 151 (j4 f) 0).1=uB p f:=rfl;rw [hme] at hO1 hT1;refine CD ?_<| hT1;refine qF [] .nil qE ⟨qB,qb.fin (have om:=hO1;qb.re om)⟩
theorem sU (gl) (f:Int):qM prog gl 27 [iv f] (λ_ y _=>y=bv (decide (0<=f)&&decide (f<=150))):=by
 refine qM.q9 func27 [.tmp 2] ntmps27 λC w g root=>?_;by_cases h1:0<=f
 .by_cases h2:f<=150
  .skip
   refine qJ ?_<|aI h1<|h2;refine qF [] .nil qE (by simp [h1,h2])
  .skip
   refine qJ ?_<|aI h1<|h2;refine qF [] .nil qE (by simp [h1,h2])
 .skip
  refine qJ ?_<| h1;refine qF [] .nil qE zl
end Go.Proofs.YtjgpejikjhojcaaGreatDoor
end
