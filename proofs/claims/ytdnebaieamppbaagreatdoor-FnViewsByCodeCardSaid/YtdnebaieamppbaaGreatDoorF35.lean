import Derived.Test.YtdnebaieamppbaaGreatDoorF34
set_option linter.unusedSimpArgs false
set_option linter.unusedVariables false
set_option maxRecDepth 100000
set_option maxHeartbeats 4000000

section
namespace Go.Proofs.YtdnebaieamppbaaGreatDoor
open Go Go.Hm Go.Proofs Tryz
abbrev XP:Y8:=bK<|.done
abbrev XO:Y8:=yq<|.l 11 [5,4,3,2,1,0]<|.l 12 [5,0]<|.q 13<|.q 14<|.l 15 []<|.done
theorem Lt {p:YU} {w:YY} {a:Nat} {x:Int} (h0:w.en=0):(jM p w a x).1.en≠0->(jM p w a x).2=(0,0):=by
 unfold jM
 repeat' split
 all_goals simp [h0]
theorem Qc {p:YU} {w:YY} {a:Nat} {x:Int} (h0:w.en=0):qf p w a [x]=((jM p w a x).1,[(jM p w a x).2]):=by
 simp [qf,h0]
theorem N0 {p:YU} {R:YY->Nat->YY×Y6} {a i:Nat} {V:YY} {s:Y5} {l:List Y5} (h0:V.en=0) (hl:V.left≠0) (hq:(qf p (zF V a i) a s.reads).1.en≠0):uA p R a V i (s::l)=((qf p (zF V a i) a s.reads).1,(0,0)):=by
 have ht:(zF V a i).en=0:=h0;by_cases h8:s.kind=8
 .have hrd:s.reads=[s.a]:=by simp [Y5.reads,h8]
  rw [hrd,Qc ht] at hq ⊢;simp only at hq;simp only [uA,hl,h8,if_true,if_false];rw [<- Lt ht hq]
 .have hst:lh p R (zF V a i) a s=(qf p (zF V a i) a s.reads).1:=by
   by_cases h9:s.kind=9\/s.kind=10\/s.kind=11
   .have hrd:s.reads=[]:=by rcases h9 with e|e|e <;> simp [Y5.reads,e]
    rw [hrd] at hq;simp only [qf] at hq;exact absurd ht hq
   .have hv:jc p R (zF V a i) a s=((qf p (zF V a i) a s.reads).1,(0,0)):=by
     unfold jc;rw [if_pos hq]
    have e1:¬ (s.kind=9\/s.kind=10):=qA;have e2:¬ s.kind=11:=qA;unfold lh;rw [if_neg e1,if_neg e2,hv,if_pos hq]
  simp only [uA,hl,h8,if_false];rw [hst,if_pos hq]
theorem NY {p:YU} {R:YY->Nat->YY×Y6} {a i:Nat} {V:YY} {s:Y5} {l:List Y5} {vs:List Y6} (h0:V.en=0) (hl:V.left≠0) (h8:s.kind=8) (hq:qf p (zF V a i) a s.reads=(zF V a i,vs)):∃ v,vs=[v]/\uA p R a V i (s::l)=(zF V a i,v):=by
 have ht:(zF V a i).en=0:=h0;have hrd:s.reads=[s.a]:=by simp [Y5.reads,h8]
 rw [hrd,Qc ht] at hq;obtain⟨e1,e2⟩:=sP hq;refine⟨_,e2.symm,?_⟩;simp only [uA,hl,h8,if_true,if_false];exact Prod.ext e1 rfl
theorem QL {p:YU} {R:YY->Nat->YY×Y6} {a i:Nat} {V:YY} {s:Y5} {l:List Y5} {vs:List Y6} (h0:V.en=0) (hl:V.left≠0) (h8:s.kind≠8) (hq:qf p (zF V a i) a s.reads=(zF V a i,vs)):uA p R a V i (s::l)=if (doW p R (zF V a i) a s vs).en≠0 then (doW p R (zF V a i) a s vs,(0,0)) else uA p R a (doW p R (zF V a i) a s vs) (i+1) l:=by
 have ht:(zF V a i).en=0:=h0;simp only [uA,hl,h8,if_false];rw [K6 ht hq]
theorem uH {A G G2:Prop} (k:G2) (x:A) (h:A->Yr G2->G:=by
 intro fx kk;refine qI ?_
 repeat ((first|refine Y7 (id:=1) XP mixed ?_|refine Y7 (id:=7) XO mixed ?_);refine qW ?_;refine qI ?_)
 exact kk.h):G:=h x ⟨k⟩
theorem CX (gl) (p:YU) (n:Nat) (hR:QV gl 235 p n) (hP:Yl p):QV gl 235 p (n+1):=by
 intro H W a hO hw hn ha h0 hV
 show Yc prog gl 101 DM [.pt Mn 0,ptE a] H _ Yz
 obtain⟨c,hc⟩:=gX ha;have Ym:=hw.Zs a c hc;obtain⟨k,hk⟩:=gX Ym;obtain⟨_,hkE⟩:=gS hk;have hbk:=jq hc;have hT:=hO.top;have hE:=hO.env a c hc;simp only [uF] at hT;simp only [yE] at hE;have hb12:=hP.sh.body k (gM hk);have hrun:jv p (n+1) W a=uA p (jv p n) a W 0 k.body:=by simp only [jv,hbk,hk]
 have hO0:=hO;refine Yc.Yb func101 [.cell 4 63,.tmp 5] ntmps101 (λ_=>qJ) λC w g root hroot=>?_;refine uH ?_<|yl hT hE hk hkE<|Ym;refine qR (λm st=>∃ (i:Nat) (V:YY),m=k.body.length - i/\i<=k.body.length/\jv p (n+1) W a=uA p (jv p n) a V i (k.body.drop i)/\Yx p V/\V.left<n+1/\a<V.YR.length/\V.en=0/\V.YS a=c.YS/\W.YR.length<=V.YR.length/\W.YT.length<=V.YT.length/\st.tm 0=.pt Mn 0/\st.tm 1=ptE a/\st.tm 4=.pt (.s 4) 0/\st.hp (.s 4)=some (.row 2 [[iv 0,iv 0]])/\st.tm 21=ssl k.body/\st.tm 22=iv k.body.length/\st.tm 23=iv i/\YX st.hp 235 p V) k.body.length ?_ ?_
 .exact⟨0,W,qA,qA,by simpa using hrun,hw,hn,ha,h0,hbk,qp _,qp _,zB,by simp [hE],qB,qB,qB,qB,qB,(have om:=hO;YX.re om)⟩
 clear hT hE hO;rintro m st - - ⟨i,V,rfl,hi,hres,hw',hn',ha',h0',hbV,hl1,hl2,t0,t1,t4,hp4,t21,t22,t23,hO⟩;clear hrun h0 hn hw hc ha;obtain⟨d,hd⟩:∃ d,V.YR[a]?=some d:=⟨_,gE ha'⟩;have hdb:d.YS=c.YS:=by rw [<- jq hd];exact hbV
 have hT:=hO.top;have hE:=hO.env a d hd;simp only [uF] at hT;simp only [yE] at hE;by_cases hil:i<k.body.length
 case neg =>
  have hge:i=k.body.length:=qA;rw [hge,List.drop_length] at hres;simp only [uA] at hres;refine uH ?_<|ko t0 t1 t4 hp4 t21 t22 t23<|hil;rw [hres];refine qE [] .nil rH ⟨by simp [h0'],YX.fin (have om:=hO;YX.re om)⟩
 obtain⟨s,hs⟩:=gX hil;obtain⟨_,hsE⟩:=gS hs;have hsm:=gM hs;have hdr:k.body.drop i=s::k.body.drop (i+1):=by rw [BV hil,hsE]
 rw [hdr] at hres;by_cases hl:V.left=0
 .have hr2:uA p (jv p n) a V i (s::k.body.drop (i+1))=({ V with en:=1 },(0,0)):=by simp only [uA,hl,if_true]
  rw [hr2] at hres;refine uH ?_<|jP t0 t1 t4 hp4 t21 t22 t23 hil hs hsE<|aI hT<|hl;intro K hK;have fx:=aI t0 hT;refine j9 hO0 (have om:=hO;YX.re om) hl1 hl2 (hF:=λhs=>bJ _ _ _ p V 1 hs) (h:=?_);rintro y H2 ⟨rfl,hO2⟩;clear fx;have hT2:=hO2.top;simp only [uF] at hT2;refine uH ?_<|kG t0 t1 t4 hp4 hT hT2<|hl;rw [hres];refine qE [] .nil rH ⟨qB,YX.fin (have om:=hO2;YX.re om)⟩
 obtain⟨l,hll⟩:∃ l,V.left=l+1:=⟨V.left - 1,qA⟩;obtain⟨tk1,tk2⟩:=fA (a:=a) (i:=i) hw' hl;have hTt:zF V a i={ V with left:=l,trace:=V.trace++[(d.YS,i)] }:=by simp only [zF,jq hd];rw [hll];rfl
 have hbV2:(zF V a i).YS a=d.YS:=by rw [show (zF V a i).YS a=V.YS a from rfl,jq hd]
 have hleft:(zF V a i).left<n:=by simp only [zF];omega
 have hTr:=hO.Zb;have hnt:=hw'.ntr;have hnl:=hw'.Zd;have htl':V.trace.length<=1000:=qA;have hl8:l<=1000:=qA;have hlb:((l:Int)+1==0)=false:=yY;have hwl:IntKind.i64.wrap (l:Int)=l:=Yi qA qA;have hap:vv V.trace++[[iv d.YS,iv i]]=vv (V.trace++[(d.YS,i)]):=ly;have hkd:=(hP.sh.names k (gM hk)).kinds s hsm;have hrd:=(hP.sh.names k (gM hk)).reads s hsm;refine uH ?_<|qQ t0 t1 t4 hp4 t21 t22 t23 hil hs hsE hT hll<|yl hlb hwl hTr htl'<|hE;intro K hK;have fx:=aI t0 (aI t1 hT);refine j9 hO0 (w:=zF V a i) (by rw [hTt];exact⟨by simp [hT,uF],⟨ao,λj k hj hk=>au⟩,ma,rX,hO.run.imp λl hl=>⟨hl.1,rp⟩,r7,λk g hg=>by simp [hO.bx k g hg],by simp [hO.Yt],λk c hc=>(hO.cls k c hc).imp λms hm=>⟨vN,hm.2⟩,λi a ha=>eN,λi hi=>(hO.Z4 i hi).imp λms hm=>⟨vN,hm.2⟩,λk i j hk hn=>if e:k=1/\i=0/\j=0 then .inl e else hO.only k i j hk cG⟩) hl1 hl2 (hF:=λhs'=>Im _ _ _ p (zF V a i) a s hP.sh tk1 ha' h0' hkd hrd hs') (h:=?_);rintro y H1 ⟨hO1,hy⟩;clear fx;have hbad:=N0 (p:=p) (R:=jv p n) (a:=a) (i:=i) (V:=V) (s:=s) (l:=k.body.drop (i+1)) h0' hl;have hret:s.kind=8->∀ vs,qf p (zF V a i) a s.reads=(zF V a i,vs)->∃ v,vs=[v]/\uA p (jv p n) a V i (s::k.body.drop (i+1))=(zF V a i,v):=λh8 vs hq=>NY h0' hl h8 hq
 have hdo:s.kind≠8->∀ vs,qf p (zF V a i) a s.reads=(zF V a i,vs)->uA p (jv p n) a V i (s::k.body.drop (i+1))=if (doW p (jv p n) (zF V a i) a s vs).en≠0 then (doW p (jv p n) (zF V a i) a s vs,(0,0)) else uA p (jv p n) a (doW p (jv p n) (zF V a i) a s vs) (i+1) (k.body.drop (i+1)):=λh8 vs hq=>QL h0' hl h8 hq
 have hsdo:∀ vs,qf p (zF V a i) a s.reads=(zF V a i,vs)->lh p (jv p n) (zF V a i) a s=doW p (jv p n) (zF V a i) a s vs:=λvs h=>K6 h0' h;obtain⟨hA,hvok,hcase,hlen,_⟩:=kx (a:=a) (l:=s.reads) tk1;generalize qf p (zF V a i) a s.reads=q at hO1 hy hbad hret hdo hsdo hA hvok hcase hlen;obtain⟨U,vs⟩:=q;simp only at hO1 hy hbad hret hdo hsdo hA hvok hcase hlen;have hT1:=hO1.top;simp only [uF] at hT1;obtain⟨d1,hd1⟩:∃ c,U.YR[a]?=some c:=⟨_,gE (ac ha' hA.grow.Zl)⟩;have hE1:=hO1.env a d1 hd1;rcases hy with⟨hen,rfl,hp1⟩|⟨hen,rfl⟩
 case inr =>
  refine uH ?_<|jP t0 t1 t4 hp4 t21 t22 t23 hT hE hT1<|hE1;rw [hres,hbad hen];refine qE [] .nil rH ⟨by simp [hen],YX.fin (have om:=hO1;YX.re om)⟩
 obtain rfl:U=zF V a i:=by
  rcases hcase with e|⟨e,he,h⟩
  .exact e
  .rw [h] at hen;exact absurd hen he
 by_cases h8:s.kind=8
 .have hb8:(s.kind==8)=true:=by simpa using h8
  obtain⟨⟨v1,v2⟩,rfl,hb⟩:=hret h8 _ rfl;refine uH ?_<|qQ t0 t1 t4 hp4 t21 t22 t23 hT hE hT1 hE1 hp1<|hb8;rw [hres,hb];have ht0:(zF V a i).en=0:=h0';refine qE [] .nil rH ⟨by simp [ht0],YX.fin (have om:=hO1;YX.re om)⟩
 have hb8:(s.kind==8)=false:=by simpa using h8
 have hres2:=hdo h8 _ rfl;rw [hres2] at hres;have hst:=hP.sh.stm _ k hk s hsm;have hSo:=lg (s:=s) (k:=k) (aC hP.sh n) tk1 hleft h0' ha' (by rw [hbV2,hdb];exact hst) tk2;rw [hsdo vs rfl] at hSo;have hk':p[(zF V a i).YS a]?=some k:=by rw [hbV2,hdb];exact hk
 refine uH ?_<|qQ t0 t1 t4 hp4 t21 t22 t23 hT hE hT1 hE1 hp1<|hb8;intro K hK;refine Ba (.s 8) (.u 2 0 0) (.inl rfl) (.inr BC) ?_;have fx:=aI t0 (aI t1 (aI hT (aI hT1 (aI hp1 (aI hE hE1)))));refine xP hO0 (w:=zF V a i) ⟨by simp [hO1.top,uF],⟨by simp [hO1.scs.top],λj k hj hk=>GC⟩,by simp [hO1.out],by simp [hO1.Zb],hO1.run.imp λl hl=>⟨hl.1,rp⟩,by simp [hO1.YT],λk g hg=>by simp [hO1.bx k g hg],by simp [hO1.Yt],λk c hc=>(hO1.cls k c hc).imp λms hm=>⟨vN,hm.2⟩,λi a ha=>by simp [hO1.env i a ha],λi hi=>(hO1.Z4 i hi).imp λms hm=>⟨vN,hm.2⟩,λk i j hk hn=>if e:k=1/\i=0/\j=0 then .inl e else hO1.only k i j hk (by have e2:¬ k=2:=(λe=>by rw [e] at hk;cases hk);simpa [hk,e,e2] using hn)⟩ jp hl1 hl2 (hF:=λhs'=>Xg gl p n hR _ (zF V a i) a k s vs hP tk1 hleft h0' ha' hk' hsm h8 tk2 (hlen hen) hvok hs' jp) (h:=?_);rintro y H2 ⟨rfl,hO2⟩;clear fx;generalize doW p (jv p n) (zF V a i) a s vs=U at hO2 hres hSo;have hAf:=hSo.tick hl;have hT2:=hO2.top;simp only [uF] at hT2;obtain⟨d2,hd2⟩:∃ c,U.YR[a]?=some c:=⟨_,gE (ac ha' hAf.grow.Zl)⟩;have hE2:=hO2.env a d2 hd2;by_cases hen2:U.en=0
 .rw [if_neg (by simpa using hen2)] at hres;refine uH ?_<|qQ t0 t1 t4 hp4 t21 t22 t23 hT hE hT1 hE1 hp1<|jD hT2 hE2<|hen2;exact⟨k.body.length - (i+1),qA,i+1,U,rfl,qA,hres,hAf.ok,by have:=hAf.grow.left;omega,ac ha' hAf.grow.Zl,hen2,by rw [hAf.grow.YS hd];exact hbV,uS hl1 hAf.grow.Zl,uS hl2 hAf.grow.qB9,by simp [t0,hT,hT1],by simp [t1,hE,hE1],by simp [t4],wU,by simp [t21],by simp [t22],by simp [t23];exact Yi qA qA,⟨by simp [hO2.top,uF,hen2],⟨by simp [hO2.scs.top,hen2],λj k hj hk=>by simp [hO2.scs.sc j k hj hk,hen2]⟩,by simp [hO2.out,hen2],by simp [hO2.Zb,hen2],hO2.run.imp λl hl=>⟨hl.1,by simp [hl.2,hen2]⟩,by simp [hO2.YT,hen2],λk g hg=>by simp [hO2.bx k g hg,hen2],by simp [hO2.Yt,hen2],λk c hc=>(hO2.cls k c hc).imp λms hm=>⟨At,hm.2⟩,λi a ha=>by simp [hO2.env i a ha,hen2],λi hi=>(hO2.Z4 i hi).imp λms hm=>⟨At,hm.2⟩,λk i j hk hn=>if e:k=1/\i=0/\j=0 then .inl e else hO2.only k i j hk cG⟩⟩
 .rw [if_pos (by simpa using hen2)] at hres;refine uH ?_<|qQ t0 t1 t4 hp4 t21 t22 t23 hT hE hT1 hE1 hp1<|jD hT2 hE2<|hen2;rw [hres];refine qE [] .nil rH ⟨by simp [hen2],YX.fin (have om:=hO2;YX.re om)⟩
theorem tN (gl) (p:YU) (hP:Yl p):∀ n,QV gl 235 p n
 | 0=>λH W a _ _ h=>absurd h qA
 | n+1=>CX gl p n (tN gl p hP n) hP
abbrev XN:Y8:=.q 0<|.q 1<|.q 3<|.l 2 [3,0]<|.q 4<|.l 5 []<|.l 6 []<|.done
abbrev XM:Y8:=aB<|.l 9 [4,3,2,1,0]<|.l 10 [0]<|.q 11<|.q 12<|.l 13 []<|.done
theorem lE {A G G2:Prop} (k:G2) (x:A) (h:A->Yr G2->G:=by
 intro fx kk;refine qI ?_
 repeat ((first|refine Y7 (id:=1) XN mixed ?_|refine Y7 (id:=3) XM mixed ?_);refine qW ?_;refine qI ?_)
 exact kk.h):G:=h x ⟨k⟩
theorem Cm (gl) (H:Nm->Option AO) (p:YU) (f:Nat) (hP:Yl p) (hf:f<=150) (hN:∀ k i j,H (.u k i j)=none) :
  Yc prog gl 46 DM [Zc p,iv f] H (λ_ y H'=>y=.pt Mn 0/\YX H' 235 p (ji p f)) Yz:=by
 have hw:=b6 hP.sh hf;have hs:=hP.sh.sml;have hh:=hP.sh.Y9;refine Yc.Yb func46 [.tmp 4] ntmps46 (λ_=>qJ) λC w g root hroot=>?_;have fx:=Ya;have e1:=gU gl p hs hh hP.sh.names;refine lE ?_<|fx;clear fx e1;intro K hK;rintro y H' ⟨rfl,hO⟩;obtain⟨ho1,ho2⟩:=hO.Yv
 try refine⟨qB,?_⟩
 refine lE ?_<| ho1;intro K hK;refine Ba (.s 5) Mn (.inl rfl) (.inr (by simp [bz,hN])) ?_;have fx:=Ya;refine KH (h:=?_);clear fx;refine lE ?_<| ho1;intro K hK;refine Ba (.c Mn 0 6) (En 0) (.inl rfl) (.inr (by simp [bz,hN])) ?_;have fx:=Ya;refine sx (λk i j he=>by simp [bz,hN] at he) (hF:=tN gl p hP 151 _ (zg f) 0 ?_ hw (by simp only [zg];omega) ce rfl qB) (h:=?_)
 .clear fx;refine⟨by simp [uF,zg],⟨vE,λj k hj hk=>BM⟩,by simp [zg,qS],by simp [zg,vv],⟨[],qB,by simp [zg,zC]⟩,by simp [zg,yy],λk g hg=>by simp [zg] at hg,by simp [zg,yx],λk c hc=>by simp [zg] at hc,λi a ha=>?_,λi hi=>?_,λk i j hk hn=>?_⟩
  .have hi:i=0:=by
    have:=(gS ha).1;simp [zg] at this;omega
   subst hi;have ha':a=⟨0,0,qc⟩:=by simpa [zg] using ha.symm
   subst ha';simp [yE]
   rfl
  .obtain rfl:i=0:=by simpa [zg] using hi
   exact⟨[],by simp [kL],by simpa [YY.Z4,zg] using ZZ.nil⟩
  .by_cases e1:k=1/\i=0/\j=0
   .exact .inl e1
   .by_cases e7:k=7/\i=0/\j=0
    .exact .inr (.inl ⟨e7.1,by simp [zg,e7.2.1],e7.2.2⟩)
    .exact absurd hn (by simp [hk,e1,e7,hN])
 rintro y H1 ⟨rfl,hO1⟩;clear fx;have hT1:=hO1.top;simp only [uF] at hT1;have hme:(jv p 151 (zg f) 0).1=ji p f:=rfl;rw [hme] at hO1 hT1;refine lE ?_<| hT1;refine qE [] .nil qF ⟨qB,YX.fin (have om:=hO1;YX.re om)⟩
theorem lJ (gl) (f:Int):qX prog gl 42 [iv f] (λ_ y _=>y=bv (decide (0<=f)&&decide (f<=150))):=by
 refine qX.Yb func42 [.tmp 2] ntmps42 λC w g root=>?_;by_cases h1:0<=f
 .by_cases h2:f<=150
  .skip
   refine qD ?_<|aI h1<|h2;refine qE [] .nil qF (by simp [h1,h2])
  .skip
   refine qD ?_<|aI h1<|h2;refine qE [] .nil qF (by simp [h1,h2])
 .skip
  refine qD ?_<| h1;refine qE [] .nil qF qz
end Go.Proofs.YtdnebaieamppbaaGreatDoor
end
section

end
section
namespace Go.Proofs.YtdnebaieamppbaaGreatDoor
open Go Go.Hm Go.Proofs Tryz
abbrev Ub:Y8:=kr<|.q 10<|.l 8 [10]<|.q 9<|.done
theorem oN {n:Nm} {vs:List Vw} {f:Nm->Option Nm} (h:∀ i j,f (.c n i j)=some (.c n i j)):(zt n vs).map (λr=>r.map (AV.tr f))=zt n vs:=jb λi j _=>h i j
attribute [local simp] oN
theorem wA {A G G2:Prop} (k:G2) (x:A) (h:A->Yr G2->G:=by
 intro fx kk;refine qI ?_
 repeat ((first|refine Y7 (id:=6) Ub mixed ?_);refine qW ?_;refine qI ?_)
 exact kk.h):G:=h x ⟨k⟩
theorem OR (gl) (H:Nm->Option AO) (F:Nat) (p:YU) (W:YY) (hP:Y1 p) (hw:Yx p W) (hno:H (.u 2 0 0)=none) (hn9:H (.u 9 0 0)=none) (hO0:YX H F p W) :
  Yc prog gl 64 DM [.pt Mn 0] H (λr y H'=>y=.hs r 3 0 (iY p W).length/\ZE H' r (iY p W)) Yz:=by
 have hh:=hP.Y9;have hT:=hO0.top;obtain⟨lS,hlS,hR⟩:=hO0.run;simp only [uF] at hT;have hnst:=hw.qAk;have hOv:=hO0.mv9
 have hin:∀ i∈W.stack++lS,i<W.YR.length:=λi hi=>by
  rcases cK.1 hi with e|e
  .exact hw.Z7 i e
  .exact hlS i e
 generalize hSL:W.stack++lS=SL at hin hR;have hfx:∀ f:Nm->Option Nm,(∀ i∈SL,f (En i)=some (En i))->(zC SL).map (λr=>r.map (AV.tr f))=zC SL:=λf hf=>JU hf;refine Yc.Yb func64 [.tmp 2] ntmps64 (λ_=>qJ) λC w g root hroot=>?_;refine wA ?_<|aI hT<|hR;refine KM (.c Mn 0 7) (.u 9 0 0) (.inl rfl) (.inr (by simp [bz,hn9])) ?_;refine qR (λn st=>∃ (i:Nat) (vs:List Vw),n=W.stack.length - i/\i<=W.stack.length/\vs=(W.stack.take i).map (Bq p W)/\vs.length=i/\st.tm 0=.pt Mn 0/\ZX st.hp p W/\st.tm 3=.hs (.s 3) 3 0 vs.length/\ZE st.hp (.s 3) vs/\st.tm 12=.hs (.u 9 0 0) 1 0 W.stack.length/\st.hp (.u 9 0 0)=some (.row 1 (zC SL))/\st.tm 13=iv W.stack.length/\st.tm 14=iv i) W.stack.length ?_ ?_
 .exact⟨0,[],qA,qA,qB,rfl,qB,⟨(by obtain⟨_,h9,_,_,_,_,_,_,_,_,rfl⟩:=hOv.top;exact⟨_,NP,.mk⟩),⟨by simp [hOv.scs.top],λj k hj hk=>by simp [hOv.scs.sc j k hj hk]⟩,λk j hk hj=>by simp [hOv.bx k j hk hj],λi a ha=>by simp [hOv.env i a ha],λi hi=>(hOv.Z4 i hi).imp λms hm=>⟨vN,hm.2⟩,λk i j hk hn=>if e:k=1/\i=0/\j=0 then .inl e else hOv.only k i j hk rr⟩,qB,⟨qB,λi c h=>gA⟩,qB,by simp [hR],qB,qB⟩
 clear hT hR;rintro n0 st - - ⟨i,vs,rfl,hi,hvs,hvl,h0,hO,h3,⟨ht,he⟩,h12,hp9,h13,h14⟩;obtain⟨_,hT,x2,x3,x4,x5,x6,x7,x8,x9,rfl⟩:=hO.top;have hc1:=hO.scs.top;have hc2:=hO.scs.sc;by_cases hil:i<W.stack.length
 .obtain⟨a,ha⟩:=gX hil;obtain⟨_,haE⟩:=gS ha;have hal:=hw.Z7 a (gM ha);obtain⟨c,hc⟩:=gX hal;have hbk:=jq hc;have Ym:=hw.Zs a c hc;obtain⟨k,hk⟩:=gX Ym;have hE:=hO.env a c hc;simp only [yE] at hE
  have hSa:(zC SL)[i]?=some [ptE a]:=by
   simp only [zC,kU];rw [<- hSL,dX hil,ha]
   rfl
  obtain⟨hSal,hSaE⟩:=gS hSa;generalize hST:zC SL=ST at hp9 hSa hSal hSaE;refine wA ?_<|gJ h0 h12 h13 h14 hT hp9 hSa hSal hSaE<|hil;intro K hK;have fx:=h0;refine KH (h:=?_);clear fx
  all_goals have fx:=kG h0 h12 h13 h14 hT hE<|hc1
  repeat' (first
   | refine uZ ?_|refine ja ?_|refine yH ?_|refine kJ λK hK=>?_
   | ((with_reducible refine vX hK ?_);clear hK K)
   | (with_reducible first|refine q9 ?_|refine jC ?_|refine jB ?_|refine vI ?_|refine za ?_|refine vk ?_|refine w5 ?_|refine jo qL ?_)
   | refine kN ?_
   | refine kV ?_
   | (with_reducible first|refine jg ?_|refine zO (h:=?_)|refine jA (T:=41) (h:=?_)|refine Bl (T:=41) (h:=?_)|refine vG (h:=?_))
   | ((with_reducible refine nI 115 rfl ?_);refine jX (hB:=(by first|((repeat' (first|exact .nil|refine .cons ?_ ?_|exact .refl _|exact ya vq vn|exact kA vq vn ec|exact ee (n:=.c Mn 0 1) (p:=p) ⟨by simp [hc1],λj k hj hk=>by simp [hc2 j k hj hk]⟩ hh rfl));done)|fail)) (hF:=Kw gl p hP c.YS k hk) (h:=?_))
   | (with_reducible refine x_q (h:=?_))
   | refine j8 (h1:=?_)|refine jr (h1:=?_)
   | (refine Y7 (id:=6) Ub mixed λK hK=>?_)
   | ((with_reducible refine wI hK ?_);clear hK K)
   | ((with_reducible refine em ?_);first|refine su (h:=?_)|refine gL (h:=?_)|refine gN (h:=?_)|refine gK (h:=?_))
   | ((with_reducible refine em ?_);refine gO (h1:=λht=>?_) (h2:=λht=>?_))
   | refine a_l rfl ?_|refine G3 ?_ ?_|refine G1 ?_ ?_ ?_|(with_reducible refine aI ?_ ?_)|exact vi|refine cM (h2:=?_)
   | fail)
  all_goals try clear fx
  subst hST;obtain⟨S,hSe⟩:∃ S,S=yp p c.YS:=⟨_,rfl⟩;have hSl:S.length<=8:=hSe ▸ il;have hSm:∀ x∈S,x∈yp p c.YS:=λx hx=>hSe ▸ hx;have hSp:S.Pairwise (·<·):=hSe ▸ xf;have hSn:S.Nodup:=hSp.imp λh=>qA;rw [<- hSe];refine KM (.s 6) (.u 2 0 0) (.inl rfl) (.inr eS) ?_;refine qR (λn1 st=>∃ (j:Nat),n1=S.length - j/\j<=S.length/\st.tm 6=.mp (.u 2 0 0)/\st.hp (.u 2 0 0)=some (.map (vR (gQ p W a) (S.take j)))/\st.tm 27=.hs (.s 27) 1 0 S.length/\st.hp (.s 27)=some (.row 1 (qS S))/\st.tm 28=iv S.length/\st.tm 29=iv j/\st.tm 5=ptE a/\st.tm 0=.pt Mn 0/\ZX st.hp p W/\st.tm 3=.hs (.s 3) 3 0 vs.length/\ZE st.hp (.s 3) vs/\st.tm 12=.hs (.u 9 0 0) 1 0 W.stack.length/\st.hp (.u 9 0 0)=some (.row 1 (zC SL))/\st.tm 13=iv W.stack.length/\st.tm 14=iv i) S.length ⟨0,qA,qA,qB,qB,qB,qB,qB,qB,qB,qu,⟨eX,⟨ao,λj k hj hk=>au⟩,λk j hk hj=>eR,λi a ha=>eN,λi hi=>(hO.Z4 i hi).imp λms hm=>⟨vN,hm.2⟩,λk i j hk hn=>if e:k=1/\i=0/\j=0 then .inl e else hO.only k i j hk rr⟩,zN,⟨aU,λq v hq=>⟨ax,aw⟩⟩,gB,fz,by simp [h13],iC⟩ ?_;clear hT hc1 hc2 hE hO h0 h3 ht he h12 hp9 h13 h14 hSa;rintro n1 st - - ⟨j,rfl,hj,h6,hm,h27,hp27,h28,h29,h5,h0,hO,h3,⟨ht,he⟩,h12,hp9,h13,h14⟩;obtain⟨_,hT,y2,y3,y4,y5,y6,y7,y8,y9,rfl⟩:=hO.top;have hE:=hO.env a c hc;simp only [yE] at hE;by_cases hjl:j<S.length
  .obtain⟨x,hx⟩:=gX hjl;obtain⟨_,hxE⟩:=gS hx;have hxs:=hSm x (gM hx);obtain⟨hx0,hx7⟩:=ik hxs;obtain⟨X,rfl⟩:∃ X:Nat,x=X:=⟨x.toNat,qA⟩;have hX8:X<8:=qA
   have hnot:(X:Int)∉S.take j:=by
    intro hmem;obtain⟨q,hq⟩:=ab hmem;rw [Jk] at hq
    split at hq
    .rename_i hqj;have:=(List.getElem?_inj qA hSn).1 (hq.trans hx.symm);omega
    .cases hq
   have yF:=DN (g:=gQ p W a) hnot;have htk:S.take (j+1)=S.take j++[(X:Int)]:=by rw [dN,hx];rfl
   have hEn:∀ i∈SL,(st.hp (En i)).isSome=true:=λi hi=>by
    obtain⟨q,hq⟩:∃ q,W.YR[i]?=some q:=⟨_,gE (hin i hi)⟩;rw [hO.env i q hq]
    rfl
   refine wA ?_<|jP h6 hm h27 hp27 h28 h29 h5 h0 hjl hx<|hxE;intro K hK;have fx:=aI h6 (aI h5 h0);refine RG hO0 ⟨eX,⟨ao,λj k hj hk=>au⟩,λk j hk hj=>eR,λi a ha=>eN,λi hi=>(hO.Z4 i hi).imp λms hm=>⟨vN,hm.2⟩,λk i j hk hn=>if e:k=1/\i=0/\j=0 then .inl e else hO.only k i j hk rr⟩ (qp _) (qp _) (hF:=λhs=>LS gl _ p W a X hP hw hal hX8 (by rw [hbk];exact hxs) hs) (h:=?_);rintro y H1 ⟨rfl,hO1⟩;clear fx;refine wA ?_<|jD h6 hm<|h29;have fx:=aI h6 (aI hm (aI h29 yF));refine vT (h:=?_);clear fx;refine wA ?_<| h29;refine⟨S.length - (j+1),qA,j+1,rfl,qA,zL,by simp [htk],by simp [h27],by simp [hp27],vO,by simp [h29];exact Yi qA qA,by simp [h5,hE],by simp [h0,hT],⟨(by obtain⟨_,h9,_,_,_,_,_,_,_,_,rfl⟩:=hO1.top;exact⟨_,NP,.mk⟩),⟨by simp [hO1.scs.top],λj k hj hk=>GC⟩,λk j hk hj=>by simp [hO1.bx k j hk hj],λi a ha=>by simp [hO1.env i a ha],λi hi=>(hO1.Z4 i hi).imp λms hm=>⟨vN,hm.2⟩,λk i j hk hn=>if e:k=1/\i=0/\j=0 then .inl e else hO1.only k i j hk rr⟩,zN,⟨aU,λq v hq=>⟨ax,aw⟩⟩,gB,by simp [hp9,-List.map_map];rw [hfx _ (λi hi=>by have:=hEn i hi;simp [this])],by simp [h13],iC⟩
  .obtain rfl:j=S.length:=qA;rw [kM] at hm;have hvl2:vs.length<=1000:=qA;have hve:Bq p W a=⟨c.YS,uc (S.map λx=>(x,gQ p W a x)),bZ (S.map λx=>(x,gQ p W a x))⟩:=by simp only [Bq,hbk,<- hSe]
   refine wA ?_<|er h6 hm h28 h29 hjl h5 h3 hE<|h0;intro K hK;have fx:=aI h6 (aI h3 hm);refine xN (.u 2 0 0) rfl cF (hF:=Br gl c.YS (gQ p W a) S S (.refl _) hSp (λx hx=>ik (hSm x hx)) hSl _ (by simp [nO,hm])) (h:=?_);rw [<- hve];generalize Bq p W a=v at hve;rintro y H2 ⟨rfl,hVv⟩;have o1:=hVv.names;have o2:=hVv.vals;clear fx;refine wA ?_<|kH h3 ht h14 hvl2 o1<|o2;refine⟨W.stack.length - (i+1),qA,i+1,vs++[v],rfl,qA,by rw [dN,ha,sQ,hvs];simp [hve,Bq,hbk,<- hSe],by simp [hvl],qu,⟨eX,⟨ao,λj k hj hk=>au⟩,λk j hk hj=>eR,λi a ha=>eN,λi hi=>(hO.Z4 i hi).imp λms hm=>⟨vN,hm.2⟩,λk i j hk hn=>if e:k=1/\i=0/\j=0 then .inl e else hO.only k i j hk rr⟩,qB,⟨?_,λq d hq=>?_⟩,gB,fz,by simp [h13],by simp [h14];exact Yi qA qA⟩
   .simp [ht,la]
   .rcases dS q vs.length with hlq|hgq
    .rw [dX hlq] at hq;have hne:¬ q=vs.length:=qA;obtain⟨e1,e2⟩:=he q d hq;exact⟨rO,r9⟩
    .rw [kh hgq] at hq
     obtain rfl:q=vs.length:=by
      have:=(gS hq).1;simp at this;omega
     simp at hq;subst hq;exact⟨mY,mH⟩
 .obtain rfl:i=W.stack.length:=qA;rw [kM] at hvs;have hvs':iY p W=vs:=hvs.symm;rw [hvs'];refine wA ?_<|yl h3 ht h13 h14<|hil;refine qE [(.s 2,root)] (.one rfl) qF ⟨qB,⟨by simp [ht,hroot root (Nm.Y0 _),jb (n:=.s 2) (m:=root) (f:=jY DM [(.s 2,root)]) qB],λq v hq=>⟨by simp [(he q v hq).names,hroot root (Nm.Y0 _)],by simp [(he q v hq).vals,hroot root (Nm.Y0 _)]⟩⟩⟩
theorem kQ (gl) (p:YU) (f:Int) (hs:Zm p):qX prog gl 30 [Zc p,iv f] (λr y H'=>y=.hs r 3 0 (vh p f).length/\ZE H' r (vh p f)):=by
 refine qX.Yb func30 [.tmp 4] ntmps30 λC w g root=>?_
 cases hv0:vL p
 .have hv:wR p f=false:=by simp [wR,hv0]
  have hG:vh p f=[]:=by simp [vh,hv]
  rw [hG];have fx:= hv0;have c1:=hv0 ▸ zx gl p hs;refine qI ?_;clear fx c1;refine qE [(.s 4,root)] (.one rfl) qF ⟨qB,⟨qB,λi c h=>gA⟩⟩
 cases hv:wR p f
 .have hf:(decide (0<=f)&&decide (f<=150))=false:=Aq;have hG:vh p f=[]:=by simp [vh,hv]
  rw [hG];have fx:=aI hv0<|hf;have c1:=hv0 ▸ zx gl p hs;have c2:=hf ▸ lJ gl f;refine qI ?_;clear fx c1 c2;refine qE [(.s 4,root)] (.one rfl) qF ⟨qB,⟨qB,λi c h=>gA⟩⟩
 .obtain⟨hpo,n,rfl,hn⟩:=eF hv;have hP:=Yl.of hs hpo;have hf:(decide (0<=(n:Int))&&decide ((n:Int)<=150))=true:=Aq;have hm:=Es hP.sh hn;have hG:vh p n=iY p (ji p n):=by simp [vh,hv]
  rw [hG];have fx:=aI hv0<|hf;have c1:=hv0 ▸ zx gl p hs;have c2:=hf ▸ lJ gl n;refine qI ?_;clear fx c1 c2;intro K hK;have fx:=Ya;refine sx (λk i j he=>BJ) (hF:=Cm gl _ p n hP hn (by simp [noH])) (h:=?_);rintro y H1 ⟨rfl,hO1⟩;clear fx;have hT1:=hO1.top;simp only [uF] at hT1;refine qD ?_<| hT1;have fx:=hT1;refine sx (λk i j he=>BJ) (hF:=OR gl _ _ p (ji p n) hP.sh hm.ok (by simp [bQ]) (by simp [bQ]) (YX.sub (p:=p) (F:=235) (w:=ji p n) (have om:=hO1;YX.re om))) (h:=?_);rintro y H2 ⟨rfl,hV2⟩;clear fx;obtain⟨ht,he⟩:=hV2;refine qD ?_<| ht;refine qE [(.s 4,root)] (.one rfl) qF ⟨qB,⟨FU,λq v hq=>⟨ax,aw⟩⟩⟩
end Go.Proofs.YtdnebaieamppbaaGreatDoor
end
