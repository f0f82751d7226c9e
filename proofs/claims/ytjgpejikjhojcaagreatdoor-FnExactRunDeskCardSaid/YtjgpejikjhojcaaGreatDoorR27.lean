import Derived.Test.YtjgpejikjhojcaaGreatDoorR26
set_option linter.unusedSimpArgs false
set_option linter.unusedVariables false
set_option maxRecDepth 100000
set_option maxHeartbeats 4000000

section
namespace Go.Proofs.YtjgpejikjhojcaaGreatDoor
open Go Go.Hm Go.Proofs Tryz
abbrev Vz:qV:=.q 0<|.q 1<|.q 2<|.q 3<|.q 4<|.q 5<|.q 6<|.q 7<|.q 8<|.q 9<|.q 10<|.q 11<|.q 12<|.q 13<|.q 14<|.q 15<|.q 16<|.q 17<|.q 18<|.q 19<|.done
abbrev WA:qV:=ct<|.l 9 []<|.done
abbrev WB:qV:=aL<|.l 6 [4,3,2,1,0]<|.l 7 [0]<|.q 8<|.q 9<|.l 10 []<|.done
theorem fi {A G G2:Prop} (k:G2) (x:A) (h:A->jL G2->G:=by
 intro fx kk;refine qK ?_
 repeat ((first|refine qQ (id:=4) Vz mixed ?_|refine qQ (id:=5) WA mixed ?_|refine qQ (id:=10) WB mixed ?_);refine zK ?_;refine qK ?_)
 exact kk.h):G:=h x ⟨k⟩
theorem Zv (gl) (H:Nm->Option AO) (p:qC) (m:qR) (fs:List qO) (f:qO) (o:Int×Int) (dp:Nat) (hp:f.qG<p.length) (hc:2<=o.1/\o.1<=13) (hx:rA m f o) (hx8:8<=o.1->o.2<=7) (hg8:m.globals.length=8) (hn8:f.names.length=8) (hst:(o.1 - 2) % 3=1->1<=f.stack.length) (hsl:f.stack.length<=1000) (hO:qS H p (.u 2 0 0) (m.top fs f) dp) (h9:H (.u 9 0 0)=none) :
  qZ prog gl 179 zd [.pt Xn 0,.ep (.u 2 0 0) 7 fs.length 0,.agg [iv o.1,iv o.2]] H (λ_ _ H'=>gP H' p (.u 2 0 0) (if (o.1 - 2) % 3=0 then vj p m fs f o else if (o.1 - 2) % 3=1 then Aj m fs f o else be p m fs f o) dp) zG:=by
 have hT:=hO.top;obtain⟨L,j,hL,hat,hlt,hF,hf,hn,hsk⟩:=hO.uY rfl;simp only [zp,qR.top] at hT;have hsf:=ZQ gl (p:=p) (m:=m) (fs:=fs) (f:=f) (o:=o) (dp:=dp);have hNk:HY (yL (.u 2 0 0) fs.length o):=ZN;have hslot:=λhp h=>qS.Mi (hp:=hp) (p:=p) (n:=.u 2 0 0) (m:=m) (fs:=fs) (f:=f) (dp:=dp) (o:=o) h;have hsetS:=λhp hp' f s h=>qS.jr (hp:=hp) (hp':=hp') (p:=p) (n:=.u 2 0 0) (m:=m) (fs:=fs) (f:=f) (dp:=dp) (o:=o) (s:=s) h rfl;have hxl:=hx.lt;obtain⟨c,a⟩:=o;obtain⟨x,rfl⟩:∃ x:Nat,a=x:=⟨a.toNat,by have:=hx.arg;simp only at this;omega⟩;simp only at hc hst hx8;have hw2:IntKind.i64.wrap (c - 2)=c - 2:=qm qA qA;have hrm:(c - 2).tmod 3=(c - 2) % 3:=Int.tmod_eq_emod_of_nonneg qA;have hwr:IntKind.i64.wrap ((c - 2) % 3)=(c - 2) % 3:=qm qA qA;refine qZ.q9 func179 [] ntmps179 (λ_=>vK) λC w g root hroot=>?_;refine fi ?_<|aI hT<|hF;intro K hK;have fx:=aI hT hF;refine wF zE dT (hF:=hsf _ hp hc hx hg8 hn8 (have h:=hO;qS.re h)) (h:=?_);rintro y H1 ⟨rfl,hO1⟩;clear fx;generalize hNd:yL (.u 2 0 0) fs.length (c,(x:Int))=N at *;generalize hyd:uW f (c,(x:Int))=q at *;generalize hld:aM m f (c,(x:Int))=l at *;have hT1:=hO1.top;refine fi ?_<|zN hT hT1 hF hw2<|hrm
 refine uZ (λs=>s.tm 0=.pt Xn 0/\s.tm 1=.ep (.u 2 0 0) 7 fs.length 0/\s.tm 5=.pt (.s 5) 0/\s.hp (.s 5)=some (.row 2 [[iv c,iv x]])/\s.tm 6=.ep N 3 q 0/\s.tm 7=iv (uE p f (c,(x:Int)))/\s.tm 19=iv ((c - 2) % 3)/\s.tm 87=bv ((c - 2) % 3==1)/\qS s.hp p (.u 2 0 0) (m.top fs f) dp) ⟨zE,dT,qB,qB,qB,qB,qB,qB,(have h:=hO1;qS.re h)⟩ ?_;clear hT hT1 hF hf hn hsk hat hlt hL hO hO1;rintro s ⟨t0,t1,t5,p5,t6,t7,t19,t87,hO⟩;have hT:=hO.top;obtain⟨L,j,hL,hat,hlt,hF,hf,hn,hsk⟩:=hO.uY rfl;simp only [zp,qR.top] at hT;have hsl0:=hslot _ hO;obtain⟨_,hatE⟩:=gS hat;by_cases r1:(c - 2) % 3=1
 .have hne:(c - 2) % 3≠0:=qA;rw [if_neg hne,if_pos r1];obtain⟨k,hk⟩:∃ k,f.stack.length=k+1:=⟨f.stack.length - 1,by have:=hst r1;omega⟩;have hX0:s.hp Xn≠none:=xE;have hU0:s.hp (.u 2 0 0)≠none:=by rw [hF];simp
  refine fi ?_<|vI t0 t1 t5 p5 t6 t7 t19 t87<|r1;intro K hK;obtain⟨rows,rows',a0,a1,a2,a3,a4,a5,vs,e1,e2,e3,e4,e5,e6⟩:=hO.wN hk hNk.u2 (hNk.st _);have fx:=aI t1 hNk.u2;refine Cz zd N (.u 9 0 0) (.u 2 0 0) (.row 7 (j3 rows fs.length 6 [.hs (.c (.u 2 0 0) fs.length 6) 2 0 k])) (qW.av f.zB) (hV:=rfl) (hN:=hNk.z7) (hVe:=xV) (λ_=>vK) hNk.u9 hNk.D (λ_=>HM) (by simp [hsl0]) (λk i j _=>HL hX0 hU0 k i j) qB hNk.u2 qB (hF:=IX) (h:=?_);intro hp' hS;clear fx;have hOp:=(hO.cn e1 hk).same (.inr rfl) hS;have hsl1:hp' N=some (.row 3 (zA l)):=by rw [<- hNd,<- hld];exact qS.Mi (f:=f.pop) hOp
  have n1:=hNk.u2;have n2:=hNk.x;have n3:=hNk.u9;obtain⟨nb,n4,n5⟩:=hNk.b;have n6:=hNk.s;have hpop:Aj m fs f (c,(x:Int))=Hm.jr m fs f.pop (c,(x:Int)) (some f.zB):=rfl;rw [hpop];generalize hv:f.zB=v;obtain⟨v1,v2⟩:=v;refine fi ?_<|jS t0 t1 t6 hsl1 n1 n2 n3 n4 n5 n6<|hxl;refine yb [] .nil qE (qS.cm (qS.fin (qS.jr (f:=f.pop) hOp rfl λk hk=>?_) (.inr rfl)));rw [show aM m f.pop (c,(x:Int))=l from hld,show uW f.pop (c,(x:Int))=q from hyd,hNd];simp only [py,tk] at hk;simp [hk,hv]
 obtain⟨s0,hs0⟩:=gX hxl;obtain⟨_,hsE⟩:=gS hs0;have hgs:kG m f (c,(x:Int))=s0:=by rw [Rb,hyd,hld];simp [jW,hs0]
 obtain⟨nb,n4,n5⟩:=hNk.b;have n1:=hNk.u2;have n2:=hNk.x;have n3:=hNk.u9;have n6:=hNk.s;have nX:¬ Xn=N:=λe=>by rw [<- e] at n2;simp at n2
 have nU:¬ .u 2 0 0=N:=λe=>by rw [<- e] at n1;simp at n1
 have nY:¬ N=Xn:=λe=>nX e.symm;by_cases r2:(c - 2) % 3=2
 .have hne:(c - 2) % 3≠0:=qA;rw [if_neg hne,if_neg r1]
  cases s0 with
  | some u =>
   have hd:be p m fs f (c,(x:Int))=Hm.jr m fs f (c,(x:Int)) none:=by simp only [be,hgs]
   rw [hd];obtain⟨u1,u2⟩:=u;refine fi ?_<|qh t0 t1 t5 p5 t6 t7 t19 t87 r1 r2 hsl0 hxl<|zD hs0 hsE nX<|nU;refine yb [] .nil qE (qS.cm (qS.fin (qS.jr (f:=f) hO rfl λk hk=>?_) (.inr rfl)));rw [hld,hyd,hNd];simp
  | none =>
   have hd:be p m fs f (c,(x:Int))=m.stop fs f (uE p f (c,(x:Int))):=by simp only [be,hgs]
   rw [hd]
   have hln:l.set q none=l:=by
    apply y6;intro i;rw [dt];by_cases e:q=i
    .subst e;simp [hxl,hsE]
    .simp [e]
   refine fi ?_<|qh t0 t1 t5 p5 t6 t7 t19 t87 r1 r2 hsl0 hxl<|jH hs0 hsE nX nU nY<|hT;refine yb [] .nil qE (qS.cm (qS.fin (qS.Bq hO rfl λk hk=>?_) (.inr rfl)));by_cases e:k=N
   .subst e;simp [nX,nY,hsl0,hln]
   .simp [e,hT,zp,qR.top]
 .have r0:(c - 2) % 3=0:=qA;rw [if_pos r0];have hsl':f.stack.length<=1000:=hsl
  cases s0 with
  | some u =>
   have hd:vj p m fs f (c,(x:Int))=m.top fs (f.push u):=by simp only [vj,hgs]
   rw [hd];obtain⟨u1,u2⟩:=u;refine fi ?_<|qh t0 t1 t5 p5 t6 t7 t19 t87 r0 r1 r2 hsl0<|qh hxl hs0 hsE nX nU nY n6 hF hat hatE hlt hsk<|hsl;refine yb [] .nil qE (qS.cm (qS.fin (have h:=hO;qS.uC h rfl hL rfl eC dy eF ⟨[],dz⟩ (h0:=cP)) (.inr rfl)))
  | none =>
   by_cases c8:8<=c
   .have hwy:uE p f (c,(x:Int))=4:=by simp only [uE];rw [if_neg qA,if_neg qA]
    have hxg:x<m.globals.length:=by have:=hx8 c8;omega
    have hx8i:(x:Int)<8:=qA;obtain⟨g0,hg0⟩:=gX hxg;obtain⟨_,hgE⟩:=gS hg0;have hGl:=hO.zJ;simp only [qAf] at hGl;have hsg:jW m.globals x=g0:=by simp [jW,hg0]
    cases g0 with
    | some u =>
     have hd:vj p m fs f (c,(x:Int))=m.top fs (f.push u):=by simp only [vj,hgs,hwy,if_true,uR,hsg]
     rw [hd];rw [hwy] at t7;obtain⟨u1,u2⟩:=u;refine fi ?_<|qh t0 t1 t5 p5 t6 t7 t19 t87 r0 r1 r2 hsl0<|qh hxl hs0 hsE nX nU nY n6 hF hat hatE hlt hsk<|jN hsl hT hGl hg0 hgE hxg hx8i<|hg8;refine yb [] .nil qE (qS.cm (qS.fin (have h:=hO;qS.uC h rfl hL rfl eC dy eF ⟨[],dz⟩ (h0:=cP)) (.inr rfl)))
    | none =>
     rw [hwy] at t7;by_cases h7:x=7
     .subst h7
      have hd:vj p m fs f (c,((7:Nat):Int))=m.top fs (f.push (1,70)):=by
       simp only [vj,hgs,hwy,if_true,uR,hsg]
       rfl
      rw [hd];refine fi ?_<|qh t0 t1 t5 p5 t6 t7 t19 t87 r0 r1 r2 hsl0<|qh hxl hs0 hsE nX nU nY n6 hF hat hatE hlt hsk<|jN hsl hT hGl hg0 hgE hxg hx8i<|hg8;refine yb [] .nil qE (qS.cm (qS.fin (have h:=hO;qS.uC h rfl hL rfl eC dy eF ⟨[],dz⟩ (h0:=cP)) (.inr rfl)))
     .have h7i:¬ (x:Int)=7:=qA;have h7b:((x:Int)==7)=false:=by simpa using h7i
      have hd:vj p m fs f (c,(x:Int))=m.stop fs f 4:=by
       simp only [vj,hgs,hwy,if_true,uR,hsg];rw [if_neg h7i]
      rw [hd];refine fi ?_<|qh t0 t1 t5 p5 t6 t7 t19 t87 r0 r1 r2 hsl0<|qh hxl hs0 hsE nX nU nY n6 hF hat hatE hlt hsk<|vI hsl hT hGl hg0 hgE hxg hx8i hg8<|h7b;refine yb [] .nil qE ⟨fs++[f.push (0,0)],⟨λe=>absurd e qB,BO⟩,qS.fin (have h:=hO;qS.uC h rfl hL rfl eC dy eF ⟨[],dz⟩ (h0:=cP)) (.inr rfl)⟩
   .have hw4:uE p f (c,(x:Int))=2\/uE p f (c,(x:Int))=3:=by
     simp only [uE];by_cases c4:c<=4
     .rw [if_pos c4];exact .inl rfl
     .rw [if_neg c4,if_pos qA];by_cases e:(x:Int)<(qY p f.qG).length
      .rw [if_pos e];exact .inl rfl
      .rw [if_neg e];exact .inr rfl
    have hwn:uE p f (c,(x:Int))≠4:=qA
    have hd:vj p m fs f (c,(x:Int))=m.stop fs f (uE p f (c,(x:Int))):=by
     simp only [vj,hgs];rw [if_neg hwn]
    rw [hd];clear hd hsf;generalize uE p f (c,(x:Int))=w at hw4 t7 hwn ⊢;have hwb:(w==4)=false:=by simpa using hwn
    refine fi ?_<|qh t0 t1 t5 p5 t6 t7 t19 t87 r0 r1 r2 hsl0<|qh hxl hs0 hsE nX nU nY n6 hF hat hatE hlt hsk<|qk hsl hT<|hwb;refine yb [] .nil qE ⟨fs++[f.push (0,0)],⟨λe=>absurd e qu,BO⟩,qS.fin (have h:=hO;qS.uC h rfl hL rfl eC dy eF ⟨[],dz⟩ (h0:=cP)) (.inr rfl)⟩
abbrev WC:qV:=ea<|.l 14 []<|.done
abbrev WD:qV:=kf<|.l 11 []<|.done
abbrev WE:qV:=aL<|.l 6 [4,3,2,1,0]<|.l 7 [0]<|.q 8<|.q 9<|.l 10 []<|.done
abbrev WF:qV:=aK<|.done
abbrev WG:qV:=ct<|.l 9 [4,3,2,1,0]<|.l 10 [4,3,2,1,0]<|.l 11 [0]<|.q 12<|.q 13<|.l 14 []<|.done
theorem FA {A G G2:Prop} (k:G2) (x:A) (h:A->jL G2->G:=by
 intro fx kk;refine qK ?_
 repeat ((first|refine qQ (id:=1) WC mixed ?_|refine qQ (id:=3) WD mixed ?_|refine qQ (id:=4) WE mixed ?_);refine zK ?_;refine qK ?_)
 exact kk.h):G:=h x ⟨k⟩
theorem FF (gl) (H:Nm->Option AO) (p:qC) (m:qR) (fs:List qO) (f:qO) (v:qW) (dp:Nat) (hm:m.qN=fs++[f]) (hfl:fs.length<=1000) (hsl:∀ g∈fs,g.stack.length<=1000) (hO:qS H p (.u 2 0 0) m dp) :
  qZ prog gl 181 zd [.pt Xn 0,qW.av v] H (λ_ _ H'=>qS H' p (.u 2 0 0) (yq m fs v) dp) zG:=by
 have hT:=hO.top;obtain⟨L,j,hL,hat,hlt,hF,hf,hn,hsk⟩:=hO.uY hm;simp only [zp,hm,ua,wm] at hT;obtain⟨v1,v2⟩:=v;have hw1:IntKind.i64.wrap (fs.length:Int)=fs.length:=qm qA qA;have hl1:(fs.length:Int)<=(fs.length:Int)+1:=qA;have hl0:(0:Int)<=(fs.length:Int):=qA;refine qZ.q9 func181 [] ntmps181 (λ_=>vK) λC w g root hroot=>?_;refine FA ?_<|jH hT hF hw1 hl1 hl0<|hlt;refine uZ (λs=>s.tm 0=.pt Xn 0/\s.tm 3=.pt (.s 3) 0/\s.hp (.s 3)=some (.row 2 [[iv v1,iv v2]])/\s.tm 24=bv (decide (0<(fs.length:Int)))/\qS s.hp p (.u 2 0 0) { m with qN:=fs } dp) ⟨zE,qB,qB,qB,?_⟩ ?_
 .refine qS.qv (f:=kl (.s 3)) (hO.cut (hp':=λk=>if k=Xn then some (.row 13 [zp p (.u 2 0 0) { m with qN:=fs } dp]) else H k) hm qB (λq h _=>gj) rfl) (.inr rfl) (λq hq=>?_) (λq hq=>?_)
  .have:=(jg (λ_=>vK) hq 3).2;simp [this]
  .have hq2:=(jg (λ_=>vK) hq 3).1;have hq3:=(jg (λ_=>vK) hq 3).2;by_cases e:q=Xn
   .subst e;simp [zp,AO.tr]
   .simp [hq2,hq3,e]
 clear hT hF hf hn hsk hat hlt hL hO;rintro s ⟨t0,t3,p3,t24,hO⟩;have hT:=hO.top;simp only [zp] at hT
 cases hgl:fs.getLast? with
 | none =>
  have hfs:fs=[]:=List.getLast?_eq_none_iff.1 hgl;have hle:yq m fs (v1,v2)={ m with qN:=[] }:=by simp only [yq,hgl]
  subst hfs;rw [hle];refine FA ?_<|zN t0 t3 p3 t24<|hT;refine yb [] .nil qE (qS.fin (have h:=hO;qS.re h) (.inr rfl))
 | some g =>
  obtain⟨gs,rfl⟩:∃ gs,fs=gs++[g]:=by
   obtain⟨ys,hy⟩:=Ay.1 hgl;exact⟨ys,hy⟩
  have hle:yq m (gs++[g]) (v1,v2)={ m with qN:=gs++[g.push (v1,v2)] }:=by simp only [yq,hgl];simp
  rw [hle];have hsl:=hsl g qB;obtain⟨L,j,hL,hat,hlt,hF,hf,hn,hsk⟩:=qS.uY hO rfl;obtain⟨_,hatE⟩:=gS hat;simp only [ua,wm] at hfl hT t24;have hw2:IntKind.i64.wrap (gs.length:Int)=gs.length:=qm qA qA;have hl1:(gs.length:Int)<(gs.length:Int)+1:=qA;have hl0:(0:Int)<=(gs.length:Int):=qA;refine FA ?_<|qh t0 t3 p3 t24 hT hF hw2 hl1 hl0 hlt hat hatE<|qk hsk hsl<|hfl;refine yb [] .nil qE (qS.fin (have h:=hO;qS.uC h rfl hL rfl eC dy eF ⟨[],dz⟩ (h0:=cP)) (.inr rfl))
theorem xu {A G G2:Prop} (k:G2) (x:A) (h:A->jL G2->G:=by
 intro fx kk;refine qK ?_
 repeat ((first|refine qQ (id:=0) WF mixed ?_|refine qQ (id:=1) WG mixed ?_);refine zK ?_;refine qK ?_)
 exact kk.h):G:=h x ⟨k⟩
theorem Q2 (gl) (H:Nm->Option AO) (p:qC) (m:qR) (fs:List qO) (f:qO) (dp:Nat) (hp:f.qG<p.length) (hm:m.qN=fs++[f]) (hfl:fs.length<=1000) (hsl:∀ g∈fs,g.stack.length<=1000) (hn8:f.names.length=8) (hcl:m.qT.length<=1000) (hO:qS H p (.u 2 0 0) m dp) :
  qZ prog gl 178 zd [.pt Xn 0,.ep (.u 2 0 0) 7 fs.length 0] H (λ_ _ H'=>qS H' p (.u 2 0 0) (aC p m fs f) dp) zG:=by
 have hT:=hO.top;obtain⟨L,j,hL,hat,hlt,hF,hf,hn,hsk⟩:=hO.uY hm;obtain⟨_,hatE⟩:=gS hat;simp only [zp,hm,ua,wm] at hT;obtain⟨k,hk⟩:=gX hp;have hcd:(jb p p.length)[f.qG]?=some (zO p f.qG):=xH;obtain⟨hcdl,hcdE⟩:=gS hcd;have hck:(zO p f.qG).kind=j9 p f.qG:=by simp [zO,hk,j9]
 have hcp:=EZ gl f.names hn8;have hC:=hO.jA;have hap:wK m.qT++[[.sl 3 (zA f.names)]]=wK (m.qT++[f.names]):=QC;have hwc:IntKind.i64.wrap (m.qT.length:Int)=m.qT.length:=qm qA qA;refine qZ.q9 func178 [] ntmps178 (λ_=>vK) λC w g root hroot=>?_;by_cases hk2:j9 p f.qG=2
 .have he:aC p m fs f=yq { m with qT:=m.qT++[f.names] } fs (3,m.qT.length):=by rw [aC,if_pos hk2]
  rw [he];rw [hk2] at hck;refine xu ?_<|qh hT hF hat hatE hlt hn hcd hcdl hcdE hck hC hcl<|aI hn8<|hwc;intro K hK;have fx:=aI hT (aI hF (aI hat (aI hatE (aI hlt (aI hn (aI hC (aI hcl hn8)))))));refine Gw (λK' h'=>kH (hF:=hcp) (h:=h')) (by simp [hn8]) ZS ?_;clear fx;refine xu ?_<|qh hT hF hat hatE hlt hn hcd hcdl hcdE hck hC hcl<|aI hn8<|hwc;intro K hK;have fx:=aI hT hF;refine wF qB dT (hF:=FF _ _ p { m with qT:=m.qT++[f.names] } fs f (3,m.qT.length) dp hm hfl hsl (have h:=hO;qS.re h (h0:=by simp [zp,hm]) (h5:=by simp [hap]))) (h:=?_);rintro y H1 hO1;clear fx;have hT1:=hO1.top;refine xu ?_<| hT1;refine qF [] .nil qE (qS.fin (have h:=hO1;qS.re h) (.inr rfl))
 .have he:aC p m fs f=yq m fs (0,0):=by rw [aC,if_neg hk2]
  rw [he];have hkb:(j9 p f.qG==2)=false:=by simpa using hk2
  refine xu ?_<|jS hT hF hat hatE hlt hn hcd hcdl hcdE hck<|hkb;intro K hK;have fx:=aI hT hF;refine wF zE dT (hF:=FF _ _ p m fs f (0,0) dp hm hfl hsl (have h:=hO;qS.re h)) (h:=?_);rintro y H1 hO1;clear fx;have hT1:=hO1.top;refine xu ?_<|aI hT<|hT1;refine yb [] .nil qE (qS.fin (have h:=hO1;qS.re h) (.inr rfl))
abbrev Fu:qV:=.q 0<|.q 1<|.q 2<|.q 3<|.l3 4 [0] (.l2 5 [0] (.q 6<|.l 7 [6,0]<|.l 8 []<|.done) 7 [0] (.l 5 [0]<|.q 6<|.l 8 []<|.done)) 5 [3,2,1,0] (.l2 4 [0] (.q 6<|.l 7 [6,0]<|.l 8 []<|.done) 7 [3,2,1,0] (.l 4 [0]<|.q 6<|.l 8 []<|.done)) 7 [3,2,1,0] (.l2 4 [0] (.l 5 [0]<|.q 6<|.l 8 []<|.done) 5 [3,2,1,0] (.l 4 [0]<|.q 6<|.l 8 []<|.done))
abbrev Fv:qV:=bF<|.l 8 [3,2,1,0]<|.l 9 [3,2]<|.q 10<|.l 11 []<|.done
theorem UB (gl) (H:Nm->Option AO) (p:qC) (m:qR) (b:Nat) (cs:List Nat) (dp:Nat) (hb:b<p.length) (hcl:m.cells.length<=2000) (hcs:cs.length<=8) (hmd:m.made<=1000) (hO:qS H p (.u 2 0 0) m dp) :
  qZ prog gl 130 zd [.pt Xn 0,iv b,jG (jK cs)] H (λr y H'=>y=.agg [iv b,iv 0,iv (-1),.hs (.c r 0 3) 3 0 (qx p b).length,.hs (.c r 0 4) 1 0 ((qY p b).length+cs.length),.hs (.c r 0 5) 3 0 8,.hs (.c r 0 6) 2 0 0]/\H' (.c r 0 3)=some (.row 3 (zA (List.replicate (qx p b).length none)))/\H' (.c r 0 4)=some (.row 1 (qj (jK (((List.range (qY p b).length).map (m.cells.length+·))++cs))))/\H' (.c r 0 5)=some (.row 3 (zA jR))/\H' (.c r 0 6)=some (.row 2 [])/\qS H' p (.u 2 0 0) { m with cells:=m.cells++List.replicate (qY p b).length none,made:=m.made+1 } dp/\∀ q,Nm.under r q=true->zd q=false) zG:=by
 have hT:=hO.top;simp only [zp] at hT;obtain⟨kk,hk⟩:=gX hb;have hcd:(jb p p.length)[b]?=some (zO p b):=B2;obtain⟨hcdl,hcdE⟩:=gS hcd;have hcf:(zO p b).qq=qx p b:=fT;have hcc:(zO p b).cells=qY p b:=fT;have hf8:=pD (p:=p) (b:=b);have hc8:=cT (p:=p) (b:=b);refine qZ.q9 func130 [.cell 6 214] ntmps130 (λ_=>vK) λC w g root hroot=>?_;have hr0:=hroot root (Nm.kj _);simp only [py,Bool.or_eq_false_iff] at hr0;obtain⟨hr1,hr2⟩:=hr0;have hrp:List.replicate (qx p b).length [bv false,iv 0,iv 0]=zA (List.replicate (qx p b).length none):=mi
 refine S7 (λs=>s.tm 0=.pt Xn 0/\s.tm 1=iv b/\s.tm 2=jG (jK cs)/\s.tm 6=.pt (.s 6) 0/\s.tm 7=.pt (.s 7) 0/\s.hp (.s 7)=some (.row 6 [(zO p b).row])/\s.tm 8=.pt (.s 8) 0/\s.hp (.s 8)=some (.row 7 [[iv b,iv 0,iv (-1),.hs (.c (.s 8) 0 3) 3 0 (qx p b).length,.hs (.c (.s 8) 0 4) 1 0 0,.hs (.c (.s 8) 0 5) 3 0 8,.hs (.c (.s 8) 0 6) 2 0 0]])/\s.hp (.c (.s 8) 0 3)=some (.row 3 (zA (List.replicate (qx p b).length none)))/\s.hp (.c (.s 8) 0 4)=some (.row 1 [])/\s.hp (.c (.s 8) 0 5)=some (.row 3 (zA jR))/\s.hp (.c (.s 8) 0 6)=some (.row 2 [])/\s.tm 9=iv 0/\(∃ r,s.hp (.s 6)=some (.row 7 [r])/\r.length=7)/\qS s.hp p (.u 2 0 0) m dp) ?_ (by
  intro kk
  all_goals have fx:=jN hT hcd hcdl hcdE hcf hcc hf8<|hc8
  repeat' (first
   | refine wV ?_|refine bN ?_|refine af ?_|refine ae λK hK=>?_
   | ((with_reducible refine uz hK ?_);clear hK K)
   | (with_reducible first|refine wT ?_|refine cY ?_|refine dE ?_|refine cX ?_|refine bL ?_|refine bi ?_|refine gA ?_|refine cZ qe ?_)
   | refine dG ?_
   | refine bO ?_
   | (with_reducible first|refine wB ?_|refine ag (h:=?_)|refine iX (h:=?_)|refine iY (h:=?_)|refine dH (T:=38) (h:=?_)|refine bP (T:=38) (h:=?_)|refine dH (T:=69) (h:=?_)|refine bP (T:=69) (h:=?_)|refine lr (h:=?_)|refine lq (h:=?_)|refine dI (h:=?_))
   | ((with_reducible refine cj 64 rfl ?_);refine wW (hF:=Bp gl) (h:=?_))
   | (with_reducible refine we (h:=?_))
   | refine bz (h1:=?_)|refine dJ (h1:=?_)
   | (refine qQ (id:=2) Fu mixed λK hK=>?_)
   | (refine qQ (id:=7) Fv mixed λK hK=>?_)
   | ((with_reducible refine cE hK ?_);clear hK K)
   | ((with_reducible refine ah ?_);first|refine lu (h:=?_)|refine pu (h:=?_)|refine pr (h:=?_)|refine pw (h:=?_))
   | ((with_reducible refine ah ?_);refine pq (h1:=λht=>?_) (h2:=λht=>?_))
   | refine ik rfl ?_|refine oN ?_ ?_|refine oO ?_ ?_ ?_|(with_reducible refine aI ?_ ?_)|exact iQ|refine iZ (h2:=?_)
   | fail)
  all_goals try clear fx
  all_goals exact kk.h _ ⟨zE,qB,qB,qB,qB,by simp [hcf,hcc],qB,qB,by simp [hrp],qB,qB,qB,qB,⟨_,qE,qB⟩,(have h:=hO;qS.re h)⟩)
 clear hT;rintro s ⟨t0,t1,t2,t6,t7,p7,t8,p8,p83,p84,p85,p86,t9,⟨r6,p6,h6⟩,hO1⟩;refine zQ (λn st=>∃ i:Nat,n=(qY p b).length - i/\i<=(qY p b).length/\st.tm 0=.pt Xn 0/\st.tm 1=iv b/\st.tm 2=jG (jK cs)/\st.tm 6=.pt (.s 6) 0/\st.tm 7=.pt (.s 7) 0/\st.hp (.s 7)=some (.row 6 [(zO p b).row])/\st.tm 8=.pt (.s 8) 0/\st.hp (.s 8)=some (.row 7 [[iv b,iv 0,iv (-1),.hs (.c (.s 8) 0 3) 3 0 (qx p b).length,.hs (.c (.s 8) 0 4) 1 0 i,.hs (.c (.s 8) 0 5) 3 0 8,.hs (.c (.s 8) 0 6) 2 0 0]])/\st.hp (.c (.s 8) 0 3)=some (.row 3 (zA (List.replicate (qx p b).length none)))/\st.hp (.c (.s 8) 0 4)=some (.row 1 (qj (jK ((List.range i).map (m.cells.length+·)))))/\st.hp (.c (.s 8) 0 5)=some (.row 3 (zA jR))/\st.hp (.c (.s 8) 0 6)=some (.row 2 [])/\st.tm 9=iv i/\(∃ r,st.hp (.s 6)=some (.row 7 [r])/\r.length=7)/\qS st.hp p (.u 2 0 0) { m with cells:=m.cells++List.replicate i none } dp) (qY p b).length ?_ ?_
 .exact⟨0,qA,qA,t0,t1,t2,t6,t7,p7,t8,p8,p83,by simp [p84,jK],p85,p86,t9,⟨r6,p6,h6⟩,by simpa using hO1⟩
 clear t0 t1 t2 t6 t7 p7 t8 p8 p83 p84 p85 p86 t9 hO1 p6;rintro n st - - ⟨i,rfl,hi,t0,t1,t2,t6,t7,p7,t8,p8,p83,p84,p85,p86,t9,⟨r6,p6,h6⟩,hO1⟩;have hT:=hO1.top;have hC:=hO1.cells;simp only [zp,ua,List.length_replicate] at hT;simp only at hC;have hcl2:m.cells.length+i<=3000:=qA;have hil8:i<=8:=qA;by_cases hil:i<(qY p b).length
 .have hwl:IntKind.i64.wrap ((m.cells.length:Int)+i)=(m.cells.length:Int)+i:=qm qA qA
  have hap:zA (m.cells++List.replicate i none)++[[bv false,iv 0,iv 0]]=zA (m.cells++List.replicate (i+1) none):=by
   rw [List.replicate_succ'];simp [zA]
  have hap2:qj (jK ((List.range i).map (m.cells.length+·)))++[[iv ((m.cells.length:Int)+i)]]=qj (jK ((List.range (i+1)).map (m.cells.length+·))):=by
   rw [oU];simp [jK,qj]
  have hil1:(jK ((List.range i).map (m.cells.length+·))).length=i:=qB;have fx:=qh t0 t1 t2 t6 t7 p7 t8 p8 p83 p84 p85 p86<|y8 t9 p6 hT hC hcl2 hil8 hil hwl hil1<|hcc;refine qK ?_
  repeat ((first|refine qQ (id:=2) Fu mixed ?_|refine qQ (id:=7) Fv mixed ?_);refine zK ?_;refine qK ?_)
  clear fx;have htk2:(m.cells++List.replicate i none).take (m.cells.length+i)=m.cells++List.replicate i none:=yG qB;have htk:(jK ((List.range i).map (m.cells.length+·))).take i=jK ((List.range i).map (m.cells.length+·)):=yG qB;refine⟨(qY p b).length - (i+1),qA,i+1,rfl,qA,uv,lG,kS,iy,by simp [t7],by simp [p7],fQ,qB,by simp [p83],?_,by simp [p85],by simp [p86],jM,⟨_,by simp [p6];rfl,by simpa using h6⟩,(have h:=hO1;qS.re h (h0:=by simp [zp];omega) (h2:=by simp [<- hap];rw [htk2]))⟩;simp [<- hap2,htk]
 .obtain rfl:i=(qY p b).length:=qA;have hil1:(jK ((List.range (qY p b).length).map (m.cells.length+·))).length=(qY p b).length:=qB;have hwm:IntKind.i64.wrap ((m.made:Int)+1)=(m.made:Int)+1:=qm qA qA;have hd6:r6.drop 7=[]:=Az qA;have htk:(jK ((List.range (qY p b).length).map (m.cells.length+·))).take (qY p b).length=jK ((List.range (qY p b).length).map (m.cells.length+·)):=yG qB;have fx:=qh t0 t1 t2 t6 t7 p7 t8 p8 p83 p84 p85 p86<|y8 t9 p6 hd6 hT hC hil8 hcc hil1 hcs<|hwm;refine qK ?_
  repeat ((first|refine qQ (id:=2) Fu mixed ?_|refine qQ (id:=7) Fv mixed ?_);refine zK ?_;refine qK ?_)
  clear fx;refine qF [(.s 8,root)] (.one rfl) (by simp [t6,hd6];rfl) ⟨qB,by simp [p83,hr1,hr2],?_,by simp [p85,hr1,hr2],by simp [p86,hr1,hr2],qS.fin (have h:=hO1;qS.re h) (.inr rfl),hroot⟩;have hna:∀ a b:List Nat,jK (a++b)=jK a++jK b:=λa b=>by simp [jK]
  rw [hna];simp [hr1,hr2,htk]
theorem FT (gl) (H:Nm->Option AO) (p:qC) (m:qR) (b:Nat) (cs:List Nat) (dp:Nat) (hb:b<p.length) (hcl:m.cells.length<=2000) (hcs:cs.length<=8) (hmd:m.made<=1000) (hO:qS H p (.u 2 0 0) m dp) :
  qZ prog gl 130 zd [.pt Xn 0,iv b,jG (jK cs)] H (λr y H'=>y=.agg [iv b,iv 0,iv (-1),.hs (.c r 0 3) 3 0 (qx p b).length,jG (jK (((List.range (qY p b).length).map (m.cells.length+·))++cs)),.hs (.c r 0 5) 3 0 8,.hs (.c r 0 6) 2 0 0]/\H' (.c r 0 3)=some (.row 3 (zA (List.replicate (qx p b).length none)))/\H' (.c r 0 5)=some (.row 3 (zA jR))/\H' (.c r 0 6)=some (.row 2 [])/\qS H' p (.u 2 0 0) { m with cells:=m.cells++List.replicate (qY p b).length none,made:=m.made+1 } dp) zG:=by
 refine (UB gl H p m b cs dp hb hcl hcs hmd hO).settle (λr n=>Nm.under (.c r 0 4) n) ?_;rintro r y H' ⟨rfl,h3,h4,h5,h6,hO',hr⟩
 have hne:∀ q,zd q=true->Nm.under (.c r 0 4) q=false:=by
  intro q hq
  cases h:Nm.under (.c r 0 4) q with
  | false=>rfl
  | true =>
   have:=hr q (Nm.gH (a:=r) qB h);rw [this] at hq
   cases hq
 have hu:∀ j,j≠4->Nm.under (.c r 0 4) (.c r 0 j)=false:=by
  intro j hj
  have hx:Nm.under (.c r 0 4) r=false:=by
   cases h:Nm.under (.c r 0 4) r with
   | false=>rfl
   | true=>exact absurd rfl (Nm.Cq h).2
  simp [hx,hj]
 refine⟨.agg [iv b,iv 0,iv (-1),.hs (.c r 0 3) 3 0 (qx p b).length,jG (jK (((List.range (qY p b).length).map (m.cells.length+·))++cs)),.hs (.c r 0 5) 3 0 8,.hs (.c r 0 6) 2 0 0],.agg _ _ rfl λj a a' ha ha'=>?_,rfl,?_,?_,?_,?_⟩
 .match j,ha,ha' with
  | 0,ha,ha'=>obtain rfl:=sI ha;obtain rfl:=sI ha';exact .refl _
  | 1,ha,ha'=>obtain rfl:=sI ha;obtain rfl:=sI ha';exact .refl _
  | 2,ha,ha'=>obtain rfl:=sI ha;obtain rfl:=sI ha';exact .refl _
  | 3,ha,ha'=>obtain rfl:=sI ha;obtain rfl:=sI ha';exact .refl _
  | 4,ha,ha' =>
   obtain rfl:=sI ha;obtain rfl:=sI ha';refine .hs (.c r 0 4) 1 0 _ _ _ qB h4 qB qB wJ λi r1 r2 e1 e2 j a a' e3 e4=>?_;rw [fF,e2] at e1;obtain rfl:=sI e1;rw [e3] at e4;obtain rfl:=sI e4;exact .refl _
  | 5,ha,ha'=>obtain rfl:=sI ha;obtain rfl:=sI ha';exact .refl _
  | 6,ha,ha'=>obtain rfl:=sI ha;obtain rfl:=sI ha';exact .refl _
  | j+7,ha,_=>simp at ha
 .simp only [yX,hu 3 qe,wk,if_false,h3]
 .simp only [yX,hu 5 qe,wk,if_false,h5]
 .simp only [yX,hu 6 qe,wk,if_false,h6]
 .exact hO'.pC (.inr rfl) λq hq=>by simp only [yX,hne q hq,wk,if_false]
abbrev Lt:qV:=bF<|.l 8 [7,6,5,4,3,2,1,0]<|.l 9 []<|.done
abbrev WH:qV:=a7<|.l 7 []<|.l 8 []<|.done
abbrev WI:qV:=tD<|.q 16<|.l 13 [16,5,4,3,2,1,0]<|.q 14<|.q 15<|.q 17<|.l 18 []<|.done
abbrev WJ:qV:=aL<|.l 6 [4,3,2,1,0]<|.l 7 [0]<|.q 8<|.q 9<|.l 10 []<|.done
theorem eO {A G G2:Prop} (k:G2) (x:A) (h:A->jL G2->G:=by
 intro fx kk;refine qK ?_
 repeat ((first|refine qQ (id:=8) Lt mixed ?_|refine qQ (id:=9) Lt mixed ?_|refine qQ (id:=17) WH mixed ?_|refine qQ (id:=20) WI mixed ?_|refine qQ (id:=21) WJ mixed ?_);refine zK ?_;refine qK ?_)
 exact kk.h):G:=h x ⟨k⟩
theorem Zu (gl) (H:Nm->Option AO) (p:qC) (m:qR) (fs:List qO) (f:qO) (n dp pc0:Nat) (hP:zk p) (h:yV p m fs { f with pc:=pc0 }) (hn1:n<=1) (hst:n+1<=f.stack.length) (hsl:f.stack.length<=1000) (hfl:fs.length<=1000) (hO:qS H p (.u 2 0 0) (m.top fs f) dp) :
  qZ prog gl 180 zd [.pt Xn 0,.ep (.u 2 0 0) 7 fs.length 0,iv n] H (λ_ _ H'=>∃ q,(q=.u 2 0 0\/q=.c Xn 0 6)/\qS H' p q (b9 p m fs f (17,(n:Int))) dp) zG:=by
 have hT:=hO.top;have hF:=hO.fr.top;refine qZ.q9 func180 [] ntmps180 (λ_=>vK) λC w g root hroot=>?_;have hcm:=I1 (p:=p) (m:=m) (fs:=fs) hst;refine eO ?_<|qd;refine zQ (λk s=>∃ i:Nat,k=n - i/\i<=n/\s.tm 0=.pt Xn 0/\s.tm 1=.ep (.u 2 0 0) 7 fs.length 0/\s.tm 2=iv n/\s.tm 6=.hs (.s 6) 2 0 i/\s.hp (.s 6)=some (.row 2 (zh (f.stack.drop (f.stack.length - i))))/\s.tm 7=iv i/\qS s.hp p (.u 2 0 0) (m.top fs (f.cut i)) dp) n ?_ ?_
 .exact⟨0,qA,qA,qB,qB,qB,qB,mT,qB,by rw [Iq];exact (have h:=hO;qS.re h)⟩
 clear hT hF hO;rintro k s - - ⟨i,rfl,hi,t0,t1,t2,t6,p6,t7,hO⟩;have hT:=hO.top;have hX0:s.hp Xn≠none:=xE;have hU0:s.hp (.u 2 0 0)≠none:=by obtain⟨js,e⟩:=hO.fr.top;rw [e];simp
 have hk:=Ip (f:=f) (i:=i) qA;obtain⟨rows,a0,a1,a2,a3,a4,a5,vs,e1,e2,e3,e4,e5⟩:=hO.take hk;by_cases hil:i<n
 .have hdl:(zh (f.stack.drop (f.stack.length - i))).length=i:=qu;have hdv:=Io (f:=f) (i:=i) qA;refine eO ?_<|jI t0 t1 t2 t6 p6 t7<|hil;intro K hK;have fx:=aI t0 (aI t1 t6);refine wF (mK.2 hX0) (mK.2 hU0) (hF:=pR gl zd (λ_=>vK) _ rows fs.length (f.stack.length - (i+1)) a0 a1 a2 a3 a4 a5 vs (f.cut i).zB e2 e3 e4 e5 qA) (h:=?_);intro y H1 hw;clear fx;have hO1:=hO.taken e1 hk hw;obtain⟨rfl,-⟩:=hw;rw [Bm qA] at hO1;generalize (f.cut i).zB=v at *;obtain⟨v1,v2⟩:=v;have hT1:=hO1.top;have hap:[[iv v1,iv v2]]++zh (f.stack.drop (f.stack.length - i))=zh (f.stack.drop (f.stack.length - (i+1))):=by rw [hdv];rfl
  have hi1:i<=1:=qA;refine eO ?_<|vI t0 t1 t2 t6 p6 t7 hT1 hdl<|hi1;have htk:(f.stack.drop (f.stack.length - i)).take i=f.stack.drop (f.stack.length - i):=yG qu;exact⟨n - (i+1),qA,i+1,rfl,qA,kr,by simp [t1,e1],kS,qu,by simp [htk,<- hap],jM,(have h:=hO1;qS.re h)⟩
 .obtain rfl:i=n:=qA;have hdl:(f.stack.drop (f.stack.length - i)).length=i:=qu;have htm:=h.top.sv _ (gM (Bo (f:=f) (i:=i) qA));rw [hcm];refine eO ?_<|jH t0 t1 t2 t6 p6<|t7;intro K hK;have fx:=aI t0 (aI t1 t6);refine wF (mK.2 hX0) (mK.2 hU0) (hF:=pR gl zd (λ_=>vK) _ rows fs.length (f.stack.length - (i+1)) a0 a1 a2 a3 a4 a5 vs (f.cut i).zB e2 e3 e4 e5 qA) (h:=?_);intro y H1 hw;clear fx;have hO1:=hO.taken e1 hk hw;obtain⟨rfl,-⟩:=hw;rw [Bm qA] at hO1;generalize (f.cut i).zB=v at *;obtain⟨v1,v2⟩:=v;have hT1:=hO1.top;refine eO ?_<|jI t0 t1 t2 t6 p6 t7<|hT1;refine uZ (λs=>s.tm 0=.pt Xn 0/\s.tm 1=.ep (.u 2 0 0) 7 fs.length 0/\s.tm 2=iv i/\s.tm 6=.hs (.s 6) 2 0 i/\s.hp (.s 6)=some (.row 2 (zh (f.stack.drop (f.stack.length - i))))/\s.tm 8=.pt (.s 8) 0/\s.hp (.s 8)=some (.row 2 [[iv v1,iv v2]])/\s.tm 30=bv (v1 != 2)/\qS s.hp p (.u 2 0 0) (m.top fs (f.cut (i+1))) dp) ⟨kr,by simp [t1,e1],kS,iy,by simp [p6],qB,qB,qB,(have h:=hO1;qS.re h)⟩ ?_;clear hT hT1 e1 e2 e3 e4 e5 t0 t1 t2 t6 p6 t7 hO hO1 hX0 hU0 hdl;rintro s ⟨t0,t1,t2,t6,p6,t8,p8,t30,hO⟩;have hT:=hO.top;simp only [zp,qR.top] at hT;by_cases h2:v1=2
  case neg =>
   have hb:(v1 != 2)=true:=mb;rw [if_pos h2];refine eO ?_<|y8 t0 t1 t2 t6 p6 t8 p8 t30 hT<|hb;refine qF [] .nil qE ⟨_,.inl rfl,qS.fin (qS.Bq hO rfl λk hk=>?_) (.inr rfl)⟩;simp [zp]
  subst h2;rw [if_neg qB];have hv2:=htm.num;have hv3:=htm.fn rfl;simp only at hv2 hv3;obtain⟨jf,rfl⟩:∃ jf:Nat,v2=jf:=⟨v2.toNat,qA⟩;have hjl:jf<m.qH.length:=qA;obtain⟨q,hq⟩:=gX hjl;obtain⟨_,hqE⟩:=gS hq;obtain⟨kq,hk1,hk2,hk3,hk4⟩:=h.qH q (gM hq);obtain⟨b,cs⟩:=q;simp only at hk1 hk2 hk3 hk4;have hFn:=hO.qH;simp only [pi] at hFn;have qy:=(gS hk1).1;have hcd:(jb p p.length)[b]?=some (zO p b):=by simp [jb,qy]
  obtain⟨hcdl,hcdE⟩:=gS hcd;have hpn:(zO p b).params.length=vl p b:=by simp [zO,hk1,vl]
  simp only [uR,hq];by_cases hpi:vl p b=i
  case neg =>
   rw [if_pos hpi];have hb:(((vl p b:Nat):Int) != (i:Int))=true:=by rw [bne_iff_ne];omega
   have hb2:¬ ((vl p b:Nat):Int)=(i:Int):=qA;refine eO ?_<|qh t0 t1 t2 t6 p6 t8 p8 t30 hT hFn hq hqE<|jI hjl hcd hcdl hcdE hpn hb<|hb2;refine qF [] .nil qE ⟨_,.inl rfl,qS.fin (have h:=hO;qS.re h (h0:=by simp [zp])) (.inr rfl)⟩
  rw [if_neg (by simpa using hpi)];refine eO ?_<|qh t0 t1 t2 t6 p6 t8 p8 t30 hT hFn hq hqE<|jH hjl hcd hcdl hcdE hpn<|hpi;obtain⟨js,hU⟩:=hO.fr.top;have hc1:=h.nc;have hc2:=h.made;have hc3:=fg (p:=p) (b:=b);intro K hK;have fx:=aI t0 hT;refine wF zE (by simp [hU]) (hF:=FT _ _ p (m.top fs (f.cut (i+1))) b cs dp qy BW qA BX (have h:=hO;qS.re h)) (h:=?_);rintro y H1 ⟨rfl,h3,h5,h6,hO1⟩;clear fx;have hT1:=hO1.top;refine eO ?_<|jS t0 t1 t2 t6 p6 t8 p8 hT hT1 h3<|aI h5<|h6;have hcf:(zO p b).qq=qx p b:=by simp [zO,hk1]
  have hcc:(zO p b).cells=qY p b:=by simp [zO,hk1]
  have hkp:(zO p b).params=kq.params:=by simp [zO,hk1]
  have hf8:=pD (p:=p) (b:=b);have hc8:=cT (p:=p) (b:=b);simp only [NY] at h3 h5 h6 hO1;refine zQ (λk s=>∃ (j:Nat) (fl C:List qr),k=i - j/\j<=i/\er p m b (f.stack.drop (f.stack.length - i)) j fl C/\s.tm 0=.pt Xn 0/\s.tm 2=iv i/\s.tm 6=.hs (.s 6) 2 0 i/\s.hp (.s 6)=some (.row 2 (zh (f.stack.drop (f.stack.length - i))))/\s.tm 10=.pt (.s 10) 0/\s.hp (.s 10)=some (.row 6 [(zO p b).row])/\s.tm 11=.pt (.s 11) 0/\s.hp (.s 11)=some (.row 7 [[iv b,iv 0,iv (-1),.hs (.c (.s 63) 0 3) 3 0 (qx p b).length,jG (jK ((List.range (qY p b).length).map (m.cells.length+·)++cs)),.hs (.c (.s 63) 0 5) 3 0 8,.hs (.c (.s 63) 0 6) 2 0 0]])/\s.hp (.c (.s 63) 0 3)=some (.row 3 (zA fl))/\s.hp (.c (.s 63) 0 5)=some (.row 3 (zA jR))/\s.hp (.c (.s 63) 0 6)=some (.row 2 [])/\s.tm 12=iv j/\qS s.hp p (.u 2 0 0) { m.top fs (f.cut (i+1)) with cells:=C,made:=m.made+1 } dp) i ?_ ?_
  .exact⟨0,_,_,qA,qA,.inl ⟨rfl,rfl,rfl⟩,kr,kS,iy,by simp [p6],qB,qB,qB,qB,uT,yH,vt,qB,(have h:=hO1;qS.re h)⟩
  clear t0 t1 t2 t6 p6 t8 p8 t30 hT hT1 h3 h5 h6 hO1 hO hU;rintro k s - - ⟨j,fl,C,rfl,hj,hB,t0,t2,t6,p6,t10,p10,t11,p11,h3,h5,h6,t12,hO⟩;have hT:=hO.top;simp only [zp,qR.top] at hT;have hC:=hO.cells;simp only at hC;have hBf:=hB.fl;have hBc:=hB.cl;by_cases hji:j<i
  .obtain rfl:i=1:=qA;obtain rfl:j=0:=qA
   obtain⟨x,hx⟩:∃ x,kq.params=[x]:=by
    have:kq.params.length=1:=by rw [<- hkp,hpn];exact hpi
    match h:kq.params,this with
    | [x],_=>exact⟨x,rfl⟩
   have hdl:(f.stack.drop (f.stack.length - 1)).length=1:=qu
   obtain⟨v,hv⟩:∃ v,f.stack.drop (f.stack.length - 1)=[v]:=by
    match h:f.stack.drop (f.stack.length - 1),hdl with
    | [v],_=>exact⟨v,rfl⟩
   rw [hv] at hB p6;rw [hx] at hkp;have hxm:x∈kq.params:=by rw [hx];simp
   obtain⟨-,rfl,rfl⟩:0=0/\fl=List.replicate (qx p b).length none/\C=m.cells++List.replicate (qY p b).length none:=by
    rcases hB with h|⟨h,_⟩
    .exact h
    .omega
   obtain⟨v1,v2⟩:=v;have hpl:=nP gl (qx p b) x qA;have hpc:=nP gl (qY p b) x qA;by_cases hxf:x∈qx p b
   .obtain⟨z,hz,hzl,_⟩:=nO hxf;rw [hz] at hpl;have fx:=qh t0 t2 t6 p6 t10 p10 t11 p11 h3 h5 h6 t12<|jH hT hC hcf hcc hkp<|hzl;have c1:=hpl;refine eO ?_<|@fx;clear fx c1;exact⟨0,qA,1,_,_,qA,qA,.inr ⟨rfl,x,(v1,v2),hkp,hv,.inl ⟨hxf,rfl,rfl⟩⟩,kr,kS,iy,by simp [p6,hv],by simp [t10],by simp [p10],by simp [t11],by simp [p11],by simp [hz],yH,vt,qE,(have h:=hO;qS.re h)⟩
   .have hxc:x∈qY p b:=(LZ hP hk1 hxm).resolve_left hxf;obtain⟨z,hz,hzl,_⟩:=nO hxc;have hneg:yj (qx p b) x<0:=Int.not_le.1 λe=>hxf (l9.1 e);have hneg2:¬ 0<=yj (qx p b) x:=Int.not_le.2 hneg;rw [hz] at hpc
    have hzc:(jK ((List.range (qY p b).length).map (m.cells.length+·)++cs))[z]?=some (((m.cells.length+z:Nat)):Int):=by
     simp only [jK];rw [jZ,ub (by simpa using hzl),jZ,List.getElem?_range hzl]
     rfl
    obtain⟨hzcl,hzcE⟩:=gS hzc;have hzm:m.cells.length+z<(m.cells++List.replicate (qY p b).length (none:qr)).length:=qu;have hzm2:z<(qY p b).length+cs.length:=qA;have hz1:((m.cells.length:Int)+z).toNat=m.cells.length+z:=qA;have hz0:(0:Int)<=(m.cells.length:Int)+z:=qA;have hz2:(m.cells.length:Int)+z<(m.cells.length:Int)+(qY p b).length:=qA;generalize yj (qx p b) x=u at hpl hneg hneg2;have fx:=qh t0 t2 t6 p6 t10 p10 t11 p11 h3 h5 h6 t12<|qh hT hC hcf hcc hkp hzl hneg hneg2 hzc hzcl hzcE hzm<|zD hzm2 hz1 hz0<|hz2;have c1:=hpl;have c2:=hpc;refine eO ?_<|@fx;clear fx c1 c2;exact⟨0,qA,1,_,_,qA,qA,.inr ⟨rfl,x,(v1,v2),hkp,hv,.inr ⟨hxf,rfl,rfl⟩⟩,kr,kS,iy,by simp [p6,hv],by simp [t10],by simp [p10],by simp [t11],by simp [p11],uT,yH,vt,qE,(have h:=hO;qS.re h (h0:=cP) (h2:=by simp [hz]))⟩
  .obtain rfl:j=i:=qA;obtain⟨js,hF⟩:=hO.fr.top;have hvl:(f.stack.drop (f.stack.length - j)).length=j:=qu;have hfin:=hB.fin (m:=m.top fs (f.cut (j+1))) (cs:=cs) hvl;have hfl2:fs.length+1<=2000:=qA;refine iW (.c (.s 63) 0 3) (.s 20) (.inl rfl) (.inl rfl) (iW (.c (.s 63) 0 5) (.s 21) (.inl rfl) (.inl rfl) (iW (.c (.s 63) 0 6) (.s 22) (.inl rfl) (.inl rfl) ?_));refine eO ?_<|qh t0 t2 t6 p6 t10 p10 t11 p11 h3 h5 h6 t12<|qk hT hF<|hfl2;rw [hfin];refine yb [] .nil qE ⟨_,.inr rfl,qS.fin ?_ (.inl qB)⟩
   have key:∀ (i1:Nat) g,(fs++[f.cut (j+1)]++[(⟨b,0,fl,(List.range (qY p b).length).map (m.cells.length+·)++cs,jR,[]⟩:qO)])[i1]?=some g->(i1=fs.length+1/\g=⟨b,0,fl,(List.range (qY p b).length).map (m.cells.length+·)++cs,jR,[]⟩)\/(i1<fs.length+1/\(fs++[f.cut (j+1)])[i1]?=some g):=by
    intro i1 g hg;rcases mI i1 (fs++[f.cut (j+1)]).length with e|e|e
    .rw [ub e] at hg;exact .inr ⟨by simpa using e,hg⟩
    .subst e;simp at hg;exact .inl ⟨qB,hg.symm⟩
    .rw [dQ (by simp at e ⊢;omega)] at hg
     cases hg
   refine⟨?_,?_,?_,?_,?_,?_,?_,?_,⟨[],?_⟩,λi1 g hg=>?_,λi1 g hg=>?_,λi1 g hg=>?_⟩
   .simp [zp]
   .simp [hO.yn]
   .simp [hO.cells]
   .simp [hO.zJ]
   .simp [hO.qH]
   .simp [hO.jA]
   .simp [hO.out]
   .simp [hO.zo]
   .simp;rw [<- rL,J7]
    have htk:(fs++f.cut (j+1)::js).take (fs.length+1)=fs++[f.cut (j+1)]:=by
     simp [gW];exact yG qA
    rw [htk,J5 (m:=.c Xn 0 6) λi1 g hg=>?_]
    .have:=J4 (p:=p) (n:=.c Xn 0 6) (l:=fs++[f.cut (j+1)]) (f:=⟨b,0,fl,(List.range (qY p b).length).map (m.cells.length+·)++cs,jR,[]⟩);simp [yd,v7,hBf] at this;exact this
    .have hlt:=(gS hg).1;have hne:¬ i1=fs.length+1:=by simp at hlt;omega
     simp [yd,hne]
   .rcases key i1 g hg with⟨rfl,rfl⟩|⟨hl,hg⟩
    .simp [h3]
    .have hne:¬ i1=fs.length+1:=qA;simp [hO.fr.qq i1 g hg,hne]
   .rcases key i1 g hg with⟨rfl,rfl⟩|⟨hl,hg⟩
    .simp [h5]
    .have hne:¬ i1=fs.length+1:=qA;simp [hO.fr.names i1 g hg,hne]
   .rcases key i1 g hg with⟨rfl,rfl⟩|⟨hl,hg⟩
    .exact⟨[],by simp [h6,zh]⟩
    .have hne:¬ i1=fs.length+1:=qA;exact (hO.fr.stack i1 g hg).imp λj1 hj1=>by simp [hj1,hne]
end Go.Proofs.YtjgpejikjhojcaaGreatDoor
end
