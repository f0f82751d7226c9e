import Derived.Test.YtjgpejikjhojcaaGreatDoorD32
set_option linter.all false
set_option maxRecDepth 100000
set_option maxHeartbeats 4000000
open Option renaming some->Z,none->Y
open Bool renaming true->B,false->M
open List renaming length->O

section
namespace Go.Proofs.YtjgpejikjhojcaaGreatDoor
open Go Go.Hm Go.Proofs Tryz
variable{A G G2:Prop}
abbrev Yb:qV:=.q 0<|.q 1<|.q 2<|.q 3<|.q 4<|.q 5<|.q 6<|.q 7<|.q 8<|.q 9<|.q 10<|.q 11<|.q 12<|.q 13<|.q 14<|.q 15<|.q 16<|.q 17<|.q 18<|.q 19<|.done
abbrev Yc:qV:=eG<|.l 9 []<|.done
abbrev Yd:qV:=bA<|.l 6 [4,3,2,1,0]<|.l 7 [0]<|.q 8<|.q 9<|.l 10 []<|.done
def iN(k:G2)(x:A)(h:A->jH G2->G:=by
 intro fx kk;refine qK ?_
 repeat((first|refine qP (id:=4) Yb mixed ?_|refine qP (id:=5) Yc mixed ?_|refine qP (id:=10) Yd mixed ?_);refine zC ?_;refine qK ?_)
 exact kk.h):G:=h x ⟨k⟩
def qCP(gl)(H:Nm->Option AO)(p:qC)(m:qR)(fs:List qO)(f:qO)(o:Int×Int)(dp:Nat)(hp:f.qG<O p)(hc:2<=o.1/\o.1<=13)(hx:sV m f o)(hx8:8<=o.1->o.2<=7)(hg8:O m.globals=8)(hn8:O f.names=8)(hst:(o.1-2)%3=1->1<=O f.stack)(hsl:O f.stack<=1000)(hO:qS H p (.u 2 0 0) (m.top fs f) dp)(h9:H (.u 9 0 0)=Y):
  qX prog gl 179 zP [.pt Xn 0,.ep (.u 2 0 0) 7 (O fs) 0,.agg [iv o.1,iv o.2]] H (λ_ _ H'=>io H' p (.u 2 0 0) (if(o.1-2)%3=0 then uE p m fs f o else if(o.1-2)%3=1 then CG m fs f o else cp p m fs f o) dp) qw:=by
 have hT:=hO.top;obtain⟨L,j,hL,hat,hlt,hF,hf,hn,hsk⟩:=hO.ux rfl;simp only[zu,qR.top]at hT;have hsf:=qB7 gl (p:=p) (m:=m) (fs:=fs) (f:=f) (o:=o) (dp:=dp);have hNk:J2 (yV (.u 2 0 0) (O fs) o):=qB4;have hslot:=λhp h=>qS.Oo (hp:=hp) (p:=p) (n:=.u 2 0 0) (m:=m) (fs:=fs) (f:=f) (dp:=dp) (o:=o) h;have hsetS:=λhp hp' f s h=>qS.yE (hp:=hp) (hp':=hp') (p:=p) (n:=.u 2 0 0) (m:=m) (fs:=fs) (f:=f) (dp:=dp) (o:=o) (s:=s) h rfl;have hxl:=hx.lt;obtain⟨c,a⟩:=o;obtain⟨x,rfl⟩:∃x:Nat,a=x:=⟨a.toNat,by have:=hx.arg;simp only at this;omega⟩;simp only at hc hst hx8;have hw2:IntKind.i64.wrap (c-2)=c-2:=qk qA qA;have hrm:(c-2).tmod 3=(c-2)%3:=Int.tmod_eq_emod_of_nonneg qA;have hwr:IntKind.i64.wrap ((c-2)%3)=(c-2)%3:=qk qA qA;refine qX.q9 func179 [] ntmps179 (λ_=>vF) λC w g root hroot=>?_;refine iN ?_<|aI hT<|hF;intro K hK;have fx:=aI hT hF;refine w9 zG eb (hF:=hsf _ hp hc hx hg8 hn8 (have h:=hO;qS.re h)) (h:=?_);rintro y H1 ⟨rfl,hO1⟩;clear fx;generalize hNd:yV (.u 2 0 0) (O fs) (c,(x:Int))=N at *;generalize hyd:uv f (c,(x:Int))=q at *;generalize hld:bC m f (c,(x:Int))=l at *;have hT1:=hO1.top;refine iN ?_<|zJ hT hT1 hF hw2<|hrm
 refine uR (λs=>s.tm 0=.pt Xn 0/\s.tm 1=.ep (.u 2 0 0) 7 (O fs) 0/\s.tm 5=.pt (.s 5) 0/\s.hp (.s 5)=Z (.row 2 [[iv c,iv x]])/\s.tm 6=.ep N 3 q 0/\s.tm 7=iv (u0 p f (c,(x:Int)))/\s.tm 19=iv ((c-2)%3)/\s.tm 87=bv ((c-2)%3==1)/\qS s.hp p (.u 2 0 0) (m.top fs f) dp) ⟨zG,eb,qB,qB,qB,qB,qB,qB,(have h:=hO1;qS.re h)⟩ ?_;clear hT hT1 hF hf hn hsk hat hlt hL hO hO1;rintro s ⟨t0,t1,t5,p5,t6,t7,t19,t87,hO⟩;have hT:=hO.top;obtain⟨L,j,hL,hat,hlt,hF,hf,hn,hsk⟩:=hO.ux rfl;simp only[zu,qR.top]at hT;have hsl0:=hslot _ hO;obtain⟨_,hatE⟩:=gS hat;by_cases r1:(c-2)%3=1
 .have hne:(c-2)%3≠0:=qA;rw[if_neg hne,if_pos r1];obtain⟨k,hk⟩:∃k,O f.stack=k+1:=⟨O f.stack - 1,by have:=hst r1;omega⟩;have hX0:s.hp Xn≠Y:=Ae;have hU0:s.hp (.u 2 0 0)≠Y:=by rw[hF];simp
  refine iN ?_<|y9 t0 t1 t5 p5 t6 t7 t19 t87<|r1;intro K hK;obtain⟨rows,rows',a0,a1,a2,a3,a4,a5,vs,e1,e2,e3,e4,e5,e6⟩:=hO.wx hk hNk.u2 (hNk.st _);have fx:=aI t1 hNk.u2;refine Ef zP N (.u 9 0 0) (.u 2 0 0) (.row 7 (jn rows (O fs) 6 [.hs (.c (.u 2 0 0) (O fs) 6) 2 0 k])) (q8.av f.zE) (hV:=rfl) (hN:=hNk.z6) (hVe:=A2) (λ_=>vF) hNk.u9 hNk.D (λ_=>JN) (by simp[hsl0]) (λk i j _=>JM hX0 hU0 k i j) qB hNk.u2 qB (hF:=KV) (h:=?_);intro hp' hS;clear fx;have hOp:=(hO.eC e1 hk).same (.inr rfl) hS;have hsl1:hp' N=Z (.row 3 (zD l)):=by rw[<- hNd,<- hld];exact qS.Oo (f:=f.pop) hOp
  have n1:=hNk.u2;have n2:=hNk.x;have n3:=hNk.u9;obtain⟨nb,n4,n5⟩:=hNk.b;have n6:=hNk.s;have hpop:CG m fs f (c,(x:Int))=Hm.yE m fs f.pop (c,(x:Int)) (Z f.zE):=rfl;rw[hpop];generalize hv:f.zE=v;obtain⟨v1,v2⟩:=v;refine iN ?_<|jU t0 t1 t6 hsl1 n1 n2 n3 n4 n5 n6<|hxl;refine yu [] .nil qD (qS.dy (qS.fin (qS.yE (f:=f.pop) hOp rfl λk hk=>?_) (.inr rfl)));rw[show bC m f.pop (c,(x:Int))=l from hld,show uv f.pop (c,(x:Int))=q from hyd,hNd];simp only[sT,AX]at hk;simp[hk,hv]
 obtain⟨s0,hs0⟩:=gX hxl;obtain⟨_,hsE⟩:=gS hs0;have hgs:ka m f (c,(x:Int))=s0:=by rw[UF,hyd,hld];simp[j7,hs0]
 obtain⟨nb,n4,n5⟩:=hNk.b;have n1:=hNk.u2;have n2:=hNk.x;have n3:=hNk.u9;have n6:=hNk.s;have nX:¬Xn=N:=λe=>by rw[<- e]at n2;simp at n2
 have nU:¬ .u 2 0 0=N:=λe=>by rw[<- e]at n1;simp at n1
 have nY:¬N=Xn:=λe=>nX e.symm;by_cases r2:(c-2)%3=2
 .have hne:(c-2)%3≠0:=qA;rw[if_neg hne,if_neg r1]
  cases s0 with
  |some u=>
   have hd:cp p m fs f (c,(x:Int))=Hm.yE m fs f (c,(x:Int)) Y:=by simp only[cp,hgs]
   rw[hd];obtain⟨u1,u2⟩:=u;refine iN ?_<|qg t0 t1 t5 p5 t6 t7 t19 t87 r1 r2 hsl0 hxl<|qz hs0 hsE nX<|nU;refine yu [] .nil qD (qS.dy (qS.fin (qS.yE (f:=f) hO rfl λk hk=>?_) (.inr rfl)));rw[hld,hyd,hNd];simp
  |none=>
   have hd:cp p m fs f (c,(x:Int))=m.stop fs f (u0 p f (c,(x:Int))):=by simp only[cp,hgs]
   rw[hd]
   have hln:l.set q Y=l:=by
    apply yp;intro i;rw[fL];by_cases e:q=i
    .subst e;simp[hxl,hsE]
    .simp [e]
   refine iN ?_<|qg t0 t1 t5 p5 t6 t7 t19 t87 r1 r2 hsl0 hxl<|zx hs0 hsE nX nU nY<|hT;refine yu [] .nil qD (qS.dy (qS.fin (qS.DU hO rfl λk hk=>?_) (.inr rfl)));by_cases e:k=N
   .subst e;simp[nX,nY,hsl0,hln]
   .simp [e,hT,zu,qR.top]
 .have r0:(c-2)%3=0:=qA;rw[if_pos r0];have hsl':O f.stack<=1000:=hsl
  cases s0 with
  |some u=>
   have hd:uE p m fs f (c,(x:Int))=m.top fs (f.push u):=by simp only[uE,hgs]
   rw[hd];obtain⟨u1,u2⟩:=u;refine iN ?_<|qg t0 t1 t5 p5 t6 t7 t19 t87 r0 r1 r2 hsl0<|qg hxl hs0 hsE nX nU nY n6 hF hat hatE hlt hsk<|hsl;refine yu [] .nil qD (qS.dy (qS.fin (have h:=hO;qS.uY h rfl hL rfl fU fQ fO ⟨[],fR⟩ (h0:=dZ)) (.inr rfl)))
  |none=>
   by_cases c8:8<=c
   .have hwy:u0 p f (c,(x:Int))=4:=by simp only[u0];rw[if_neg qA,if_neg qA]
    have hxg:x<O m.globals:=by have:=hx8 c8;omega
    have hx8i:(x:Int)<8:=qA;obtain⟨g0,hg0⟩:=gX hxg;obtain⟨_,hgE⟩:=gS hg0;have hGl:=hO.zM;simp only[qDW]at hGl;have hsg:j7 m.globals x=g0:=by simp[j7,hg0]
    cases g0 with
    |some u=>
     have hd:uE p m fs f (c,(x:Int))=m.top fs (f.push u):=by simp only[uE,hgs,hwy,if_true,un,hsg]
     rw[hd];rw[hwy]at t7;obtain⟨u1,u2⟩:=u;refine iN ?_<|qg t0 t1 t5 p5 t6 t7 t19 t87 r0 r1 r2 hsl0<|qg hxl hs0 hsE nX nU nY n6 hF hat hatE hlt hsk<|jA hsl hT hGl hg0 hgE hxg hx8i<|hg8;refine yu [] .nil qD (qS.dy (qS.fin (have h:=hO;qS.uY h rfl hL rfl fU fQ fO ⟨[],fR⟩ (h0:=dZ)) (.inr rfl)))
    |none=>
     rw[hwy]at t7;by_cases h7:x=7
     .subst h7
      have hd:uE p m fs f (c,((7:Nat):Int))=m.top fs (f.push (1,70)):=by
       simp only[uE,hgs,hwy,if_true,un,hsg]
       rfl
      rw[hd];refine iN ?_<|qg t0 t1 t5 p5 t6 t7 t19 t87 r0 r1 r2 hsl0<|qg hxl hs0 hsE nX nU nY n6 hF hat hatE hlt hsk<|jA hsl hT hGl hg0 hgE hxg hx8i<|hg8;refine yu [] .nil qD (qS.dy (qS.fin (have h:=hO;qS.uY h rfl hL rfl fU fQ fO ⟨[],fR⟩ (h0:=dZ)) (.inr rfl)))
     .have h7i:¬(x:Int)=7:=qA;have h7b:((x:Int)==7)=M:=by simpa using h7i
      have hd:uE p m fs f (c,(x:Int))=m.stop fs f 4:=by
       simp only[uE,hgs,hwy,if_true,un,hsg];rw[if_neg h7i]
      rw[hd];refine iN ?_<|qg t0 t1 t5 p5 t6 t7 t19 t87 r0 r1 r2 hsl0<|qg hxl hs0 hsE nX nU nY n6 hF hat hatE hlt hsk<|y9 hsl hT hGl hg0 hgE hxg hx8i hg8<|h7b;refine yu [] .nil qD ⟨fs++[f.push (0,0)],⟨λe=>absurd e qB,DA⟩,qS.fin (have h:=hO;qS.uY h rfl hL rfl fU fQ fO ⟨[],fR⟩ (h0:=dZ)) (.inr rfl)⟩
   .have hw4:u0 p f (c,(x:Int))=2\/u0 p f (c,(x:Int))=3:=by
     simp only[u0];by_cases c4:c<=4
     .rw [if_pos c4];exact .inl rfl
     .rw [if_neg c4,if_pos qA];by_cases e:(x:Int)<O (qa p f.qG)
      .rw [if_pos e];exact .inl rfl
      .rw [if_neg e];exact .inr rfl
    have hwn:u0 p f (c,(x:Int))≠4:=qA
    have hd:uE p m fs f (c,(x:Int))=m.stop fs f (u0 p f (c,(x:Int))):=by
     simp only[uE,hgs];rw[if_neg hwn]
    rw[hd];clear hd hsf;generalize u0 p f (c,(x:Int))=w at hw4 t7 hwn ⊢;have hwb:(w==4)=M:=by simpa using hwn
    refine iN ?_<|qg t0 t1 t5 p5 t6 t7 t19 t87 r0 r1 r2 hsl0<|qg hxl hs0 hsE nX nU nY n6 hF hat hatE hlt hsk<|ql hsl hT<|hwb;refine yu [] .nil qD ⟨fs++[f.push (0,0)],⟨λe=>absurd e qp,DA⟩,qS.fin (have h:=hO;qS.uY h rfl hL rfl fU fQ fO ⟨[],fR⟩ (h0:=dZ)) (.inr rfl)⟩
abbrev Ye:qV:=gA<|.l 14 []<|.done
abbrev Yf:qV:=wG<|.l 11 []<|.done
abbrev Yg:qV:=bA<|.l 6 [4,3,2,1,0]<|.l 7 [0]<|.q 8<|.q 9<|.l 10 []<|.done
abbrev Yh:qV:=ax<|.done
abbrev Yi:qV:=eG<|.l 9 [4,3,2,1,0]<|.l 10 [4,3,2,1,0]<|.l 11 [0]<|.q 12<|.q 13<|.l 14 []<|.done
def Gk(k:G2)(x:A)(h:A->jH G2->G:=by
 intro fx kk;refine qK ?_
 repeat((first|refine qP (id:=1) Ye mixed ?_|refine qP (id:=3) Yf mixed ?_|refine qP (id:=4) Yg mixed ?_);refine zC ?_;refine qK ?_)
 exact kk.h):G:=h x ⟨k⟩
def Gp(gl)(H:Nm->Option AO)(p:qC)(m:qR)(fs:List qO)(f:qO)(v:q8)(dp:Nat)(hm:m.qN=fs++[f])(hfl:O fs<=1000)(hsl:∀g∈fs,O g.stack<=1000)(hO:qS H p (.u 2 0 0) m dp):
  qX prog gl 181 zP [.pt Xn 0,q8.av v] H (λ_ _ H'=>qS H' p (.u 2 0 0) (vK m fs v) dp) qw:=by
 have hT:=hO.top;obtain⟨L,j,hL,hat,hlt,hF,hf,hn,hsk⟩:=hO.ux hm;simp only[zu,hm,u7,aG]at hT;obtain⟨v1,v2⟩:=v;have hw1:IntKind.i64.wrap (O fs:Int)=O fs:=qk qA qA;have hl1:(O fs:Int)<=(O fs:Int)+1:=qA;have hl0:(0:Int)<=(O fs:Int):=qA;refine qX.q9 func181 [] ntmps181 (λ_=>vF) λC w g root hroot=>?_;refine Gk ?_<|zx hT hF hw1 hl1 hl0<|hlt;refine uR (λs=>s.tm 0=.pt Xn 0/\s.tm 3=.pt (.s 3) 0/\s.hp (.s 3)=Z (.row 2 [[iv v1,iv v2]])/\s.tm 24=bv (decide (0<(O fs:Int)))/\qS s.hp p (.u 2 0 0) {m with qN:=fs} dp) ⟨zG,qB,qB,qB,?_⟩ ?_
 .refine qS.qy (f:=kl (.s 3)) (hO.cut (hp':=λk=>if k=Xn then Z (.row 13 [zu p (.u 2 0 0) {m with qN:=fs} dp])else H k) hm qB (λq h _=>iE) rfl) (.inr rfl) (λq hq=>?_) (λq hq=>?_)
  .have:=(jp (λ_=>vF) hq 3).2;simp[this]
  .have hq2:=(jp (λ_=>vF) hq 3).1;have hq3:=(jp (λ_=>vF) hq 3).2;by_cases e:q=Xn
   .subst e;simp[zu,AO.tr]
   .simp [hq2,hq3,e]
 clear hT hF hf hn hsk hat hlt hL hO;rintro s ⟨t0,t3,p3,t24,hO⟩;have hT:=hO.top;simp only[zu]at hT
 cases hgl:fs.getLast? with
 |none=>
  have hfs:fs=[]:=List.getLast?_eq_none_iff.1 hgl;have hle:vK m fs (v1,v2)={m with qN:=[]}:=by simp only[vK,hgl]
  subst hfs;rw[hle];refine Gk ?_<|zJ t0 t3 p3 t24<|hT;refine yu [] .nil qD (qS.fin (have h:=hO;qS.re h) (.inr rfl))
 |some g=>
  obtain⟨gs,rfl⟩:∃gs,fs=gs++[g]:=by
   obtain⟨ys,hy⟩:=CW.1 hgl;exact⟨ys,hy⟩
  have hle:vK m (gs++[g]) (v1,v2)={m with qN:=gs++[g.push (v1,v2)]}:=by simp only[vK,hgl];simp
  rw[hle];have hsl:=hsl g qB;obtain⟨L,j,hL,hat,hlt,hF,hf,hn,hsk⟩:=qS.ux hO rfl;obtain⟨_,hatE⟩:=gS hat;simp only[u7,aG]at hfl hT t24;have hw2:IntKind.i64.wrap (O gs:Int)=O gs:=qk qA qA;have hl1:(O gs:Int)<(O gs:Int)+1:=qA;have hl0:(0:Int)<=(O gs:Int):=qA;refine Gk ?_<|qg t0 t3 p3 t24 hT hF hw2 hl1 hl0 hlt hat hatE<|ql hsk hsl<|hfl;refine yu [] .nil qD (qS.fin (have h:=hO;qS.uY h rfl hL rfl fU fQ fO ⟨[],fR⟩ (h0:=dZ)) (.inr rfl))
def BP(k:G2)(x:A)(h:A->jH G2->G:=by
 intro fx kk;refine qK ?_
 repeat((first|refine qP (id:=0) Yh mixed ?_|refine qP (id:=1) Yi mixed ?_);refine zC ?_;refine qK ?_)
 exact kk.h):G:=h x ⟨k⟩
def Sv(gl)(H:Nm->Option AO)(p:qC)(m:qR)(fs:List qO)(f:qO)(dp:Nat)(hp:f.qG<O p)(hm:m.qN=fs++[f])(hfl:O fs<=1000)(hsl:∀g∈fs,O g.stack<=1000)(hn8:O f.names=8)(hcl:O m.qU<=1000)(hO:qS H p (.u 2 0 0) m dp):
  qX prog gl 178 zP [.pt Xn 0,.ep (.u 2 0 0) 7 (O fs) 0] H (λ_ _ H'=>qS H' p (.u 2 0 0) (an p m fs f) dp) qw:=by
 have hT:=hO.top;obtain⟨L,j,hL,hat,hlt,hF,hf,hn,hsk⟩:=hO.ux hm;obtain⟨_,hatE⟩:=gS hat;simp only[zu,hm,u7,aG]at hT;obtain⟨k,hk⟩:=gX hp;have hcd:(jo p (O p))[f.qG]?=Z (zQ p f.qG):=Av;obtain⟨hcdl,hcdE⟩:=gS hcd;have hck:(zQ p f.qG).kind=jk p f.qG:=by simp[zQ,hk,jk]
 have hcp:=GL gl f.names hn8;have hC:=hO.jG;have hap:wn m.qU++[[.sl 3 (zD f.names)]]=wn (m.qU++[f.names]):=S2;have hwc:IntKind.i64.wrap (O m.qU:Int)=O m.qU:=qk qA qA;refine qX.q9 func178 [] ntmps178 (λ_=>vF) λC w g root hroot=>?_;by_cases hk2:jk p f.qG=2
 .have he:an p m fs f=vK {m with qU:=m.qU++[f.names]} fs (3,O m.qU):=by rw[an,if_pos hk2]
  rw[he];rw[hk2]at hck;refine BP ?_<|qg hT hF hat hatE hlt hn hcd hcdl hcdE hck hC hcl<|aI hn8<|hwc;intro K hK;have fx:=aI hT (aI hF (aI hat (aI hatE (aI hlt (aI hn (aI hC (aI hcl hn8)))))));refine Ix (λK' h'=>kf (hF:=hcp) (h:=h')) (by simp[hn8]) qB9 ?_;clear fx;refine BP ?_<|qg hT hF hat hatE hlt hn hcd hcdl hcdE hck hC hcl<|aI hn8<|hwc;intro K hK;have fx:=aI hT hF;refine w9 qB eb (hF:=Gp _ _ p {m with qU:=m.qU++[f.names]} fs f (3,O m.qU) dp hm hfl hsl (have h:=hO;qS.re h (h0:=by simp[zu,hm]) (h5:=by simp[hap]))) (h:=?_);rintro y H1 hO1;clear fx;have hT1:=hO1.top;refine BP ?_<| hT1;refine qE [] .nil qD (qS.fin (have h:=hO1;qS.re h) (.inr rfl))
 .have he:an p m fs f=vK m fs (0,0):=by rw[an,if_neg hk2]
  rw[he];have hkb:(jk p f.qG==2)=M:=by simpa using hk2
  refine BP ?_<|jU hT hF hat hatE hlt hn hcd hcdl hcdE hck<|hkb;intro K hK;have fx:=aI hT hF;refine w9 zG eb (hF:=Gp _ _ p m fs f (0,0) dp hm hfl hsl (have h:=hO;qS.re h)) (h:=?_);rintro y H1 hO1;clear fx;have hT1:=hO1.top;refine BP ?_<|aI hT<|hT1;refine yu [] .nil qD (qS.fin (have h:=hO1;qS.re h) (.inr rfl))
abbrev Hq:qV:=xq<|.l3 4 [0] (.l2 5 [0] (.q 6<|.l 7 [6,0]<|.l 8 []<|.done) 7 [0] (.l 5 [0]<|.q 6<|.l 8 []<|.done)) 5 [3,2,1,0] (.l2 4 [0] (.q 6<|.l 7 [6,0]<|.l 8 []<|.done) 7 [3,2,1,0] (.l 4 [0]<|.q 6<|.l 8 []<|.done)) 7 [3,2,1,0] (.l2 4 [0] (.l 5 [0]<|.q 6<|.l 8 []<|.done) 5 [3,2,1,0] (.l 4 [0]<|.q 6<|.l 8 []<|.done))
abbrev Hr:qV:=bB<|.l 8 [3,2,1,0]<|.l 9 [3,2]<|.q 10<|.l 11 []<|.done
def W5(gl)(H:Nm->Option AO)(p:qC)(m:qR)(b:Nat)(cs:List Nat)(dp:Nat)(hb:b<O p)(hcl:O m.cells<=2000)(hcs:O cs<=8)(hmd:m.made<=1000)(hO:qS H p (.u 2 0 0) m dp):
  qX prog gl 130 zP [.pt Xn 0,iv b,jO (jQ cs)] H (λr y H'=>y=.agg [iv b,iv 0,iv (-1),.hs (.c r 0 3) 3 0 (O (zB p b)),.hs (.c r 0 4) 1 0 (O (qa p b)+O cs),.hs (.c r 0 5) 3 0 8,.hs (.c r 0 6) 2 0 0]/\H' (.c r 0 3)=Z (.row 3 (zD (List.replicate (O (zB p b)) Y)))/\H' (.c r 0 4)=Z (.row 1 (qh (jQ (((List.range (O (qa p b))).map (O m.cells+·))++cs))))/\H' (.c r 0 5)=Z (.row 3 (zD jZ))/\H' (.c r 0 6)=Z (.row 2 [])/\qS H' p (.u 2 0 0) {m with cells:=m.cells++List.replicate (O (qa p b)) Y,made:=m.made+1} dp/\∀q,Nm.under r q=B->zP q=M) qw:=by
 have hT:=hO.top;simp only[zu]at hT;obtain⟨kk,hk⟩:=gX hb;have hcd:(jo p (O p))[b]?=Z (zQ p b):=Ce;obtain⟨hcdl,hcdE⟩:=gS hcd;have hcf:(zQ p b).qt=zB p b:=gz;have hcc:(zQ p b).cells=qa p b:=gz;have hf8:=rf (p:=p) (b:=b);have hc8:=da (p:=p) (b:=b);refine qX.q9 func130 [.cell 6 214] ntmps130 (λ_=>vF) λC w g root hroot=>?_;have hr0:=hroot root (Nm.uQ _);simp only[sT,Bool.or_eq_false_iff]at hr0;obtain⟨hr1,hr2⟩:=hr0;have hrp:List.replicate (O (zB p b)) [bv M,iv 0,iv 0]=zD (List.replicate (O (zB p b)) Y):=oM
 refine Uw (λs=>s.tm 0=.pt Xn 0/\s.tm 1=iv b/\s.tm 2=jO (jQ cs)/\s.tm 6=.pt (.s 6) 0/\s.tm 7=.pt (.s 7) 0/\s.hp (.s 7)=Z (.row 6 [(zQ p b).row])/\s.tm 8=.pt (.s 8) 0/\s.hp (.s 8)=Z (.row 7 [[iv b,iv 0,iv (-1),.hs (.c (.s 8) 0 3) 3 0 (O (zB p b)),.hs (.c (.s 8) 0 4) 1 0 0,.hs (.c (.s 8) 0 5) 3 0 8,.hs (.c (.s 8) 0 6) 2 0 0]])/\s.hp (.c (.s 8) 0 3)=Z (.row 3 (zD (List.replicate (O (zB p b)) Y)))/\s.hp (.c (.s 8) 0 4)=Z (.row 1 [])/\s.hp (.c (.s 8) 0 5)=Z (.row 3 (zD jZ))/\s.hp (.c (.s 8) 0 6)=Z (.row 2 [])/\s.tm 9=iv 0/\(∃r,s.hp (.s 6)=Z (.row 7 [r])/\O r=7)/\qS s.hp p (.u 2 0 0) m dp) ?_ (by
  intro kk
  all_goals have fx:=jA hT hcd hcdl hcdE hcf hcc hf8<|hc8
  repeat'(first
   |refine wL ?_|refine bF ?_|refine aZ ?_|refine aY λK hK=>?_
   |((with_reducible refine uu hK ?_);clear hK K)
   |(with_reducible first|refine wK ?_|refine cD ?_|refine cO ?_|refine cC ?_|refine bE ?_|refine bU ?_|refine fC ?_|refine cE qf ?_)
   |refine cQ ?_
   |refine bG ?_
   |(with_reducible first|refine kh ?_|refine a6 (h:=?_)|refine gL (h:=?_)|refine gN (h:=?_)|refine bh (T:=38) (h:=?_)|refine bH (T:=38) (h:=?_)|refine bh (T:=69) (h:=?_)|refine bH (T:=69) (h:=?_)|refine ii (h:=?_)|refine nS (h:=?_)|refine cR (h:=?_))
   |((with_reducible refine dB 64 rfl ?_);refine w8 (hF:=DT gl) (h:=?_))
   |(with_reducible refine wc (h:=?_))
   |refine bi (h1:=?_)|refine cS (h1:=?_)
   |(refine qP (id:=2) Hq mixed λK hK=>?_)
   |(refine qP (id:=7) Hr mixed λK hK=>?_)
   |((with_reducible refine bk hK ?_);clear hK K)
   |((with_reducible refine wh ?_);first|refine ij (h:=?_)|refine ng (h:=?_)|refine na (h:=?_)|refine nh (h:=?_))
   |((with_reducible refine wh ?_);refine nZ (h1:=λht=>?_) (h2:=λht=>?_))
   |refine gZ rfl ?_|refine mE ?_ ?_|refine mF ?_ ?_ ?_|(with_reducible refine aI ?_ ?_)|exact gF|refine gO (h2:=?_)
   |fail)
  all_goals try clear fx
  all_goals exact kk.h _ ⟨zG,qB,qB,qB,qB,by simp[hcf,hcc],qB,qB,by simp[hrp],qB,qB,qB,qB,⟨_,qD,qB⟩,(have h:=hO;qS.re h)⟩)
 clear hT;rintro s ⟨t0,t1,t2,t6,t7,p7,t8,p8,p83,p84,p85,p86,t9,⟨r6,p6,h6⟩,hO1⟩;refine zK (λn st=>∃i:Nat,n=O (qa p b)-i/\i<=O (qa p b)/\st.tm 0=.pt Xn 0/\st.tm 1=iv b/\st.tm 2=jO (jQ cs)/\st.tm 6=.pt (.s 6) 0/\st.tm 7=.pt (.s 7) 0/\st.hp (.s 7)=Z (.row 6 [(zQ p b).row])/\st.tm 8=.pt (.s 8) 0/\st.hp (.s 8)=Z (.row 7 [[iv b,iv 0,iv (-1),.hs (.c (.s 8) 0 3) 3 0 (O (zB p b)),.hs (.c (.s 8) 0 4) 1 0 i,.hs (.c (.s 8) 0 5) 3 0 8,.hs (.c (.s 8) 0 6) 2 0 0]])/\st.hp (.c (.s 8) 0 3)=Z (.row 3 (zD (List.replicate (O (zB p b)) Y)))/\st.hp (.c (.s 8) 0 4)=Z (.row 1 (qh (jQ ((List.range i).map (O m.cells+·)))))/\st.hp (.c (.s 8) 0 5)=Z (.row 3 (zD jZ))/\st.hp (.c (.s 8) 0 6)=Z (.row 2 [])/\st.tm 9=iv i/\(∃r,st.hp (.s 6)=Z (.row 7 [r])/\O r=7)/\qS st.hp p (.u 2 0 0) {m with cells:=m.cells++List.replicate i Y} dp) (O (qa p b)) ?_ ?_
 .exact⟨0,qA,qA,t0,t1,t2,t6,t7,p7,t8,p8,p83,by simp[p84,jQ],p85,p86,t9,⟨r6,p6,h6⟩,by simpa using hO1⟩
 clear t0 t1 t2 t6 t7 p7 t8 p8 p83 p84 p85 p86 t9 hO1 p6;rintro n st - - ⟨i,rfl,hi,t0,t1,t2,t6,t7,p7,t8,p8,p83,p84,p85,p86,t9,⟨r6,p6,h6⟩,hO1⟩;have hT:=hO1.top;have hC:=hO1.cells;simp only[zu,u7,List.length_replicate]at hT;simp only at hC;have hcl2:O m.cells+i<=3000:=qA;have hil8:i<=8:=qA;by_cases hil:i<O (qa p b)
 .have hwl:IntKind.i64.wrap ((O m.cells:Int)+i)=(O m.cells:Int)+i:=qk qA qA
  have hap:zD (m.cells++List.replicate i Y)++[[bv M,iv 0,iv 0]]=zD (m.cells++List.replicate (i+1) Y):=by
   rw[List.replicate_succ'];simp[zD]
  have hap2:qh (jQ ((List.range i).map (O m.cells+·)))++[[iv ((O m.cells:Int)+i)]]=qh (jQ ((List.range (i+1)).map (O m.cells+·))):=by
   rw[rC];simp[jQ,qh]
  have hil1:O (jQ ((List.range i).map (O m.cells+·)))=i:=qB;have fx:=qg t0 t1 t2 t6 t7 p7 t8 p8 p83 p84 p85 p86<|ya t9 p6 hT hC hcl2 hil8 hil hwl hil1<|hcc;refine qK ?_
  repeat((first|refine qP (id:=2) Hq mixed ?_|refine qP (id:=7) Hr mixed ?_);refine zC ?_;refine qK ?_)
  clear fx;have htk2:(m.cells++List.replicate i Y).take (O m.cells+i)=m.cells++List.replicate i Y:=jg qB;have htk:(jQ ((List.range i).map (O m.cells+·))).take i=jQ ((List.range i).map (O m.cells+·)):=jg qB;refine⟨O (qa p b)-(i+1),qA,i+1,rfl,qA,ku,oX,kx,mR,by simp[t7],by simp[p7],iD,qB,by simp[p83],?_,by simp[p85],by simp[p86],zr,⟨_,by simp[p6];rfl,by simpa using h6⟩,(have h:=hO1;qS.re h (h0:=by simp[zu];omega) (h2:=by simp[<- hap];rw[htk2]))⟩;simp[<- hap2,htk]
 .obtain rfl:i=O (qa p b):=qA;have hil1:O (jQ ((List.range (O (qa p b))).map (O m.cells+·)))=O (qa p b):=qB;have hwm:IntKind.i64.wrap ((m.made:Int)+1)=(m.made:Int)+1:=qk qA qA;have hd6:r6.drop 7=[]:=CX qA;have htk:(jQ ((List.range (O (qa p b))).map (O m.cells+·))).take (O (qa p b))=jQ ((List.range (O (qa p b))).map (O m.cells+·)):=jg qB;have fx:=qg t0 t1 t2 t6 t7 p7 t8 p8 p83 p84 p85 p86<|ya t9 p6 hd6 hT hC hil8 hcc hil1 hcs<|hwm;refine qK ?_
  repeat((first|refine qP (id:=2) Hq mixed ?_|refine qP (id:=7) Hr mixed ?_);refine zC ?_;refine qK ?_)
  clear fx;refine qE [(.s 8,root)] (.one rfl) (by simp[t6,hd6];rfl) ⟨qB,by simp[p83,hr1,hr2],?_,by simp[p85,hr1,hr2],by simp[p86,hr1,hr2],qS.fin (have h:=hO1;qS.re h) (.inr rfl),hroot⟩;have hna:∀a b:List Nat,jQ (a++b)=jQ a++jQ b:=λa b=>by simp[jQ]
  rw[hna];simp[hr1,hr2,htk]
def HH(gl)(H:Nm->Option AO)(p:qC)(m:qR)(b:Nat)(cs:List Nat)(dp:Nat)(hb:b<O p)(hcl:O m.cells<=2000)(hcs:O cs<=8)(hmd:m.made<=1000)(hO:qS H p (.u 2 0 0) m dp):
  qX prog gl 130 zP [.pt Xn 0,iv b,jO (jQ cs)] H (λr y H'=>y=.agg [iv b,iv 0,iv (-1),.hs (.c r 0 3) 3 0 (O (zB p b)),jO (jQ (((List.range (O (qa p b))).map (O m.cells+·))++cs)),.hs (.c r 0 5) 3 0 8,.hs (.c r 0 6) 2 0 0]/\H' (.c r 0 3)=Z (.row 3 (zD (List.replicate (O (zB p b)) Y)))/\H' (.c r 0 5)=Z (.row 3 (zD jZ))/\H' (.c r 0 6)=Z (.row 2 [])/\qS H' p (.u 2 0 0) {m with cells:=m.cells++List.replicate (O (qa p b)) Y,made:=m.made+1} dp) qw:=by
 refine(W5 gl H p m b cs dp hb hcl hcs hmd hO).settle (λr n=>Nm.under (.c r 0 4) n) ?_;rintro r y H' ⟨rfl,h3,h4,h5,h6,hO',hr⟩
 have hne:∀q,zP q=B->Nm.under (.c r 0 4) q=M:=by
  intro q hq
  cases h:Nm.under (.c r 0 4) q with
  |false=>rfl
  |true=>
   have:=hr q (Nm.ie (a:=r) qB h);rw[this]at hq
   cases hq
 have hu:∀j,j≠4->Nm.under (.c r 0 4) (.c r 0 j)=M:=by
  intro j hj
  have hx:Nm.under (.c r 0 4) r=M:=by
   cases h:Nm.under (.c r 0 4) r with
   |false=>rfl
   |true=>exact absurd rfl (Nm.E8 h).2
  simp[hx,hj]
 refine⟨.agg [iv b,iv 0,iv (-1),.hs (.c r 0 3) 3 0 (O (zB p b)),jO (jQ (((List.range (O (qa p b))).map (O m.cells+·))++cs)),.hs (.c r 0 5) 3 0 8,.hs (.c r 0 6) 2 0 0],.agg _ _ rfl λj a a' ha ha'=>?_,rfl,?_,?_,?_,?_⟩
 .match j,ha,ha' with
  |0,ha,ha'=>obtain rfl:=sI ha;obtain rfl:=sI ha';exact .refl _
  |1,ha,ha'=>obtain rfl:=sI ha;obtain rfl:=sI ha';exact .refl _
  |2,ha,ha'=>obtain rfl:=sI ha;obtain rfl:=sI ha';exact .refl _
  |3,ha,ha'=>obtain rfl:=sI ha;obtain rfl:=sI ha';exact .refl _
  |4,ha,ha'=>
   obtain rfl:=sI ha;obtain rfl:=sI ha';refine .hs (.c r 0 4) 1 0 _ _ _ qB h4 qB qB y3 λi r1 r2 e1 e2 j a a' e3 e4=>?_;rw[gc,e2]at e1;obtain rfl:=sI e1;rw[e3]at e4;obtain rfl:=sI e4;exact .refl _
  |5,ha,ha'=>obtain rfl:=sI ha;obtain rfl:=sI ha';exact .refl _
  |6,ha,ha'=>obtain rfl:=sI ha;obtain rfl:=sI ha';exact .refl _
  |j+7,ha,_=>simp at ha
 .simp only[jz,hu 3 qf,aF,if_false,h3]
 .simp only[jz,hu 5 qf,aF,if_false,h5]
 .simp only[jz,hu 6 qf,aF,if_false,h6]
 .exact hO'.ra (.inr rfl) λq hq=>by simp only[jz,hne q hq,aF,if_false]
abbrev Nx:qV:=bB<|.l 8 [7,6,5,4,3,2,1,0]<|.l 9 []<|.done
abbrev Yj:qV:=ba<|.l 7 []<|.l 8 []<|.done
abbrev Yk:qV:=xp<|.q 16<|.l 13 [16,5,4,3,2,1,0]<|.q 14<|.q 15<|.q 17<|.l 18 []<|.done
abbrev Yl:qV:=bA<|.l 6 [4,3,2,1,0]<|.l 7 [0]<|.q 8<|.q 9<|.l 10 []<|.done
def fh(k:G2)(x:A)(h:A->jH G2->G:=by
 intro fx kk;refine qK ?_
 repeat((first|refine qP (id:=8) Nx mixed ?_|refine qP (id:=9) Nx mixed ?_|refine qP (id:=17) Yj mixed ?_|refine qP (id:=20) Yk mixed ?_|refine qP (id:=21) Yl mixed ?_);refine zC ?_;refine qK ?_)
 exact kk.h):G:=h x ⟨k⟩
theorem qCO(gl)(H:Nm->Option AO)(p:qC)(m:qR)(fs:List qO)(f:qO)(n dp pc0:Nat)(hP:zi p)(h:yf p m fs {f with pc:=pc0})(hn1:n<=1)(hst:n+1<=O f.stack)(hsl:O f.stack<=1000)(hfl:O fs<=1000)(hO:qS H p (.u 2 0 0) (m.top fs f) dp):
  qX prog gl 180 zP [.pt Xn 0,.ep (.u 2 0 0) 7 (O fs) 0,iv n] H (λ_ _ H'=>∃q,(q=.u 2 0 0\/q=.c Xn 0 6)/\qS H' p q (ck p m fs f (17,(n:Int))) dp) qw:=by
 have hT:=hO.top;have hF:=hO.fr.top;refine qX.q9 func180 [] ntmps180 (λ_=>vF) λC w g root hroot=>?_;have hcm:=K4 (p:=p) (m:=m) (fs:=fs) hst;refine fh ?_<|qW;refine zK (λk s=>∃i:Nat,k=n-i/\i<=n/\s.tm 0=.pt Xn 0/\s.tm 1=.ep (.u 2 0 0) 7 (O fs) 0/\s.tm 2=iv n/\s.tm 6=.hs (.s 6) 2 0 i/\s.hp (.s 6)=Z (.row 2 (zm (f.stack.drop (O f.stack-i))))/\s.tm 7=iv i/\qS s.hp p (.u 2 0 0) (m.top fs (f.cut i)) dp) n ?_ ?_
 .exact⟨0,qA,qA,qB,qB,qB,qB,oO,qB,by rw[Kr];exact(have h:=hO;qS.re h)⟩
 clear hT hF hO;rintro k s - - ⟨i,rfl,hi,t0,t1,t2,t6,p6,t7,hO⟩;have hT:=hO.top;have hX0:s.hp Xn≠Y:=Ae;have hU0:s.hp (.u 2 0 0)≠Y:=by obtain⟨js,e⟩:=hO.fr.top;rw[e];simp
 have hk:=Kq (f:=f) (i:=i) qA;obtain⟨rows,a0,a1,a2,a3,a4,a5,vs,e1,e2,e3,e4,e5⟩:=hO.take hk;by_cases hil:i<n
 .have hdl:O (zm (f.stack.drop (O f.stack-i)))=i:=qp;have hdv:=Kp (f:=f) (i:=i) qA;refine fh ?_<|zy t0 t1 t2 t6 p6 t7<|hil;intro K hK;have fx:=aI t0 (aI t1 t6);refine w9 (oF.2 hX0) (oF.2 hU0) (hF:=ry gl zP (λ_=>vF) _ rows (O fs) (O f.stack-(i+1)) a0 a1 a2 a3 a4 a5 vs (f.cut i).zE e2 e3 e4 e5 qA) (h:=?_);intro y H1 hw;clear fx;have hO1:=hO.taken e1 hk hw;obtain⟨rfl,-⟩:=hw;rw[DQ qA]at hO1;generalize (f.cut i).zE=v at *;obtain⟨v1,v2⟩:=v;have hT1:=hO1.top;have hap:[[iv v1,iv v2]]++zm (f.stack.drop (O f.stack-i))=zm (f.stack.drop (O f.stack-(i+1))):=by rw[hdv];rfl
  have hi1:i<=1:=qA;refine fh ?_<|y9 t0 t1 t2 t6 p6 t7 hT1 hdl<|hi1;have htk:(f.stack.drop (O f.stack-i)).take i=f.stack.drop (O f.stack-i):=jg qp;exact⟨n-(i+1),qA,i+1,rfl,qA,wP,by simp[t1,e1],kx,qp,by simp[htk,<- hap],zr,(have h:=hO1;qS.re h)⟩
 .obtain rfl:i=n:=qA;have hdl:O (f.stack.drop (O f.stack-i))=i:=qp;have htm:=h.top.sv _ (gM (DR (f:=f) (i:=i) qA));rw[hcm];refine fh ?_<|zx t0 t1 t2 t6 p6<|t7;intro K hK;have fx:=aI t0 (aI t1 t6);refine w9 (oF.2 hX0) (oF.2 hU0) (hF:=ry gl zP (λ_=>vF) _ rows (O fs) (O f.stack-(i+1)) a0 a1 a2 a3 a4 a5 vs (f.cut i).zE e2 e3 e4 e5 qA) (h:=?_);intro y H1 hw;clear fx;have hO1:=hO.taken e1 hk hw;obtain⟨rfl,-⟩:=hw;rw[DQ qA]at hO1;generalize (f.cut i).zE=v at *;obtain⟨v1,v2⟩:=v;have hT1:=hO1.top;refine fh ?_<|zy t0 t1 t2 t6 p6 t7<|hT1;refine uR (λs=>s.tm 0=.pt Xn 0/\s.tm 1=.ep (.u 2 0 0) 7 (O fs) 0/\s.tm 2=iv i/\s.tm 6=.hs (.s 6) 2 0 i/\s.hp (.s 6)=Z (.row 2 (zm (f.stack.drop (O f.stack-i))))/\s.tm 8=.pt (.s 8) 0/\s.hp (.s 8)=Z (.row 2 [[iv v1,iv v2]])/\s.tm 30=bv (v1 != 2)/\qS s.hp p (.u 2 0 0) (m.top fs (f.cut (i+1))) dp) ⟨wP,by simp[t1,e1],kx,mR,by simp[p6],qB,qB,qB,(have h:=hO1;qS.re h)⟩ ?_;clear hT hT1 e1 e2 e3 e4 e5 t0 t1 t2 t6 p6 t7 hO hO1 hX0 hU0 hdl;rintro s ⟨t0,t1,t2,t6,p6,t8,p8,t30,hO⟩;have hT:=hO.top;simp only[zu,qR.top]at hT;by_cases h2:v1=2
  case neg=>
   have hb:(v1 != 2)=B:=lH;rw[if_pos h2];refine fh ?_<|ya t0 t1 t2 t6 p6 t8 p8 t30 hT<|hb;refine qE [] .nil qD ⟨_,.inl rfl,qS.fin (qS.DU hO rfl λk hk=>?_) (.inr rfl)⟩;simp[zu]
  subst h2;rw[if_neg qB];have hv2:=htm.num;have hv3:=htm.fn rfl;simp only at hv2 hv3;obtain⟨jf,rfl⟩:∃jf:Nat,v2=jf:=⟨v2.toNat,qA⟩;have hjl:jf<O m.qI:=qA;obtain⟨q,hq⟩:=gX hjl;obtain⟨_,hqE⟩:=gS hq;obtain⟨kq,hk1,hk2,hk3,hk4⟩:=h.qI q (gM hq);obtain⟨b,cs⟩:=q;simp only at hk1 hk2 hk3 hk4;have hFn:=hO.qI;simp only[sN]at hFn;have qv:=(gS hk1).1;have hcd:(jo p (O p))[b]?=Z (zQ p b):=by simp[jo,qv]
  obtain⟨hcdl,hcdE⟩:=gS hcd;have hpn:O (zQ p b).params=uG p b:=by simp[zQ,hk1,uG]
  simp only[un,hq];by_cases hpi:uG p b=i
  case neg=>
   rw[if_pos hpi];have hb:(((uG p b:Nat):Int) != (i:Int))=B:=by rw[bne_iff_ne];omega
   have hb2:¬((uG p b:Nat):Int)=(i:Int):=qA;refine fh ?_<|qg t0 t1 t2 t6 p6 t8 p8 t30 hT hFn hq hqE<|zy hjl hcd hcdl hcdE hpn hb<|hb2;refine qE [] .nil qD ⟨_,.inl rfl,qS.fin (have h:=hO;qS.re h (h0:=by simp[zu])) (.inr rfl)⟩
  rw[if_neg (by simpa using hpi)];refine fh ?_<|qg t0 t1 t2 t6 p6 t8 p8 t30 hT hFn hq hqE<|zx hjl hcd hcdl hcdE hpn<|hpi;obtain⟨js,hU⟩:=hO.fr.top;have hc1:=h.nc;have hc2:=h.made;have hc3:=iL (p:=p) (b:=b);intro K hK;have fx:=aI t0 hT;refine w9 zG vH (hF:=HH _ _ p (m.top fs (f.cut (i+1))) b cs dp qv Cu qA Cg (have h:=hO;qS.re h)) (h:=?_);rintro y H1 ⟨rfl,h3,h5,h6,hO1⟩;clear fx;have hT1:=hO1.top;refine fh ?_<|jU t0 t1 t2 t6 p6 t8 p8 hT hT1 h3<|aI h5<|h6;have hcf:(zQ p b).qt=zB p b:=by simp[zQ,hk1]
  have hcc:(zQ p b).cells=qa p b:=by simp[zQ,hk1]
  have hkp:(zQ p b).params=kq.params:=by simp[zQ,hk1]
  have hf8:=rf (p:=p) (b:=b);have hc8:=da (p:=p) (b:=b);simp only[Pa]at h3 h5 h6 hO1;refine zK (λk s=>∃(j:Nat)(fl C:List qr),k=i-j/\j<=i/\gR p m b (f.stack.drop (O f.stack-i)) j fl C/\s.tm 0=.pt Xn 0/\s.tm 2=iv i/\s.tm 6=.hs (.s 6) 2 0 i/\s.hp (.s 6)=Z (.row 2 (zm (f.stack.drop (O f.stack-i))))/\s.tm 10=.pt (.s 10) 0/\s.hp (.s 10)=Z (.row 6 [(zQ p b).row])/\s.tm 11=.pt (.s 11) 0/\s.hp (.s 11)=Z (.row 7 [[iv b,iv 0,iv (-1),.hs (.c (.s 63) 0 3) 3 0 (O (zB p b)),jO (jQ ((List.range (O (qa p b))).map (O m.cells+·)++cs)),.hs (.c (.s 63) 0 5) 3 0 8,.hs (.c (.s 63) 0 6) 2 0 0]])/\s.hp (.c (.s 63) 0 3)=Z (.row 3 (zD fl))/\s.hp (.c (.s 63) 0 5)=Z (.row 3 (zD jZ))/\s.hp (.c (.s 63) 0 6)=Z (.row 2 [])/\s.tm 12=iv j/\qS s.hp p (.u 2 0 0) {m.top fs (f.cut (i+1))with cells:=C,made:=m.made+1} dp) i ?_ ?_
  .exact⟨0,_,_,qA,qA,.inl ⟨rfl,rfl,rfl⟩,wP,kx,mR,by simp[p6],qB,qB,qB,qB,jr,jh,vZ,qB,(have h:=hO1;qS.re h)⟩
  clear t0 t1 t2 t6 p6 t8 p8 t30 hT hT1 h3 h5 h6 hO1 hO hU;rintro k s - - ⟨j,fl,C,rfl,hj,hB,t0,t2,t6,p6,t10,p10,t11,p11,h3,h5,h6,t12,hO⟩;have hT:=hO.top;simp only[zu,qR.top]at hT;have hC:=hO.cells;simp only at hC;have hBf:=hB.fl;have hBc:=hB.cl;by_cases hji:j<i
  .obtain rfl:i=1:=qA;obtain rfl:j=0:=qA
   obtain⟨x,hx⟩:∃x,kq.params=[x]:=by
    have:O kq.params=1:=by rw[<- hkp,hpn];exact hpi
    match h:kq.params,this with
    |[x],_=>exact⟨x,rfl⟩
   have hdl:O (f.stack.drop (O f.stack-1))=1:=qp
   obtain⟨v,hv⟩:∃v,f.stack.drop (O f.stack - 1)=[v]:=by
    match h:f.stack.drop (O f.stack-1),hdl with
    |[v],_=>exact⟨v,rfl⟩
   rw[hv]at hB p6;rw[hx]at hkp;have hxm:x∈kq.params:=by rw[hx];simp
   obtain⟨-,rfl,rfl⟩:0=0/\fl=List.replicate (O (zB p b)) Y/\C=m.cells++List.replicate (O (qa p b)) Y:=by
    rcases hB with h|⟨h,_⟩
    .exact h
    .omega
   obtain⟨v1,v2⟩:=v;have hpl:=pE gl (zB p b) x qA;have hpc:=pE gl (qa p b) x qA;by_cases hxf:x∈zB p b
   .obtain⟨z,hz,hzl,_⟩:=pD hxf;rw[hz]at hpl;have fx:=qg t0 t2 t6 p6 t10 p10 t11 p11 h3 h5 h6 t12<|zx hT hC hcf hcc hkp<|hzl;have c1:=hpl;refine fh ?_<|@fx;clear fx c1;exact⟨0,qA,1,_,_,qA,qA,.inr ⟨rfl,x,(v1,v2),hkp,hv,.inl ⟨hxf,rfl,rfl⟩⟩,wP,kx,mR,by simp[p6,hv],by simp[t10],by simp[p10],by simp[t11],by simp[p11],by simp[hz],jh,vZ,qD,(have h:=hO;qS.re h)⟩
   .have hxc:x∈qa p b:=(N1 hP hk1 hxm).resolve_left hxf;obtain⟨z,hz,hzl,_⟩:=pD hxc;have hneg:yz (zB p b) x<0:=Int.not_le.1 λe=>hxf (nD.1 e);have hneg2:¬0<=yz (zB p b) x:=Int.not_le.2 hneg;rw[hz]at hpc
    have hzc:(jQ ((List.range (O (qa p b))).map (O m.cells+·)++cs))[z]?=Z (((O m.cells+z:Nat)):Int):=by
     simp only[jQ];rw[j3,ua (by simpa using hzl),j3,List.getElem?_range hzl]
     rfl
    obtain⟨hzcl,hzcE⟩:=gS hzc;have hzm:O m.cells+z<O (m.cells++List.replicate (O (qa p b)) (Y:qr)):=qp;have hzm2:z<O (qa p b)+O cs:=qA;have hz1:((O m.cells:Int)+z).toNat=O m.cells+z:=qA;have hz0:(0:Int)<=(O m.cells:Int)+z:=qA;have hz2:(O m.cells:Int)+z<(O m.cells:Int)+O (qa p b):=qA;generalize yz (zB p b) x=u at hpl hneg hneg2;have fx:=qg t0 t2 t6 p6 t10 p10 t11 p11 h3 h5 h6 t12<|qg hT hC hcf hcc hkp hzl hneg hneg2 hzc hzcl hzcE hzm<|qz hzm2 hz1 hz0<|hz2;have c1:=hpl;have c2:=hpc;refine fh ?_<|@fx;clear fx c1 c2;exact⟨0,qA,1,_,_,qA,qA,.inr ⟨rfl,x,(v1,v2),hkp,hv,.inr ⟨hxf,rfl,rfl⟩⟩,wP,kx,mR,by simp[p6,hv],by simp[t10],by simp[p10],by simp[t11],by simp[p11],jr,jh,vZ,qD,(have h:=hO;qS.re h (h0:=dZ) (h2:=by simp[hz]))⟩
  .obtain rfl:j=i:=qA;obtain⟨js,hF⟩:=hO.fr.top;have hvl:O (f.stack.drop (O f.stack-j))=j:=qp;have hfin:=hB.fin (m:=m.top fs (f.cut (j+1))) (cs:=cs) hvl;have hfl2:O fs+1<=2000:=qA;refine lv (.c (.s 63) 0 3) (.s 20) (.inl rfl) (.inl rfl) (lv (.c (.s 63) 0 5) (.s 21) (.inl rfl) (.inl rfl) (lv (.c (.s 63) 0 6) (.s 22) (.inl rfl) (.inl rfl) ?_));refine fh ?_<|qg t0 t2 t6 p6 t10 p10 t11 p11 h3 h5 h6 t12<|ql hT hF<|hfl2;rw[hfin];refine yu [] .nil qD ⟨_,.inr rfl,qS.fin ?_ (.inl qB)⟩
   have key:∀(i1:Nat)g,(fs++[f.cut (j+1)]++[(⟨b,0,fl,(List.range (O (qa p b))).map (O m.cells+·)++cs,jZ,[]⟩:qO)])[i1]?=Z g->(i1=O fs+1/\g=⟨b,0,fl,(List.range (O (qa p b))).map (O m.cells+·)++cs,jZ,[]⟩)\/(i1<O fs+1/\(fs++[f.cut (j+1)])[i1]?=Z g):=by
    intro i1 g hg;rcases oE i1 (O (fs++[f.cut (j+1)]))with e|e|e
    .rw [ua e]at hg;exact .inr ⟨by simpa using e,hg⟩
    .subst e;simp at hg;exact .inl ⟨qB,hg.symm⟩
    .rw [eX (by simp at e ⊢;omega)]at hg
     cases hg
   refine⟨?_,?_,?_,?_,?_,?_,?_,?_,⟨[],?_⟩,λi1 g hg=>?_,λi1 g hg=>?_,λi1 g hg=>?_⟩
   .simp [zu]
   .simp [hO.vI]
   .simp [hO.cells]
   .simp [hO.zM]
   .simp [hO.qI]
   .simp [hO.jG]
   .simp [hO.out]
   .simp [hO.zt]
   .simp;rw[<- sf,La]
    have htk:(fs++f.cut (j+1)::js).take (O fs+1)=fs++[f.cut (j+1)]:=by
     simp[lA];exact jg qA
    rw[htk,L8 (m:=.c Xn 0 6) λi1 g hg=>?_]
    .have:=L7 (p:=p) (n:=.c Xn 0 6) (l:=fs++[f.cut (j+1)]) (f:=⟨b,0,fl,(List.range (O (qa p b))).map (O m.cells+·)++cs,jZ,[]⟩);simp[yv,vv,hBf]at this;exact this
    .have hlt:=(gS hg).1;have hne:¬i1=O fs+1:=by simp at hlt;omega
     simp[yv,hne]
   .rcases key i1 g hg with⟨rfl,rfl⟩|⟨hl,hg⟩
    .simp [h3]
    .have hne:¬i1=O fs+1:=qA;simp[hO.fr.qt i1 g hg,hne]
   .rcases key i1 g hg with⟨rfl,rfl⟩|⟨hl,hg⟩
    .simp [h5]
    .have hne:¬i1=O fs+1:=qA;simp[hO.fr.names i1 g hg,hne]
   .rcases key i1 g hg with⟨rfl,rfl⟩|⟨hl,hg⟩
    .exact⟨[],by simp[h6,zm]⟩
    .have hne:¬i1=O fs+1:=qA;exact(hO.fr.stack i1 g hg).imp λj1 hj1=>by simp[hj1,hne]
end Go.Proofs.YtjgpejikjhojcaaGreatDoor
end
