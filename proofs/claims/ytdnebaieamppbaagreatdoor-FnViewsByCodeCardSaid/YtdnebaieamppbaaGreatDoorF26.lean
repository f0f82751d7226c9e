import Derived.Test.YtdnebaieamppbaaGreatDoorF17
import Derived.Test.YtdnebaieamppbaaGreatDoorF25
set_option linter.unusedSimpArgs false
set_option linter.unusedVariables false
set_option maxRecDepth 100000
set_option maxHeartbeats 4000000

section
namespace Go.Proofs.YtdnebaieamppbaaGreatDoor
open Go Go.Hm Go.Proofs Tryz
abbrev Rt:Y8:=E6<|.l 17 [12,11,10,9,8,7,6,5,2,1,0]<|.l 18 [12,11,10,9,8,7,6,5,2,1]<|.l 19 []<|.done
abbrev Rs:Y8:=ai<|.l 7 []<|.l 8 []<|.done
abbrev Wq:Y8:=E7<|.done
abbrev Ua:Y8:=oa<|.l 13 []<|.l 14 []<|.done
theorem gh (gl) (D:Nm->Bool) (hD:∀ k,D k=true->k.Y3=false) (H:Nm->Option AO) (rows:List (List AV)) (i k:Nat) (a0 a1 a2 a3 a4 a5:AV) (vs:List Y6) (v:Y6) (hr:H (.u 2 0 0)=some (.row 7 rows)) (hi:rows[i]?=some [a0,a1,a2,a3,a4,a5,.hs (.c (.u 2 0 0) i 6) 2 0 (k+1)]) (hs:H (.c (.u 2 0 0) i 6)=some (.row 2 (zf vs))) (hv:vs[k]?=some v) (hk:k<=1000) :
  Yc prog gl 153 D [.ep (.u 2 0 0) 7 i 0] H (xI D (Y6.av v) (.u 2 0 0) (.row 7 (qY rows i 6 [.hs (.c (.u 2 0 0) i 6) 2 0 k])) H) Yz:=by
 obtain⟨hil,hiE⟩:=gS hi;obtain⟨hvl,hvE⟩:=gS hv;obtain⟨v1,v2⟩:=v;have hw1:IntKind.i64.wrap (k:Int)=k:=Yi qA qA;have hl1:(k:Int)<(k:Int)+1:=qA;have hl2:(k:Int)<=(k:Int)+1:=qA;have hl0:(0:Int)<=(k:Int):=qA;refine Yc.Yb func153 [.cell 2 63] ntmps153 hD λC w g root hroot=>?_;have fx:=jP hr hi hiE hil hs hv hvE hvl hw1 hl0<|aI hl1<|hl2;refine qI ?_
 repeat ((first|refine Y7 (id:=1) (.q 0<|.q 1<|.q 2<|.q 3<|.q 4<|.q 5<|.q 6<|.q 7<|.q 8<|.q 9<|.q 10<|.q 11<|.l 12 [11,10,9,8,7,6,5,4,3,2,1,0]<|.l 13 []<|.done) mixed ?_|refine Y7 (id:=2) (.q 0<|.q 1<|.q 2<|.q 3<|.q 4<|.q 5<|.q 6<|.q 7<|.q 8<|.q 9<|.q 10<|.q 11<|.q 12<|.q 13<|.l 14 []<|.done) mixed ?_);refine qW ?_;refine qI ?_)
 clear fx;refine qE [] .nil qF ⟨qB,λq hq=>?_⟩;have hq2:=λd=>(Zq hD hq d).1;have hq3:=λd=>(Zq hD hq d).2;by_cases e:q=.u 2 0 0
 .subst e;simp only [lO,hq,if_true];simp [AO.tr,b9,Pm hD,-List.map_map]
 .simp [lO,hq,hq2,hq3,e,M4 hD,-Option.map_map]
theorem Dd (gl) (p:YU) (n1 n2 n3 n4 n5 n6 n7 n8 n9 n10 n11 n12 n13 i1:Nat) (e1 e2:Int) (l ps:List Int) (qs:List Nat) (b:Nat) (cs:List Cod) (hb0:0<b) (hb:b<p.length) (hps:ps=z8 p b) (hp:ps.length<=8) (hq:∀ (i:Nat) y,ps[i]?=some y->∃ z:Nat,y=z/\∃ c,l[z]?=some c/\(qs[i]?).map (λ(x:Nat)=>(x:Int))=some c) (hqs:qs.length=ps.length) :
  qX prog gl 190 [.el [csl cs,.sl 1 (ub QB p),.hs (.c Xn 0 2) 3 0 n1,.hs (.c Xn 0 3) 3 0 8,.hs (.c Xn 0 4) 2 0 n2,.hs (.c Xn 0 5) 1 0 n3,.hs (.u 2 0 0) 7 0 n4,iv n5,iv n6,.hs (.c Xn 0 9) 1 0 n7,.hs (.c Xn 0 10) 2 0 n8,iv e1,iv n9] 0,.el [iv n10,iv n11,iv e2,.hs (.c (.u 2 0 0) i1 3) 3 0 n12,ZD l,.hs (.c (.u 2 0 0) i1 5) 3 0 8,.hs (.c (.u 2 0 0) i1 6) 2 0 n13] 0,iv b] (λr y H'=>y=.hs r 1 0 qs.length/\H' r=some (.row 1 (qS (zu qs)))):=by
 have hc:(ub QB p)[b]?=some [ZD ps]:=by rw [hps];exact FQ hb0 hb
 obtain⟨hcl,hcE⟩:=gS hc;refine qX.Yb func190 [.tmp 6] ntmps190 λC w g root=>?_;have fx:=jD hc hcE<|hcl;refine qI ?_
 repeat ((first|refine Y7 (id:=5) Rt mixed ?_);refine qW ?_;refine qI ?_)
 clear fx;refine qR (λn st=>∃ i:Nat,n=ps.length - i/\i<=ps.length/\st.tm 0=.el [csl cs,.sl 1 (ub QB p),.hs (.c Xn 0 2) 3 0 n1,.hs (.c Xn 0 3) 3 0 8,.hs (.c Xn 0 4) 2 0 n2,.hs (.c Xn 0 5) 1 0 n3,.hs (.u 2 0 0) 7 0 n4,iv n5,iv n6,.hs (.c Xn 0 9) 1 0 n7,.hs (.c Xn 0 10) 2 0 n8,iv e1,iv n9] 0/\st.tm 1=.el [iv n10,iv n11,iv e2,.hs (.c (.u 2 0 0) i1 3) 3 0 n12,ZD l,.hs (.c (.u 2 0 0) i1 5) 3 0 8,.hs (.c (.u 2 0 0) i1 6) 2 0 n13] 0/\st.tm 2=iv b/\st.tm 7=.hs (.s 7) 1 0 i/\st.hp (.s 7)=some (.row 1 (qS (zu (qs.take i))))/\st.tm 8=iv i) ps.length ?_ ?_
 .exact⟨0,qA,qA,qB,qB,qB,qB,by simp [zu],qB⟩
 rintro n st - - ⟨i,rfl,hi,t0,t1,t2,t7,h7,t8⟩;by_cases hil:i<ps.length
 .obtain⟨y,hy⟩:=gX hil;obtain⟨_,hyE⟩:=gS hy;obtain⟨z,rfl,c,hz,hqi⟩:=hq i y hy;obtain⟨hzl,hzE⟩:=gS hz;obtain⟨x,hx,rfl⟩:=ui.1 hqi;have htl:(zu (qs.take i)).length=i:=by simp [zu];omega
  have hi8:i<=8:=qA;have fx:=qQ t0 t1 t2 t7 h7 t8 hc hcE hcl hil hy hyE<|yl hz hzE hzl htl<|hi8;refine qI ?_
  repeat ((first|refine Y7 (id:=5) Rt mixed ?_);refine qW ?_;refine qI ?_)
  clear fx;refine⟨ps.length - (i+1),qA,i+1,rfl,qA,vr,ap,uQ,qB,?_,by simp [t8];exact Yi qA qA⟩;have e1:qs.take (i+1)=qs.take i++[x]:=by rw [dN,hx];rfl
  have e2:qS (zu (qs.take i))++[[iv x]]=qS (zu (qs.take (i+1))):=by rw [e1];simp [zu,qS]
  simp [<- e2];rw [bC qv]
 .obtain rfl:i=ps.length:=qA;have fx:=gJ t0 t1 t2 t7 h7 t8 hc hcE hcl<|hil;refine qI ?_
  repeat ((first|refine Y7 (id:=5) Rt mixed ?_);refine qW ?_;refine qI ?_)
  clear fx;have:qs.take ps.length=qs:=by rw [<- hqs];simp
  rw [this] at h7;exact zq (t:=6) NL NL qB
theorem pJ {G G2:Prop} (k:G2) (h:Yr G2->G:=by
 intro kk;refine qI ?_
 repeat ((first|refine Y7 (id:=2) Rs mixed ?_|refine Y7 (id:=4) Wq mixed ?_|refine Y7 (id:=5) Ua mixed ?_|refine Y7 (id:=6) Ua mixed ?_|refine Y7 (id:=8) Rs mixed ?_|refine Y7 (id:=9) Rs mixed ?_);refine qW ?_;refine qI ?_)
 exact kk.h):G:=h ⟨k⟩
theorem I2 (gl) (H:Nm->Option AO) (p:YU) (m:Y2) (fs:List YZ) (f:YZ) (o:Int×Int) (dp:Nat) (hp:f.YS<p.length) (hc:2<=o.1/\o.1<=13) (hx:qBl m f o) (hg8:m.globals.length=8) (hn8:f.names.length=8) (hO:YW H p (.u 2 0 0) (m.top fs f) dp) :
  Yc prog gl 189 ZK [.pt Xn 0,.ep (.u 2 0 0) 7 fs.length 0,.agg [iv o.1,iv o.2]] H (λ_ y H'=>y=.Zg [.ep (Zv (.u 2 0 0) fs.length o) 3 (slI f o) 0,iv (dW p f o)]/\YW H' p (.u 2 0 0) (m.top fs f) dp) Yz:=by
 have hT:=hO.top;simp only [vg] at hT;obtain⟨L,j,hL,hat,hlt,hF,hf,hn,hst⟩:=hO.Z2 rfl;obtain⟨_,hatE⟩:=gS hat;obtain⟨k,hk⟩:=gX hp;have hcd:(qg p p.length)[f.YS]?=some (qd p f.YS):=rj;obtain⟨hcdl,hcdE⟩:=gS hcd;have hcc:(qd p f.YS).cells=qC p f.YS:=kR;have hcl:=hO.cells;have hgl:=hO.Yd;simp only [Y2.top] at hT hcl hgl;obtain⟨c,a⟩:=o;obtain⟨x0,x1,x2⟩:=hx;obtain⟨x,rfl⟩:∃ x:Nat,a=x:=⟨a.toNat,by simp only at x0;omega⟩;simp only at hc;have i1:=jR gl c 2 4;have i2:=jR gl c 5 7;have i3:=jR gl c 8 10;have hc2:=hc.1;simp only [slI,slL] at x1 x2;have hxx:((x:Int).toNat)=x:=qA;refine Yc.Yb func189 [.tmp 6,.tmp 7] ntmps189 (λ_=>zi) λC w g root hroot=>?_;by_cases c4:c<=4
 .rw [if_pos c4,if_pos c4,a6] at x1;have x4:(x:Int)<f.YV.length:=qA;have fx:=qQ hT hF hat hatE hlt hf hn hcl hgl hc2 c4 x1<|x4;have c1:=i1;refine pJ ?_;clear fx c1;refine qE [] .nil qF ⟨?_,?_⟩
  .simp [Zv,slI,dW,c4]
  .exact YW.fin (have h:=hO;YW.re h) (.inr rfl)
 rw [if_neg c4,if_neg c4] at x1;have c5:5<=c:=qA;by_cases c7:c<=7
 .rw [if_pos c7,if_pos c7] at x1;have x3:=x2 c5 c7;rw [if_neg c4,if_pos c7] at x3;obtain⟨x3l,x3E⟩:=gS x3;simp only [a6] at x1 x3 x3l x3E;have hwy:dW p f (c,(x:Int))=if (x:Int)<(qC p f.YS).length then 2 else 3:=by simp [dW,c4,c7]
  have hsi:slI f (c,(x:Int))=f.cells.getD x 0:=by simp [slI,c4,c7]
  rw [hsi];generalize f.cells.getD x 0=y at x1 x3 x3E;have x4:(x:Int)<f.cells.length:=qA;have x5:(y:Int)<m.cells.length:=qA;have x6:(zu f.cells)[x]?=some (y:Int):=by simp [zu,x3]
  obtain⟨x6l,x6E⟩:=gS x6;by_cases hlo:(x:Int)<(qC p f.YS).length
  .skip
   have fx:=qQ hT hF hat hatE hlt hf hn hcl hgl hc2 c4 c5<|qQ c7 x1 x3l x4 x5 x6 x6l x6E hcd hcdl hcdE hcc<|hlo;have c1:=i1;have c2:=i2;refine pJ ?_;clear fx c1 c2;refine qE [] .nil qF ⟨?_,?_⟩
   .simp [Zv,hwy,hlo,c4,c7]
   .exact YW.fin (have h:=hO;YW.re h) (.inr rfl)
  .skip
   have fx:=qQ hT hF hat hatE hlt hf hn hcl hgl hc2 c4 c5<|qQ c7 x1 x3l x4 x5 x6 x6l x6E hcd hcdl hcdE hcc<|hlo;have c1:=i1;have c2:=i2;refine pJ ?_;clear fx c1 c2;refine qE [] .nil qF ⟨?_,?_⟩
   .simp [Zv,hwy,hlo,c4,c7]
   .exact YW.fin (have h:=hO;YW.re h) (.inr rfl)
 rw [if_neg c7,if_neg c7] at x1;have c8:8<=c:=qA;by_cases c10:c<=10
 .rw [if_pos c10,a6] at x1;have h8:m.globals.length=8:=hg8;have x4:(x:Int)<8:=qA;have fx:=qQ hT hF hat hatE hlt hf hn hcl hgl hc2 c4 c7<|yl c8 c10 x1 x4<|h8;have c1:=i1;have c2:=i2;have c3:=i3;refine pJ ?_;clear fx c1 c2 c3;refine qE [] .nil qF ⟨?_,?_⟩
  .simp [Zv,slI,dW,c4,c7,c10]
  .exact YW.fin (have h:=hO;YW.re h) (.inr rfl)
 .rw [if_neg c10,a6] at x1;have h8:f.names.length=8:=hn8;have x4:(x:Int)<8:=qA;have fx:=qQ hT hF hat hatE hlt hf hn hcl hgl hc2 c4 c7<|yl c8 c10 x1 x4<|h8;have c1:=i1;have c2:=i2;have c3:=i3;refine pJ ?_;clear fx c1 c2 c3;refine qE [] .nil qF ⟨?_,?_⟩
  .simp [Zv,slI,dW,c4,c7,c10]
  .exact YW.fin (have h:=hO;YW.re h) (.inr rfl)
abbrev Wp:Y8:=.q 0<|.q 1<|.q 2<|.q 3<|.q 4<|.q 5<|.q 6<|.q 7<|.q 8<|.q 9<|.q 10<|.q 11<|.q 12<|.q 13<|.q 14<|.q 15<|.q 16<|.q 17<|.q 18<|.q 19<|.done
abbrev Wo:Y8:=aB<|.l 9 []<|.done
abbrev Wn:Y8:=kP<|.l 6 [4,3,2,1,0]<|.l 7 [0]<|.q 8<|.q 9<|.l 10 []<|.done
theorem ur {A G G2:Prop} (k:G2) (x:A) (h:A->Yr G2->G:=by
 intro fx kk;refine qI ?_
 repeat ((first|refine Y7 (id:=4) Wp mixed ?_|refine Y7 (id:=5) Wo mixed ?_|refine Y7 (id:=10) Wn mixed ?_);refine qW ?_;refine qI ?_)
 exact kk.h):G:=h x ⟨k⟩
theorem EV (gl) (H:Nm->Option AO) (p:YU) (m:Y2) (fs:List YZ) (f:YZ) (o:Int×Int) (dp:Nat) (hp:f.YS<p.length) (hc:2<=o.1/\o.1<=13) (hx:qBl m f o) (hx8:8<=o.1->o.2<=7) (hg8:m.globals.length=8) (hn8:f.names.length=8) (hst:(o.1 - 2) % 3=1->1<=f.stack.length) (hsl:f.stack.length<=1000) (hO:YW H p (.u 2 0 0) (m.top fs f) dp) (h9:H (.u 9 0 0)=none) :
  Yc prog gl 150 ZK [.pt Xn 0,.ep (.u 2 0 0) 7 fs.length 0,.agg [iv o.1,iv o.2]] H (λ_ _ H'=>Nw H' p (.u 2 0 0) (if (o.1 - 2) % 3=0 then vw p m fs f o else if (o.1 - 2) % 3=1 then oT m fs f o else EF p m fs f o) dp) Yz:=by
 have hT:=hO.top;obtain⟨L,j,hL,hat,hlt,hF,hf,hn,hsk⟩:=hO.Z2 rfl;simp only [vg,Y2.top] at hT;have hsf:=I2 gl (p:=p) (m:=m) (fs:=fs) (f:=f) (o:=o) (dp:=dp);have hNk:SlN (Zv (.u 2 0 0) fs.length o):=Tz;have hslot:=λhp h=>YW.qCi (hp:=hp) (p:=p) (n:=.u 2 0 0) (m:=m) (fs:=fs) (f:=f) (dp:=dp) (o:=o) h;have hsetS:=λhp hp' f s h=>YW.Yy (hp:=hp) (hp':=hp') (p:=p) (n:=.u 2 0 0) (m:=m) (fs:=fs) (f:=f) (dp:=dp) (o:=o) (s:=s) h rfl;have hxl:=hx.lt;obtain⟨c,a⟩:=o;obtain⟨x,rfl⟩:∃ x:Nat,a=x:=⟨a.toNat,by have:=hx.arg;simp only at this;omega⟩;simp only at hc hst hx8;have hw2:IntKind.i64.wrap (c - 2)=c - 2:=Yi qA qA;have hrm:(c - 2).tmod 3=(c - 2) % 3:=Int.tmod_eq_emod_of_nonneg qA;have hwr:IntKind.i64.wrap ((c - 2) % 3)=(c - 2) % 3:=Yi qA qA;refine Yc.Yb func150 [] ntmps150 (λ_=>zi) λC w g root hroot=>?_;refine ur ?_<|aI hT<|hF;intro K hK;have fx:=aI hT hF;refine vS zB cE (hF:=hsf _ hp hc hx hg8 hn8 (have h:=hO;YW.re h)) (h:=?_);rintro y H1 ⟨rfl,hO1⟩;clear fx;generalize hNd:Zv (.u 2 0 0) fs.length (c,(x:Int))=N at *;generalize hyd:slI f (c,(x:Int))=q at *;generalize hld:slL m f (c,(x:Int))=l at *;have hT1:=hO1.top;refine ur ?_<|yl hT hT1 hF hw2<|hrm
 refine uk (λs=>s.tm 0=.pt Xn 0/\s.tm 1=.ep (.u 2 0 0) 7 fs.length 0/\s.tm 5=.pt (.s 5) 0/\s.hp (.s 5)=some (.row 2 [[iv c,iv x]])/\s.tm 6=.ep N 3 q 0/\s.tm 7=iv (dW p f (c,(x:Int)))/\s.tm 19=iv ((c - 2) % 3)/\s.tm 87=bv ((c - 2) % 3==1)/\YW s.hp p (.u 2 0 0) (m.top fs f) dp) ⟨zB,cE,qB,qB,qB,qB,qB,qB,(have h:=hO1;YW.re h)⟩ ?_;clear hT hT1 hF hf hn hsk hat hlt hL hO hO1;rintro s ⟨t0,t1,t5,p5,t6,t7,t19,t87,hO⟩;have hT:=hO.top;obtain⟨L,j,hL,hat,hlt,hF,hf,hn,hsk⟩:=hO.Z2 rfl;simp only [vg,Y2.top] at hT;have hsl0:=hslot _ hO;obtain⟨_,hatE⟩:=gS hat;by_cases r1:(c - 2) % 3=1
 .have hne:(c - 2) % 3≠0:=qA;rw [if_neg hne,if_pos r1];obtain⟨k,hk⟩:∃ k,f.stack.length=k+1:=⟨f.stack.length - 1,by have:=hst r1;omega⟩;have hX0:s.hp Xn≠none:=rT;have hU0:s.hp (.u 2 0 0)≠none:=by rw [hF];simp
  refine ur ?_<|er t0 t1 t5 p5 t6 t7 t19 t87<|r1;intro K hK;obtain⟨rows,rows',a0,a1,a2,a3,a4,a5,vs,e1,e2,e3,e4,e5,e6⟩:=hO.qAQ hk hNk.u2 (hNk.st _);have fx:=aI t1 hNk.u2;refine Gd ZK N (.u 9 0 0) (.u 2 0 0) (.row 7 (qY rows fs.length 6 [.hs (.c (.u 2 0 0) fs.length 6) 2 0 k])) (Y6.av f.Yw) (hV:=rfl) (hN:=hNk.ZN) (hVe:=rW) (λ_=>zi) hNk.u9 hNk.D (λ_=>VX) (by simp [hsl0]) (λk i j _=>Nn hX0 hU0 k i j) qB hNk.u2 qB (hF:=NA) (h:=?_);intro hp' hS;clear fx;have hOp:=(hO.Z9 e1 hk).same (.inr rfl) hS;have hsl1:hp' N=some (.row 3 (qU l)):=by rw [<- hNd,<- hld];exact YW.qCi (f:=f.pop) hOp
  have n1:=hNk.u2;have n2:=hNk.x;have n3:=hNk.u9;obtain⟨nb,n4,n5⟩:=hNk.b;have n6:=hNk.s;have hpop:oT m fs f (c,(x:Int))=Hm.Yy m fs f.pop (c,(x:Int)) (some f.Yw):=rfl;rw [hpop];generalize hv:f.Yw=v;obtain⟨v1,v2⟩:=v;refine ur ?_<|jP t0 t1 t6 hsl1 n1 n2 n3 n4 n5 n6<|hxl;refine jS [] .nil qF (YW.qAY (YW.fin (YW.Yy (f:=f.pop) hOp rfl λk hk=>?_) (.inr rfl)));rw [show slL m f.pop (c,(x:Int))=l from hld,show slI f.pop (c,(x:Int))=q from hyd,hNd];simp only [IE,Jh] at hk;simp [hk,hv]
 obtain⟨s0,hs0⟩:=gX hxl;obtain⟨_,hsE⟩:=gS hs0;have hgs:gq m f (c,(x:Int))=s0:=by rw [Si,hyd,hld];simp [ju,hs0]
 obtain⟨nb,n4,n5⟩:=hNk.b;have n1:=hNk.u2;have n2:=hNk.x;have n3:=hNk.u9;have n6:=hNk.s;have nX:¬ Xn=N:=λe=>by rw [<- e] at n2;simp at n2
 have nU:¬ .u 2 0 0=N:=λe=>by rw [<- e] at n1;simp at n1
 have nY:¬ N=Xn:=λe=>nX e.symm;by_cases r2:(c - 2) % 3=2
 .have hne:(c - 2) % 3≠0:=qA;rw [if_neg hne,if_neg r1]
  cases s0 with
  | some u =>
   have hd:EF p m fs f (c,(x:Int))=Hm.Yy m fs f (c,(x:Int)) none:=by simp only [EF,hgs]
   rw [hd];obtain⟨u1,u2⟩:=u;refine ur ?_<|qQ t0 t1 t5 p5 t6 t7 t19 t87 r1 r2 hsl0 hxl<|j4 hs0 hsE nX<|nU;refine jS [] .nil qF (YW.qAY (YW.fin (YW.Yy (f:=f) hO rfl λk hk=>?_) (.inr rfl)));rw [hld,hyd,hNd];simp
  | none =>
   have hd:EF p m fs f (c,(x:Int))=m.stop fs f (dW p f (c,(x:Int))):=by simp only [EF,hgs]
   rw [hd]
   have hln:l.set q none=l:=by
    apply aW;intro i;rw [bT];by_cases e:q=i
    .subst e;simp [hxl,hsE]
    .simp [e]
   refine ur ?_<|qQ t0 t1 t5 p5 t6 t7 t19 t87 r1 r2 hsl0 hxl<|kH hs0 hsE nX nU nY<|hT;refine jS [] .nil qF (YW.qAY (YW.fin (YW.qCN hO rfl λk hk=>?_) (.inr rfl)));by_cases e:k=N
   .subst e;simp [nX,nY,hsl0,hln]
   .simp [e,hT,vg,Y2.top]
 .have r0:(c - 2) % 3=0:=qA;rw [if_pos r0];have hsl':f.stack.length<=1000:=hsl
  cases s0 with
  | some u =>
   have hd:vw p m fs f (c,(x:Int))=m.top fs (f.push u):=by simp only [vw,hgs]
   rw [hd];obtain⟨u1,u2⟩:=u;refine ur ?_<|qQ t0 t1 t5 p5 t6 t7 t19 t87 r0 r1 r2 hsl0<|qQ hxl hs0 hsE nX nU nY n6 hF hat hatE hlt hsk<|hsl;refine jS [] .nil qF (YW.qAY (YW.fin (have h:=hO;YW.reT h rfl hL rfl dL dF dK ⟨[],dJ⟩ (h0:=ar)) (.inr rfl)))
  | none =>
   by_cases c8:8<=c
   .have hwy:dW p f (c,(x:Int))=4:=by simp only [dW];rw [if_neg qA,if_neg qA]
    have hxg:x<m.globals.length:=by have:=hx8 c8;omega
    have hx8i:(x:Int)<8:=qA;obtain⟨g0,hg0⟩:=gX hxg;obtain⟨_,hgE⟩:=gS hg0;have hGl:=hO.Yd;simp only [EO] at hGl;have hsg:ju m.globals x=g0:=by simp [ju,hg0]
    cases g0 with
    | some u =>
     have hd:vw p m fs f (c,(x:Int))=m.top fs (f.push u):=by simp only [vw,hgs,hwy,if_true,a6,hsg]
     rw [hd];rw [hwy] at t7;obtain⟨u1,u2⟩:=u;refine ur ?_<|qQ t0 t1 t5 p5 t6 t7 t19 t87 r0 r1 r2 hsl0<|qQ hxl hs0 hsE nX nU nY n6 hF hat hatE hlt hsk<|ko hsl hT hGl hg0 hgE hxg hx8i<|hg8;refine jS [] .nil qF (YW.qAY (YW.fin (have h:=hO;YW.reT h rfl hL rfl dL dF dK ⟨[],dJ⟩ (h0:=ar)) (.inr rfl)))
    | none =>
     rw [hwy] at t7;by_cases h7:x=7
     .subst h7
      have hd:vw p m fs f (c,((7:Nat):Int))=m.top fs (f.push (1,70)):=by
       simp only [vw,hgs,hwy,if_true,a6,hsg]
       rfl
      rw [hd];refine ur ?_<|qQ t0 t1 t5 p5 t6 t7 t19 t87 r0 r1 r2 hsl0<|qQ hxl hs0 hsE nX nU nY n6 hF hat hatE hlt hsk<|ko hsl hT hGl hg0 hgE hxg hx8i<|hg8;refine jS [] .nil qF (YW.qAY (YW.fin (have h:=hO;YW.reT h rfl hL rfl dL dF dK ⟨[],dJ⟩ (h0:=ar)) (.inr rfl)))
     .have h7i:¬ (x:Int)=7:=qA;have h7b:((x:Int)==7)=false:=by simpa using h7i
      have hd:vw p m fs f (c,(x:Int))=m.stop fs f 4:=by
       simp only [vw,hgs,hwy,if_true,a6,hsg];rw [if_neg h7i]
      rw [hd];refine ur ?_<|qQ t0 t1 t5 p5 t6 t7 t19 t87 r0 r1 r2 hsl0<|qQ hxl hs0 hsE nX nU nY n6 hF hat hatE hlt hsk<|er hsl hT hGl hg0 hgE hxg hx8i hg8<|h7b;refine jS [] .nil qF ⟨fs++[f.push (0,0)],⟨λe=>absurd e qB,Aw⟩,YW.fin (have h:=hO;YW.reT h rfl hL rfl dL dF dK ⟨[],dJ⟩ (h0:=ar)) (.inr rfl)⟩
   .have hw4:dW p f (c,(x:Int))=2\/dW p f (c,(x:Int))=3:=by
     simp only [dW];by_cases c4:c<=4
     .rw [if_pos c4];exact .inl rfl
     .rw [if_neg c4,if_pos qA];by_cases e:(x:Int)<(qC p f.YS).length
      .rw [if_pos e];exact .inl rfl
      .rw [if_neg e];exact .inr rfl
    have hwn:dW p f (c,(x:Int))≠4:=qA
    have hd:vw p m fs f (c,(x:Int))=m.stop fs f (dW p f (c,(x:Int))):=by
     simp only [vw,hgs];rw [if_neg hwn]
    rw [hd];clear hd hsf;generalize dW p f (c,(x:Int))=w at hw4 t7 hwn ⊢;have hwb:(w==4)=false:=by simpa using hwn
    refine ur ?_<|qQ t0 t1 t5 p5 t6 t7 t19 t87 r0 r1 r2 hsl0<|qQ hxl hs0 hsE nX nU nY n6 hF hat hatE hlt hsk<|jD hsl hT<|hwb;refine jS [] .nil qF ⟨fs++[f.push (0,0)],⟨λe=>absurd e qv,Aw⟩,YW.fin (have h:=hO;YW.reT h rfl hL rfl dL dF dK ⟨[],dJ⟩ (h0:=ar)) (.inr rfl)⟩
abbrev Wm:Y8:=bK<|.l 14 []<|.done
abbrev Wl:Y8:=yq<|.l 11 []<|.done
abbrev Wk:Y8:=kP<|.l 6 [4,3,2,1,0]<|.l 7 [0]<|.q 8<|.q 9<|.l 10 []<|.done
abbrev Wj:Y8:=vH<|.done
abbrev Wi:Y8:=aB<|.l 9 [4,3,2,1,0]<|.l 10 [4,3,2,1,0]<|.l 11 [0]<|.q 12<|.q 13<|.l 14 []<|.done
theorem AX {A G G2:Prop} (k:G2) (x:A) (h:A->Yr G2->G:=by
 intro fx kk;refine qI ?_
 repeat ((first|refine Y7 (id:=1) Wm mixed ?_|refine Y7 (id:=3) Wl mixed ?_|refine Y7 (id:=4) Wk mixed ?_);refine qW ?_;refine qI ?_)
 exact kk.h):G:=h x ⟨k⟩
theorem AQ (gl) (H:Nm->Option AO) (p:YU) (m:Y2) (fs:List YZ) (f:YZ) (v:Y6) (dp:Nat) (hm:m.YO=fs++[f]) (hfl:fs.length<=1000) (hsl:∀ g∈fs,g.stack.length<=1000) (hO:YW H p (.u 2 0 0) m dp) :
  Yc prog gl 152 ZK [.pt Xn 0,Y6.av v] H (λ_ _ H'=>YW H' p (.u 2 0 0) (zd m fs v) dp) Yz:=by
 have hT:=hO.top;obtain⟨L,j,hL,hat,hlt,hF,hf,hn,hsk⟩:=hO.Z2 hm;simp only [vg,hm,wk,bS] at hT;obtain⟨v1,v2⟩:=v;have hw1:IntKind.i64.wrap (fs.length:Int)=fs.length:=Yi qA qA;have hl1:(fs.length:Int)<=(fs.length:Int)+1:=qA;have hl0:(0:Int)<=(fs.length:Int):=qA;refine Yc.Yb func152 [] ntmps152 (λ_=>zi) λC w g root hroot=>?_;refine AX ?_<|kH hT hF hw1 hl1 hl0<|hlt;refine uk (λs=>s.tm 0=.pt Xn 0/\s.tm 3=.pt (.s 3) 0/\s.hp (.s 3)=some (.row 2 [[iv v1,iv v2]])/\s.tm 24=bv (decide (0<(fs.length:Int)))/\YW s.hp p (.u 2 0 0) { m with YO:=fs } dp) ⟨zB,qB,qB,qB,?_⟩ ?_
 .refine YW.Yq (f:=kl (.s 3)) (hO.cut (hp':=λk=>if k=Xn then some (.row 13 [vg p (.u 2 0 0) { m with YO:=fs } dp]) else H k) hm qB (λq h _=>bA) rfl) (.inr rfl) (λq hq=>?_) (λq hq=>?_)
  .have:=(Zq (λ_=>zi) hq 3).2;simp [this]
  .have hq2:=(Zq (λ_=>zi) hq 3).1;have hq3:=(Zq (λ_=>zi) hq 3).2;by_cases e:q=Xn
   .subst e;simp [vg,AO.tr]
   .simp [hq2,hq3,e]
 clear hT hF hf hn hsk hat hlt hL hO;rintro s ⟨t0,t3,p3,t24,hO⟩;have hT:=hO.top;simp only [vg] at hT
 cases hgl:fs.getLast? with
 | none =>
  have hfs:fs=[]:=List.getLast?_eq_none_iff.1 hgl;have hle:zd m fs (v1,v2)={ m with YO:=[] }:=by simp only [zd,hgl]
  subst hfs;rw [hle];refine AX ?_<|yl t0 t3 p3 t24<|hT;refine jS [] .nil qF (YW.fin (have h:=hO;YW.re h) (.inr rfl))
 | some g =>
  obtain⟨gs,rfl⟩:∃ gs,fs=gs++[g]:=by
   obtain⟨ys,hy⟩:=List.getLast?_eq_some_iff.1 hgl;exact⟨ys,hy⟩
  have hle:zd m (gs++[g]) (v1,v2)={ m with YO:=gs++[g.push (v1,v2)] }:=by simp only [zd,hgl];simp
  rw [hle];have hsl:=hsl g qB;obtain⟨L,j,hL,hat,hlt,hF,hf,hn,hsk⟩:=YW.Z2 hO rfl;obtain⟨_,hatE⟩:=gS hat;simp only [wk,bS] at hfl hT t24;have hw2:IntKind.i64.wrap (gs.length:Int)=gs.length:=Yi qA qA;have hl1:(gs.length:Int)<(gs.length:Int)+1:=qA;have hl0:(0:Int)<=(gs.length:Int):=qA;refine AX ?_<|qQ t0 t3 p3 t24 hT hF hw2 hl1 hl0 hlt hat hatE<|jD hsk hsl<|hfl;refine jS [] .nil qF (YW.fin (have h:=hO;YW.reT h rfl hL rfl dL dF dK ⟨[],dJ⟩ (h0:=ar)) (.inr rfl))
theorem lC {A G G2:Prop} (k:G2) (x:A) (h:A->Yr G2->G:=by
 intro fx kk;refine qI ?_
 repeat ((first|refine Y7 (id:=0) Wj mixed ?_|refine Y7 (id:=1) Wi mixed ?_);refine qW ?_;refine qI ?_)
 exact kk.h):G:=h x ⟨k⟩
theorem FF (gl) (H:Nm->Option AO) (p:YU) (m:Y2) (fs:List YZ) (f:YZ) (dp:Nat) (hp:f.YS<p.length) (hm:m.YO=fs++[f]) (hfl:fs.length<=1000) (hsl:∀ g∈fs,g.stack.length<=1000) (hn8:f.names.length=8) (hcl:m.YP.length<=1000) (hO:YW H p (.u 2 0 0) m dp) :
  Yc prog gl 149 ZK [.pt Xn 0,.ep (.u 2 0 0) 7 fs.length 0] H (λ_ _ H'=>YW H' p (.u 2 0 0) (D5 p m fs f) dp) Yz:=by
 have hT:=hO.top;obtain⟨L,j,hL,hat,hlt,hF,hf,hn,hsk⟩:=hO.Z2 hm;obtain⟨_,hatE⟩:=gS hat;simp only [vg,hm,wk,bS] at hT;obtain⟨k,hk⟩:=gX hp;have hcd:(qg p p.length)[f.YS]?=some (qd p f.YS):=rj;obtain⟨hcdl,hcdE⟩:=gS hcd;have hck:(qd p f.YS).kind=qV p f.YS:=by simp [qd,hk,qV]
 have hcp:=D6 gl f.names hn8;have hC:=hO.Yt;have hap:yV m.YP++[[.sl 3 (qU f.names)]]=yV (m.YP++[f.names]):=FK;have hwc:IntKind.i64.wrap (m.YP.length:Int)=m.YP.length:=Yi qA qA;refine Yc.Yb func149 [] ntmps149 (λ_=>zi) λC w g root hroot=>?_;by_cases hk2:qV p f.YS=2
 .have he:D5 p m fs f=zd { m with YP:=m.YP++[f.names] } fs (3,m.YP.length):=by rw [D5,if_pos hk2]
  rw [he];rw [hk2] at hck;refine lC ?_<|qQ hT hF hat hatE hlt hn hcd hcdl hcdE hck hC hcl<|aI hn8<|hwc;intro K hK;have fx:=aI hT (aI hF (aI hat (aI hatE (aI hlt (aI hn (aI hC (aI hcl hn8)))))));refine oJ (λK' h'=>zw (hF:=hcp) (h:=h')) (by simp [hn8]) IX ?_;clear fx;refine lC ?_<|qQ hT hF hat hatE hlt hn hcd hcdl hcdE hck hC hcl<|aI hn8<|hwc;intro K hK;have fx:=aI hT hF;refine vS qB cE (hF:=AQ _ _ p { m with YP:=m.YP++[f.names] } fs f (3,m.YP.length) dp hm hfl hsl (have h:=hO;YW.re h (h0:=by simp [vg,hm]) (h5:=by simp [hap]))) (h:=?_);rintro y H1 hO1;clear fx;have hT1:=hO1.top;refine lC ?_<| hT1;refine qE [] .nil qF (YW.fin (have h:=hO1;YW.re h) (.inr rfl))
 .have he:D5 p m fs f=zd m fs (0,0):=by rw [D5,if_neg hk2]
  rw [he];have hkb:(qV p f.YS==2)=false:=by simpa using hk2
  refine lC ?_<|jP hT hF hat hatE hlt hn hcd hcdl hcdE hck<|hkb;intro K hK;have fx:=aI hT hF;refine vS zB cE (hF:=AQ _ _ p m fs f (0,0) dp hm hfl hsl (have h:=hO;YW.re h)) (h:=?_);rintro y H1 hO1;clear fx;have hT1:=hO1.top;refine lC ?_<|aI hT<|hT1;refine jS [] .nil qF (YW.fin (have h:=hO1;YW.re h) (.inr rfl))
abbrev Rq:Y8:=CN<|.l3 4 [0] (.l2 5 [0] (.q 6<|.l 7 [6,0]<|.l 8 []<|.done) 7 [0] (.l 5 [0]<|.q 6<|.l 8 []<|.done)) 5 [3,2,1,0] (.l2 4 [0] (.q 6<|.l 7 [6,0]<|.l 8 []<|.done) 7 [3,2,1,0] (.l 4 [0]<|.q 6<|.l 8 []<|.done)) 7 [3,2,1,0] (.l2 4 [0] (.l 5 [0]<|.q 6<|.l 8 []<|.done) 5 [3,2,1,0] (.l 4 [0]<|.q 6<|.l 8 []<|.done))
abbrev Rp:Y8:=kr<|.l 8 [3,2,1,0]<|.l 9 [3,2]<|.q 10<|.l 11 []<|.done
theorem Ch (gl) (H:Nm->Option AO) (p:YU) (m:Y2) (b:Nat) (cs:List Nat) (dp:Nat) (hb:b<p.length) (hcl:m.cells.length<=2000) (hcs:cs.length<=8) (hmd:m.made<=1000) (hO:YW H p (.u 2 0 0) m dp) :
  Yc prog gl 99 ZK [.pt Xn 0,iv b,ZD (zu cs)] H (λr y H'=>y=.agg [iv b,iv 0,iv (-1),.hs (.c r 0 3) 3 0 (qG p b).length,.hs (.c r 0 4) 1 0 ((qC p b).length+cs.length),.hs (.c r 0 5) 3 0 8,.hs (.c r 0 6) 2 0 0]/\H' (.c r 0 3)=some (.row 3 (qU (List.replicate (qG p b).length none)))/\H' (.c r 0 4)=some (.row 1 (qS (zu (((List.range (qC p b).length).map (m.cells.length+·))++cs))))/\H' (.c r 0 5)=some (.row 3 (qU qc))/\H' (.c r 0 6)=some (.row 2 [])/\YW H' p (.u 2 0 0) { m with cells:=m.cells++List.replicate (qC p b).length none,made:=m.made+1 } dp/\∀ q,Nm.under r q=true->ZK q=false) Yz:=by
 have hT:=hO.top;simp only [vg] at hT;obtain⟨kk,hk⟩:=gX hb;have hcd:(qg p p.length)[b]?=some (qd p b):=Ak;obtain⟨hcdl,hcdE⟩:=gS hcd;have hcf:(qd p b).YV=qG p b:=kR;have hcc:(qd p b).cells=qC p b:=kR;have hf8:=vF (p:=p) (b:=b);have hc8:=zn (p:=p) (b:=b);refine Yc.Yb func99 [.cell 6 108] ntmps99 (λ_=>zi) λC w g root hroot=>?_;have hr0:=hroot root (Nm.Y0 _);simp only [IE,Bool.or_eq_false_iff] at hr0;obtain⟨hr1,hr2⟩:=hr0;have hrp:List.replicate (qG p b).length [bv false,iv 0,iv 0]=qU (List.replicate (qG p b).length none):=ck
 refine Sa (λs=>s.tm 0=.pt Xn 0/\s.tm 1=iv b/\s.tm 2=ZD (zu cs)/\s.tm 6=.pt (.s 6) 0/\s.tm 7=.pt (.s 7) 0/\s.hp (.s 7)=some (.row 6 [(qd p b).row])/\s.tm 8=.pt (.s 8) 0/\s.hp (.s 8)=some (.row 7 [[iv b,iv 0,iv (-1),.hs (.c (.s 8) 0 3) 3 0 (qG p b).length,.hs (.c (.s 8) 0 4) 1 0 0,.hs (.c (.s 8) 0 5) 3 0 8,.hs (.c (.s 8) 0 6) 2 0 0]])/\s.hp (.c (.s 8) 0 3)=some (.row 3 (qU (List.replicate (qG p b).length none)))/\s.hp (.c (.s 8) 0 4)=some (.row 1 [])/\s.hp (.c (.s 8) 0 5)=some (.row 3 (qU qc))/\s.hp (.c (.s 8) 0 6)=some (.row 2 [])/\s.tm 9=iv 0/\(∃ r,s.hp (.s 6)=some (.row 7 [r])/\r.length=7)/\YW s.hp p (.u 2 0 0) m dp) ?_ (by
  intro kk
  all_goals have fx:=ko hT hcd hcdl hcdE hcf hcc hf8<|hc8
  repeat' (first
   | refine uZ ?_|refine ja ?_|refine yH ?_|refine kJ λK hK=>?_
   | ((with_reducible refine vX hK ?_);clear hK K)
   | (with_reducible first|refine q9 ?_|refine jC ?_|refine jB ?_|refine vI ?_|refine za ?_|refine vk ?_|refine w5 ?_|refine jo qL ?_)
   | refine kN ?_
   | refine kV ?_
   | (with_reducible first|refine jg ?_|refine zO (h:=?_)|refine vu (h:=?_)|refine yM (h:=?_)|refine jA (T:=32) (h:=?_)|refine jm (T:=32) (h:=?_)|refine jA (T:=70) (h:=?_)|refine jm (T:=70) (h:=?_)|refine uY (h:=?_)|refine iW (h:=?_)|refine vG (h:=?_))
   | ((with_reducible refine nI 97 rfl ?_);refine jX (hF:=lQ gl) (h:=?_))
   | (with_reducible refine x_q (h:=?_))
   | refine j8 (h1:=?_)|refine jr (h1:=?_)
   | (refine Y7 (id:=2) Rq mixed λK hK=>?_)
   | (refine Y7 (id:=7) Rp mixed λK hK=>?_)
   | ((with_reducible refine wI hK ?_);clear hK K)
   | ((with_reducible refine em ?_);first|refine su (h:=?_)|refine gL (h:=?_)|refine gN (h:=?_)|refine gK (h:=?_))
   | ((with_reducible refine em ?_);refine gO (h1:=λht=>?_) (h2:=λht=>?_))
   | refine a_l rfl ?_|refine G3 ?_ ?_|refine G1 ?_ ?_ ?_|(with_reducible refine aI ?_ ?_)|exact vi|refine cM (h2:=?_)
   | fail)
  all_goals try clear fx
  all_goals exact kk.h _ ⟨zB,qB,qB,qB,qB,by simp [hcf,hcc],qB,qB,by simp [hrp],qB,qB,qB,qB,⟨_,qF,qB⟩,(have h:=hO;YW.re h)⟩)
 clear hT;rintro s ⟨t0,t1,t2,t6,t7,p7,t8,p8,p83,p84,p85,p86,t9,⟨r6,p6,h6⟩,hO1⟩;refine qR (λn st=>∃ i:Nat,n=(qC p b).length - i/\i<=(qC p b).length/\st.tm 0=.pt Xn 0/\st.tm 1=iv b/\st.tm 2=ZD (zu cs)/\st.tm 6=.pt (.s 6) 0/\st.tm 7=.pt (.s 7) 0/\st.hp (.s 7)=some (.row 6 [(qd p b).row])/\st.tm 8=.pt (.s 8) 0/\st.hp (.s 8)=some (.row 7 [[iv b,iv 0,iv (-1),.hs (.c (.s 8) 0 3) 3 0 (qG p b).length,.hs (.c (.s 8) 0 4) 1 0 i,.hs (.c (.s 8) 0 5) 3 0 8,.hs (.c (.s 8) 0 6) 2 0 0]])/\st.hp (.c (.s 8) 0 3)=some (.row 3 (qU (List.replicate (qG p b).length none)))/\st.hp (.c (.s 8) 0 4)=some (.row 1 (qS (zu ((List.range i).map (m.cells.length+·)))))/\st.hp (.c (.s 8) 0 5)=some (.row 3 (qU qc))/\st.hp (.c (.s 8) 0 6)=some (.row 2 [])/\st.tm 9=iv i/\(∃ r,st.hp (.s 6)=some (.row 7 [r])/\r.length=7)/\YW st.hp p (.u 2 0 0) { m with cells:=m.cells++List.replicate i none } dp) (qC p b).length ?_ ?_
 .exact⟨0,qA,qA,t0,t1,t2,t6,t7,p7,t8,p8,p83,by simp [p84,zu],p85,p86,t9,⟨r6,p6,h6⟩,by simpa using hO1⟩
 clear t0 t1 t2 t6 t7 p7 t8 p8 p83 p84 p85 p86 t9 hO1 p6;rintro n st - - ⟨i,rfl,hi,t0,t1,t2,t6,t7,p7,t8,p8,p83,p84,p85,p86,t9,⟨r6,p6,h6⟩,hO1⟩;have hT:=hO1.top;have hC:=hO1.cells;simp only [vg,wk,List.length_replicate] at hT;simp only at hC;have hcl2:m.cells.length+i<=3000:=qA;have hil8:i<=8:=qA;by_cases hil:i<(qC p b).length
 .have hwl:IntKind.i64.wrap ((m.cells.length:Int)+i)=(m.cells.length:Int)+i:=Yi qA qA
  have hap:qU (m.cells++List.replicate i none)++[[bv false,iv 0,iv 0]]=qU (m.cells++List.replicate (i+1) none):=by
   rw [List.replicate_succ'];simp [qU]
  have hap2:qS (zu ((List.range i).map (m.cells.length+·)))++[[iv ((m.cells.length:Int)+i)]]=qS (zu ((List.range (i+1)).map (m.cells.length+·))):=by
   rw [BU];simp [zu,qS]
  have hil1:(zu ((List.range i).map (m.cells.length+·))).length=i:=qB;have fx:=qQ t0 t1 t2 t6 t7 p7 t8 p8 p83 p84 p85 p86<|gJ t9 p6 hT hC hcl2 hil8 hil hwl hil1<|hcc;refine qI ?_
  repeat ((first|refine Y7 (id:=2) Rq mixed ?_|refine Y7 (id:=7) Rp mixed ?_);refine qW ?_;refine qI ?_)
  clear fx;have htk2:(m.cells++List.replicate i none).take (m.cells.length+i)=m.cells++List.replicate i none:=bC qB;have htk:(zu ((List.range i).map (m.cells.length+·))).take i=zu ((List.range i).map (m.cells.length+·)):=bC qB;refine⟨(qC p b).length - (i+1),qA,i+1,rfl,qA,vr,ap,uQ,aT,by simp [t7],by simp [p7],gG,qB,by simp [p83],?_,by simp [p85],by simp [p86],q8,⟨_,by simp [p6];rfl,by simpa using h6⟩,(have h:=hO1;YW.re h (h0:=by simp [vg];omega) (h2:=by simp [<- hap];rw [htk2]))⟩;simp [<- hap2,htk]
 .obtain rfl:i=(qC p b).length:=qA;have hil1:(zu ((List.range (qC p b).length).map (m.cells.length+·))).length=(qC p b).length:=qB;have hwm:IntKind.i64.wrap ((m.made:Int)+1)=(m.made:Int)+1:=Yi qA qA;have hd6:r6.drop 7=[]:=List.drop_eq_nil_of_le qA;have htk:(zu ((List.range (qC p b).length).map (m.cells.length+·))).take (qC p b).length=zu ((List.range (qC p b).length).map (m.cells.length+·)):=bC qB;have fx:=qQ t0 t1 t2 t6 t7 p7 t8 p8 p83 p84 p85 p86<|gJ t9 p6 hd6 hT hC hil8 hcc hil1 hcs<|hwm;refine qI ?_
  repeat ((first|refine Y7 (id:=2) Rq mixed ?_|refine Y7 (id:=7) Rp mixed ?_);refine qW ?_;refine qI ?_)
  clear fx;refine qE [(.s 8,root)] (.one rfl) (by simp [t6,hd6];rfl) ⟨qB,by simp [p83,hr1,hr2],?_,by simp [p85,hr1,hr2],by simp [p86,hr1,hr2],YW.fin (have h:=hO1;YW.re h) (.inr rfl),hroot⟩;have hna:∀ a b:List Nat,zu (a++b)=zu a++zu b:=λa b=>by simp [zu]
  rw [hna];simp [hr1,hr2,htk]
theorem ge (gl) (H:Nm->Option AO) (p:YU) (m:Y2) (b:Nat) (cs:List Nat) (dp:Nat) (hb:b<p.length) (hcl:m.cells.length<=2000) (hcs:cs.length<=8) (hmd:m.made<=1000) (hO:YW H p (.u 2 0 0) m dp) :
  Yc prog gl 99 ZK [.pt Xn 0,iv b,ZD (zu cs)] H (λr y H'=>y=.agg [iv b,iv 0,iv (-1),.hs (.c r 0 3) 3 0 (qG p b).length,ZD (zu (((List.range (qC p b).length).map (m.cells.length+·))++cs)),.hs (.c r 0 5) 3 0 8,.hs (.c r 0 6) 2 0 0]/\H' (.c r 0 3)=some (.row 3 (qU (List.replicate (qG p b).length none)))/\H' (.c r 0 5)=some (.row 3 (qU qc))/\H' (.c r 0 6)=some (.row 2 [])/\YW H' p (.u 2 0 0) { m with cells:=m.cells++List.replicate (qC p b).length none,made:=m.made+1 } dp) Yz:=by
 refine (Ch gl H p m b cs dp hb hcl hcs hmd hO).settle (λr n=>Nm.under (.c r 0 4) n) ?_;rintro r y H' ⟨rfl,h3,h4,h5,h6,hO',hr⟩
 have hne:∀ q,ZK q=true->Nm.under (.c r 0 4) q=false:=by
  intro q hq
  cases h:Nm.under (.c r 0 4) q with
  | false=>rfl
  | true =>
   have:=hr q (Nm.ZA (a:=r) qB h);rw [this] at hq
   cases hq
 have hu:∀ j,j≠4->Nm.under (.c r 0 4) (.c r 0 j)=false:=by
  intro j hj
  have hx:Nm.under (.c r 0 4) r=false:=by
   cases h:Nm.under (.c r 0 4) r with
   | false=>rfl
   | true=>exact absurd rfl (Nm.ZB h).2
  simp [hx,hj]
 refine⟨.agg [iv b,iv 0,iv (-1),.hs (.c r 0 3) 3 0 (qG p b).length,ZD (zu (((List.range (qC p b).length).map (m.cells.length+·))++cs)),.hs (.c r 0 5) 3 0 8,.hs (.c r 0 6) 2 0 0],.agg _ _ rfl λj a a' ha ha'=>?_,rfl,?_,?_,?_,?_⟩
 .match j,ha,ha' with
  | 0,ha,ha'=>obtain rfl:=sI ha;obtain rfl:=sI ha';exact .refl _
  | 1,ha,ha'=>obtain rfl:=sI ha;obtain rfl:=sI ha';exact .refl _
  | 2,ha,ha'=>obtain rfl:=sI ha;obtain rfl:=sI ha';exact .refl _
  | 3,ha,ha'=>obtain rfl:=sI ha;obtain rfl:=sI ha';exact .refl _
  | 4,ha,ha' =>
   obtain rfl:=sI ha;obtain rfl:=sI ha';refine .hs (.c r 0 4) 1 0 _ _ _ qB h4 qB qB zU λi r1 r2 e1 e2 j a a' e3 e4=>?_;rw [sK,e2] at e1;obtain rfl:=sI e1;rw [e3] at e4;obtain rfl:=sI e4;exact .refl _
  | 5,ha,ha'=>obtain rfl:=sI ha;obtain rfl:=sI ha';exact .refl _
  | 6,ha,ha'=>obtain rfl:=sI ha;obtain rfl:=sI ha';exact .refl _
  | j+7,ha,_=>simp at ha
 .simp only [yF,hu 3 qL,cH,if_false,h3]
 .simp only [yF,hu 5 qL,cH,if_false,h5]
 .simp only [yF,hu 6 qL,cH,if_false,h6]
 .exact hO'.qB3 (.inr rfl) λq hq=>by simp only [yF,hne q hq,cH,if_false]
end Go.Proofs.YtdnebaieamppbaaGreatDoor
end
