import Derived.Test.YtdnebaieamppbaaGreatDoorE47
import Derived.Test.YtdnebaieamppbaaGreatDoorE19
set_option linter.unusedSimpArgs false
set_option linter.unusedVariables false
set_option maxRecDepth 100000
set_option maxHeartbeats 4000000

section
namespace Go.Proofs.YtdnebaieamppbaaGreatDoor
open Go Go.Hm Go.Proofs Tryz
abbrev TI:Zh:=FY<|.l 17 [12,11,10,9,8,7,6,5,2,1,0]<|.l 18 [12,11,10,9,8,7,6,5,2,1]<|.l 19 []<|.done
abbrev TH:Zh:=bI<|.l 7 []<|.l 8 []<|.done
abbrev Xs:Zh:=FZ<|.done
abbrev Vc:Zh:=nP<|.l 13 []<|.l 14 []<|.done
theorem lC (gl) (D:Nm->Bool) (hD:∀ k,D k=true->k.Zi=false) (H:Nm->Option AO) (rows:List (List AV)) (i k:Nat) (a0 a1 a2 a3 a4 a5:AV) (vs:List Zd) (v:Zd) (hr:H (.u 2 0 0)=some (.row 7 rows)) (hi:rows[i]?=some [a0,a1,a2,a3,a4,a5,.hs (.c (.u 2 0 0) i 6) 2 0 (k+1)]) (hs:H (.c (.u 2 0 0) i 6)=some (.row 2 (zn vs))) (hv:vs[k]?=some v) (hk:k<=1000) :
  Zj prog gl 153 D [.ep (.u 2 0 0) 7 i 0] H (AZ D (Zd.av v) (.u 2 0 0) (.row 7 (qk rows i 6 [.hs (.c (.u 2 0 0) i 6) 2 0 k])) H) noE:=by
 obtain⟨hil,hiE⟩:=gS hi;obtain⟨hvl,hvE⟩:=gS hv;obtain⟨v1,v2⟩:=v;have hw1:IntKind.i64.wrap (k:Int)=k:=Zv qA qA;have hl1:(k:Int)<(k:Int)+1:=qA;have hl2:(k:Int)<=(k:Int)+1:=qA;have hl0:(0:Int)<=(k:Int):=qA;refine Zj.Zl func153 [.cell 2 63] ntmps153 hD λC w g root hroot=>?_;have fx:=jJ hr hi hiE hil hs hv hvE hvl hw1 hl0<|aI hl1<|hl2;refine qG ?_
 repeat ((first|refine Ze (id:=1) (.q 0<|.q 1<|.q 2<|.q 3<|.q 4<|.q 5<|.q 6<|.q 7<|.q 8<|.q 9<|.q 10<|.q 11<|.l 12 [11,10,9,8,7,6,5,4,3,2,1,0]<|.l 13 []<|.done) mixed ?_|refine Ze (id:=2) (.q 0<|.q 1<|.q 2<|.q 3<|.q 4<|.q 5<|.q 6<|.q 7<|.q 8<|.q 9<|.q 10<|.q 11<|.q 12<|.q 13<|.l 14 []<|.done) mixed ?_);refine qZ ?_;refine qG ?_)
 clear fx;refine qD [] .nil qE ⟨qB,λq hq=>?_⟩;have hq2:=λd=>(D_s hD hq d).1;have hq3:=λd=>(D_s hD hq d).2;by_cases e:q=.u 2 0 0
 .subst e;simp only [lQ,hq,if_true];simp [AO.tr,cj,Ql hD,-List.map_map]
 .simp [lQ,hq,hq2,hq3,e,NW hD,-Option.map_map]
theorem EQ (gl) (p:Z0) (n1 n2 n3 n4 n5 n6 n7 n8 n9 n10 n11 n12 n13 i1:Nat) (e1 e2:Int) (l ps:List Int) (qs:List Nat) (b:Nat) (cs:List Cod) (hb0:0<b) (hb:b<p.length) (hps:ps=zt p b) (hp:ps.length<=8) (hq:∀ (i:Nat) y,ps[i]?=some y->∃ z:Nat,y=z/\∃ c,l[z]?=some c/\(qs[i]?).map (λ(x:Nat)=>(x:Int))=some c) (hqs:qs.length=ps.length) :
  qb prog gl 190 [.el [csl cs,.sl 1 (kA Qx p),.hs (.c Xn 0 2) 3 0 n1,.hs (.c Xn 0 3) 3 0 8,.hs (.c Xn 0 4) 2 0 n2,.hs (.c Xn 0 5) 1 0 n3,.hs (.u 2 0 0) 7 0 n4,iv n5,iv n6,.hs (.c Xn 0 9) 1 0 n7,.hs (.c Xn 0 10) 2 0 n8,iv e1,iv n9] 0,.el [iv n10,iv n11,iv e2,.hs (.c (.u 2 0 0) i1 3) 3 0 n12,isl l,.hs (.c (.u 2 0 0) i1 5) 3 0 8,.hs (.c (.u 2 0 0) i1 6) 2 0 n13] 0,iv b] (λr y H'=>y=.hs r 1 0 qs.length/\H' r=some (.row 1 (qT (jN qs)))):=by
 have hc:(kA Qx p)[b]?=some [isl ps]:=by rw [hps];exact GE hb0 hb
 obtain⟨hcl,hcE⟩:=gS hc;refine qb.Zl func190 [.tmp 6] ntmps190 λC w g root=>?_;have fx:=jI hc hcE<|hcl;refine qG ?_
 repeat ((first|refine Ze (id:=5) TI mixed ?_);refine qZ ?_;refine qG ?_)
 clear fx;refine qX (λn st=>∃ i:Nat,n=ps.length - i/\i<=ps.length/\st.tm 0=.el [csl cs,.sl 1 (kA Qx p),.hs (.c Xn 0 2) 3 0 n1,.hs (.c Xn 0 3) 3 0 8,.hs (.c Xn 0 4) 2 0 n2,.hs (.c Xn 0 5) 1 0 n3,.hs (.u 2 0 0) 7 0 n4,iv n5,iv n6,.hs (.c Xn 0 9) 1 0 n7,.hs (.c Xn 0 10) 2 0 n8,iv e1,iv n9] 0/\st.tm 1=.el [iv n10,iv n11,iv e2,.hs (.c (.u 2 0 0) i1 3) 3 0 n12,isl l,.hs (.c (.u 2 0 0) i1 5) 3 0 8,.hs (.c (.u 2 0 0) i1 6) 2 0 n13] 0/\st.tm 2=iv b/\st.tm 7=.hs (.s 7) 1 0 i/\st.hp (.s 7)=some (.row 1 (qT (jN (qs.take i))))/\st.tm 8=iv i) ps.length ?_ ?_
 .exact⟨0,qA,qA,qB,qB,qB,qB,by simp [jN],qB⟩
 rintro n st - - ⟨i,rfl,hi,t0,t1,t2,t7,h7,t8⟩;by_cases hil:i<ps.length
 .obtain⟨y,hy⟩:=gX hil;obtain⟨_,hyE⟩:=gS hy;obtain⟨z,rfl,c,hz,hqi⟩:=hq i y hy;obtain⟨hzl,hzE⟩:=gS hz;obtain⟨x,hx,rfl⟩:=ku.1 hqi;have htl:(jN (qs.take i)).length=i:=by simp [jN];omega
  have hi8:i<=8:=qA;have fx:=qU t0 t1 t2 t7 h7 t8 hc hcE hcl hil hy hyE<|yS hz hzE hzl htl<|hi8;refine qG ?_
  repeat ((first|refine Ze (id:=5) TI mixed ?_);refine qZ ?_;refine qG ?_)
  clear fx;refine⟨ps.length - (i+1),qA,i+1,rfl,qA,vv,gH,yt,qB,?_,by simp [t8];exact Zv qA qA⟩;have e1:qs.take (i+1)=qs.take i++[x]:=by rw [uQ,hx];rfl
  have e2:qT (jN (qs.take i))++[[iv x]]=qT (jN (qs.take (i+1))):=by rw [e1];simp [jN,qT]
  simp [<- e2];rw [b9 qc]
 .obtain rfl:i=ps.length:=qA;have fx:=aJ t0 t1 t2 t7 h7 t8 hc hcE hcl<|hil;refine qG ?_
  repeat ((first|refine Ze (id:=5) TI mixed ?_);refine qZ ?_;refine qG ?_)
  clear fx;have:qs.take ps.length=qs:=by rw [<- hqs];simp
  rw [this] at h7;exact jU (t:=6) OL OL qB
theorem mV {G G2:Prop} (k:G2) (h:Zx G2->G:=by
 intro kk;refine qG ?_
 repeat ((first|refine Ze (id:=2) TH mixed ?_|refine Ze (id:=4) Xs mixed ?_|refine Ze (id:=5) Vc mixed ?_|refine Ze (id:=6) Vc mixed ?_|refine Ze (id:=8) TH mixed ?_|refine Ze (id:=9) TH mixed ?_);refine qZ ?_;refine qG ?_)
 exact kk.h):G:=h ⟨k⟩
theorem JY (gl) (H:Nm->Option AO) (p:Z0) (m:Zb) (fs:List Z8) (f:Z8) (o:Int×Int) (dp:Nat) (hp:f.Z1<p.length) (hc:2<=o.1/\o.1<=13) (hx:qDG m f o) (hg8:m.globals.length=8) (hn8:f.names.length=8) (hO:Z2 H p (.u 2 0 0) (m.top fs f) dp) :
  Zj prog gl 189 D12 [.pt Xn 0,.ep (.u 2 0 0) 7 fs.length 0,.agg [iv o.1,iv o.2]] H (λ_ y H'=>y=.tup [.ep (slN (.u 2 0 0) fs.length o) 3 (slI f o) 0,iv (fH p f o)]/\Z2 H' p (.u 2 0 0) (m.top fs f) dp) noE:=by
 have hT:=hO.top;simp only [uX] at hT;obtain⟨L,j,hL,hat,hlt,hF,hf,hn,hst⟩:=hO.qAj rfl;obtain⟨_,hatE⟩:=gS hat;obtain⟨k,hk⟩:=gX hp;have hcd:(qw p p.length)[f.Z1]?=some (zC p f.Z1):=tu;obtain⟨hcdl,hcdE⟩:=gS hcd;have hcc:(zC p f.Z1).cells=qF p f.Z1:=em;have hcl:=hO.cells;have hgl:=hO.Zg;simp only [Zb.top] at hT hcl hgl;obtain⟨c,a⟩:=o;obtain⟨x0,x1,x2⟩:=hx;obtain⟨x,rfl⟩:∃ x:Nat,a=x:=⟨a.toNat,by simp only at x0;omega⟩;simp only at hc;have i1:=jH gl c 2 4;have i2:=jH gl c 5 7;have i3:=jH gl c 8 10;have hc2:=hc.1;simp only [slI,slL] at x1 x2;have hxx:((x:Int).toNat)=x:=qA;refine Zj.Zl func189 [.tmp 6,.tmp 7] ntmps189 (λ_=>zG) λC w g root hroot=>?_;by_cases c4:c<=4
 .rw [if_pos c4,if_pos c4,b6] at x1;have x4:(x:Int)<f.Z3.length:=qA;have fx:=qU hT hF hat hatE hlt hf hn hcl hgl hc2 c4 x1<|x4;have c1:=i1;refine mV ?_;clear fx c1;refine qD [] .nil qE ⟨?_,?_⟩
  .simp [slN,slI,fH,c4]
  .exact Z2.fin (have h:=hO;Z2.re h) (.inr rfl)
 rw [if_neg c4,if_neg c4] at x1;have c5:5<=c:=qA;by_cases c7:c<=7
 .rw [if_pos c7,if_pos c7] at x1;have x3:=x2 c5 c7;rw [if_neg c4,if_pos c7] at x3;obtain⟨x3l,x3E⟩:=gS x3;simp only [b6] at x1 x3 x3l x3E;have hwy:fH p f (c,(x:Int))=if (x:Int)<(qF p f.Z1).length then 2 else 3:=by simp [fH,c4,c7]
  have hsi:slI f (c,(x:Int))=f.cells.getD x 0:=by simp [slI,c4,c7]
  rw [hsi];generalize f.cells.getD x 0=y at x1 x3 x3E;have x4:(x:Int)<f.cells.length:=qA;have x5:(y:Int)<m.cells.length:=qA;have x6:(jN f.cells)[x]?=some (y:Int):=by simp [jN,x3]
  obtain⟨x6l,x6E⟩:=gS x6;by_cases hlo:(x:Int)<(qF p f.Z1).length
  .skip
   have fx:=qU hT hF hat hatE hlt hf hn hcl hgl hc2 c4 c5<|qU c7 x1 x3l x4 x5 x6 x6l x6E hcd hcdl hcdE hcc<|hlo;have c1:=i1;have c2:=i2;refine mV ?_;clear fx c1 c2;refine qD [] .nil qE ⟨?_,?_⟩
   .simp [slN,hwy,hlo,c4,c7]
   .exact Z2.fin (have h:=hO;Z2.re h) (.inr rfl)
  .skip
   have fx:=qU hT hF hat hatE hlt hf hn hcl hgl hc2 c4 c5<|qU c7 x1 x3l x4 x5 x6 x6l x6E hcd hcdl hcdE hcc<|hlo;have c1:=i1;have c2:=i2;refine mV ?_;clear fx c1 c2;refine qD [] .nil qE ⟨?_,?_⟩
   .simp [slN,hwy,hlo,c4,c7]
   .exact Z2.fin (have h:=hO;Z2.re h) (.inr rfl)
 rw [if_neg c7,if_neg c7] at x1;have c8:8<=c:=qA;by_cases c10:c<=10
 .rw [if_pos c10,b6] at x1;have h8:m.globals.length=8:=hg8;have x4:(x:Int)<8:=qA;have fx:=qU hT hF hat hatE hlt hf hn hcl hgl hc2 c4 c7<|yS c8 c10 x1 x4<|h8;have c1:=i1;have c2:=i2;have c3:=i3;refine mV ?_;clear fx c1 c2 c3;refine qD [] .nil qE ⟨?_,?_⟩
  .simp [slN,slI,fH,c4,c7,c10]
  .exact Z2.fin (have h:=hO;Z2.re h) (.inr rfl)
 .rw [if_neg c10,b6] at x1;have h8:f.names.length=8:=hn8;have x4:(x:Int)<8:=qA;have fx:=qU hT hF hat hatE hlt hf hn hcl hgl hc2 c4 c7<|yS c8 c10 x1 x4<|h8;have c1:=i1;have c2:=i2;have c3:=i3;refine mV ?_;clear fx c1 c2 c3;refine qD [] .nil qE ⟨?_,?_⟩
  .simp [slN,slI,fH,c4,c7,c10]
  .exact Z2.fin (have h:=hO;Z2.re h) (.inr rfl)
abbrev Xr:Zh:=.q 0<|.q 1<|.q 2<|.q 3<|.q 4<|.q 5<|.q 6<|.q 7<|.q 8<|.q 9<|.q 10<|.q 11<|.q 12<|.q 13<|.q 14<|.q 15<|.q 16<|.q 17<|.q 18<|.q 19<|.done
abbrev Xq:Zh:=wo<|.l 9 []<|.done
abbrev Xp:Zh:=wE<|.l 6 [4,3,2,1,0]<|.l 7 [0]<|.q 8<|.q 9<|.l 10 []<|.done
theorem uK {A G G2:Prop} (k:G2) (x:A) (h:A->Zx G2->G:=by
 intro fx kk;refine qG ?_
 repeat ((first|refine Ze (id:=4) Xr mixed ?_|refine Ze (id:=5) Xq mixed ?_|refine Ze (id:=10) Xp mixed ?_);refine qZ ?_;refine qG ?_)
 exact kk.h):G:=h x ⟨k⟩
theorem FO (gl) (H:Nm->Option AO) (p:Z0) (m:Zb) (fs:List Z8) (f:Z8) (o:Int×Int) (dp:Nat) (hp:f.Z1<p.length) (hc:2<=o.1/\o.1<=13) (hx:qDG m f o) (hx8:8<=o.1->o.2<=7) (hg8:m.globals.length=8) (hn8:f.names.length=8) (hst:(o.1 - 2) % 3=1->1<=f.stack.length) (hsl:f.stack.length<=1000) (hO:Z2 H p (.u 2 0 0) (m.top fs f) dp) (h9:H (.u 9 0 0)=none) :
  Zj prog gl 150 D12 [.pt Xn 0,.ep (.u 2 0 0) 7 fs.length 0,.agg [iv o.1,iv o.2]] H (λ_ _ H'=>Or H' p (.u 2 0 0) (if (o.1 - 2) % 3=0 then vj p m fs f o else if (o.1 - 2) % 3=1 then rB m fs f o else AL p m fs f o) dp) noE:=by
 have hT:=hO.top;obtain⟨L,j,hL,hat,hlt,hF,hf,hn,hsk⟩:=hO.qAj rfl;simp only [uX,Zb.top] at hT;have hsf:=JY gl (p:=p) (m:=m) (fs:=fs) (f:=f) (o:=o) (dp:=dp);have hNk:SlN (slN (.u 2 0 0) fs.length o):=Uz;have hslot:=λhp h=>Z2.slot (hp:=hp) (p:=p) (n:=.u 2 0 0) (m:=m) (fs:=fs) (f:=f) (dp:=dp) (o:=o) h;have hsetS:=λhp hp' f s h=>Z2.qAD (hp:=hp) (hp':=hp') (p:=p) (n:=.u 2 0 0) (m:=m) (fs:=fs) (f:=f) (dp:=dp) (o:=o) (s:=s) h rfl;have hxl:=hx.lt;obtain⟨c,a⟩:=o;obtain⟨x,rfl⟩:∃ x:Nat,a=x:=⟨a.toNat,by have:=hx.arg;simp only at this;omega⟩;simp only at hc hst hx8;have hw2:IntKind.i64.wrap (c - 2)=c - 2:=Zv qA qA;have hrm:(c - 2).tmod 3=(c - 2) % 3:=Int.tmod_eq_emod_of_nonneg qA;have hwr:IntKind.i64.wrap ((c - 2) % 3)=(c - 2) % 3:=Zv qA qA;refine Zj.Zl func150 [] ntmps150 (λ_=>zG) λC w g root hroot=>?_;refine uK ?_<|aI hT<|hF;intro K hK;have fx:=aI hT hF;refine yp qu dR (hF:=hsf _ hp hc hx hg8 hn8 (have h:=hO;Z2.re h)) (h:=?_);rintro y H1 ⟨rfl,hO1⟩;clear fx;generalize hNd:slN (.u 2 0 0) fs.length (c,(x:Int))=N at *;generalize hyd:slI f (c,(x:Int))=q at *;generalize hld:slL m f (c,(x:Int))=l at *;have hT1:=hO1.top;refine uK ?_<|yS hT hT1 hF hw2<|hrm
 refine uu (λs=>s.tm 0=.pt Xn 0/\s.tm 1=.ep (.u 2 0 0) 7 fs.length 0/\s.tm 5=.pt (.s 5) 0/\s.hp (.s 5)=some (.row 2 [[iv c,iv x]])/\s.tm 6=.ep N 3 q 0/\s.tm 7=iv (fH p f (c,(x:Int)))/\s.tm 19=iv ((c - 2) % 3)/\s.tm 87=bv ((c - 2) % 3==1)/\Z2 s.hp p (.u 2 0 0) (m.top fs f) dp) ⟨qu,dR,qB,qB,qB,qB,qB,qB,(have h:=hO1;Z2.re h)⟩ ?_;clear hT hT1 hF hf hn hsk hat hlt hL hO hO1;rintro s ⟨t0,t1,t5,p5,t6,t7,t19,t87,hO⟩;have hT:=hO.top;obtain⟨L,j,hL,hat,hlt,hF,hf,hn,hsk⟩:=hO.qAj rfl;simp only [uX,Zb.top] at hT;have hsl0:=hslot _ hO;obtain⟨_,hatE⟩:=gS hat;by_cases r1:(c - 2) % 3=1
 .have hne:(c - 2) % 3≠0:=qA;rw [if_neg hne,if_pos r1];obtain⟨k,hk⟩:∃ k,f.stack.length=k+1:=⟨f.stack.length - 1,by have:=hst r1;omega⟩;have hX0:s.hp Xn≠none:=th;have hU0:s.hp (.u 2 0 0)≠none:=by rw [hF];simp
  refine uK ?_<|bA t0 t1 t5 p5 t6 t7 t19 t87<|r1;intro K hK;obtain⟨rows,rows',a0,a1,a2,a3,a4,a5,vs,e1,e2,e3,e4,e5,e6⟩:=hO.qB7 hk hNk.u2 (hNk.st _);have fx:=aI t1 hNk.u2;refine Hd D12 N (.u 9 0 0) (.u 2 0 0) (.row 7 (qk rows fs.length 6 [.hs (.c (.u 2 0 0) fs.length 6) 2 0 k])) (Zd.av f.tos) (hV:=rfl) (hN:=hNk.isU) (hVe:=tA) (λ_=>zG) hNk.u9 hNk.D (λ_=>WW) (by simp [hsl0]) (λk i j _=>Og hX0 hU0 k i j) qB hNk.u2 qB (hF:=Nu) (h:=?_);intro hp' hS;clear fx;have hOp:=(hO.qAp e1 hk).same (.inr rfl) hS;have hsl1:hp' N=some (.row 3 (qW l)):=by rw [<- hNd,<- hld];exact Z2.slot (f:=f.pop) hOp
  have n1:=hNk.u2;have n2:=hNk.x;have n3:=hNk.u9;obtain⟨nb,n4,n5⟩:=hNk.b;have n6:=hNk.s;have hpop:rB m fs f (c,(x:Int))=Hm.qAD m fs f.pop (c,(x:Int)) (some f.tos):=rfl;rw [hpop];generalize hv:f.tos=v;obtain⟨v1,v2⟩:=v;refine uK ?_<|jJ t0 t1 t6 hsl1 n1 n2 n3 n4 n5 n6<|hxl;refine zy [] .nil qE (Z2.qBd (Z2.fin (Z2.qAD (f:=f.pop) hOp rfl λk hk=>?_) (.inr rfl)));rw [show slL m f.pop (c,(x:Int))=l from hld,show slI f.pop (c,(x:Int))=q from hyd,hNd];simp only [A2,Kf] at hk;simp [hk,hv]
 obtain⟨s0,hs0⟩:=gX hxl;obtain⟨_,hsE⟩:=gS hs0;have hgs:ft m f (c,(x:Int))=s0:=by rw [Tm,hyd,hld];simp [uE,hs0]
 obtain⟨nb,n4,n5⟩:=hNk.b;have n1:=hNk.u2;have n2:=hNk.x;have n3:=hNk.u9;have n6:=hNk.s;have nX:¬ Xn=N:=λe=>by rw [<- e] at n2;simp at n2
 have nU:¬ .u 2 0 0=N:=λe=>by rw [<- e] at n1;simp at n1
 have nY:¬ N=Xn:=λe=>nX e.symm;by_cases r2:(c - 2) % 3=2
 .have hne:(c - 2) % 3≠0:=qA;rw [if_neg hne,if_neg r1]
  cases s0 with
  | some u =>
   have hd:AL p m fs f (c,(x:Int))=Hm.qAD m fs f (c,(x:Int)) none:=by simp only [AL,hgs]
   rw [hd];obtain⟨u1,u2⟩:=u;refine uK ?_<|qU t0 t1 t5 p5 t6 t7 t19 t87 r1 r2 hsl0 hxl<|yE hs0 hsE nX<|nU;refine zy [] .nil qE (Z2.qBd (Z2.fin (Z2.qAD (f:=f) hO rfl λk hk=>?_) (.inr rfl)));rw [hld,hyd,hNd];simp
  | none =>
   have hd:AL p m fs f (c,(x:Int))=m.stop fs f (fH p f (c,(x:Int))):=by simp only [AL,hgs]
   rw [hd]
   have hln:l.set q none=l:=by
    apply wK;intro i;rw [eV];by_cases e:q=i
    .subst e;simp [hxl,hsE]
    .simp [e]
   refine uK ?_<|qU t0 t1 t5 p5 t6 t7 t19 t87 r1 r2 hsl0 hxl<|uD hs0 hsE nX nU nY<|hT;refine zy [] .nil qE (Z2.qBd (Z2.fin (Z2.qDb hO rfl λk hk=>?_) (.inr rfl)));by_cases e:k=N
   .subst e;simp [nX,nY,hsl0,hln]
   .simp [e,hT,uX,Zb.top]
 .have r0:(c - 2) % 3=0:=qA;rw [if_pos r0];have hsl':f.stack.length<=1000:=hsl
  cases s0 with
  | some u =>
   have hd:vj p m fs f (c,(x:Int))=m.top fs (f.push u):=by simp only [vj,hgs]
   rw [hd];obtain⟨u1,u2⟩:=u;refine uK ?_<|qU t0 t1 t5 p5 t6 t7 t19 t87 r0 r1 r2 hsl0<|qU hxl hs0 hsE nX nU nY n6 hF hat hatE hlt hsk<|hsl;refine zy [] .nil qE (Z2.qBd (Z2.fin (have h:=hO;Z2.reT h rfl hL rfl fA ew er ⟨[],ez⟩ (h0:=cB)) (.inr rfl)))
  | none =>
   by_cases c8:8<=c
   .have hwy:fH p f (c,(x:Int))=4:=by simp only [fH];rw [if_neg qA,if_neg qA]
    have hxg:x<m.globals.length:=by have:=hx8 c8;omega
    have hx8i:(x:Int)<8:=qA;obtain⟨g0,hg0⟩:=gX hxg;obtain⟨_,hgE⟩:=gS hg0;have hGl:=hO.Zg;simp only [FI] at hGl;have hsg:uE m.globals x=g0:=by simp [uE,hg0]
    cases g0 with
    | some u =>
     have hd:vj p m fs f (c,(x:Int))=m.top fs (f.push u):=by simp only [vj,hgs,hwy,if_true,b6,hsg]
     rw [hd];rw [hwy] at t7;obtain⟨u1,u2⟩:=u;refine uK ?_<|qU t0 t1 t5 p5 t6 t7 t19 t87 r0 r1 r2 hsl0<|qU hxl hs0 hsE nX nU nY n6 hF hat hatE hlt hsk<|kO hsl hT hGl hg0 hgE hxg hx8i<|hg8;refine zy [] .nil qE (Z2.qBd (Z2.fin (have h:=hO;Z2.reT h rfl hL rfl fA ew er ⟨[],ez⟩ (h0:=cB)) (.inr rfl)))
    | none =>
     rw [hwy] at t7;by_cases h7:x=7
     .subst h7
      have hd:vj p m fs f (c,((7:Nat):Int))=m.top fs (f.push (1,70)):=by
       simp only [vj,hgs,hwy,if_true,b6,hsg]
       rfl
      rw [hd];refine uK ?_<|qU t0 t1 t5 p5 t6 t7 t19 t87 r0 r1 r2 hsl0<|qU hxl hs0 hsE nX nU nY n6 hF hat hatE hlt hsk<|kO hsl hT hGl hg0 hgE hxg hx8i<|hg8;refine zy [] .nil qE (Z2.qBd (Z2.fin (have h:=hO;Z2.reT h rfl hL rfl fA ew er ⟨[],ez⟩ (h0:=cB)) (.inr rfl)))
     .have h7i:¬ (x:Int)=7:=qA;have h7b:((x:Int)==7)=false:=by simpa using h7i
      have hd:vj p m fs f (c,(x:Int))=m.stop fs f 4:=by
       simp only [vj,hgs,hwy,if_true,b6,hsg];rw [if_neg h7i]
      rw [hd];refine uK ?_<|qU t0 t1 t5 p5 t6 t7 t19 t87 r0 r1 r2 hsl0<|qU hxl hs0 hsE nX nU nY n6 hF hat hatE hlt hsk<|bA hsl hT hGl hg0 hgE hxg hx8i hg8<|h7b;refine zy [] .nil qE ⟨fs++[f.push (0,0)],⟨λe=>absurd e qB,CM⟩,Z2.fin (have h:=hO;Z2.reT h rfl hL rfl fA ew er ⟨[],ez⟩ (h0:=cB)) (.inr rfl)⟩
   .have hw4:fH p f (c,(x:Int))=2\/fH p f (c,(x:Int))=3:=by
     simp only [fH];by_cases c4:c<=4
     .rw [if_pos c4];exact .inl rfl
     .rw [if_neg c4,if_pos qA];by_cases e:(x:Int)<(qF p f.Z1).length
      .rw [if_pos e];exact .inl rfl
      .rw [if_neg e];exact .inr rfl
    have hwn:fH p f (c,(x:Int))≠4:=qA
    have hd:vj p m fs f (c,(x:Int))=m.stop fs f (fH p f (c,(x:Int))):=by
     simp only [vj,hgs];rw [if_neg hwn]
    rw [hd];clear hd hsf;generalize fH p f (c,(x:Int))=w at hw4 t7 hwn ⊢;have hwb:(w==4)=false:=by simpa using hwn
    refine uK ?_<|qU t0 t1 t5 p5 t6 t7 t19 t87 r0 r1 r2 hsl0<|qU hxl hs0 hsE nX nU nY n6 hF hat hatE hlt hsk<|jI hsl hT<|hwb;refine zy [] .nil qE ⟨fs++[f.push (0,0)],⟨λe=>absurd e qc,CM⟩,Z2.fin (have h:=hO;Z2.reT h rfl hL rfl fA ew er ⟨[],ez⟩ (h0:=cB)) (.inr rfl)⟩
abbrev Xo:Zh:=wP<|.l 14 []<|.done
abbrev Xm:Zh:=yz<|.l 11 []<|.done
abbrev Xl:Zh:=wE<|.l 6 [4,3,2,1,0]<|.l 7 [0]<|.q 8<|.q 9<|.l 10 []<|.done
abbrev Xk:Zh:=vi<|.done
abbrev Xj:Zh:=wo<|.l 9 [4,3,2,1,0]<|.l 10 [4,3,2,1,0]<|.l 11 [0]<|.q 12<|.q 13<|.l 14 []<|.done
theorem sO {A G G2:Prop} (k:G2) (x:A) (h:A->Zx G2->G:=by
 intro fx kk;refine qG ?_
 repeat ((first|refine Ze (id:=1) Xo mixed ?_|refine Ze (id:=3) Xm mixed ?_|refine Ze (id:=4) Xl mixed ?_);refine qZ ?_;refine qG ?_)
 exact kk.h):G:=h x ⟨k⟩
theorem BS (gl) (H:Nm->Option AO) (p:Z0) (m:Zb) (fs:List Z8) (f:Z8) (v:Zd) (dp:Nat) (hm:m.ZW=fs++[f]) (hfl:fs.length<=1000) (hsl:∀ g∈fs,g.stack.length<=1000) (hO:Z2 H p (.u 2 0 0) m dp) :
  Zj prog gl 152 D12 [.pt Xn 0,Zd.av v] H (λ_ _ H'=>Z2 H' p (.u 2 0 0) (zW m fs v) dp) noE:=by
 have hT:=hO.top;obtain⟨L,j,hL,hat,hlt,hF,hf,hn,hsk⟩:=hO.qAj hm;simp only [uX,hm,am,dU] at hT;obtain⟨v1,v2⟩:=v;have hw1:IntKind.i64.wrap (fs.length:Int)=fs.length:=Zv qA qA;have hl1:(fs.length:Int)<=(fs.length:Int)+1:=qA;have hl0:(0:Int)<=(fs.length:Int):=qA;refine Zj.Zl func152 [] ntmps152 (λ_=>zG) λC w g root hroot=>?_;refine sO ?_<|uD hT hF hw1 hl1 hl0<|hlt;refine uu (λs=>s.tm 0=.pt Xn 0/\s.tm 3=.pt (.s 3) 0/\s.hp (.s 3)=some (.row 2 [[iv v1,iv v2]])/\s.tm 24=bv (decide (0<(fs.length:Int)))/\Z2 s.hp p (.u 2 0 0) { m with ZW:=fs } dp) ⟨qu,qB,qB,qB,?_⟩ ?_
 .refine Z2.Zn (f:=kl (.s 3)) (hO.cut (hp':=λk=>if k=Xn then some (.row 13 [uX p (.u 2 0 0) { m with ZW:=fs } dp]) else H k) hm qB (λq h _=>dO) rfl) (.inr rfl) (λq hq=>?_) (λq hq=>?_)
  .have:=(D_s (λ_=>zG) hq 3).2;simp [this]
  .have hq2:=(D_s (λ_=>zG) hq 3).1;have hq3:=(D_s (λ_=>zG) hq 3).2;by_cases e:q=Xn
   .subst e;simp [uX,AO.tr]
   .simp [hq2,hq3,e]
 clear hT hF hf hn hsk hat hlt hL hO;rintro s ⟨t0,t3,p3,t24,hO⟩;have hT:=hO.top;simp only [uX] at hT
 cases hgl:fs.getLast? with
 | none =>
  have hfs:fs=[]:=List.getLast?_eq_none_iff.1 hgl;have hle:zW m fs (v1,v2)={ m with ZW:=[] }:=by simp only [zW,hgl]
  subst hfs;rw [hle];refine sO ?_<|yS t0 t3 p3 t24<|hT;refine zy [] .nil qE (Z2.fin (have h:=hO;Z2.re h) (.inr rfl))
 | some g =>
  obtain⟨gs,rfl⟩:∃ gs,fs=gs++[g]:=by
   obtain⟨ys,hy⟩:=List.getLast?_eq_some_iff.1 hgl;exact⟨ys,hy⟩
  have hle:zW m (gs++[g]) (v1,v2)={ m with ZW:=gs++[g.push (v1,v2)] }:=by simp only [zW,hgl];simp
  rw [hle];have hsl:=hsl g qB;obtain⟨L,j,hL,hat,hlt,hF,hf,hn,hsk⟩:=Z2.qAj hO rfl;obtain⟨_,hatE⟩:=gS hat;simp only [am,dU] at hfl hT t24;have hw2:IntKind.i64.wrap (gs.length:Int)=gs.length:=Zv qA qA;have hl1:(gs.length:Int)<(gs.length:Int)+1:=qA;have hl0:(0:Int)<=(gs.length:Int):=qA;refine sO ?_<|qU t0 t3 p3 t24 hT hF hw2 hl1 hl0 hlt hat hatE<|jI hsk hsl<|hfl;refine zy [] .nil qE (Z2.fin (have h:=hO;Z2.reT h rfl hL rfl fA ew er ⟨[],ez⟩ (h0:=cB)) (.inr rfl))
theorem fm {A G G2:Prop} (k:G2) (x:A) (h:A->Zx G2->G:=by
 intro fx kk;refine qG ?_
 repeat ((first|refine Ze (id:=0) Xk mixed ?_|refine Ze (id:=1) Xj mixed ?_);refine qZ ?_;refine qG ?_)
 exact kk.h):G:=h x ⟨k⟩
theorem Fr (gl) (H:Nm->Option AO) (p:Z0) (m:Zb) (fs:List Z8) (f:Z8) (dp:Nat) (hp:f.Z1<p.length) (hm:m.ZW=fs++[f]) (hfl:fs.length<=1000) (hsl:∀ g∈fs,g.stack.length<=1000) (hn8:f.names.length=8) (hcl:m.ZV.length<=1000) (hO:Z2 H p (.u 2 0 0) m dp) :
  Zj prog gl 149 D12 [.pt Xn 0,.ep (.u 2 0 0) 7 fs.length 0] H (λ_ _ H'=>Z2 H' p (.u 2 0 0) (Bb p m fs f) dp) noE:=by
 have hT:=hO.top;obtain⟨L,j,hL,hat,hlt,hF,hf,hn,hsk⟩:=hO.qAj hm;obtain⟨_,hatE⟩:=gS hat;simp only [uX,hm,am,dU] at hT;obtain⟨k,hk⟩:=gX hp;have hcd:(qw p p.length)[f.Z1]?=some (zC p f.Z1):=tu;obtain⟨hcdl,hcdE⟩:=gS hcd;have hck:(zC p f.Z1).kind=qg p f.Z1:=by simp [zC,hk,qg]
 have hcp:=fw gl f.names hn8;have hC:=hO.Zw;have hap:vE m.ZV++[[.sl 3 (qW f.names)]]=vE (m.ZV++[f.names]):=Fw;have hwc:IntKind.i64.wrap (m.ZV.length:Int)=m.ZV.length:=Zv qA qA;refine Zj.Zl func149 [] ntmps149 (λ_=>zG) λC w g root hroot=>?_;by_cases hk2:qg p f.Z1=2
 .have he:Bb p m fs f=zW { m with ZV:=m.ZV++[f.names] } fs (3,m.ZV.length):=by rw [Bb,if_pos hk2]
  rw [he];rw [hk2] at hck;refine fm ?_<|qU hT hF hat hatE hlt hn hcd hcdl hcdE hck hC hcl<|aI hn8<|hwc;intro K hK;have fx:=aI hT (aI hF (aI hat (aI hatE (aI hlt (aI hn (aI hC (aI hcl hn8)))))));refine pj (λK' h'=>jR (hF:=hcp) (h:=h')) (by simp [hn8]) JW ?_;clear fx;refine fm ?_<|qU hT hF hat hatE hlt hn hcd hcdl hcdE hck hC hcl<|aI hn8<|hwc;intro K hK;have fx:=aI hT hF;refine yp qB dR (hF:=BS _ _ p { m with ZV:=m.ZV++[f.names] } fs f (3,m.ZV.length) dp hm hfl hsl (have h:=hO;Z2.re h (h0:=by simp [uX,hm]) (h5:=by simp [hap]))) (h:=?_);rintro y H1 hO1;clear fx;have hT1:=hO1.top;refine fm ?_<| hT1;refine qD [] .nil qE (Z2.fin (have h:=hO1;Z2.re h) (.inr rfl))
 .have he:Bb p m fs f=zW m fs (0,0):=by rw [Bb,if_neg hk2]
  rw [he];have hkb:(qg p f.Z1==2)=false:=by simpa using hk2
  refine fm ?_<|jJ hT hF hat hatE hlt hn hcd hcdl hcdE hck<|hkb;intro K hK;have fx:=aI hT hF;refine yp qu dR (hF:=BS _ _ p m fs f (0,0) dp hm hfl hsl (have h:=hO;Z2.re h)) (h:=?_);rintro y H1 hO1;clear fx;have hT1:=hO1.top;refine fm ?_<|aI hT<|hT1;refine zy [] .nil qE (Z2.fin (have h:=hO1;Z2.re h) (.inr rfl))
abbrev TG:Zh:=DH<|.l3 4 [0] (.l2 5 [0] (.q 6<|.l 7 [6,0]<|.l 8 []<|.done) 7 [0] (.l 5 [0]<|.q 6<|.l 8 []<|.done)) 5 [3,2,1,0] (.l2 4 [0] (.q 6<|.l 7 [6,0]<|.l 8 []<|.done) 7 [3,2,1,0] (.l 4 [0]<|.q 6<|.l 8 []<|.done)) 7 [3,2,1,0] (.l2 4 [0] (.l 5 [0]<|.q 6<|.l 8 []<|.done) 5 [3,2,1,0] (.l 4 [0]<|.q 6<|.l 8 []<|.done))
abbrev TF:Zh:=aS<|.l 8 [3,2,1,0]<|.l 9 [3,2]<|.q 10<|.l 11 []<|.done
theorem Df (gl) (H:Nm->Option AO) (p:Z0) (m:Zb) (b:Nat) (cs:List Nat) (dp:Nat) (hb:b<p.length) (hcl:m.cells.length<=2000) (hcs:cs.length<=8) (hmd:m.made<=1000) (hO:Z2 H p (.u 2 0 0) m dp) :
  Zj prog gl 99 D12 [.pt Xn 0,iv b,isl (jN cs)] H (λr y H'=>y=.agg [iv b,iv 0,iv (-1),.hs (.c r 0 3) 3 0 (qP p b).length,.hs (.c r 0 4) 1 0 ((qF p b).length+cs.length),.hs (.c r 0 5) 3 0 8,.hs (.c r 0 6) 2 0 0]/\H' (.c r 0 3)=some (.row 3 (qW (List.replicate (qP p b).length none)))/\H' (.c r 0 4)=some (.row 1 (qT (jN (((List.range (qF p b).length).map (m.cells.length+·))++cs))))/\H' (.c r 0 5)=some (.row 3 (qW q9))/\H' (.c r 0 6)=some (.row 2 [])/\Z2 H' p (.u 2 0 0) { m with cells:=m.cells++List.replicate (qF p b).length none,made:=m.made+1 } dp/\∀ q,Nm.under r q=true->D12 q=false) noE:=by
 have hT:=hO.top;simp only [uX] at hT;obtain⟨kk,hk⟩:=gX hb;have hcd:(qw p p.length)[b]?=some (zC p b):=CA;obtain⟨hcdl,hcdE⟩:=gS hcd;have hcf:(zC p b).Z3=qP p b:=em;have hcc:(zC p b).cells=qF p b:=em;have hf8:=w5 (p:=p) (b:=b);have hc8:=jo (p:=p) (b:=b);refine Zj.Zl func99 [.cell 6 108] ntmps99 (λ_=>zG) λC w g root hroot=>?_;have hr0:=hroot root (Nm.Z6 _);simp only [A2,RN] at hr0;obtain⟨hr1,hr2⟩:=hr0;have hrp:List.replicate (qP p b).length [bv false,iv 0,iv 0]=qW (List.replicate (qP p b).length none):=gO
 refine Te (λs=>s.tm 0=.pt Xn 0/\s.tm 1=iv b/\s.tm 2=isl (jN cs)/\s.tm 6=.pt (.s 6) 0/\s.tm 7=.pt (.s 7) 0/\s.hp (.s 7)=some (.row 6 [(zC p b).row])/\s.tm 8=.pt (.s 8) 0/\s.hp (.s 8)=some (.row 7 [[iv b,iv 0,iv (-1),.hs (.c (.s 8) 0 3) 3 0 (qP p b).length,.hs (.c (.s 8) 0 4) 1 0 0,.hs (.c (.s 8) 0 5) 3 0 8,.hs (.c (.s 8) 0 6) 2 0 0]])/\s.hp (.c (.s 8) 0 3)=some (.row 3 (qW (List.replicate (qP p b).length none)))/\s.hp (.c (.s 8) 0 4)=some (.row 1 [])/\s.hp (.c (.s 8) 0 5)=some (.row 3 (qW q9))/\s.hp (.c (.s 8) 0 6)=some (.row 2 [])/\s.tm 9=iv 0/\(∃ r,s.hp (.s 6)=some (.row 7 [r])/\r.length=7)/\Z2 s.hp p (.u 2 0 0) m dp) ?_ (by
  intro kk
  all_goals have fx:=kO hT hcd hcdl hcdE hcf hcc hf8<|hc8
  repeat' (first
   | refine vH ?_|refine jd ?_|refine yH ?_|refine kL λK hK=>?_
   | ((with_reducible refine vA hK ?_);clear hK K)
   | (with_reducible first|refine qV ?_|refine jS ?_|refine jQ ?_|refine vW ?_|refine j6 ?_|refine kH ?_|refine kz ?_|refine jx qO ?_)
   | refine kR ?_
   | refine aM ?_
   | (with_reducible first|refine jL ?_|refine zL (h:=?_)|refine u5 (h:=?_)|refine jA (h:=?_)|refine jW (T:=32) (h:=?_)|refine jw (T:=32) (h:=?_)|refine jW (T:=70) (h:=?_)|refine jw (T:=70) (h:=?_)|refine bB (h:=?_)|refine lr (h:=?_)|refine yV (h:=?_))
   | ((with_reducible refine rr 97 rfl ?_);refine jP (hF:=ah gl) (h:=?_))
   | (with_reducible refine x_q (h:=?_))
   | refine jr (h1:=?_)|refine yF (h1:=?_)
   | (refine Ze (id:=2) TG mixed λK hK=>?_)
   | (refine Ze (id:=7) TF mixed λK hK=>?_)
   | ((with_reducible refine u7 hK ?_);clear hK K)
   | ((with_reducible refine dZ ?_);first|refine nC (h:=?_)|refine pC (h:=?_)|refine pD (h:=?_)|refine pB (h:=?_))
   | ((with_reducible refine dZ ?_);refine pE (h1:=λht=>?_) (h2:=λht=>?_))
   | refine a_l rfl ?_|refine Kq ?_ ?_|refine Kp ?_ ?_ ?_|(with_reducible refine aI ?_ ?_)|exact vL|refine wj (h2:=?_)
   | fail)
  all_goals try clear fx
  all_goals exact kk.h _ ⟨qu,qB,qB,qB,qB,by simp [hcf,hcc],qB,qB,by simp [hrp],qB,qB,qB,qB,⟨_,qE,qB⟩,(have h:=hO;Z2.re h)⟩)
 clear hT;rintro s ⟨t0,t1,t2,t6,t7,p7,t8,p8,p83,p84,p85,p86,t9,⟨r6,p6,h6⟩,hO1⟩;refine qX (λn st=>∃ i:Nat,n=(qF p b).length - i/\i<=(qF p b).length/\st.tm 0=.pt Xn 0/\st.tm 1=iv b/\st.tm 2=isl (jN cs)/\st.tm 6=.pt (.s 6) 0/\st.tm 7=.pt (.s 7) 0/\st.hp (.s 7)=some (.row 6 [(zC p b).row])/\st.tm 8=.pt (.s 8) 0/\st.hp (.s 8)=some (.row 7 [[iv b,iv 0,iv (-1),.hs (.c (.s 8) 0 3) 3 0 (qP p b).length,.hs (.c (.s 8) 0 4) 1 0 i,.hs (.c (.s 8) 0 5) 3 0 8,.hs (.c (.s 8) 0 6) 2 0 0]])/\st.hp (.c (.s 8) 0 3)=some (.row 3 (qW (List.replicate (qP p b).length none)))/\st.hp (.c (.s 8) 0 4)=some (.row 1 (qT (jN ((List.range i).map (m.cells.length+·)))))/\st.hp (.c (.s 8) 0 5)=some (.row 3 (qW q9))/\st.hp (.c (.s 8) 0 6)=some (.row 2 [])/\st.tm 9=iv i/\(∃ r,st.hp (.s 6)=some (.row 7 [r])/\r.length=7)/\Z2 st.hp p (.u 2 0 0) { m with cells:=m.cells++List.replicate i none } dp) (qF p b).length ?_ ?_
 .exact⟨0,qA,qA,t0,t1,t2,t6,t7,p7,t8,p8,p83,by simp [p84,jN],p85,p86,t9,⟨r6,p6,h6⟩,by simpa using hO1⟩
 clear t0 t1 t2 t6 t7 p7 t8 p8 p83 p84 p85 p86 t9 hO1 p6;rintro n st - - ⟨i,rfl,hi,t0,t1,t2,t6,t7,p7,t8,p8,p83,p84,p85,p86,t9,⟨r6,p6,h6⟩,hO1⟩;have hT:=hO1.top;have hC:=hO1.cells;simp only [uX,am,List.length_replicate] at hT;simp only at hC;have hcl2:m.cells.length+i<=3000:=qA;have hil8:i<=8:=qA;by_cases hil:i<(qF p b).length
 .have hwl:IntKind.i64.wrap ((m.cells.length:Int)+i)=(m.cells.length:Int)+i:=Zv qA qA
  have hap:qW (m.cells++List.replicate i none)++[[bv false,iv 0,iv 0]]=qW (m.cells++List.replicate (i+1) none):=by
   rw [List.replicate_succ'];simp [qW]
  have hap2:qT (jN ((List.range i).map (m.cells.length+·)))++[[iv ((m.cells.length:Int)+i)]]=qT (jN ((List.range (i+1)).map (m.cells.length+·))):=by
   rw [HT];simp [jN,qT]
  have hil1:(jN ((List.range i).map (m.cells.length+·))).length=i:=qB;have fx:=qU t0 t1 t2 t6 t7 p7 t8 p8 p83 p84 p85 p86<|aJ t9 p6 hT hC hcl2 hil8 hil hwl hil1<|hcc;refine qG ?_
  repeat ((first|refine Ze (id:=2) TG mixed ?_|refine Ze (id:=7) TF mixed ?_);refine qZ ?_;refine qG ?_)
  clear fx;have htk2:(m.cells++List.replicate i none).take (m.cells.length+i)=m.cells++List.replicate i none:=b9 qB;have htk:(jN ((List.range i).map (m.cells.length+·))).take i=jN ((List.range i).map (m.cells.length+·)):=b9 qB;refine⟨(qF p b).length - (i+1),qA,i+1,rfl,qA,vv,gH,yt,cR,by simp [t7],by simp [p7],fz,qB,by simp [p83],?_,by simp [p85],by simp [p86],zD,⟨_,by simp [p6];rfl,by simpa using h6⟩,(have h:=hO1;Z2.re h (h0:=by simp [uX];omega) (h2:=by simp [<- hap];rw [htk2]))⟩;simp [<- hap2,htk]
 .obtain rfl:i=(qF p b).length:=qA;have hil1:(jN ((List.range (qF p b).length).map (m.cells.length+·))).length=(qF p b).length:=qB;have hwm:IntKind.i64.wrap ((m.made:Int)+1)=(m.made:Int)+1:=Zv qA qA;have hd6:r6.drop 7=[]:=List.drop_eq_nil_of_le qA;have htk:(jN ((List.range (qF p b).length).map (m.cells.length+·))).take (qF p b).length=jN ((List.range (qF p b).length).map (m.cells.length+·)):=b9 qB;have fx:=qU t0 t1 t2 t6 t7 p7 t8 p8 p83 p84 p85 p86<|aJ t9 p6 hd6 hT hC hil8 hcc hil1 hcs<|hwm;refine qG ?_
  repeat ((first|refine Ze (id:=2) TG mixed ?_|refine Ze (id:=7) TF mixed ?_);refine qZ ?_;refine qG ?_)
  clear fx;refine qD [(.s 8,root)] (.one rfl) (by simp [t6,hd6];rfl) ⟨qB,by simp [p83,hr1,hr2],?_,by simp [p85,hr1,hr2],by simp [p86,hr1,hr2],Z2.fin (have h:=hO1;Z2.re h) (.inr rfl),hroot⟩;have hna:∀ a b:List Nat,jN (a++b)=jN a++jN b:=λa b=>by simp [jN]
  rw [hna];simp [hr1,hr2,htk]
theorem lA (gl) (H:Nm->Option AO) (p:Z0) (m:Zb) (b:Nat) (cs:List Nat) (dp:Nat) (hb:b<p.length) (hcl:m.cells.length<=2000) (hcs:cs.length<=8) (hmd:m.made<=1000) (hO:Z2 H p (.u 2 0 0) m dp) :
  Zj prog gl 99 D12 [.pt Xn 0,iv b,isl (jN cs)] H (λr y H'=>y=.agg [iv b,iv 0,iv (-1),.hs (.c r 0 3) 3 0 (qP p b).length,isl (jN (((List.range (qF p b).length).map (m.cells.length+·))++cs)),.hs (.c r 0 5) 3 0 8,.hs (.c r 0 6) 2 0 0]/\H' (.c r 0 3)=some (.row 3 (qW (List.replicate (qP p b).length none)))/\H' (.c r 0 5)=some (.row 3 (qW q9))/\H' (.c r 0 6)=some (.row 2 [])/\Z2 H' p (.u 2 0 0) { m with cells:=m.cells++List.replicate (qF p b).length none,made:=m.made+1 } dp) noE:=by
 refine (Df gl H p m b cs dp hb hcl hcs hmd hO).settle (λr n=>Nm.under (.c r 0 4) n) ?_;rintro r y H' ⟨rfl,h3,h4,h5,h6,hO',hr⟩
 have hne:∀ q,D12 q=true->Nm.under (.c r 0 4) q=false:=by
  intro q hq
  cases h:Nm.under (.c r 0 4) q with
  | false=>rfl
  | true =>
   have:=hr q (Nm.qAJ (a:=r) qB h);rw [this] at hq
   cases hq
 have hu:∀ j,j≠4->Nm.under (.c r 0 4) (.c r 0 j)=false:=by
  intro j hj
  have hx:Nm.under (.c r 0 4) r=false:=by
   cases h:Nm.under (.c r 0 4) r with
   | false=>rfl
   | true=>exact absurd rfl (Nm.qAS h).2
  simp [hx,hj]
 refine⟨.agg [iv b,iv 0,iv (-1),.hs (.c r 0 3) 3 0 (qP p b).length,isl (jN (((List.range (qF p b).length).map (m.cells.length+·))++cs)),.hs (.c r 0 5) 3 0 8,.hs (.c r 0 6) 2 0 0],.agg _ _ rfl λj a a' ha ha'=>?_,rfl,?_,?_,?_,?_⟩
 .match j,ha,ha' with
  | 0,ha,ha'=>obtain rfl:=sI ha;obtain rfl:=sI ha';exact .refl _
  | 1,ha,ha'=>obtain rfl:=sI ha;obtain rfl:=sI ha';exact .refl _
  | 2,ha,ha'=>obtain rfl:=sI ha;obtain rfl:=sI ha';exact .refl _
  | 3,ha,ha'=>obtain rfl:=sI ha;obtain rfl:=sI ha';exact .refl _
  | 4,ha,ha' =>
   obtain rfl:=sI ha;obtain rfl:=sI ha';refine .hs (.c r 0 4) 1 0 _ _ _ qB h4 qB qB zd λi r1 r2 e1 e2 j a a' e3 e4=>?_;rw [xX,e2] at e1;obtain rfl:=sI e1;rw [e3] at e4;obtain rfl:=sI e4;exact .refl _
  | 5,ha,ha'=>obtain rfl:=sI ha;obtain rfl:=sI ha';exact .refl _
  | 6,ha,ha'=>obtain rfl:=sI ha;obtain rfl:=sI ha';exact .refl _
  | j+7,ha,_=>simp at ha
 .simp only [wF,hu 3 qO,ak,if_false,h3]
 .simp only [wF,hu 5 qO,ak,if_false,h5]
 .simp only [wF,hu 6 qO,ak,if_false,h6]
 .exact hO'.qCs (.inr rfl) λq hq=>by simp only [wF,hne q hq,ak,if_false]
end Go.Proofs.YtdnebaieamppbaaGreatDoor
end
