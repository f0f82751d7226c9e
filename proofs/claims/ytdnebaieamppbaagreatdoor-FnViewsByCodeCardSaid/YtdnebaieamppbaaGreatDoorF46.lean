import Derived.Test.YtdnebaieamppbaaGreatDoorF45
import Derived.Test.YtdnebaieamppbaaGreatDoorF24
set_option linter.unusedSimpArgs false
set_option linter.unusedVariables false
set_option maxRecDepth 100000
set_option maxHeartbeats 4000000

section
namespace Go.Proofs.YtdnebaieamppbaaGreatDoor
open Go Go.Hm Go.Proofs Tryz
abbrev XL:Y8:=aB<|.l 9 [4,3,2,1,0]<|.l 10 [0]<|.l 11 []<|.l 12 []<|.done
abbrev XK:Y8:=.q 1<|.q 2<|.q 3<|.q 5<|.q 6<|.q 7<|.q 8<|.q 9<|.q 12<|.l 0 [12,9,8,7,6,5,3,2,1]<|.l 4 [12,9,8,7,6,5]<|.l 10 [12]<|.l 11 [12]<|.l 13 []<|.l 14 []<|.done
attribute [local simp] sY ft
theorem P6 {l L2:List Y5} {A:Nat} (h:A<=l.length):List.take (A+L2.length) (List.take A (List.take A l)++L2)++List.take (l.length - A) (List.take (l.length - A) (List.drop A l))=List.take A l++(L2++List.drop A l):=by
 have e1:List.take A (List.take A l)=List.take A l:=by rw [List.take_take,Nat.min_self]
 have e2:List.take (A+L2.length) (List.take A l++L2)=List.take A l++L2:=bC qv;have e3:List.take (l.length - A) (List.drop A l)=List.drop A l:=bC qB;rw [e1,e2,e3,e3,nS]
theorem jO {A G G2:Prop} (k:G2) (x:A) (h:A->Yr G2->G:=by
 intro fx kk;refine qI ?_
 repeat ((first|refine Y7 (id:=5) XL mixed ?_|refine Y7 (id:=12) XK mixed ?_);refine qW ?_;refine qI ?_)
 exact kk.h):G:=h x ⟨k⟩
theorem dA (gl) (H:Nm->Option AO) (bs:List Int) (pos:Nat) (hb:ZL bs) (hpos:pos<=700000) (hH:H (.u 1 0 0)=some (Zo bs pos)) (hV:H (.u 2 0 0)=none) (hV4:H (.u 4 0 0)=none) (hV5:H (.u 5 0 0)=none) :
  Yc prog gl 118 (Nm.under (.u 1 0 0)) [.pt (.u 1 0 0) 0] H (G5 bs (λp pos'=>qAO p/\pos'<=pos+1000)) Yz:=by
 refine Yc.Yb func118 [.cell 2 25] ntmps118 (λ_=>qZ rfl) λC w g root hroot=>?_;have hr0:=hroot root (Nm.Y0 _);refine jO ?_<|Ya
 first|show qO _ _ _ _ _|intro K hK
 refine oK (bs:=bs) (hs:=jU) (ha:=yK) (hF:=mq _ _ bs pos 0 (-1) hb qA jU qB) (h:=?_);rintro z H1 ⟨k0,p0,rfl,hk2,hk3,⟨hkk,hkpar,hkp,hkb,hp0,hkT⟩,hU⟩;refine⟨p0,hU,?_⟩;refine jO ?_<|Ya
 first|show qO _ _ _ _ _|intro K hK
 refine Ba (.c (.s 11) 0 2) (.c (.c (.s 3) 0 0) 0 2) (.inl rfl) (.inl rfl) ?_;refine Ba (.c (.s 11) 0 3) (.c (.c (.s 3) 0 0) 0 3) (.inl rfl) (.inl rfl) ?_
 refine uD (λst=>st.tm 0=.pt (.u 1 0 0) 0/\st.hp (.u 1 0 0)=some (Zo bs p0)/\st.tm 2=.pt (.s 2) 0/\st.hp (.s 2)=some (.row 1 [[.hs (.c (.s 2) 0 0) 4 0 0]])/\st.hp (.c (.s 2) 0 0)=some (.row 4 [])/\st.tm 3=.pt (.s 3) 0/\st.hp (.s 3)=some (.row 1 [[.hs (.c (.s 3) 0 0) 4 0 1]])/\Z3 st.hp (.c (.s 3) 0 0) [k0] /\
  st.tm 14=.pt (.u 1 0 0) 0/\st.tm 15=.hs (.s 15) 1 0 6/\st.hp (.s 15)=some (.row 1 (qS [3,2,4,1,5,0]))) ⟨qB,qB,qB,qB,qB,qB,qB,⟨rf,λj k hk=>?_,λj k hk=>?_⟩,qB,qB,zU⟩ ?_
 .cases j with
  | zero=>simp at hk;subst hk;simp [hk2]
  | succ j=>simp at hk
 .cases j with
  | zero=>simp at hk;subst hk;simp [hk3]
  | succ j=>simp at hk
 clear hU hk2 hk3;rintro st ⟨h0,hU,h2,hp2,hp2',h3,hp3,⟨ho1,ho2,ho3⟩,h14,h15,hp15⟩;refine bG (bN _) 15 [3,2,4,1,5,0] (bs:=bs) (pos:=p0) hb qA (hV:=hV) (h0:=h14) (h1:=mN) (hH:=hU) (hL:=by simp [hp15]) (h:=?_);intro v hv;have hvr:0<=v/\v<=5:=lV;obtain⟨V,rfl⟩:∃ V:Nat,v=V:=⟨v.toNat,qA⟩;refine jO ?_<|Ya;refine qR (λn st=>∃ (p:YU) (q:Nat),n+p.length<=6/\qAO p/\q+100 * n<=pos+700/\st.tm 0=.pt (.u 1 0 0) 0/\st.hp (.u 1 0 0)=some (Zo bs q)/\st.tm 2=.pt (.s 2) 0/\st.hp (.s 2)=some (.row 1 [[.hs (.c (.s 2) 0 0) 4 0 0]])/\st.hp (.c (.s 2) 0 0)=some (.row 4 [])/\st.tm 3=.pt (.s 3) 0/\st.hp (.s 3)=some (.row 1 [[.hs (.c (.s 3) 0 0) 4 0 p.length]])/\st.tm 4=iv n/\Z3 st.hp (.c (.s 3) 0 0) p) V ?_ ?_
 .exact⟨[k0],p0+1,qv,qAO.one hkpar hkk qA qA hkT,qA,qu,qB,qj,qn,ug,zN,yJ,qB,⟨vE,λj r hj=>uP,λj r hj=>uO⟩⟩
 clear h0 hU h2 hp2 hp2' h3 hp3 ho1 ho2 ho3 h14 h15 hp15;rintro n st - - ⟨p,q,hn,hg,hq,h0,hU,h2,hp2,hp2',h3,hp3,h4,⟨ho1,ho2,ho3⟩⟩;have hgl:=hg.len;rcases iR n with rfl|hn0
 .skip
  refine jO ?_<|kH h4 h2 hp2 hp2' h3<|hp3;refine qE [(.c (.s 3) 0 0,root)] (.one rfl) aR ⟨p,q,qB,⟨?_,λj r hj=>?_,λj r hj=>?_⟩,⟨hg,qA⟩,zo⟩
  .simp [ho1,hr0,zW (n:=.c (.s 3) 0 0) (m:=root) (f:=jY (Nm.under (.u 1 0 0)) [(.c (.s 3) 0 0,root)]) (p:=p) eP]
  .simp [ho2 j r hj,hr0]
  .simp [ho3 j r hj,hr0]
 have hl1:0<p.length:=qA;have hwl:IntKind.i64.wrap ((p.length:Int) - 1)=((p.length - 1:Nat):Int):=iK;refine jO ?_<|kH h0 h3 hp3 h4 hn0<|hwl
 first|show qO _ _ _ _ _|intro K hK
 refine l7 (hs:=zo) (ha:=iG) (hF:=un _ _ bs q p.length hb qA qA zo) (h:=?_);rintro x px ⟨hx,rfl⟩;have hxl:x<p.length:=qA;refine jO ?_<|j4 h0 h3 hp3<|hwl
 first|show qO _ _ _ _ _|intro K hK
 refine bG (bN _) 31 [((p.length - 1:Nat):Int),(x:Int)] (bs:=bs) (pos:=q+1) hb qA (hV:=hV) (h0:=qu) (h1:=qB) (hH:=qB) (hL:=zU) (h:=?_);intro par hpar
 obtain⟨par,rfl,hparl⟩:∃ r:Nat,par=r/\r<p.length:=by
  simp at hpar;rcases hpar with rfl|rfl
  .exact⟨_,rfl,qA⟩
  .exact⟨_,rfl,hxl⟩
 clear hpar hx;refine jO ?_<|j4 h0 h3 hp3<|hwl
 first|show qO _ _ _ _ _|intro K hK
 refine bG (bN _) 35 [1,1,1,2] (bs:=bs) (pos:=q+1+1) hb qA (hV:=hV) (h0:=qu) (h1:=qB) (hH:=qB) (hL:=zU) (h:=?_);intro kd hkd;have hkdR:kd=1\/kd=2:=by simp at hkd;omega
 refine jO ?_<|j4 h0 h3 hp3<|hwl
 first|show qO _ _ _ _ _|intro K hK
 refine oK (bs:=bs) (hs:=qB) (ha:=iG) (hF:=mq _ _ bs (q+1+1+1) kd par hb qA qB qB) (h:=?_);rintro z H1 ⟨k1,q1,rfl,hk2,hk3,⟨hkk1,hkpar1,hkp1,hkb1,hq1,hkT1⟩,hU1⟩;refine⟨q1,hU1,?_⟩;obtain⟨kp,hkp'⟩:∃ k,p[par]?=some k:=⟨_,gE hparl⟩;obtain⟨_,hkpE⟩:=gS hkp';have hkpT:=hg.txt.qBZ kp (gM hkp');have hbb:kp.body.length<=14:=hg.body kp (gM hkp');have hwk:IntKind.i64.wrap ((kp.body.length:Int)+1)=((kp.body.length+1:Nat):Int):=iK;refine jO ?_<|ko h0 h3 hp3 ho1 hkp' hkpE hparl<|hwk
 first|show qO _ _ _ _ _|intro K hK
 refine uD (λst=>st.tm 0=.pt (.u 1 0 0) 0/\st.hp (.u 1 0 0)=some (Zo bs q1)/\st.tm 2=.pt (.s 2) 0/\st.hp (.s 2)=some (.row 1 [[.hs (.c (.s 2) 0 0) 4 0 0]])/\st.hp (.c (.s 2) 0 0)=some (.row 4 [])/\st.tm 3=.pt (.s 3) 0/\st.hp (.s 3)=some (.row 1 [[.hs (.c (.s 3) 0 0) 4 0 p.length]])/\st.tm 4=iv n/\Z3 st.hp (.c (.s 3) 0 0) p/\st.tm 5=iv par/\st.tm 6=.pt (.s 6) 0/\st.hp (.s 6)=some (.row 4 [[iv k1.kind,iv k1.parent,.hs (.c (.s 38) 0 2) 1 0 k1.params.length,.hs (.c (.s 38) 0 3) 4 0 k1.body.length]])/\st.hp (.c (.s 38) 0 2)=some (.row 1 (qS k1.params))/\st.hp (.c (.s 38) 0 3)=some (.row 4 (jI k1.body)) /\
  st.tm 7=.hs (.c (.c (.s 3) 0 0) par 3) 4 0 kp.body.length/\st.tm 45=.pt (.u 1 0 0) 0/\st.tm 48=iv ((kp.body.length+1:Nat):Int)) ⟨qu,qB,qj,qn,ug,zN,yJ,jW,⟨vE,λj r hj=>uP,λj r hj=>uO⟩,qB,qB,qB,by simp [hk2],by simp [hk3],qB,qu,qB⟩ ?_
 clear h0 hU h2 hp2 hp2' h3 hp3 h4 ho1 ho2 ho3 hU1 hk2 hk3;rintro st ⟨h0,hU,h2,hp2,hp2',h3,hp3,h4,⟨ho1,ho2,ho3⟩,h5,h6,hp6,hp62,hp63,h7,h45,h48⟩;have hob:=ho3 par kp hkp';refine l7 (hs:=zo) (ha:=by first|(simp [h45,h48];done)|(simp [h45,h48];rfl)) (hF:=un _ _ bs q1 (kp.body.length+1) hb qA qA zo) (h:=?_);rintro at0 px ⟨hx,rfl⟩;have hat:at0<=kp.body.length:=qA;clear hx;have hV4':(bz prog C w g H Tryz.f118.ntmps gl).ext (.u 4 0 0)=false:=by simp [bz,hV4]
 have hV5':(bz prog C w g H Tryz.f118.ntmps gl).ext (.u 5 0 0)=false:=by simp [bz,hV5]
 have hbr:at0=0\/0<at0:=iR at0;rcases hbr with rfl|hat0
 case' inl =>
  refine jO ?_<|ko h0 h3 hp3 h5 h6 hp6 h7<|hob
  first|show qO _ _ _ _ _|intro K hK
  refine lx (.c (.s 38) 0 2) (.u 4 0 0) 74 hV4' ?_;refine lx (.c (.s 38) 0 3) (.u 5 0 0) 74 hV5' ?_;refine oK (bs:=bs) (hs:=zo) (ha:=iG) (hF:=pG _ _ bs (q1+1) k1.kind k1.parent p.length k1.params.length k1.body.length qA hb qA zo qB) (h:=?_);rintro y H2 ⟨L2,q2,rfl,hL2,⟨hL2l,hq2,hL2T⟩,hU2⟩;refine⟨q2,hU2,?_⟩;refine jO ?_<|er h0 h3 hp3 h5 h6 hp6 h7 hob<|hL2;refine uk (λst=>∃ (X:List Y5) (q2:Nat),X.length<=16/\(∀ s∈X,Zj s)/\q2<=q1+6/\st.tm 0=.pt (.u 1 0 0) 0/\st.hp (.u 1 0 0)=some (Zo bs q2)/\st.tm 2=.pt (.s 2) 0/\st.hp (.s 2)=some (.row 1 [[.hs (.c (.s 2) 0 0) 4 0 0]])/\st.hp (.c (.s 2) 0 0)=some (.row 4 [])/\st.tm 3=.pt (.s 3) 0/\st.hp (.s 3)=some (.row 1 [[.hs (.c (.s 3) 0 0) 4 0 p.length]])/\st.tm 4=iv n/\Z3 st.hp (.c (.s 3) 0 0) p/\st.tm 5=iv par/\st.tm 6=.pt (.s 6) 0/\st.hp (.s 6)=some (.row 4 [[iv k1.kind,iv k1.parent,.hs (.c (.s 38) 0 2) 1 0 k1.params.length,.hs (.c (.s 38) 0 3) 4 0 k1.body.length]])/\st.hp (.c (.s 38) 0 2)=some (.row 1 (qS k1.params))/\st.hp (.c (.s 38) 0 3)=some (.row 4 (jI k1.body)) /\
  st.tm 7=.hs (.s 7) 4 0 X.length/\st.hp (.s 7)=some (.row 4 (jI X))/\st.tm 84=bv (decide (X.length<=12))) ⟨(kp.body.take (0)++L2++kp.body.drop (0)),q2,qv,K7 hkpT hL2T,qA,qu,qB,qj,qn,ug,zN,yJ,jW,⟨vE,λj r hj=>uP,λj r hj=>uO⟩,zA,zL,va,rU,rY,mW,Fv,mW⟩ ?_
  clear hU2 hL2
 case' inr =>
  obtain⟨s1,hs1⟩:∃ s1,kp.body[at0 - 1]?=some s1:=⟨_,gE qA⟩;obtain⟨hs1l,hs1E⟩:=gS hs1;have hwa:IntKind.i64.wrap ((at0:Int) - 1)=((at0 - 1:Nat):Int):=iK;have hle1:at0 - 1<=kp.body.length:=qA;rcases (by cases hk:(s1.kind==8) <;> simp:(s1.kind==8)=false\/(s1.kind==8)=true) with hk8|hk8
  case' inl =>
   refine jO ?_<|qQ h0 h3 hp3 h5 h6 hp6 h7 hob hat0 hs1 hs1E hs1l<|jD hwa hat<|hk8
   first|show qO _ _ _ _ _|intro K hK
   refine lx (.c (.s 38) 0 2) (.u 4 0 0) 74 hV4' ?_;refine lx (.c (.s 38) 0 3) (.u 5 0 0) 74 hV5' ?_;refine oK (bs:=bs) (hs:=zo) (ha:=iG) (hF:=pG _ _ bs (q1+1) k1.kind k1.parent p.length k1.params.length k1.body.length qA hb qA zo qB) (h:=?_);rintro y H2 ⟨L2,q2,rfl,hL2,⟨hL2l,hq2,hL2T⟩,hU2⟩;refine⟨q2,hU2,?_⟩;refine jO ?_<|er h0 h3 hp3 h5 h6 hp6 h7 hob<|hL2;refine uk (λst=>∃ (X:List Y5) (q2:Nat),X.length<=16/\(∀ s∈X,Zj s)/\q2<=q1+6/\st.tm 0=.pt (.u 1 0 0) 0/\st.hp (.u 1 0 0)=some (Zo bs q2)/\st.tm 2=.pt (.s 2) 0/\st.hp (.s 2)=some (.row 1 [[.hs (.c (.s 2) 0 0) 4 0 0]])/\st.hp (.c (.s 2) 0 0)=some (.row 4 [])/\st.tm 3=.pt (.s 3) 0/\st.hp (.s 3)=some (.row 1 [[.hs (.c (.s 3) 0 0) 4 0 p.length]])/\st.tm 4=iv n/\Z3 st.hp (.c (.s 3) 0 0) p/\st.tm 5=iv par/\st.tm 6=.pt (.s 6) 0/\st.hp (.s 6)=some (.row 4 [[iv k1.kind,iv k1.parent,.hs (.c (.s 38) 0 2) 1 0 k1.params.length,.hs (.c (.s 38) 0 3) 4 0 k1.body.length]])/\st.hp (.c (.s 38) 0 2)=some (.row 1 (qS k1.params))/\st.hp (.c (.s 38) 0 3)=some (.row 4 (jI k1.body)) /\
  st.tm 7=.hs (.s 7) 4 0 X.length/\st.hp (.s 7)=some (.row 4 (jI X))/\st.tm 84=bv (decide (X.length<=12))) ⟨(kp.body.take (at0)++L2++kp.body.drop (at0)),q2,qv,K7 hkpT hL2T,qA,qu,qB,qj,qn,ug,zN,yJ,jW,⟨vE,λj r hj=>uP,λj r hj=>uO⟩,zA,zL,va,rU,rY,mW,Fv,mW⟩ ?_
   clear hU2 hL2
  case' inr =>
   refine jO ?_<|qQ h0 h3 hp3 h5 h6 hp6 h7 hob hat0 hs1 hs1E hs1l<|jD hwa hle1<|hk8
   first|show qO _ _ _ _ _|intro K hK
   refine lx (.c (.s 38) 0 2) (.u 4 0 0) 74 hV4' ?_;refine lx (.c (.s 38) 0 3) (.u 5 0 0) 74 hV5' ?_;refine oK (bs:=bs) (hs:=zo) (ha:=iG) (hF:=pG _ _ bs (q1+1) k1.kind k1.parent p.length k1.params.length k1.body.length qA hb qA zo qB) (h:=?_);rintro y H2 ⟨L2,q2,rfl,hL2,⟨hL2l,hq2,hL2T⟩,hU2⟩;refine⟨q2,hU2,?_⟩;refine jO ?_<|er h0 h3 hp3 h5 h6 hp6 h7 hob<|hL2;refine uk (λst=>∃ (X:List Y5) (q2:Nat),X.length<=16/\(∀ s∈X,Zj s)/\q2<=q1+6/\st.tm 0=.pt (.u 1 0 0) 0/\st.hp (.u 1 0 0)=some (Zo bs q2)/\st.tm 2=.pt (.s 2) 0/\st.hp (.s 2)=some (.row 1 [[.hs (.c (.s 2) 0 0) 4 0 0]])/\st.hp (.c (.s 2) 0 0)=some (.row 4 [])/\st.tm 3=.pt (.s 3) 0/\st.hp (.s 3)=some (.row 1 [[.hs (.c (.s 3) 0 0) 4 0 p.length]])/\st.tm 4=iv n/\Z3 st.hp (.c (.s 3) 0 0) p/\st.tm 5=iv par/\st.tm 6=.pt (.s 6) 0/\st.hp (.s 6)=some (.row 4 [[iv k1.kind,iv k1.parent,.hs (.c (.s 38) 0 2) 1 0 k1.params.length,.hs (.c (.s 38) 0 3) 4 0 k1.body.length]])/\st.hp (.c (.s 38) 0 2)=some (.row 1 (qS k1.params))/\st.hp (.c (.s 38) 0 3)=some (.row 4 (jI k1.body)) /\
  st.tm 7=.hs (.s 7) 4 0 X.length/\st.hp (.s 7)=some (.row 4 (jI X))/\st.tm 84=bv (decide (X.length<=12))) ⟨(kp.body.take (at0 - 1)++L2++kp.body.drop (at0 - 1)),q2,qv,K7 hkpT hL2T,qA,qu,qB,qj,qn,ug,zN,yJ,jW,⟨vE,λj r hj=>uP,λj r hj=>uO⟩,zA,zL,va,rU,rY,mW,Fv,mW⟩ ?_
   clear hU2 hL2
 all_goals
  rintro st ⟨X,q2,hXl,hXT,hq2,h0,hU,h2,hp2,hp2',h3,hp3,h4,⟨ho1,ho2,ho3⟩,h5,h6,hp6,hp62,hp63,h7,hp7,h84⟩;have hwn:IntKind.i64.wrap ((n:Int) - 1)=((n - 1:Nat):Int):=iK;by_cases hx12:X.length<=12
  .have yF:=dn (n:=.c (.s 3) 0 0) (a:=7) (i:=par) (len:=X.length) (p:=p) (L:=X) rfl qB qB;have hsl:(setBody p par X).length=p.length:=u4;refine jO ?_<|qQ h0 h3 hp3 h4 h5 h6 hp6 h7 hp7 h84 ho1 hkp'<|kH hkpE hparl hx12 yF hsl<|hwn;have hg':qAO (setBody p par X++[k1]):=(hg.setBody qA hXT).add (by rw [hsl];omega) (by rw [hkpar1,hsl];omega) (by rw [hkk1];exact hkdR) qA qA hkT1;refine⟨n - 1,qA,setBody p par X++[k1],q2,qv,hg',qA,qu,zo,qj,qn,ug,zN,qB,qB,⟨?_,λd r hd=>?_,λd r hd=>?_⟩⟩
   .rw [Ca];simp;exact bC qB
   all_goals
    rw [Dv] at hd
    split at hd
    .rename_i hdl;have hdp:d<p.length:=by rwa [hsl] at hdl
     obtain⟨r0,hr0'⟩:∃ r0,p[d]?=some r0:=⟨_,gE hdp⟩;rw [kX hr0'] at hd;obtain rfl:=sI hd;have hdn:¬ p.length=d:=qA;have hdn':¬ d=p.length:=qA;by_cases hpd:par=d
     .subst hpd;simp [ho2 par r0 hr0',hp7,hdn,hdn']
     .simp [ho2 d r0 hr0',ho3 d r0 hr0',hpd,show ¬ d=par from λe=>hpd e.symm,hdn,hdn']
    .rename_i hdl
     have hde:d=p.length:=by
      have h1:=(gS hd).1;simp at h1;omega
     subst hde;rw [hsl,Dx] at hd;simp at hd;subst hd;simp [hp62,hp63]
  .skip
   refine jO ?_<|j4 h4 h84 hx12<|hwn;exact⟨n - 1,qA,p,q2,qA,hg,qA,qu,zo,qj,qn,ug,zN,yJ,qB,⟨vE,λj r hj=>uP,λj r hj=>uO⟩⟩
end Go.Proofs.YtdnebaieamppbaaGreatDoor
end
section
namespace Go.Proofs.YtdnebaieamppbaaGreatDoor
open Go Go.Hm Go.Proofs Tryz
theorem Sw (gl) (p:YU) (hs:Zm p):qX prog gl 167 [Zc p] (λr z H'=>z=.agg [.hs r 4 0 p.length]/\Z3 H' r (lY p)):=by
 have hpl:=hs.len;refine qX.Yb func167 [.cell 2 25] ntmps167 λC w g root=>?_;have fx:=Ya;have e1:=se gl p hs;refine qI ?_;clear fx e1
 first|rintro K hK z H' ⟨rfl,hO⟩|rintro z H' ⟨rfl,hO⟩
 obtain⟨ho1,ho2,ho3⟩:=hO.Yv;refine⟨qB,?_⟩;refine qD ?_<| ho1
 refine qR (λn st=>∃ i:Nat,n=p.length - i/\i<=p.length/\st.tm 1=.pt (.s 1) 0/\st.hp (.s 1)=some (.row 1 [[ZY p]])/\st.tm 2=.pt (.s 2) 0/\st.hp (.s 2)=some (.row 1 [[.hs (.c (.s 2) 0 0) 4 0 0]])/\st.hp (.c (.s 2) 0 0)=some (.row 4 []) /\
  st.tm 3=.pt (.s 3) 0/\st.hp (.s 3)=some (.row 1 [[.hs (.c (.s 3) 0 0) 4 0 p.length]])/\st.tm 4=iv i/\Z3 st.hp (.c (.s 3) 0 0) (dx md p i)) p.length ?_ ?_
 .refine⟨0,qA,qA,qB,qB,qB,qB,qB,qB,qB,qB,?_⟩;rw [Iw];exact⟨vE,λj r hj=>uP,λj r hj=>uO⟩
 clear ho1 ho2 ho3 hO;rintro n st - - ⟨i,rfl,hi,h1,hp1,h2,hp2,hp2',h3,hp3,h4,⟨ho1,ho2,ho3⟩⟩;refine qD ?_<|jD h3 hp3<|h4;refine wJ zK (λht=>?_) (λhf=>?_)
 .have hlt:i<p.length:=zE;obtain⟨k,hk⟩:=gX hlt;obtain⟨_,hkE⟩:=gS hk;obtain⟨hkp,hkb⟩:=hs.bsm hk;clear ht;refine qD ?_<|Ya
  refine qR (λn st=>∃ j:Nat,n=k.body.length - j/\j<=k.body.length/\st.tm 1=.pt (.s 1) 0/\st.hp (.s 1)=some (.row 1 [[ZY p]])/\st.tm 2=.pt (.s 2) 0/\st.hp (.s 2)=some (.row 1 [[.hs (.c (.s 2) 0 0) 4 0 0]])/\st.hp (.c (.s 2) 0 0)=some (.row 4 []) /\
   st.tm 3=.pt (.s 3) 0/\st.hp (.s 3)=some (.row 1 [[.hs (.c (.s 3) 0 0) 4 0 p.length]])/\st.tm 4=iv i/\Z3 st.hp (.c (.s 3) 0 0) (dx md p i)/\st.tm 6=iv j/\st.tm 5=.hs (.s 5) 4 0 (iP (k.body.take j)).length/\st.hp (.s 5)=some (.row 4 (jI (iP (k.body.take j))))) k.body.length ?_ ?_
  .refine⟨0,qA,qA,qz,jp,qj,qn,ug,zN,yJ,jW,⟨vE,λj r hj=>uP,λj r hj=>uO⟩,qB,by simp [iP],by simp [iP]⟩
  clear h1 hp1 h2 hp2 hp2' h3 hp3 h4 ho1 ho2 ho3;rintro n st - - ⟨j,rfl,hj,h1,hp1,h2,hp2,hp2',h3,hp3,h4,⟨ho1,ho2,ho3⟩,h6,h5,hp5⟩;have Ym:(iP (k.body.take j)).length<=j:=uS Dl qv;have hst:=λs (h:k.body[j]?=some s)=>Jc h;generalize hL:iP (k.body.take j)=L at h5 hp5 Ym hst;refine qD ?_<|kG h1 hp1 h4 h6 hk hkE<|hlt;refine wJ zK (λht=>?_) (λhf=>?_)
  .have hjl:j<k.body.length:=zE;obtain⟨s,hsi⟩:=gX hjl;obtain⟨_,hsE⟩:=gS hsi;have hst:=hst s hsi;clear ht
   cases hd:((s.kind==9)||(s.kind==10))
   .obtain⟨h9,h10⟩:(s.kind==9)=false/\(s.kind==10)=false:=by simpa using hd
    rw [hd] at hst;simp only [cH,if_false] at hst;refine qD ?_<|qQ h1 hp1 h4 h6 hk hkE hlt hsi hsE hjl h9 h10<|jD @qT h5<|hp5;refine⟨k.body.length - (j+1),qA,j+1,rfl,qA,qz,jp,qj,qn,ug,zN,yJ,jW,⟨vE,λj r hj=>uP,λj r hj=>uO⟩,q8,by simp [hst],?_⟩;rw [hst,<- wm];simp [hp5]
   .have hd':(s.kind==9)=true\/((s.kind==9)=false/\(s.kind==10)=true):=by
     revert hd
     cases (s.kind==9) <;> cases (s.kind==10) <;> simp
    rw [hd] at hst;simp only [if_true] at hst;rcases hd' with h9|⟨h9,h10⟩
    case' inl=>have h10:True:=trivial
    all_goals
     refine qD ?_<|qQ h1 hp1 h4 h6 hk hkE hlt hsi hsE hjl h9 h10<|@qT;exact⟨k.body.length - (j+1),qA,j+1,rfl,qA,qz,jp,qj,qn,ug,zN,yJ,jW,⟨vE,λj r hj=>uP,λj r hj=>uO⟩,q8,by simp [hst,h5],by simp [hst,hp5]⟩
  .have hge:j=k.body.length:=by
    have:¬ j<k.body.length:=zS;omega
   subst hge;rw [kM] at hL;subst hL;clear hf hst;have yF:=dn (n:=.c (.s 3) 0 0) (a:=5) (i:=i) (len:=(iP k.body).length) (p:=dx md p i) (L:=iP k.body) rfl qB qB;have hmg:=Cu (f:=md) hk;obtain⟨_,hmgE⟩:=gS hmg;have hml:=Ct (f:=md) (l:=p) hi;refine qD ?_<|jP h3 hp3 h4 h5 hp5 ho1 hmg hmgE hlt yF<|hml;refine⟨p.length - (i+1),qA,i+1,rfl,qA,qz,jp,qj,qn,ug,zN,yJ,GD,?_⟩;rw [<- GT hk];refine⟨by simp [yF],λd r hd=>?_,λd r hd=>?_⟩
   all_goals
    have hl:d<(dx md p i).length:=by
     have:=(gS hd).1
     rwa [u4] at this
    obtain⟨q,hq⟩:=gX hl;rw [kX hq] at hd;obtain rfl:=sI hd;by_cases hid:i=d
   .subst hid;simp [ho2 i q hq]
   .simp [ho2 d q hq,hid,show ¬ d=i from λe=>hid e.symm]
   .subst hid;simp [hp5]
   .simp [ho3 d q hq,hid,show ¬ d=i from λe=>hid e.symm]
 .have hge:i=p.length:=by
   have:¬ i<p.length:=zS;omega
  subst hge;rw [Ll] at ho1 ho2 ho3;have hbp:p.map md=lY p:=rfl;rw [hbp] at ho1 ho2 ho3;refine qD ?_<|yl h2 hp2 hp2' h3<|hp3;refine qE [(.c (.s 3) 0 0,root)] (.one rfl) aR ⟨qB,⟨?_,λj r hj=>?_,λj r hj=>?_⟩⟩
  .simp [ho1,zW (n:=.c (.s 3) 0 0) (m:=root) (f:=jY Z5 [(.c (.s 3) 0 0,root)]) (p:=lY p) qB]
  .simp [ho2 j r hj]
  .simp [ho3 j r hj]
end Go.Proofs.YtdnebaieamppbaaGreatDoor
end
