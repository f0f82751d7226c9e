import Derived.Test.YtjgpejikjhojcaaGreatDoorD44
set_option linter.all false
set_option maxRecDepth 100000
set_option maxHeartbeats 4000000
open Option renaming some->Z,none->Y
open Bool renaming true->B,false->M
open List renaming length->O

section
namespace Go.Proofs.YtjgpejikjhojcaaGreatDoor
open Go Go.Hm Go.Proofs Tryz
abbrev Y4:qV:=eG<|.l 9 [4,3,2,1,0]<|.l 10 [0]<|.l 11 []<|.l 12 []<|.done
abbrev Y5:qV:=.q 1<|.q 2<|.q 3<|.q 5<|.q 6<|.q 7<|.q 8<|.q 9<|.q 12<|.l 0 [12,9,8,7,6,5,3,2,1]<|.l 4 [12,9,8,7,6,5]<|.l 10 [12]<|.l 11 [12]<|.l 13 []<|.l 14 []<|.done
attribute [local simp] kM lh
def Ue{l L2:List qT}{A:Nat}(h:A<=O l):List.take (A+O L2) (List.take A (List.take A l)++L2)++List.take (O l-A) (List.take (O l-A) (List.drop A l))=List.take A l++(L2++List.drop A l):=by
 have e1:List.take A (List.take A l)=List.take A l:=by rw[List.take_take,Nat.min_self]
 have e2:List.take (A+O L2) (List.take A l++L2)=List.take A l++L2:=jg qp;have e3:List.take (O l-A) (List.drop A l)=List.drop A l:=jg qB;rw[e1,e2,e3,e3,gm]
def bV{A G G2:Prop}(k:G2)(x:A)(h:A->jH G2->G:=by
 intro fx kk;refine qK ?_
 repeat((first|refine qP (id:=5) Y4 mixed ?_|refine qP (id:=12) Y5 mixed ?_);refine zC ?_;refine qK ?_)
 exact kk.h):G:=h x ⟨k⟩
def qBX(gl)(H:Nm->Option AO)(bs:List Int)(pos:Nat)(hb:ab bs)(hpos:pos<=700000)(hH:H (.u 1 0 0)=Z (jT bs pos))(hV:H (.u 2 0 0)=Y)(hV4:H (.u 4 0 0)=Y)(hV5:H (.u 5 0 0)=Y):
  qX prog gl 94 (Nm.under (.u 1 0 0)) [.pt (.u 1 0 0) 0] H (JX bs (λp pos'=>wg p/\pos'<=pos+1000)) qw:=by
 refine qX.q9 func94 [.cell 2 34] ntmps94 (λ_=>y8 rfl) λC w g root hroot=>?_;have hr0:=hroot root (Nm.uQ _);refine bV ?_<|qW
 first|show qe _ _ _ _ _|intro K hK
 refine pU (bs:=bs) (hs:=zo) (ha:=uq) (hF:=PA _ _ bs pos 0 (-1) hb qA zo qB) (h:=?_);rintro z H1 ⟨k0,p0,rfl,hk2,hk3,⟨hkk,hkpar,hkp,hkb,hp0,hkT⟩,hU⟩;refine⟨p0,hU,?_⟩;refine bV ?_<|qW
 first|show qe _ _ _ _ _|intro K hK
 refine kU (.c (.s 11) 0 2) (.c (.c (.s 3) 0 0) 0 2) (.inl rfl) (.inl rfl) ?_;refine kU (.c (.s 11) 0 3) (.c (.c (.s 3) 0 0) 0 3) (.inl rfl) (.inl rfl) ?_
 refine uM (λst=>st.tm 0=.pt (.u 1 0 0) 0/\st.hp (.u 1 0 0)=Z (jT bs p0)/\st.tm 2=.pt (.s 2) 0/\st.hp (.s 2)=Z (.row 1 [[.hs (.c (.s 2) 0 0) 4 0 0]])/\st.hp (.c (.s 2) 0 0)=Z (.row 4 [])/\st.tm 3=.pt (.s 3) 0/\st.hp (.s 3)=Z (.row 1 [[.hs (.c (.s 3) 0 0) 4 0 1]])/\uz st.hp (.c (.s 3) 0 0) [k0] /\
  st.tm 14=.pt (.u 1 0 0) 0/\st.tm 15=.hs (.s 15) 1 0 6/\st.hp (.s 15)=Z (.row 1 (qh [3,2,4,1,5,0]))) ⟨qB,qB,qB,qB,qB,qB,qB,⟨Al,λj k hk=>?_,λj k hk=>?_⟩,qB,qB,y3⟩ ?_
 .cases j with
  |zero=>simp at hk;subst hk;simp[hk2]
  |succ j=>simp at hk
 .cases j with
  |zero=>simp at hk;subst hk;simp[hk3]
  |succ j=>simp at hk
 clear hU hk2 hk3;rintro st ⟨h0,hU,h2,hp2,hp2',h3,hp3,⟨ho1,ho2,ho3⟩,h14,h15,hp15⟩;refine bj (b7 _) 15 [3,2,4,1,5,0] (bs:=bs) (pos:=p0) hb qA (hV:=hV) (h0:=h14) (h1:=tV) (hH:=hU) (hL:=by simp[hp15]) (h:=?_);intro v hv;have hvr:0<=v/\v<=5:=mO;obtain⟨V,rfl⟩:∃V:Nat,v=V:=⟨v.toNat,qA⟩;refine bV ?_<|qW;refine zK (λn st=>∃(p:qC)(q:Nat),n+O p<=6/\wg p/\q+100*n<=pos+700/\st.tm 0=.pt (.u 1 0 0) 0/\st.hp (.u 1 0 0)=Z (jT bs q)/\st.tm 2=.pt (.s 2) 0/\st.hp (.s 2)=Z (.row 1 [[.hs (.c (.s 2) 0 0) 4 0 0]])/\st.hp (.c (.s 2) 0 0)=Z (.row 4 [])/\st.tm 3=.pt (.s 3) 0/\st.hp (.s 3)=Z (.row 1 [[.hs (.c (.s 3) 0 0) 4 0 (O p)]])/\st.tm 4=iv n/\uz st.hp (.c (.s 3) 0 0) p) V ?_ ?_
 .exact⟨[k0],p0+1,qp,wg.one hkpar hkk qA qA hkT,qA,yL,qB,jS,jV,kD,jr,uo,qB,⟨kR,λj r hj=>wm,λj r hj=>wl⟩⟩
 clear h0 hU h2 hp2 hp2' h3 hp3 ho1 ho2 ho3 h14 h15 hp15;rintro n st - - ⟨p,q,hn,hg,hq,h0,hU,h2,hp2,hp2',h3,hp3,h4,⟨ho1,ho2,ho3⟩⟩;have hgl:=hg.len;rcases fN n with rfl|hn0
 .skip
  refine bV ?_<|zx h4 h2 hp2 hp2' h3<|hp3;refine qE [(.c (.s 3) 0 0,root)] (.one rfl) bp ⟨p,q,qB,⟨?_,λj r hj=>?_,λj r hj=>?_⟩,⟨hg,qA⟩,vH⟩
  .simp [ho1,hr0,wV (n:=.c (.s 3) 0 0) (m:=root) (f:=zH (Nm.under (.u 1 0 0)) [(.c (.s 3) 0 0,root)]) (p:=p) tE]
  .simp [ho2 j r hj,hr0]
  .simp [ho3 j r hj,hr0]
 have hl1:0<O p:=qA;have hwl:IntKind.i64.wrap ((O p:Int)-1)=((O p-1:Nat):Int):=iB;refine bV ?_<|zx h0 h3 hp3 h4 hn0<|hwl
 first|show qe _ _ _ _ _|intro K hK
 refine uU (hs:=vH) (ha:=tU) (hF:=dz _ _ bs q (O p) hb qA qA vH) (h:=?_);rintro x px ⟨hx,rfl⟩;have hxl:x<O p:=qA;refine bV ?_<|qz h0 h3 hp3<|hwl
 first|show qe _ _ _ _ _|intro K hK
 refine bj (b7 _) 31 [((O p-1:Nat):Int),(x:Int)] (bs:=bs) (pos:=q+1) hb qA (hV:=hV) (h0:=yL) (h1:=qB) (hH:=qB) (hL:=y3) (h:=?_);intro par hpar
 obtain⟨par,rfl,hparl⟩:∃r:Nat,par=r/\r<O p:=by
  simp at hpar;rcases hpar with rfl|rfl
  .exact⟨_,rfl,qA⟩
  .exact⟨_,rfl,hxl⟩
 clear hpar hx;refine bV ?_<|qz h0 h3 hp3<|hwl
 first|show qe _ _ _ _ _|intro K hK
 refine bj (b7 _) 35 [1,1,1,2] (bs:=bs) (pos:=q+1+1) hb qA (hV:=hV) (h0:=yL) (h1:=qB) (hH:=qB) (hL:=y3) (h:=?_);intro kd hkd;have hkdR:kd=1\/kd=2:=by simp at hkd;omega
 refine bV ?_<|qz h0 h3 hp3<|hwl
 first|show qe _ _ _ _ _|intro K hK
 refine pU (bs:=bs) (hs:=qB) (ha:=tU) (hF:=PA _ _ bs (q+1+1+1) kd par hb qA qB qB) (h:=?_);rintro z H1 ⟨k1,q1,rfl,hk2,hk3,⟨hkk1,hkpar1,hkp1,hkb1,hq1,hkT1⟩,hU1⟩;refine⟨q1,hU1,?_⟩;obtain⟨kp,hkp'⟩:∃k,p[par]?=Z k:=⟨_,gE hparl⟩;obtain⟨_,hkpE⟩:=gS hkp';have hkpT:=hg.bg.eM kp (gM hkp');have hbb:O kp.body<=14:=hg.body kp (gM hkp');have hwk:IntKind.i64.wrap ((O kp.body:Int)+1)=((O kp.body+1:Nat):Int):=iB;refine bV ?_<|jA h0 h3 hp3 ho1 hkp' hkpE hparl<|hwk
 first|show qe _ _ _ _ _|intro K hK
 refine uM (λst=>st.tm 0=.pt (.u 1 0 0) 0/\st.hp (.u 1 0 0)=Z (jT bs q1)/\st.tm 2=.pt (.s 2) 0/\st.hp (.s 2)=Z (.row 1 [[.hs (.c (.s 2) 0 0) 4 0 0]])/\st.hp (.c (.s 2) 0 0)=Z (.row 4 [])/\st.tm 3=.pt (.s 3) 0/\st.hp (.s 3)=Z (.row 1 [[.hs (.c (.s 3) 0 0) 4 0 (O p)]])/\st.tm 4=iv n/\uz st.hp (.c (.s 3) 0 0) p/\st.tm 5=iv par/\st.tm 6=.pt (.s 6) 0/\st.hp (.s 6)=Z (.row 4 [[iv k1.kind,iv k1.parent,.hs (.c (.s 38) 0 2) 1 0 (O k1.params),.hs (.c (.s 38) 0 3) 4 0 (O k1.body)]])/\st.hp (.c (.s 38) 0 2)=Z (.row 1 (qh k1.params))/\st.hp (.c (.s 38) 0 3)=Z (.row 4 (yd k1.body)) /\
  st.tm 7=.hs (.c (.c (.s 3) 0 0) par 3) 4 0 (O kp.body)/\st.tm 45=.pt (.u 1 0 0) 0/\st.tm 48=iv ((O kp.body+1:Nat):Int)) ⟨yL,qB,jS,jV,kD,jr,uo,vO,⟨kR,λj r hj=>wm,λj r hj=>wl⟩,qB,qB,qB,by simp[hk2],by simp[hk3],qB,yL,qB⟩ ?_
 clear h0 hU h2 hp2 hp2' h3 hp3 h4 ho1 ho2 ho3 hU1 hk2 hk3;rintro st ⟨h0,hU,h2,hp2,hp2',h3,hp3,h4,⟨ho1,ho2,ho3⟩,h5,h6,hp6,hp62,hp63,h7,h45,h48⟩;have hob:=ho3 par kp hkp';refine uU (hs:=vH) (ha:=by first|(simp[h45,h48];done)|(simp[h45,h48];rfl)) (hF:=dz _ _ bs q1 (O kp.body+1) hb qA qA vH) (h:=?_);rintro at0 px ⟨hx,rfl⟩;have hat:at0<=O kp.body:=qA;clear hx;have hV4':(jt prog C w g H Tryz.f94.ntmps gl).ext (.u 4 0 0)=M:=by simp[jt,hV4]
 have hV5':(jt prog C w g H Tryz.f94.ntmps gl).ext (.u 5 0 0)=M:=by simp[jt,hV5]
 have hbr:at0=0\/0<at0:=fN at0;rcases hbr with rfl|hat0
 case' inl=>
  refine bV ?_<|jA h0 h3 hp3 h5 h6 hp6 h7<|hob
  first|show qe _ _ _ _ _|intro K hK
  refine xg (.c (.s 38) 0 2) (.u 4 0 0) 74 hV4' ?_;refine xg (.c (.s 38) 0 3) (.u 5 0 0) 74 hV5' ?_;refine pU (bs:=bs) (hs:=vH) (ha:=tU) (hF:=Gy _ _ bs (q1+1) k1.kind k1.parent (O p) (O k1.params) (O k1.body) qA hb qA vH qB) (h:=?_);rintro y H2 ⟨L2,q2,rfl,hL2,⟨hL2l,hq2,hL2T⟩,hU2⟩;refine⟨q2,hU2,?_⟩;refine bV ?_<|y9 h0 h3 hp3 h5 h6 hp6 h7 hob<|hL2;refine uR (λst=>∃(X:List qT)(q2:Nat),O X<=16/\(∀s∈X,vb s)/\q2<=q1+6/\st.tm 0=.pt (.u 1 0 0) 0/\st.hp (.u 1 0 0)=Z (jT bs q2)/\st.tm 2=.pt (.s 2) 0/\st.hp (.s 2)=Z (.row 1 [[.hs (.c (.s 2) 0 0) 4 0 0]])/\st.hp (.c (.s 2) 0 0)=Z (.row 4 [])/\st.tm 3=.pt (.s 3) 0/\st.hp (.s 3)=Z (.row 1 [[.hs (.c (.s 3) 0 0) 4 0 (O p)]])/\st.tm 4=iv n/\uz st.hp (.c (.s 3) 0 0) p/\st.tm 5=iv par/\st.tm 6=.pt (.s 6) 0/\st.hp (.s 6)=Z (.row 4 [[iv k1.kind,iv k1.parent,.hs (.c (.s 38) 0 2) 1 0 (O k1.params),.hs (.c (.s 38) 0 3) 4 0 (O k1.body)]])/\st.hp (.c (.s 38) 0 2)=Z (.row 1 (qh k1.params))/\st.hp (.c (.s 38) 0 3)=Z (.row 4 (yd k1.body)) /\
  st.tm 7=.hs (.s 7) 4 0 (O X)/\st.hp (.s 7)=Z (.row 4 (yd X))/\st.tm 84=bv (decide (O X<=12))) ⟨(kp.body.take (0)++L2++kp.body.drop (0)),q2,qp,I6 hkpT hL2T,qA,yL,qB,jS,jV,kD,jr,uo,vO,⟨kR,λj r hj=>wm,λj r hj=>wl⟩,jh,vZ,dU,Ai,A8,tR,Fq,tR⟩ ?_
  clear hU2 hL2
 case' inr=>
  obtain⟨s1,hs1⟩:∃s1,kp.body[at0 - 1]?=Z s1:=⟨_,gE qA⟩;obtain⟨hs1l,hs1E⟩:=gS hs1;have hwa:IntKind.i64.wrap ((at0:Int)-1)=((at0-1:Nat):Int):=iB;have hle1:at0-1<=O kp.body:=qA;rcases(by cases hk:(s1.kind==8)<;>simp:(s1.kind==8)=M\/(s1.kind==8)=B)with hk8|hk8
  case' inl=>
   refine bV ?_<|qg h0 h3 hp3 h5 h6 hp6 h7 hob hat0 hs1 hs1E hs1l<|ql hwa hat<|hk8
   first|show qe _ _ _ _ _|intro K hK
   refine xg (.c (.s 38) 0 2) (.u 4 0 0) 74 hV4' ?_;refine xg (.c (.s 38) 0 3) (.u 5 0 0) 74 hV5' ?_;refine pU (bs:=bs) (hs:=vH) (ha:=tU) (hF:=Gy _ _ bs (q1+1) k1.kind k1.parent (O p) (O k1.params) (O k1.body) qA hb qA vH qB) (h:=?_);rintro y H2 ⟨L2,q2,rfl,hL2,⟨hL2l,hq2,hL2T⟩,hU2⟩;refine⟨q2,hU2,?_⟩;refine bV ?_<|y9 h0 h3 hp3 h5 h6 hp6 h7 hob<|hL2;refine uR (λst=>∃(X:List qT)(q2:Nat),O X<=16/\(∀s∈X,vb s)/\q2<=q1+6/\st.tm 0=.pt (.u 1 0 0) 0/\st.hp (.u 1 0 0)=Z (jT bs q2)/\st.tm 2=.pt (.s 2) 0/\st.hp (.s 2)=Z (.row 1 [[.hs (.c (.s 2) 0 0) 4 0 0]])/\st.hp (.c (.s 2) 0 0)=Z (.row 4 [])/\st.tm 3=.pt (.s 3) 0/\st.hp (.s 3)=Z (.row 1 [[.hs (.c (.s 3) 0 0) 4 0 (O p)]])/\st.tm 4=iv n/\uz st.hp (.c (.s 3) 0 0) p/\st.tm 5=iv par/\st.tm 6=.pt (.s 6) 0/\st.hp (.s 6)=Z (.row 4 [[iv k1.kind,iv k1.parent,.hs (.c (.s 38) 0 2) 1 0 (O k1.params),.hs (.c (.s 38) 0 3) 4 0 (O k1.body)]])/\st.hp (.c (.s 38) 0 2)=Z (.row 1 (qh k1.params))/\st.hp (.c (.s 38) 0 3)=Z (.row 4 (yd k1.body)) /\
  st.tm 7=.hs (.s 7) 4 0 (O X)/\st.hp (.s 7)=Z (.row 4 (yd X))/\st.tm 84=bv (decide (O X<=12))) ⟨(kp.body.take (at0)++L2++kp.body.drop (at0)),q2,qp,I6 hkpT hL2T,qA,yL,qB,jS,jV,kD,jr,uo,vO,⟨kR,λj r hj=>wm,λj r hj=>wl⟩,jh,vZ,dU,Ai,A8,tR,Fq,tR⟩ ?_
   clear hU2 hL2
  case' inr=>
   refine bV ?_<|qg h0 h3 hp3 h5 h6 hp6 h7 hob hat0 hs1 hs1E hs1l<|ql hwa hle1<|hk8
   first|show qe _ _ _ _ _|intro K hK
   refine xg (.c (.s 38) 0 2) (.u 4 0 0) 74 hV4' ?_;refine xg (.c (.s 38) 0 3) (.u 5 0 0) 74 hV5' ?_;refine pU (bs:=bs) (hs:=vH) (ha:=tU) (hF:=Gy _ _ bs (q1+1) k1.kind k1.parent (O p) (O k1.params) (O k1.body) qA hb qA vH qB) (h:=?_);rintro y H2 ⟨L2,q2,rfl,hL2,⟨hL2l,hq2,hL2T⟩,hU2⟩;refine⟨q2,hU2,?_⟩;refine bV ?_<|y9 h0 h3 hp3 h5 h6 hp6 h7 hob<|hL2;refine uR (λst=>∃(X:List qT)(q2:Nat),O X<=16/\(∀s∈X,vb s)/\q2<=q1+6/\st.tm 0=.pt (.u 1 0 0) 0/\st.hp (.u 1 0 0)=Z (jT bs q2)/\st.tm 2=.pt (.s 2) 0/\st.hp (.s 2)=Z (.row 1 [[.hs (.c (.s 2) 0 0) 4 0 0]])/\st.hp (.c (.s 2) 0 0)=Z (.row 4 [])/\st.tm 3=.pt (.s 3) 0/\st.hp (.s 3)=Z (.row 1 [[.hs (.c (.s 3) 0 0) 4 0 (O p)]])/\st.tm 4=iv n/\uz st.hp (.c (.s 3) 0 0) p/\st.tm 5=iv par/\st.tm 6=.pt (.s 6) 0/\st.hp (.s 6)=Z (.row 4 [[iv k1.kind,iv k1.parent,.hs (.c (.s 38) 0 2) 1 0 (O k1.params),.hs (.c (.s 38) 0 3) 4 0 (O k1.body)]])/\st.hp (.c (.s 38) 0 2)=Z (.row 1 (qh k1.params))/\st.hp (.c (.s 38) 0 3)=Z (.row 4 (yd k1.body)) /\
  st.tm 7=.hs (.s 7) 4 0 (O X)/\st.hp (.s 7)=Z (.row 4 (yd X))/\st.tm 84=bv (decide (O X<=12))) ⟨(kp.body.take (at0-1)++L2++kp.body.drop (at0-1)),q2,qp,I6 hkpT hL2T,qA,yL,qB,jS,jV,kD,jr,uo,vO,⟨kR,λj r hj=>wm,λj r hj=>wl⟩,jh,vZ,dU,Ai,A8,tR,Fq,tR⟩ ?_
   clear hU2 hL2
 all_goals
  rintro st ⟨X,q2,hXl,hXT,hq2,h0,hU,h2,hp2,hp2',h3,hp3,h4,⟨ho1,ho2,ho3⟩,h5,h6,hp6,hp62,hp63,h7,hp7,h84⟩;have hwn:IntKind.i64.wrap ((n:Int)-1)=((n-1:Nat):Int):=iB;by_cases hx12:O X<=12
  .have jz:=B8 (n:=.c (.s 3) 0 0) (a:=7) (i:=par) (len:=O X) (p:=p) (L:=X) rfl qB qB;have hsl:O (setBody p par X)=O p:=sG;refine bV ?_<|qg h0 h3 hp3 h4 h5 h6 hp6 h7 hp7 h84 ho1 hkp'<|zx hkpE hparl hx12 jz hsl<|hwn;have hg':wg (setBody p par X++[k1]):=(hg.setBody qA hXT).add (by rw[hsl];omega) (by rw[hkpar1,hsl];omega) (by rw[hkk1];exact hkdR) qA qA hkT1;refine⟨n-1,qA,setBody p par X++[k1],q2,qp,hg',qA,yL,vH,jS,jV,kD,jr,qB,qB,⟨?_,λd r hd=>?_,λd r hd=>?_⟩⟩
   .rw [Dz];simp;exact jg qB
   all_goals
    rw[iw]at hd
    split at hd
    .rename_i hdl;have hdp:d<O p:=by rwa[hsl]at hdl
     obtain⟨r0,hr0'⟩:∃r0,p[d]?=Z r0:=⟨_,gE hdp⟩;rw[xt hr0']at hd;obtain rfl:=sI hd;have hdn:¬O p=d:=qA;have hdn':¬d=O p:=qA;by_cases hpd:par=d
     .subst hpd;simp[ho2 par r0 hr0',hp7,hdn,hdn']
     .simp [ho2 d r0 hr0',ho3 d r0 hr0',hpd,show ¬d=par from λe=>hpd e.symm,hdn,hdn']
    .rename_i hdl
     have hde:d=O p:=by
      have h1:=(gS hd).1;simp at h1;omega
     subst hde;rw[hsl,Nat.sub_self]at hd;simp at hd;subst hd;simp[hp62,hp63]
  .skip
   refine bV ?_<|qz h4 h84 hx12<|hwn;exact⟨n-1,qA,p,q2,qA,hg,qA,yL,vH,jS,jV,kD,jr,uo,qB,⟨kR,λj r hj=>wm,λj r hj=>wl⟩⟩
end Go.Proofs.YtjgpejikjhojcaaGreatDoor
end
section
namespace Go.Proofs.YtjgpejikjhojcaaGreatDoor
open Go Go.Hm Go.Proofs Tryz
def RU(gl)(p:qC)(hs:jm p):qL prog gl 95 [jB p] (λr z H'=>z=.agg [.hs r 4 0 (O p)]/\uz H' r (dQ p)):=by
 have hpl:=hs.len;refine qL.q9 func95 [.cell 2 34] ntmps95 λC w g root=>?_;have fx:=qW;have e1:=S9 gl p hs;refine qK ?_;clear fx e1
 first|rintro K hK z H' ⟨rfl,hO⟩|rintro z H' ⟨rfl,hO⟩
 obtain⟨ho1,ho2,ho3⟩:=hO.vj;refine⟨qB,?_⟩;refine qH ?_<| ho1
 refine zK (λn st=>∃i:Nat,n=O p-i/\i<=O p/\st.tm 1=.pt (.s 1) 0/\st.hp (.s 1)=Z (.row 1 [[j6 p]])/\st.tm 2=.pt (.s 2) 0/\st.hp (.s 2)=Z (.row 1 [[.hs (.c (.s 2) 0 0) 4 0 0]])/\st.hp (.c (.s 2) 0 0)=Z (.row 4 []) /\
  st.tm 3=.pt (.s 3) 0/\st.hp (.s 3)=Z (.row 1 [[.hs (.c (.s 3) 0 0) 4 0 (O p)]])/\st.tm 4=iv i/\uz st.hp (.c (.s 3) 0 0) (bY eZ p i)) (O p) ?_ ?_
 .refine⟨0,qA,qA,qB,qB,qB,qB,qB,qB,qB,qB,?_⟩;rw[WN];exact⟨kR,λj r hj=>wm,λj r hj=>wl⟩
 clear ho1 ho2 ho3 hO;rintro n st - - ⟨i,rfl,hi,h1,hp1,h2,hp2,hp2',h3,hp3,h4,⟨ho1,ho2,ho3⟩⟩;refine qH ?_<|ql h3 hp3<|h4;refine yk yq (λht=>?_) (λhf=>?_)
 .have hlt:i<O p:=yJ;obtain⟨k,hk⟩:=gX hlt;obtain⟨_,hkE⟩:=gS hk;obtain⟨hkp,hkb⟩:=hs.vu hk;clear ht;refine qH ?_<|qW
  refine zK (λn st=>∃j:Nat,n=O k.body-j/\j<=O k.body/\st.tm 1=.pt (.s 1) 0/\st.hp (.s 1)=Z (.row 1 [[j6 p]])/\st.tm 2=.pt (.s 2) 0/\st.hp (.s 2)=Z (.row 1 [[.hs (.c (.s 2) 0 0) 4 0 0]])/\st.hp (.c (.s 2) 0 0)=Z (.row 4 []) /\
   st.tm 3=.pt (.s 3) 0/\st.hp (.s 3)=Z (.row 1 [[.hs (.c (.s 3) 0 0) 4 0 (O p)]])/\st.tm 4=iv i/\uz st.hp (.c (.s 3) 0 0) (bY eZ p i)/\st.tm 6=iv j/\st.tm 5=.hs (.s 5) 4 0 (O (cZ (k.body.take j)))/\st.hp (.s 5)=Z (.row 4 (yd (cZ (k.body.take j))))) (O k.body) ?_ ?_
  .refine⟨0,qA,qA,zY,vY,jS,jV,kD,jr,uo,vO,⟨kR,λj r hj=>wm,λj r hj=>wl⟩,qB,by simp[cZ],by simp[cZ]⟩
  clear h1 hp1 h2 hp2 hp2' h3 hp3 h4 ho1 ho2 ho3;rintro n st - - ⟨j,rfl,hj,h1,hp1,h2,hp2,hp2',h3,hp3,h4,⟨ho1,ho2,ho3⟩,h6,h5,hp5⟩;have qv:O (cZ (k.body.take j))<=j:=uV Jd qp;have hst:=λs(h:k.body[j]?=Z s)=>RR h;generalize hL:cZ (k.body.take j)=L at h5 hp5 qv hst;refine qH ?_<|zy h1 hp1 h4 h6 hk hkE<|hlt;refine yk yq (λht=>?_) (λhf=>?_)
  .have hjl:j<O k.body:=yJ;obtain⟨s,hsi⟩:=gX hjl;obtain⟨_,hsE⟩:=gS hsi;have hst:=hst s hsi;clear ht
   cases hd:((s.kind==9)||(s.kind==10))
   .obtain⟨h9,h10⟩:(s.kind==9)=M/\(s.kind==10)=M:=by simpa using hd
    rw[hd]at hst;simp only[aF,if_false]at hst;refine qH ?_<|qg h1 hp1 h4 h6 hk hkE hlt hsi hsE hjl h9 h10<|ql @zA h5<|hp5;refine⟨O k.body-(j+1),qA,j+1,rfl,qA,zY,vY,jS,jV,kD,jr,uo,vO,⟨kR,λj r hj=>wm,λj r hj=>wl⟩,zr,by simp[hst],?_⟩;rw[hst,<- xz];simp[hp5]
   .have hd':(s.kind==9)=B\/((s.kind==9)=M/\(s.kind==10)=B):=by
     revert hd
     cases (s.kind==9)<;>cases (s.kind==10)<;>simp
    rw[hd]at hst;simp only[if_true]at hst;rcases hd' with h9|⟨h9,h10⟩
    case' inl=>have h10:True:=trivial
    all_goals
     refine qH ?_<|qg h1 hp1 h4 h6 hk hkE hlt hsi hsE hjl h9 h10<|@zA;exact⟨O k.body-(j+1),qA,j+1,rfl,qA,zY,vY,jS,jV,kD,jr,uo,vO,⟨kR,λj r hj=>wm,λj r hj=>wl⟩,zr,by simp[hst,h5],by simp[hst,hp5]⟩
  .have hge:j=O k.body:=by
    have:¬j<O k.body:=vP;omega
   subst hge;rw[kC]at hL;subst hL;clear hf hst;have jz:=B8 (n:=.c (.s 3) 0 0) (a:=5) (i:=i) (len:=O (cZ k.body)) (p:=bY eZ p i) (L:=cZ k.body) rfl qB qB;have hmg:=Mj (f:=eZ) hk;obtain⟨_,hmgE⟩:=gS hmg;have hml:=Mk (f:=eZ) (l:=p) hi;refine qH ?_<|jU h3 hp3 h4 h5 hp5 ho1 hmg hmgE hlt jz<|hml;refine⟨O p-(i+1),qA,i+1,rfl,qA,zY,vY,jS,jV,kD,jr,uo,FO,?_⟩;rw[<- RT hk];refine⟨by simp[jz],λd r hd=>?_,λd r hd=>?_⟩
   all_goals
    have hl:d<O (bY eZ p i):=by
     have:=(gS hd).1
     rwa[sG]at this
    obtain⟨q,hq⟩:=gX hl;rw[xt hq]at hd;obtain rfl:=sI hd;by_cases hid:i=d
   .subst hid;simp[ho2 i q hq]
   .simp [ho2 d q hq,hid,show ¬d=i from λe=>hid e.symm]
   .subst hid;simp[hp5]
   .simp [ho3 d q hq,hid,show ¬d=i from λe=>hid e.symm]
 .have hge:i=O p:=by
   have:¬i<O p:=vP;omega
  subst hge;rw[WK]at ho1 ho2 ho3;have hbp:p.map eZ=dQ p:=rfl;rw[hbp]at ho1 ho2 ho3;refine qH ?_<|zJ h2 hp2 hp2' h3<|hp3;refine qE [(.c (.s 3) 0 0,root)] (.one rfl) bp ⟨qB,⟨?_,λj r hj=>?_,λj r hj=>?_⟩⟩
  .simp [ho1,wV (n:=.c (.s 3) 0 0) (m:=root) (f:=zH zl [(.c (.s 3) 0 0,root)]) (p:=dQ p) qB]
  .simp [ho2 j r hj]
  .simp [ho3 j r hj]
end Go.Proofs.YtjgpejikjhojcaaGreatDoor
end
