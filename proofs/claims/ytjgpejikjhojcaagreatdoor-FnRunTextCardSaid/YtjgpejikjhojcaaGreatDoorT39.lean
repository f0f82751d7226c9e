import Derived.Test.YtjgpejikjhojcaaGreatDoorT38
set_option linter.unusedSimpArgs false
set_option linter.unusedVariables false
set_option maxRecDepth 100000
set_option maxHeartbeats 4000000

section
namespace Go.Proofs.YtjgpejikjhojcaaGreatDoor
open Go Go.Hm Go.Proofs Tryz
abbrev Vh:qb:=eX<|.l 9 [4,3,2,1,0]<|.l 10 [0]<|.l 11 []<|.l 12 []<|.done
abbrev Vi:qb:=.q 1<|.q 2<|.q 3<|.q 5<|.q 6<|.q 7<|.q 8<|.q 9<|.q 12<|.l 0 [12,9,8,7,6,5,3,2,1]<|.l 4 [12,9,8,7,6,5]<|.l 10 [12]<|.l 11 [12]<|.l 13 []<|.l 14 []<|.done
attribute [local simp] uo iF
theorem Ro {l L2:List qP} {A:Nat} (h:A<=l.length):List.take (A+L2.length) (List.take A (List.take A l)++L2)++List.take (l.length - A) (List.take (l.length - A) (List.drop A l))=List.take A l++(L2++List.drop A l):=by
 have e1:List.take A (List.take A l)=List.take A l:=by rw [List.take_take,Nat.min_self]
 have e2:List.take (A+L2.length) (List.take A l++L2)=List.take A l++L2:=yU qn;have e3:List.take (l.length - A) (List.drop A l)=List.drop A l:=yU qB;rw [e1,e2,e3,e3,ig]
theorem ab {A G G2:Prop} (k:G2) (x:A) (h:A->jP G2->G:=by
 intro fx kk;refine qQ ?_
 repeat ((first|refine qf (id:=5) Vh mixed ?_|refine qf (id:=12) Vi mixed ?_);refine zQ ?_;refine qQ ?_)
 exact kk.h):G:=h x ⟨k⟩
theorem YS (gl) (H:Nm->Option AO) (bs:List Int) (pos:Nat) (hb:aA bs) (hpos:pos<=700000) (hH:H (.u 1 0 0)=some (jA bs pos)) (hV:H (.u 2 0 0)=none) (hV4:H (.u 4 0 0)=none) (hV5:H (.u 5 0 0)=none) :
  qV prog gl 94 (Nm.under (.u 1 0 0)) [.pt (.u 1 0 0) 0] H (HK bs (λp pos'=>wC p/\pos'<=pos+1000)) qy:=by
 refine qV.qa func94 [.cell 2 34] ntmps94 (λ_=>yq rfl) λC w g root hroot=>?_;have hr0:=hroot root (Nm.uH _);refine ab ?_<|qS
 first|show q8 _ _ _ _ _|intro K hK
 refine nQ (bs:=bs) (hs:=zb) (ha:=uK) (hF:=M0 _ _ bs pos 0 (-1) hb qA zb qB) (h:=?_);rintro z H1 ⟨k0,p0,rfl,hk2,hk3,⟨hkk,hkpar,hkp,hkb,hp0,hkT⟩,hU⟩;refine⟨p0,hU,?_⟩;refine ab ?_<|qS
 first|show q8 _ _ _ _ _|intro K hK
 refine kH (.c (.s 11) 0 2) (.c (.c (.s 3) 0 0) 0 2) (.inl rfl) (.inl rfl) ?_;refine kH (.c (.s 11) 0 3) (.c (.c (.s 3) 0 0) 0 3) (.inl rfl) (.inl rfl) ?_
 refine ua (λst=>st.tm 0=.pt (.u 1 0 0) 0/\st.hp (.u 1 0 0)=some (jA bs p0)/\st.tm 2=.pt (.s 2) 0/\st.hp (.s 2)=some (.row 1 [[.hs (.c (.s 2) 0 0) 4 0 0]])/\st.hp (.c (.s 2) 0 0)=some (.row 4 [])/\st.tm 3=.pt (.s 3) 0/\st.hp (.s 3)=some (.row 1 [[.hs (.c (.s 3) 0 0) 4 0 1]])/\uf st.hp (.c (.s 3) 0 0) [k0] /\
  st.tm 14=.pt (.u 1 0 0) 0/\st.tm 15=.hs (.s 15) 1 0 6/\st.hp (.s 15)=some (.row 1 (qm [3,2,4,1,5,0]))) ⟨qB,qB,qB,qB,qB,qB,qB,⟨tv,λj k hk=>?_,λj k hk=>?_⟩,qB,qB,yO⟩ ?_
 .cases j with
  | zero=>simp at hk;subst hk;simp [hk2]
  | succ j=>simp at hk
 .cases j with
  | zero=>simp at hk;subst hk;simp [hk3]
  | succ j=>simp at hk
 clear hU hk2 hk3;rintro st ⟨h0,hU,h2,hp2,hp2',h3,hp3,⟨ho1,ho2,ho3⟩,h14,h15,hp15⟩;refine aw (ai _) 15 [3,2,4,1,5,0] (bs:=bs) (pos:=p0) hb qA (hV:=hV) (h0:=h14) (h1:=rL) (hH:=hU) (hL:=by simp [hp15]) (h:=?_);intro v hv;have hvr:0<=v/\v<=5:=ir;obtain⟨V,rfl⟩:∃ V:Nat,v=V:=⟨v.toNat,qA⟩;refine ab ?_<|qS;refine zU (λn st=>∃ (p:qC) (q:Nat),n+p.length<=6/\wC p/\q+100 * n<=pos+700/\st.tm 0=.pt (.u 1 0 0) 0/\st.hp (.u 1 0 0)=some (jA bs q)/\st.tm 2=.pt (.s 2) 0/\st.hp (.s 2)=some (.row 1 [[.hs (.c (.s 2) 0 0) 4 0 0]])/\st.hp (.c (.s 2) 0 0)=some (.row 4 [])/\st.tm 3=.pt (.s 3) 0/\st.hp (.s 3)=some (.row 1 [[.hs (.c (.s 3) 0 0) 4 0 p.length]])/\st.tm 4=iv n/\uf st.hp (.c (.s 3) 0 0) p) V ?_ ?_
 .exact⟨[k0],p0+1,qn,wC.one hkpar hkk qA qA hkT,qA,ji,qB,jp,jq,uh,jj,uJ,qB,⟨uw,λj r hj=>wF,λj r hj=>wG⟩⟩
 clear h0 hU h2 hp2 hp2' h3 hp3 ho1 ho2 ho3 h14 h15 hp15;rintro n st - - ⟨p,q,hn,hg,hq,h0,hU,h2,hp2,hp2',h3,hp3,h4,⟨ho1,ho2,ho3⟩⟩;have hgl:=hg.len;rcases dJ n with rfl|hn0
 .skip
  refine ab ?_<|j2 h4 h2 hp2 hp2' h3<|hp3;refine qG [(.c (.s 3) 0 0,root)] (.one rfl) bI ⟨p,q,qB,⟨?_,λj r hj=>?_,λj r hj=>?_⟩,⟨hg,qA⟩,vC⟩
  .simp [ho1,hr0,kr (n:=.c (.s 3) 0 0) (m:=root) (f:=zE (Nm.under (.u 1 0 0)) [(.c (.s 3) 0 0,root)]) (p:=p) rD]
  .simp [ho2 j r hj,hr0]
  .simp [ho3 j r hj,hr0]
 have hl1:0<p.length:=qA;have hwl:IntKind.i64.wrap ((p.length:Int) - 1)=((p.length - 1:Nat):Int):=ga;refine ab ?_<|j2 h0 h3 hp3 h4 hn0<|hwl
 first|show q8 _ _ _ _ _|intro K hK
 refine vk (hs:=vC) (ha:=rB) (hF:=bu _ _ bs q p.length hb qA qA vC) (h:=?_);rintro x px ⟨hx,rfl⟩;have hxl:x<p.length:=qA;refine ab ?_<|zC h0 h3 hp3<|hwl
 first|show q8 _ _ _ _ _|intro K hK
 refine aw (ai _) 31 [((p.length - 1:Nat):Int),(x:Int)] (bs:=bs) (pos:=q+1) hb qA (hV:=hV) (h0:=ji) (h1:=qB) (hH:=qB) (hL:=yO) (h:=?_);intro par hpar
 obtain⟨par,rfl,hparl⟩:∃ r:Nat,par=r/\r<p.length:=by
  simp at hpar;rcases hpar with rfl|rfl
  .exact⟨_,rfl,qA⟩
  .exact⟨_,rfl,hxl⟩
 clear hpar hx;refine ab ?_<|zC h0 h3 hp3<|hwl
 first|show q8 _ _ _ _ _|intro K hK
 refine aw (ai _) 35 [1,1,1,2] (bs:=bs) (pos:=q+1+1) hb qA (hV:=hV) (h0:=ji) (h1:=qB) (hH:=qB) (hL:=yO) (h:=?_);intro kd hkd;have hkdR:kd=1\/kd=2:=by simp at hkd;omega
 refine ab ?_<|zC h0 h3 hp3<|hwl
 first|show q8 _ _ _ _ _|intro K hK
 refine nQ (bs:=bs) (hs:=qB) (ha:=rB) (hF:=M0 _ _ bs (q+1+1+1) kd par hb qA qB qB) (h:=?_);rintro z H1 ⟨k1,q1,rfl,hk2,hk3,⟨hkk1,hkpar1,hkp1,hkb1,hq1,hkT1⟩,hU1⟩;refine⟨q1,hU1,?_⟩;obtain⟨kp,hkp'⟩:∃ k,p[par]?=some k:=⟨_,gE hparl⟩;obtain⟨_,hkpE⟩:=gS hkp';have hkpT:=hg.ar.cx kp (gM hkp');have hbb:kp.body.length<=14:=hg.body kp (gM hkp');have hwk:IntKind.i64.wrap ((kp.body.length:Int)+1)=((kp.body.length+1:Nat):Int):=ga;refine ab ?_<|jJ h0 h3 hp3 ho1 hkp' hkpE hparl<|hwk
 first|show q8 _ _ _ _ _|intro K hK
 refine ua (λst=>st.tm 0=.pt (.u 1 0 0) 0/\st.hp (.u 1 0 0)=some (jA bs q1)/\st.tm 2=.pt (.s 2) 0/\st.hp (.s 2)=some (.row 1 [[.hs (.c (.s 2) 0 0) 4 0 0]])/\st.hp (.c (.s 2) 0 0)=some (.row 4 [])/\st.tm 3=.pt (.s 3) 0/\st.hp (.s 3)=some (.row 1 [[.hs (.c (.s 3) 0 0) 4 0 p.length]])/\st.tm 4=iv n/\uf st.hp (.c (.s 3) 0 0) p/\st.tm 5=iv par/\st.tm 6=.pt (.s 6) 0/\st.hp (.s 6)=some (.row 4 [[iv k1.kind,iv k1.parent,.hs (.c (.s 38) 0 2) 1 0 k1.params.length,.hs (.c (.s 38) 0 3) 4 0 k1.body.length]])/\st.hp (.c (.s 38) 0 2)=some (.row 1 (qm k1.params))/\st.hp (.c (.s 38) 0 3)=some (.row 4 (yL k1.body)) /\
  st.tm 7=.hs (.c (.c (.s 3) 0 0) par 3) 4 0 kp.body.length/\st.tm 45=.pt (.u 1 0 0) 0/\st.tm 48=iv ((kp.body.length+1:Nat):Int)) ⟨ji,qB,jp,jq,uh,jj,uJ,yr,⟨uw,λj r hj=>wF,λj r hj=>wG⟩,qB,qB,qB,by simp [hk2],by simp [hk3],qB,ji,qB⟩ ?_
 clear h0 hU h2 hp2 hp2' h3 hp3 h4 ho1 ho2 ho3 hU1 hk2 hk3;rintro st ⟨h0,hU,h2,hp2,hp2',h3,hp3,h4,⟨ho1,ho2,ho3⟩,h5,h6,hp6,hp62,hp63,h7,h45,h48⟩;have hob:=ho3 par kp hkp';refine vk (hs:=vC) (ha:=by first|(simp [h45,h48];done)|(simp [h45,h48];rfl)) (hF:=bu _ _ bs q1 (kp.body.length+1) hb qA qA vC) (h:=?_);rintro at0 px ⟨hx,rfl⟩;have hat:at0<=kp.body.length:=qA;clear hx;have hV4':(jb prog C w g H Tryz.f94.ntmps gl).ext (.u 4 0 0)=false:=by simp [jb,hV4]
 have hV5':(jb prog C w g H Tryz.f94.ntmps gl).ext (.u 5 0 0)=false:=by simp [jb,hV5]
 have hbr:at0=0\/0<at0:=dJ at0;rcases hbr with rfl|hat0
 case' inl =>
  refine ab ?_<|jJ h0 h3 hp3 h5 h6 hp6 h7<|hob
  first|show q8 _ _ _ _ _|intro K hK
  refine sT (.c (.s 38) 0 2) (.u 4 0 0) 74 hV4' ?_;refine sT (.c (.s 38) 0 3) (.u 5 0 0) 74 hV5' ?_;refine nQ (bs:=bs) (hs:=vC) (ha:=rB) (hF:=Ej _ _ bs (q1+1) k1.kind k1.parent p.length k1.params.length k1.body.length qA hb qA vC qB) (h:=?_);rintro y H2 ⟨L2,q2,rfl,hL2,⟨hL2l,hq2,hL2T⟩,hU2⟩;refine⟨q2,hU2,?_⟩;refine ab ?_<|yz h0 h3 hp3 h5 h6 hp6 h7 hob<|hL2;refine aS (λst=>∃ (X:List qP) (q2:Nat),X.length<=16/\(∀ s∈X,vG s)/\q2<=q1+6/\st.tm 0=.pt (.u 1 0 0) 0/\st.hp (.u 1 0 0)=some (jA bs q2)/\st.tm 2=.pt (.s 2) 0/\st.hp (.s 2)=some (.row 1 [[.hs (.c (.s 2) 0 0) 4 0 0]])/\st.hp (.c (.s 2) 0 0)=some (.row 4 [])/\st.tm 3=.pt (.s 3) 0/\st.hp (.s 3)=some (.row 1 [[.hs (.c (.s 3) 0 0) 4 0 p.length]])/\st.tm 4=iv n/\uf st.hp (.c (.s 3) 0 0) p/\st.tm 5=iv par/\st.tm 6=.pt (.s 6) 0/\st.hp (.s 6)=some (.row 4 [[iv k1.kind,iv k1.parent,.hs (.c (.s 38) 0 2) 1 0 k1.params.length,.hs (.c (.s 38) 0 3) 4 0 k1.body.length]])/\st.hp (.c (.s 38) 0 2)=some (.row 1 (qm k1.params))/\st.hp (.c (.s 38) 0 3)=some (.row 4 (yL k1.body)) /\
  st.tm 7=.hs (.s 7) 4 0 X.length/\st.hp (.s 7)=some (.row 4 (yL X))/\st.tm 84=bv (decide (X.length<=12))) ⟨(kp.body.take (0)++L2++kp.body.drop (0)),q2,qn,GO hkpT hL2T,qA,ji,qB,jp,jq,uh,jj,uJ,yr,⟨uw,λj r hj=>wF,λj r hj=>wG⟩,yV,aY,gb,tj,xE,pr,Db,pr⟩ ?_
  clear hU2 hL2
 case' inr =>
  obtain⟨s1,hs1⟩:∃ s1,kp.body[at0 - 1]?=some s1:=⟨_,gE qA⟩;obtain⟨hs1l,hs1E⟩:=gS hs1;have hwa:IntKind.i64.wrap ((at0:Int) - 1)=((at0 - 1:Nat):Int):=ga;have hle1:at0 - 1<=kp.body.length:=qA;rcases (by cases hk:(s1.kind==8) <;> simp:(s1.kind==8)=false\/(s1.kind==8)=true) with hk8|hk8
  case' inl =>
   refine ab ?_<|qr h0 h3 hp3 h5 h6 hp6 h7 hob hat0 hs1 hs1E hs1l<|qk hwa hat<|hk8
   first|show q8 _ _ _ _ _|intro K hK
   refine sT (.c (.s 38) 0 2) (.u 4 0 0) 74 hV4' ?_;refine sT (.c (.s 38) 0 3) (.u 5 0 0) 74 hV5' ?_;refine nQ (bs:=bs) (hs:=vC) (ha:=rB) (hF:=Ej _ _ bs (q1+1) k1.kind k1.parent p.length k1.params.length k1.body.length qA hb qA vC qB) (h:=?_);rintro y H2 ⟨L2,q2,rfl,hL2,⟨hL2l,hq2,hL2T⟩,hU2⟩;refine⟨q2,hU2,?_⟩;refine ab ?_<|yz h0 h3 hp3 h5 h6 hp6 h7 hob<|hL2;refine aS (λst=>∃ (X:List qP) (q2:Nat),X.length<=16/\(∀ s∈X,vG s)/\q2<=q1+6/\st.tm 0=.pt (.u 1 0 0) 0/\st.hp (.u 1 0 0)=some (jA bs q2)/\st.tm 2=.pt (.s 2) 0/\st.hp (.s 2)=some (.row 1 [[.hs (.c (.s 2) 0 0) 4 0 0]])/\st.hp (.c (.s 2) 0 0)=some (.row 4 [])/\st.tm 3=.pt (.s 3) 0/\st.hp (.s 3)=some (.row 1 [[.hs (.c (.s 3) 0 0) 4 0 p.length]])/\st.tm 4=iv n/\uf st.hp (.c (.s 3) 0 0) p/\st.tm 5=iv par/\st.tm 6=.pt (.s 6) 0/\st.hp (.s 6)=some (.row 4 [[iv k1.kind,iv k1.parent,.hs (.c (.s 38) 0 2) 1 0 k1.params.length,.hs (.c (.s 38) 0 3) 4 0 k1.body.length]])/\st.hp (.c (.s 38) 0 2)=some (.row 1 (qm k1.params))/\st.hp (.c (.s 38) 0 3)=some (.row 4 (yL k1.body)) /\
  st.tm 7=.hs (.s 7) 4 0 X.length/\st.hp (.s 7)=some (.row 4 (yL X))/\st.tm 84=bv (decide (X.length<=12))) ⟨(kp.body.take (at0)++L2++kp.body.drop (at0)),q2,qn,GO hkpT hL2T,qA,ji,qB,jp,jq,uh,jj,uJ,yr,⟨uw,λj r hj=>wF,λj r hj=>wG⟩,yV,aY,gb,tj,xE,pr,Db,pr⟩ ?_
   clear hU2 hL2
  case' inr =>
   refine ab ?_<|qr h0 h3 hp3 h5 h6 hp6 h7 hob hat0 hs1 hs1E hs1l<|qk hwa hle1<|hk8
   first|show q8 _ _ _ _ _|intro K hK
   refine sT (.c (.s 38) 0 2) (.u 4 0 0) 74 hV4' ?_;refine sT (.c (.s 38) 0 3) (.u 5 0 0) 74 hV5' ?_;refine nQ (bs:=bs) (hs:=vC) (ha:=rB) (hF:=Ej _ _ bs (q1+1) k1.kind k1.parent p.length k1.params.length k1.body.length qA hb qA vC qB) (h:=?_);rintro y H2 ⟨L2,q2,rfl,hL2,⟨hL2l,hq2,hL2T⟩,hU2⟩;refine⟨q2,hU2,?_⟩;refine ab ?_<|yz h0 h3 hp3 h5 h6 hp6 h7 hob<|hL2;refine aS (λst=>∃ (X:List qP) (q2:Nat),X.length<=16/\(∀ s∈X,vG s)/\q2<=q1+6/\st.tm 0=.pt (.u 1 0 0) 0/\st.hp (.u 1 0 0)=some (jA bs q2)/\st.tm 2=.pt (.s 2) 0/\st.hp (.s 2)=some (.row 1 [[.hs (.c (.s 2) 0 0) 4 0 0]])/\st.hp (.c (.s 2) 0 0)=some (.row 4 [])/\st.tm 3=.pt (.s 3) 0/\st.hp (.s 3)=some (.row 1 [[.hs (.c (.s 3) 0 0) 4 0 p.length]])/\st.tm 4=iv n/\uf st.hp (.c (.s 3) 0 0) p/\st.tm 5=iv par/\st.tm 6=.pt (.s 6) 0/\st.hp (.s 6)=some (.row 4 [[iv k1.kind,iv k1.parent,.hs (.c (.s 38) 0 2) 1 0 k1.params.length,.hs (.c (.s 38) 0 3) 4 0 k1.body.length]])/\st.hp (.c (.s 38) 0 2)=some (.row 1 (qm k1.params))/\st.hp (.c (.s 38) 0 3)=some (.row 4 (yL k1.body)) /\
  st.tm 7=.hs (.s 7) 4 0 X.length/\st.hp (.s 7)=some (.row 4 (yL X))/\st.tm 84=bv (decide (X.length<=12))) ⟨(kp.body.take (at0 - 1)++L2++kp.body.drop (at0 - 1)),q2,qn,GO hkpT hL2T,qA,ji,qB,jp,jq,uh,jj,uJ,yr,⟨uw,λj r hj=>wF,λj r hj=>wG⟩,yV,aY,gb,tj,xE,pr,Db,pr⟩ ?_
   clear hU2 hL2
 all_goals
  rintro st ⟨X,q2,hXl,hXT,hq2,h0,hU,h2,hp2,hp2',h3,hp3,h4,⟨ho1,ho2,ho3⟩,h5,h6,hp6,hp62,hp63,h7,hp7,h84⟩;have hwn:IntKind.i64.wrap ((n:Int) - 1)=((n - 1:Nat):Int):=ga;by_cases hx12:X.length<=12
  .have yG:=xk (n:=.c (.s 3) 0 0) (a:=7) (i:=par) (len:=X.length) (p:=p) (L:=X) rfl qB qB;have hsl:(setBody p par X).length=p.length:=pK;refine ab ?_<|qr h0 h3 hp3 h4 h5 h6 hp6 h7 hp7 h84 ho1 hkp'<|j2 hkpE hparl hx12 yG hsl<|hwn;have hg':wC (setBody p par X++[k1]):=(hg.setBody qA hXT).add (by rw [hsl];omega) (by rw [hkpar1,hsl];omega) (by rw [hkk1];exact hkdR) qA qA hkT1;refine⟨n - 1,qA,setBody p par X++[k1],q2,qn,hg',qA,ji,vC,jp,jq,uh,jj,qB,qB,⟨?_,λd r hd=>?_,λd r hd=>?_⟩⟩
   .rw [By];simp;exact yU qB
   all_goals
    rw [gK] at hd
    split at hd
    .rename_i hdl;have hdp:d<p.length:=by rwa [hsl] at hdl
     obtain⟨r0,hr0'⟩:∃ r0,p[d]?=some r0:=⟨_,gE hdp⟩;rw [s9 hr0'] at hd;obtain rfl:=sI hd;have hdn:¬ p.length=d:=qA;have hdn':¬ d=p.length:=qA;by_cases hpd:par=d
     .subst hpd;simp [ho2 par r0 hr0',hp7,hdn,hdn']
     .simp [ho2 d r0 hr0',ho3 d r0 hr0',hpd,show ¬ d=par from λe=>hpd e.symm,hdn,hdn']
    .rename_i hdl
     have hde:d=p.length:=by
      have h1:=(gS hd).1;simp at h1;omega
     subst hde;rw [hsl,gI] at hd;simp at hd;subst hd;simp [hp62,hp63]
  .skip
   refine ab ?_<|zC h4 h84 hx12<|hwn;exact⟨n - 1,qA,p,q2,qA,hg,qA,ji,vC,jp,jq,uh,jj,uJ,qB,⟨uw,λj r hj=>wF,λj r hj=>wG⟩⟩
end Go.Proofs.YtjgpejikjhojcaaGreatDoor
end
section
namespace Go.Proofs.YtjgpejikjhojcaaGreatDoor
open Go Go.Hm Go.Proofs Tryz
theorem Oh (gl) (p:qC) (hs:uA p):qM prog gl 95 [yu p] (λr z H'=>z=.agg [.hs r 4 0 p.length]/\uf H' r (cU p)):=by
 have hpl:=hs.len;refine qM.qa func95 [.cell 2 34] ntmps95 λC w g root=>?_;have fx:=qS;have e1:=Pn gl p hs;refine qQ ?_;clear fx e1
 first|rintro K hK z H' ⟨rfl,hO⟩|rintro z H' ⟨rfl,hO⟩
 obtain⟨ho1,ho2,ho3⟩:=hO.uC;refine⟨qB,?_⟩;refine qI ?_<| ho1
 refine zU (λn st=>∃ i:Nat,n=p.length - i/\i<=p.length/\st.tm 1=.pt (.s 1) 0/\st.hp (.s 1)=some (.row 1 [[vK p]])/\st.tm 2=.pt (.s 2) 0/\st.hp (.s 2)=some (.row 1 [[.hs (.c (.s 2) 0 0) 4 0 0]])/\st.hp (.c (.s 2) 0 0)=some (.row 4 []) /\
  st.tm 3=.pt (.s 3) 0/\st.hp (.s 3)=some (.row 1 [[.hs (.c (.s 3) 0 0) 4 0 p.length]])/\st.tm 4=iv i/\uf st.hp (.c (.s 3) 0 0) (af dL p i)) p.length ?_ ?_
 .refine⟨0,qA,qA,qB,qB,qB,qB,qB,qB,qB,qB,?_⟩;rw [TZ];exact⟨uw,λj r hj=>wF,λj r hj=>wG⟩
 clear ho1 ho2 ho3 hO;rintro n st - - ⟨i,rfl,hi,h1,hp1,h2,hp2,hp2',h3,hp3,h4,⟨ho1,ho2,ho3⟩⟩;refine qI ?_<|qk h3 hp3<|h4;refine y8 ya (λht=>?_) (λhf=>?_)
 .have hlt:i<p.length:=yE;obtain⟨k,hk⟩:=gX hlt;obtain⟨_,hkE⟩:=gS hk;obtain⟨hkp,hkb⟩:=hs.uu hk;clear ht;refine qI ?_<|qS
  refine zU (λn st=>∃ j:Nat,n=k.body.length - j/\j<=k.body.length/\st.tm 1=.pt (.s 1) 0/\st.hp (.s 1)=some (.row 1 [[vK p]])/\st.tm 2=.pt (.s 2) 0/\st.hp (.s 2)=some (.row 1 [[.hs (.c (.s 2) 0 0) 4 0 0]])/\st.hp (.c (.s 2) 0 0)=some (.row 4 []) /\
   st.tm 3=.pt (.s 3) 0/\st.hp (.s 3)=some (.row 1 [[.hs (.c (.s 3) 0 0) 4 0 p.length]])/\st.tm 4=iv i/\uf st.hp (.c (.s 3) 0 0) (af dL p i)/\st.tm 6=iv j/\st.tm 5=.hs (.s 5) 4 0 (b9 (k.body.take j)).length/\st.hp (.s 5)=some (.row 4 (yL (b9 (k.body.take j))))) k.body.length ?_ ?_
  .refine⟨0,qA,qA,zx,vI,jp,jq,uh,jj,uJ,yr,⟨uw,λj r hj=>wF,λj r hj=>wG⟩,qB,by simp [b9],by simp [b9]⟩
  clear h1 hp1 h2 hp2 hp2' h3 hp3 h4 ho1 ho2 ho3;rintro n st - - ⟨j,rfl,hj,h1,hp1,h2,hp2,hp2',h3,hp3,h4,⟨ho1,ho2,ho3⟩,h6,h5,hp5⟩;have zF:(b9 (k.body.take j)).length<=j:=ka HX qn;have hst:=λs (h:k.body[j]?=some s)=>Of h;generalize hL:b9 (k.body.take j)=L at h5 hp5 zF hst;refine qI ?_<|jQ h1 hp1 h4 h6 hk hkE<|hlt;refine y8 ya (λht=>?_) (λhf=>?_)
  .have hjl:j<k.body.length:=yE;obtain⟨s,hsi⟩:=gX hjl;obtain⟨_,hsE⟩:=gS hsi;have hst:=hst s hsi;clear ht
   cases hd:((s.kind==9)||(s.kind==10))
   .obtain⟨h9,h10⟩:(s.kind==9)=false/\(s.kind==10)=false:=by simpa using hd
    rw [hd] at hst;simp only [b7,if_false] at hst;refine qI ?_<|qr h1 hp1 h4 h6 hk hkE hlt hsi hsE hjl h9 h10<|qk @qx h5<|hp5;refine⟨k.body.length - (j+1),qA,j+1,rfl,qA,zx,vI,jp,jq,uh,jj,uJ,yr,⟨uw,λj r hj=>wF,λj r hj=>wG⟩,zw,by simp [hst],?_⟩;rw [hst,<- sr];simp [hp5]
   .have hd':(s.kind==9)=true\/((s.kind==9)=false/\(s.kind==10)=true):=by
     revert hd
     cases (s.kind==9) <;> cases (s.kind==10) <;> simp
    rw [hd] at hst;simp only [if_true] at hst;rcases hd' with h9|⟨h9,h10⟩
    case' inl=>have h10:True:=trivial
    all_goals
     refine qI ?_<|qr h1 hp1 h4 h6 hk hkE hlt hsi hsE hjl h9 h10<|@qx;exact⟨k.body.length - (j+1),qA,j+1,rfl,qA,zx,vI,jp,jq,uh,jj,uJ,yr,⟨uw,λj r hj=>wF,λj r hj=>wG⟩,zw,by simp [hst,h5],by simp [hst,hp5]⟩
  .have hge:j=k.body.length:=by
    have:¬ j<k.body.length:=vH;omega
   subst hge;rw [wD] at hL;subst hL;clear hf hst;have yG:=xk (n:=.c (.s 3) 0 0) (a:=5) (i:=i) (len:=(b9 k.body).length) (p:=af dL p i) (L:=b9 k.body) rfl qB qB;have hmg:=KJ (f:=dL) hk;obtain⟨_,hmgE⟩:=gS hmg;have hml:=KK (f:=dL) (l:=p) hi;refine qI ?_<|yD h3 hp3 h4 h5 hp5 ho1 hmg hmgE hlt yG<|hml;refine⟨p.length - (i+1),qA,i+1,rfl,qA,zx,vI,jp,jq,uh,jj,uJ,by simp [h4];exact qi qA qA,?_⟩;rw [<- Og hk];refine⟨by simp [yG],λd r hd=>?_,λd r hd=>?_⟩
   all_goals
    have hl:d<(af dL p i).length:=by
     have:=(gS hd).1
     rwa [pK] at this
    obtain⟨q,hq⟩:=gX hl;rw [s9 hq] at hd;obtain rfl:=sI hd;by_cases hid:i=d
   .subst hid;simp [ho2 i q hq]
   .simp [ho2 d q hq,hid,show ¬ d=i from λe=>hid e.symm]
   .subst hid;simp [hp5]
   .simp [ho3 d q hq,hid,show ¬ d=i from λe=>hid e.symm]
 .have hge:i=p.length:=by
   have:¬ i<p.length:=vH;omega
  subst hge;rw [TX] at ho1 ho2 ho3;have hbp:p.map dL=cU p:=rfl;rw [hbp] at ho1 ho2 ho3;refine qI ?_<|zM h2 hp2 hp2' h3<|hp3;refine qG [(.c (.s 3) 0 0,root)] (.one rfl) bI ⟨qB,⟨?_,λj r hj=>?_,λj r hj=>?_⟩⟩
  .simp [ho1,kr (n:=.c (.s 3) 0 0) (m:=root) (f:=zE zf [(.c (.s 3) 0 0,root)]) (p:=cU p) qB]
  .simp [ho2 j r hj]
  .simp [ho3 j r hj]
end Go.Proofs.YtjgpejikjhojcaaGreatDoor
end
