import Derived.Test.YtdnebaieamppbaaGreatDoorE51
set_option linter.unusedSimpArgs false
set_option linter.unusedVariables false
set_option maxRecDepth 100000
set_option maxHeartbeats 4000000

section
namespace Go.Proofs.YtdnebaieamppbaaGreatDoor
open Go Go.Hm Go.Proofs Tryz
abbrev Vb:Zh:=aS<|.l 8 [7,6,5,4,3,2,1,0]<|.l 9 []<|.done
abbrev Xi:Zh:=bI<|.l 7 []<|.l 8 []<|.done
abbrev Xh:Zh:=nP<|.q 16<|.l 13 [16,5,4,3,2,1,0]<|.q 14<|.q 15<|.q 17<|.l 18 []<|.done
abbrev Xg:Zh:=wE<|.l 6 [4,3,2,1,0]<|.l 7 [0]<|.q 8<|.q 9<|.l 10 []<|.done
theorem va {A G G2:Prop} (k:G2) (x:A) (h:A->Zx G2->G:=by
 intro fx kk;refine qG ?_
 repeat ((first|refine Ze (id:=8) Vb mixed ?_|refine Ze (id:=9) Vb mixed ?_|refine Ze (id:=17) Xi mixed ?_|refine Ze (id:=20) Xh mixed ?_|refine Ze (id:=21) Xg mixed ?_);refine qZ ?_;refine qG ?_)
 exact kk.h):G:=h x ⟨k⟩
theorem FP (gl) (H:Nm->Option AO) (p:Z0) (m:Zb) (fs:List Z8) (f:Z8) (n dp pc0:Nat) (hP:Zm p) (h:MOk p m fs { f with pc:=pc0 }) (hn1:n<=1) (hst:n+1<=f.stack.length) (hsl:f.stack.length<=1000) (hfl:fs.length<=1000) (hO:Z2 H p (.u 2 0 0) (m.top fs f) dp) :
  Zj prog gl 151 D12 [.pt Xn 0,.ep (.u 2 0 0) 7 fs.length 0,iv n] H (λ_ _ H'=>∃ q,(q=.u 2 0 0\/q=.c Xn 0 6)/\Z2 H' p q (dK p m fs f (17,(n:Int))) dp) noE:=by
 have hT:=hO.top;have hF:=hO.fr.top;refine Zj.Zl func151 [] ntmps151 (λ_=>zG) λC w g root hroot=>?_;have hcm:=EV (p:=p) (m:=m) (fs:=fs) hst;refine va ?_<|Zk;refine qX (λk s=>∃ i:Nat,k=n - i/\i<=n/\s.tm 0=.pt Xn 0/\s.tm 1=.ep (.u 2 0 0) 7 fs.length 0/\s.tm 2=iv n/\s.tm 6=.hs (.s 6) 2 0 i/\s.hp (.s 6)=some (.row 2 (zn (f.stack.drop (f.stack.length - i))))/\s.tm 7=iv i/\Z2 s.hp p (.u 2 0 0) (m.top fs (f.cut i)) dp) n ?_ ?_
 .exact⟨0,qA,qA,qB,qB,qB,qB,gc,qB,by rw [Ii];exact (have h:=hO;Z2.re h)⟩
 clear hT hF hO;rintro k s - - ⟨i,rfl,hi,t0,t1,t2,t6,p6,t7,hO⟩;have hT:=hO.top;have hX0:s.hp Xn≠none:=th;have hU0:s.hp (.u 2 0 0)≠none:=by obtain⟨js,e⟩:=hO.fr.top;rw [e];simp
 have hk:=N8 (f:=f) (i:=i) qA;obtain⟨rows,a0,a1,a2,a3,a4,a5,vs,e1,e2,e3,e4,e5⟩:=hO.take hk;by_cases hil:i<n
 .have hdl:(zn (f.stack.drop (f.stack.length - i))).length=i:=qc;have hdv:=Ij (f:=f) (i:=i) qA;refine va ?_<|u4 t0 t1 t2 t6 p6 t7<|hil;intro K hK;have fx:=aI t0 (aI t1 t6);refine yp (E4.2 hX0) (E4.2 hU0) (hF:=lC gl D12 (λ_=>zG) _ rows fs.length (f.stack.length - (i+1)) a0 a1 a2 a3 a4 a5 vs (f.cut i).tos e2 e3 e4 e5 qA) (h:=?_);intro y H1 hw;clear fx;have hO1:=hO.taken e1 hk hw;obtain⟨rfl,-⟩:=hw;rw [Be qA] at hO1;generalize (f.cut i).tos=v at *;obtain⟨v1,v2⟩:=v;have hT1:=hO1.top;have hap:[[iv v1,iv v2]]++zn (f.stack.drop (f.stack.length - i))=zn (f.stack.drop (f.stack.length - (i+1))):=by rw [hdv];rfl
  have hi1:i<=1:=qA;refine va ?_<|bA t0 t1 t2 t6 p6 t7 hT1 hdl<|hi1;have htk:(f.stack.drop (f.stack.length - i)).take i=f.stack.drop (f.stack.length - i):=b9 qc;exact⟨n - (i+1),qA,i+1,rfl,qA,un,by simp [t1,e1],yt,qc,by simp [htk,<- hap],zD,(have h:=hO1;Z2.re h)⟩
 .obtain rfl:i=n:=qA;have hdl:(f.stack.drop (f.stack.length - i)).length=i:=qc;have htm:=h.top.sv _ (gM (Bd (f:=f) (i:=i) qA));rw [hcm];refine va ?_<|uD t0 t1 t2 t6 p6<|t7;intro K hK;have fx:=aI t0 (aI t1 t6);refine yp (E4.2 hX0) (E4.2 hU0) (hF:=lC gl D12 (λ_=>zG) _ rows fs.length (f.stack.length - (i+1)) a0 a1 a2 a3 a4 a5 vs (f.cut i).tos e2 e3 e4 e5 qA) (h:=?_);intro y H1 hw;clear fx;have hO1:=hO.taken e1 hk hw;obtain⟨rfl,-⟩:=hw;rw [Be qA] at hO1;generalize (f.cut i).tos=v at *;obtain⟨v1,v2⟩:=v;have hT1:=hO1.top;refine va ?_<|u4 t0 t1 t2 t6 p6 t7<|hT1;refine uu (λs=>s.tm 0=.pt Xn 0/\s.tm 1=.ep (.u 2 0 0) 7 fs.length 0/\s.tm 2=iv i/\s.tm 6=.hs (.s 6) 2 0 i/\s.hp (.s 6)=some (.row 2 (zn (f.stack.drop (f.stack.length - i))))/\s.tm 8=.pt (.s 8) 0/\s.hp (.s 8)=some (.row 2 [[iv v1,iv v2]])/\s.tm 30=bv (v1 != 2)/\Z2 s.hp p (.u 2 0 0) (m.top fs (f.cut (i+1))) dp) ⟨un,by simp [t1,e1],yt,cR,by simp [p6],qB,qB,qB,(have h:=hO1;Z2.re h)⟩ ?_;clear hT hT1 e1 e2 e3 e4 e5 t0 t1 t2 t6 p6 t7 hO hO1 hX0 hU0 hdl;rintro s ⟨t0,t1,t2,t6,p6,t8,p8,t30,hO⟩;have hT:=hO.top;simp only [uX,Zb.top] at hT;by_cases h2:v1=2
  case neg =>
   have hb:(v1 != 2)=true:=ga;rw [if_pos h2];refine va ?_<|aJ t0 t1 t2 t6 p6 t8 p8 t30 hT<|hb;refine qD [] .nil qE ⟨_,.inl rfl,Z2.fin (Z2.qDb hO rfl λk hk=>?_) (.inr rfl)⟩;simp [uX]
  subst h2;rw [if_neg qB];have hv2:=htm.num;have hv3:=htm.fn rfl;simp only at hv2 hv3;obtain⟨jf,rfl⟩:∃ jf:Nat,v2=jf:=⟨v2.toNat,qA⟩;have hjl:jf<m.ZZ.length:=qA;obtain⟨q,hq⟩:=gX hjl;obtain⟨_,hqE⟩:=gS hq;obtain⟨kq,hk1,hk2,hk3,hk4⟩:=h.ZZ q (gM hq);obtain⟨b,cs⟩:=q;simp only at hk1 hk2 hk3 hk4;have hFn:=hO.ZZ;simp only [dd] at hFn;have Zs:=(gS hk1).1;have hcd:(qw p p.length)[b]?=some (zC p b):=by simp [qw,Zs]
  obtain⟨hcdl,hcdE⟩:=gS hcd;have hpn:(zC p b).params.length=cp p b:=by simp [zC,hk1,cp]
  simp only [b6,hq];by_cases hpi:cp p b=i
  case neg =>
   rw [if_pos hpi];have hb:(((cp p b:Nat):Int) != (i:Int))=true:=by rw [bne_iff_ne];omega
   have hb2:¬ ((cp p b:Nat):Int)=(i:Int):=qA;refine va ?_<|qU t0 t1 t2 t6 p6 t8 p8 t30 hT hFn hq hqE<|u4 hjl hcd hcdl hcdE hpn hb<|hb2;refine qD [] .nil qE ⟨_,.inl rfl,Z2.fin (have h:=hO;Z2.re h (h0:=by simp [uX])) (.inr rfl)⟩
  rw [if_neg (by simpa using hpi)];refine va ?_<|qU t0 t1 t2 t6 p6 t8 p8 t30 hT hFn hq hqE<|uD hjl hcd hcdl hcdE hpn<|hpi;obtain⟨js,hU⟩:=hO.fr.top;have hc1:=h.nc;have hc2:=h.made;have hc3:=yY (p:=p) (b:=b);intro K hK;have fx:=aI t0 hT;refine yp qu zb (hF:=lA _ _ p (m.top fs (f.cut (i+1))) b cs dp Zs CI qA Bz (have h:=hO;Z2.re h)) (h:=?_);rintro y H1 ⟨rfl,h3,h5,h6,hO1⟩;clear fx;have hT1:=hO1.top;refine va ?_<|jJ t0 t1 t2 t6 p6 t8 p8 hT hT1 h3<|aI h5<|h6;have hcf:(zC p b).Z3=qP p b:=by simp [zC,hk1]
  have hcc:(zC p b).cells=qF p b:=by simp [zC,hk1]
  have hkp:(zC p b).params=kq.params:=by simp [zC,hk1]
  have hf8:=w5 (p:=p) (b:=b);have hc8:=jo (p:=p) (b:=b);simp only [Co] at h3 h5 h6 hO1;refine qX (λk s=>∃ (j:Nat) (fl C:List Zt),k=i - j/\j<=i/\Oh p m b (f.stack.drop (f.stack.length - i)) j fl C/\s.tm 0=.pt Xn 0/\s.tm 2=iv i/\s.tm 6=.hs (.s 6) 2 0 i/\s.hp (.s 6)=some (.row 2 (zn (f.stack.drop (f.stack.length - i))))/\s.tm 10=.pt (.s 10) 0/\s.hp (.s 10)=some (.row 6 [(zC p b).row])/\s.tm 11=.pt (.s 11) 0/\s.hp (.s 11)=some (.row 7 [[iv b,iv 0,iv (-1),.hs (.c (.s 63) 0 3) 3 0 (qP p b).length,isl (jN ((List.range (qF p b).length).map (m.cells.length+·)++cs)),.hs (.c (.s 63) 0 5) 3 0 8,.hs (.c (.s 63) 0 6) 2 0 0]])/\s.hp (.c (.s 63) 0 3)=some (.row 3 (qW fl))/\s.hp (.c (.s 63) 0 5)=some (.row 3 (qW q9))/\s.hp (.c (.s 63) 0 6)=some (.row 2 [])/\s.tm 12=iv j/\Z2 s.hp p (.u 2 0 0) { m.top fs (f.cut (i+1)) with cells:=C,made:=m.made+1 } dp) i ?_ ?_
  .exact⟨0,_,_,qA,qA,.inl ⟨rfl,rfl,rfl⟩,un,yt,cR,by simp [p6],qB,qB,qB,qB,qt,z7,j3,qB,(have h:=hO1;Z2.re h)⟩
  clear t0 t1 t2 t6 p6 t8 p8 t30 hT hT1 h3 h5 h6 hO1 hO hU;rintro k s - - ⟨j,fl,C,rfl,hj,hB,t0,t2,t6,p6,t10,p10,t11,p11,h3,h5,h6,t12,hO⟩;have hT:=hO.top;simp only [uX,Zb.top] at hT;have hC:=hO.cells;simp only at hC;have hBf:=hB.fl;have hBc:=hB.cl;by_cases hji:j<i
  .obtain rfl:i=1:=qA;obtain rfl:j=0:=qA
   obtain⟨x,hx⟩:∃ x,kq.params=[x]:=by
    have:kq.params.length=1:=by rw [<- hkp,hpn];exact hpi
    match h:kq.params,this with
    | [x],_=>exact⟨x,rfl⟩
   have hdl:(f.stack.drop (f.stack.length - 1)).length=1:=qc
   obtain⟨v,hv⟩:∃ v,f.stack.drop (f.stack.length - 1)=[v]:=by
    match h:f.stack.drop (f.stack.length - 1),hdl with
    | [v],_=>exact⟨v,rfl⟩
   rw [hv] at hB p6;rw [hx] at hkp;have hxm:x∈kq.params:=by rw [hx];simp
   obtain⟨-,rfl,rfl⟩:0=0/\fl=List.replicate (qP p b).length none/\C=m.cells++List.replicate (qF p b).length none:=by
    rcases hB with h|⟨h,_⟩
    .exact h
    .omega
   obtain⟨v1,v2⟩:=v;have hpl:=kD gl (qP p b) x qA;have hpc:=kD gl (qF p b) x qA;by_cases hxf:x∈qP p b
   .obtain⟨z,hz,hzl,_⟩:=yC hxf;rw [hz] at hpl;have fx:=qU t0 t2 t6 p6 t10 p10 t11 p11 h3 h5 h6 t12<|uD hT hC hcf hcc hkp<|hzl;have c1:=hpl;refine va ?_<|fx;clear fx c1;exact⟨0,qA,1,_,_,qA,qA,.inr ⟨rfl,x,(v1,v2),hkp,hv,.inl ⟨hxf,rfl,rfl⟩⟩,un,yt,cR,by simp [p6,hv],by simp [t10],by simp [p10],by simp [t11],by simp [p11],by simp [hz],z7,j3,qE,(have h:=hO;Z2.re h)⟩
   .have hxc:x∈qF p b:=(rf hP hk1 hxm).resolve_left hxf;obtain⟨z,hz,hzl,_⟩:=yC hxc;have hneg:zI (qP p b) x<0:=Int.not_le.1 λe=>hxf (j9.1 e);have hneg2:¬ 0<=zI (qP p b) x:=Int.not_le.2 hneg;rw [hz] at hpc
    have hzc:(jN ((List.range (qF p b).length).map (m.cells.length+·)++cs))[z]?=some (((m.cells.length+z:Nat)):Int):=by
     simp only [jN];rw [kx,uW (by simpa using hzl),kx,List.getElem?_range hzl]
     rfl
    obtain⟨hzcl,hzcE⟩:=gS hzc;have hzm:m.cells.length+z<(m.cells++List.replicate (qF p b).length (none:Zt)).length:=qc;have hzm2:z<(qF p b).length+cs.length:=qA;have hz1:((m.cells.length:Int)+z).toNat=m.cells.length+z:=qA;have hz0:(0:Int)<=(m.cells.length:Int)+z:=qA;have hz2:(m.cells.length:Int)+z<(m.cells.length:Int)+(qF p b).length:=qA;generalize zI (qP p b) x=u at hpl hneg hneg2;have fx:=qU t0 t2 t6 p6 t10 p10 t11 p11 h3 h5 h6 t12<|qU hT hC hcf hcc hkp hzl hneg hneg2 hzc hzcl hzcE hzm<|yE hzm2 hz1 hz0<|hz2;have c1:=hpl;have c2:=hpc;refine va ?_<|fx;clear fx c1 c2;exact⟨0,qA,1,_,_,qA,qA,.inr ⟨rfl,x,(v1,v2),hkp,hv,.inr ⟨hxf,rfl,rfl⟩⟩,un,yt,cR,by simp [p6,hv],by simp [t10],by simp [p10],by simp [t11],by simp [p11],qt,z7,j3,qE,(have h:=hO;Z2.re h (h0:=cB) (h2:=by simp [hz]))⟩
  .obtain rfl:j=i:=qA;obtain⟨js,hF⟩:=hO.fr.top;have hvl:(f.stack.drop (f.stack.length - j)).length=j:=qc;have hfin:=hB.fin (m:=m.top fs (f.cut (j+1))) (cs:=cs) hvl;have hfl2:fs.length+1<=2000:=qA;refine Oi (.c (.s 63) 0 3) (.s 20) (.inl rfl) (.inl rfl) (Oi (.c (.s 63) 0 5) (.s 21) (.inl rfl) (.inl rfl) (Oi (.c (.s 63) 0 6) (.s 22) (.inl rfl) (.inl rfl) ?_));refine va ?_<|qU t0 t2 t6 p6 t10 p10 t11 p11 h3 h5 h6 t12<|jI hT hF<|hfl2;rw [hfin];refine zy [] .nil qE ⟨_,.inr rfl,Z2.fin ?_ (.inl qB)⟩
   have key:∀ (i1:Nat) g,(fs++[f.cut (j+1)]++[(⟨b,0,fl,(List.range (qF p b).length).map (m.cells.length+·)++cs,q9,[]⟩:Z8)])[i1]?=some g->(i1=fs.length+1/\g=⟨b,0,fl,(List.range (qF p b).length).map (m.cells.length+·)++cs,q9,[]⟩)\/(i1<fs.length+1/\(fs++[f.cut (j+1)])[i1]?=some g):=by
    intro i1 g hg;rcases E7 i1 (fs++[f.cut (j+1)]).length with e|e|e
    .rw [uW e] at hg;exact .inr ⟨by simpa using e,hg⟩
    .subst e;simp at hg;exact .inl ⟨qB,hg.symm⟩
    .rw [pQ (by simp at e ⊢;omega)] at hg
     cases hg
   refine⟨?_,?_,?_,?_,?_,?_,?_,?_,⟨[],?_⟩,λi1 g hg=>?_,λi1 g hg=>?_,λi1 g hg=>?_⟩
   .simp [uX]
   .simp [hO.qAZ]
   .simp [hO.cells]
   .simp [hO.Zg]
   .simp [hO.ZZ]
   .simp [hO.Zw]
   .simp [hO.out]
   .simp [hO.trc]
   .simp;rw [<- HQ,ou]
    have htk:(fs++f.cut (j+1)::js).take (fs.length+1)=fs++[f.cut (j+1)]:=by
     simp [CY];exact b9 qA
    rw [htk,s6 (m:=.c Xn 0 6) λi1 g hg=>?_]
    .have:=s7 (p:=p) (n:=.c Xn 0 6) (l:=fs++[f.cut (j+1)]) (f:=⟨b,0,fl,(List.range (qF p b).length).map (m.cells.length+·)++cs,q9,[]⟩);simp [jV,ux,hBf] at this;exact this
    .have hlt:=(gS hg).1;have hne:¬ i1=fs.length+1:=by simp at hlt;omega
     simp [jV,hne]
   .rcases key i1 g hg with⟨rfl,rfl⟩|⟨hl,hg⟩
    .simp [h3]
    .have hne:¬ i1=fs.length+1:=qA;simp [hO.fr.Z3 i1 g hg,hne]
   .rcases key i1 g hg with⟨rfl,rfl⟩|⟨hl,hg⟩
    .simp [h5]
    .have hne:¬ i1=fs.length+1:=qA;simp [hO.fr.names i1 g hg,hne]
   .rcases key i1 g hg with⟨rfl,rfl⟩|⟨hl,hg⟩
    .exact⟨[],by simp [h6,zn]⟩
    .have hne:¬ i1=fs.length+1:=qA;exact (hO.fr.stack i1 g hg).imp λj1 hj1=>by simp [hj1,hne]
abbrev Xf:Zh:=aS<|.l 8 [4,3,2,1,0]<|.l 9 [0]<|.q 10<|.q 11<|.l 12 []<|.done
abbrev Xe:Zh:=vi<|.l 12 [7,5,4,3,2,1,0]<|.l 13 [7,5,0]<|.q 14<|.q 15<|.l 16 []<|.done
abbrev Xd:Zh:=yz<|.l 11 [6,5,4,3,2,1,0]<|.q 12<|.l 13 [4,3,2,1,0]<|.l 14 [0]<|.q 15<|.q 16<|.l 17 []<|.done
abbrev Xc:Zh:=vi<|.l 12 [7,6,5,4,3,2,1,0]<|.l 13 [7,6,5,0]<|.q 14<|.q 15<|.l 16 []<|.done
abbrev Xb:Zh:=vi<|.l 12 [7,6,5,4,3,2,1,0]<|.l 13 [4,3,2,1,0]<|.l 14 [4,3,2,1,0]<|.l 15 [0]<|.q 16<|.q 17<|.l 18 []<|.done
abbrev Xa:Zh:=wP<|.done
abbrev X9:Zh:=rP<|.l 18 [13,11,10,9,8,7,6,5,4,3,2,1,0]<|.l 19 [13,11,10,9,8,7,6,5,0]<|.q 20<|.q 21<|.l 22 []<|.done
abbrev X8:Zh:=wE<|.l 6 [4,3,2,1,0]<|.l 7 [4,3,2,1,0]<|.l 8 [4,3,2,1,0]<|.l 9 [0]<|.q 10<|.q 11<|.l 12 []<|.done
theorem kY {A G G2:Prop} (k:G2) (x:A) (h:A->Zx G2->G:=by
 intro fx kk;refine qG ?_
 repeat ((first|refine Ze (id:=3) Xf mixed ?_|refine Ze (id:=9) Xe mixed ?_|refine Ze (id:=11) Xd mixed ?_|refine Ze (id:=12) Xc mixed ?_|refine Ze (id:=14) Xb mixed ?_|refine Ze (id:=19) Xa mixed ?_|refine Ze (id:=21) X9 mixed ?_|refine Ze (id:=23) X8 mixed ?_);refine qZ ?_;refine qG ?_)
 exact kk.h):G:=h x ⟨k⟩
theorem de (gl) (H:Nm->Option AO) (p:Z0) (m:Zb) (fs:List Z8) (f:Z8) (o:Int×Int) (dp pc0:Nat) (hP:Zm p) (hM:MOk p m fs { f with pc:=pc0 }) (hR:qC3 p f.Z1 o) (hc:o.1=1\/o.1=14\/o.1=15) (h14:o.1=14->2<=f.stack.length) (h18:o.1=18\/o.1=19->1<=f.stack.length) (hsl:f.stack.length<=1000) (hfl:fs.length<=1000) (hO:Z2 H p (.u 2 0 0) (m.top fs f) dp) (h9:H (.u 9 0 0)=none) :
  Zj prog gl 154 D12 [.pt Xn 0,.ep (.u 2 0 0) 7 fs.length 0,.agg [iv o.1,iv o.2]] H (λ_ _ H'=>∃ q,(q=.u 2 0 0\/q=.c Xn 0 6)/\Or H' p q (ya p m fs f o) dp) noE:=by
 have hT:=hO.top;obtain⟨L,j,hL,hat,hlt,hF,hf,hn,hsk⟩:=hO.qAj rfl;obtain⟨_,hatE⟩:=gS hat;simp only [uX,Zb.top] at hT;have harg:=hR.arg;have hblk:=hR.Z1;have hatt:=hR.attr;have hfn:=hM.nf;have hfo:=hM.out;obtain⟨c,a⟩:=o;obtain⟨x,rfl⟩:∃ x:Nat,a=x:=⟨a.toNat,eG⟩;simp only at hc h14 h18 harg hblk hatt;refine Zj.Zl func154 [] ntmps154 (λ_=>zG) λC w g root hroot=>?_;refine kY ?_<|aI hT<|hF;refine uu (λs=>s.tm 0=.pt Xn 0/\s.tm 1=.ep (.u 2 0 0) 7 fs.length 0/\s.tm 5=.pt (.s 5) 0/\s.hp (.s 5)=some (.row 2 [[iv c,iv x]])/\s.tm 10=iv c/\s.tm 11=bv (c==1)/\Z2 s.hp p (.u 2 0 0) (m.top fs f) dp) ⟨qB,qB,qB,qB,qB,qB,(have h:=hO;Z2.re h)⟩ ?_;clear hT hF hf hn hsk hat hatE hlt hL hO;rintro s ⟨t0,t1,t5,p5,t10,t11,hO⟩;have hT:=hO.top;obtain⟨L,j,hL,hat,hlt,hF,hf,hn,hsk⟩:=hO.qAj rfl;obtain⟨_,hatE⟩:=gS hat;simp only [uX,Zb.top] at hT;have hX0:s.hp Xn≠none:=th;have hU0:s.hp (.u 2 0 0)≠none:=by rw [hF];simp
 rcases hc with rfl|rfl|rfl
 .have hw:ya p m fs f (1,(x:Int))=m.top fs (f.push (1,x)):=aV;rw [hw];refine kY ?_<|qU t0 t1 t5 p5 t10 t11 hT hF hat hatE hlt hsk<|hsl;refine zy [] .nil qE ⟨_,.inl rfl,Z2.qBd (Z2.fin (have h:=hO;Z2.reT h rfl hL rfl fA ew er ⟨[],ez⟩ (h0:=cB)) (.inr rfl))⟩
 .have hw:ya p m fs f (14,(x:Int))=HU m fs f:=aV;have hadd:HU m fs f=(if f.pop.tos.1≠1\/f.tos.1≠1 then m.stop fs f.pop.pop 5 else m.top fs (f.pop.pop.push (1,(f.pop.tos.2+f.tos.2).tmod 1000))):=rfl;rw [hw,hadd];clear hw hadd;have h2:=h14 rfl;obtain⟨rows,a0,a1,a2,a3,a4,a5,vs,e1,e2,e3,e4,e5⟩:=hO.take (k:=f.stack.length - 1) qA;refine kY ?_<|uD t0 t1 t5 p5 t10<|t11;intro K hK;have fx:=aI t0 t1;refine yp (E4.2 hX0) (E4.2 hU0) (hF:=lC gl D12 (λ_=>zG) _ rows fs.length (f.stack.length - 1) a0 a1 a2 a3 a4 a5 vs f.tos e2 e3 e4 e5 qA) (h:=?_);intro y H1 hw1;clear fx;have hO1:=hO.taken e1 qA hw1;obtain⟨rfl,-⟩:=hw1;have hv1:=hM.top.sv _ (cF (f:=f) qA);have hv2:=hM.top.sv _ (fX (cF (f:=f.pop) (by rw [dk];omega)));have hpl:f.pop.stack.length=(f.stack.length - 2)+1:=by rw [dk];omega
  generalize hfp:f.pop=f1 at *;generalize hft:f.tos=u at *;obtain⟨u1,u2⟩:=u;have hT1:=hO1.top;refine kY ?_<|u4 t0 t1 t5 p5 hT hF<|hT1;intro K hK;refine uJ (λs=>s.tm 0=.pt Xn 0/\s.tm 1=.ep (.u 2 0 0) 7 fs.length 0/\s.tm 6=.pt (.s 6) 0/\s.hp (.s 6)=some (.row 2 [[iv u1,iv u2]])/\s.tm 29=.ep (.u 2 0 0) 7 fs.length 0/\Z2 s.hp p (.u 2 0 0) (m.top fs f1) dp) ⟨un,by simp [t1,hF],qB,qB,qB,(have h:=hO1;Z2.re h)⟩ ?_;clear t0 t1 t5 p5 t10 t11 hT hT1 hF hf hn hsk hat hatE hlt hL hO hO1 e1 e2 e3 e4 e5 hX0 hU0;rintro s ⟨t0,t1,t6,p6,t29,hO⟩;have hT:=hO.top;obtain⟨L,j,hL,hat,hlt,hF,hf,hn,hsk⟩:=hO.qAj rfl;simp only [uX,Zb.top] at hT;obtain⟨rows,a0,a1,a2,a3,a4,a5,vs,e1,e2,e3,e4,e5⟩:=hO.take hpl;have fx:=aI t0 (aI t1 t29);refine yp qu dR (hF:=lC gl D12 (λ_=>zG) _ rows fs.length (f.stack.length - 2) a0 a1 a2 a3 a4 a5 vs f1.tos e2 e3 e4 e5 qA) (h:=?_);intro y H1 hw1;clear fx;have hO1:=hO.taken e1 hpl hw1;obtain⟨rfl,-⟩:=hw1;have hpl2:=aw hpl;generalize hfp2:f1.pop=f2 at *;generalize hft2:f1.tos=v at *;obtain⟨v1,v2⟩:=v;have hT1:=hO1.top;have hu2:=hv1.num;have hv2:=hv2.num;simp only at hu2 hv2;have hwr:IntKind.i64.wrap (v2+u2)=v2+u2:=Zv qA qA;have hq0:=O5 1000 (show 0<=v2+u2 by omega);have hq1:=O4 (v2+u2) (show (0:Int)<1000 by omega);simp only;have hwq:IntKind.i64.wrap ((v2+u2).tmod 1000)=(v2+u2).tmod 1000:=Zv qA qA;have ht0':(s.call 30 D12 (vC D12 s.hp) H1).tm 0=.pt Xn 0:=un
  have ht1':(s.call 30 D12 (vC D12 s.hp) H1).tm 1=.ep (.u 2 0 0) 7 fs.length 0:=by simp [t1,hF]
  have ht6':(s.call 30 D12 (vC D12 s.hp) H1).tm 6=.pt (.s 6) 0:=cR;have hp6':(s.call 30 D12 (vC D12 s.hp) H1).hp (.s 6)=some (.row 2 [[iv u1,iv u2]]):=by simp [p6]
  have hO3:Z2 (s.call 30 D12 (vC D12 s.hp) H1).hp p (.u 2 0 0) (m.top fs f2) dp:=(have h:=hO1;Z2.re h);clear t0 t1 t6 p6 t29 hT hF hf hn hsk hlt hat hL e1 e2 e3 e4 e5 hO hO1 hT1;generalize s.call 30 D12 (vC D12 s.hp) H1=s at ht0' ht1' ht6' hp6' hO3 hK ⊢;have hO:=hO3;have hT:=hO.top;obtain⟨L,j,hL,hat,hlt,hF,hf,hn,hsk⟩:=hO.qAj rfl;obtain⟨_,hatE⟩:=gS hat;simp only [uX,Zb.top] at hT;have hsl2:f2.stack.length<=1000:=qA;generalize hmm:(if (v1,v2).1≠1\/(u1,u2).1≠1 then m.stop fs f2 5 else m.top fs (f2.push (1,((v1,v2).2+(u1,u2).2).tmod 1000)))=mm at hK ⊢;simp only at hmm;by_cases k1:v1=1
  .subst k1;by_cases k2:u1=1
   .subst k2;rw [if_neg qB] at hmm;subst hmm;refine kY ?_<|qU ht0' ht1' ht6' hp6' hT hwr hwq hF hat hatE hlt hsk<|hsl2;refine zy [] .nil qE ⟨_,.inl rfl,Z2.qBd (Z2.fin (have h:=hO;Z2.reT h rfl hL rfl fA ew er ⟨[],ez⟩ (h0:=cB)) (.inr rfl))⟩
   .have kb:(u1 != 1)=true:=by simpa using k2
    rw [if_pos (.inr k2)] at hmm;subst hmm;refine kY ?_<|qU ht0' ht1' ht6' hp6' hT hwr hwq hF hat hatE hlt hsk<|aI hsl2<|kb;refine zy [] .nil qE ⟨_,.inl rfl,fs++[f2.push (1,(v2+u2).tmod 1000)],⟨λe=>absurd e qB,CM⟩,Z2.fin (have h:=hO;Z2.reT h rfl hL rfl fA ew er ⟨[],ez⟩ (h0:=cB)) (.inr rfl)⟩
  .have kb:(v1 != 1)=true:=by simpa using k1
   rw [if_pos (.inl k1)] at hmm;subst hmm;refine kY ?_<|qU ht0' ht1' ht6' hp6' hT hwr hwq hF hat hatE hlt hsk<|aI hsl2<|kb;refine zy [] .nil qE ⟨_,.inl rfl,fs++[f2.push (1,(v2+u2).tmod 1000)],⟨λe=>absurd e qB,CM⟩,Z2.fin (have h:=hO;Z2.reT h rfl hL rfl fA ew er ⟨[],ez⟩ (h0:=cB)) (.inr rfl)⟩
 .have hw:ya p m fs f (15,(x:Int))={ m.top fs (f.push (2,m.ZZ.length)) with ZZ:=m.ZZ++[(x,uk p f x)] }:=aV;rw [hw];obtain⟨kb,hk1,hk2,hk3,_⟩:=hblk (.inl rfl);simp only [b6] at hk1;have hxl:=(gS hk1).1;have hFn:=hO.ZZ;simp only [dd] at hFn;have hap:aU m.ZZ++[[iv x,isl (jN (uk p f x))]]=aU (m.ZZ++[(x,uk p f x)]):=KQ (g:=(x,uk p f x));have hfl3:m.ZZ.length<=1000:=qA;have hwf:IntKind.i64.wrap (m.ZZ.length:Int)=m.ZZ.length:=Zv qA qA;refine kY ?_<|jJ t0 t1 t5 p5 t10 t11 hT hFn hF hat<|aI hatE<|hlt;intro K hK;have fx:=aI t0 (aI t1 (aI t5 (aI p5 (aI hT hFn))));refine pj (λK' h'=>jR (hB:=.cons (In (p:=p) (n:=.u 2 0 0) (m:=m.top fs f) (dp:=dp) (have h:=hO;Z2.re h) qA) (.cons (OO (by simp;exact hF) hat) (.cons (.refl _) .nil))) (hF:=EQ gl p _ _ _ _ _ _ _ _ _ _ _ _ _ _ _ _ (jN f.cells) (zt p x) (uk p f x) x _ qA hxl rfl dJ (No (f:={ f with pc:=pc0 }) hP.sh.Zc hM.top hk1 hk2) (Il x)) (h:=h')) qB zd ?_;clear fx;refine kY ?_<|qU t0 t1 t5 p5 t10 t11 hT hFn hF hat hatE hlt<|yE hsk hsl hfl3<|hwf;refine zy [] .nil qE ⟨_,.inl rfl,Z2.qBd (Z2.fin (have h:=hO;Z2.reT h rfl hL rfl fA ew er ⟨[],ez⟩ (h0:=cB) (h4:=tG)) (.inr rfl))⟩
abbrev Va:Zh:=aS<|.l 8 [4,3,2,1,0]<|.l 9 [0]<|.q 10<|.q 11<|.l 12 []<|.done
abbrev V9:Zh:=vi<|.l 12 [7,5,4,3,2,1,0]<|.l 13 [7,5,0]<|.q 14<|.q 15<|.l 16 []<|.done
abbrev V8:Zh:=yz<|.l 11 [6,5,4,3,2,1,0]<|.q 12<|.l 13 [4,3,2,1,0]<|.l 14 [0]<|.q 15<|.q 16<|.l 17 []<|.done
abbrev V7:Zh:=vi<|.l 12 [7,6,5,4,3,2,1,0]<|.l 13 [7,6,5,0]<|.q 14<|.q 15<|.l 16 []<|.done
abbrev V6:Zh:=vi<|.l 12 [7,6,5,4,3,2,1,0]<|.l 13 [4,3,2,1,0]<|.l 14 [4,3,2,1,0]<|.l 15 [0]<|.q 16<|.q 17<|.l 18 []<|.done
abbrev V5:Zh:=wP<|.done
abbrev V4:Zh:=rP<|.l 18 [13,11,10,9,8,7,6,5,4,3,2,1,0]<|.l 19 [13,11,10,9,8,7,6,5,0]<|.q 20<|.q 21<|.l 22 []<|.done
abbrev V3:Zh:=wE<|.l 6 [4,3,2,1,0]<|.l 7 [4,3,2,1,0]<|.l 8 [4,3,2,1,0]<|.l 9 [0]<|.q 10<|.q 11<|.l 12 []<|.done
theorem mU {A G G2:Prop} (k:G2) (x:A) (h:A->Zx G2->G:=by
 intro fx kk;refine qG ?_
 repeat ((first|refine Ze (id:=3) Va mixed ?_|refine Ze (id:=9) V9 mixed ?_|refine Ze (id:=11) V8 mixed ?_|refine Ze (id:=12) V7 mixed ?_|refine Ze (id:=14) V6 mixed ?_|refine Ze (id:=19) V5 mixed ?_|refine Ze (id:=21) V4 mixed ?_|refine Ze (id:=23) V3 mixed ?_);refine qZ ?_;refine qG ?_)
 exact kk.h):G:=h x ⟨k⟩
theorem Ae (gl) (H:Nm->Option AO) (p:Z0) (m:Zb) (fs:List Z8) (f:Z8) (o:Int×Int) (dp pc0:Nat) (hP:Zm p) (hM:MOk p m fs { f with pc:=pc0 }) (hR:qC3 p f.Z1 o) (hc:o.1=16) (h14:o.1=14->2<=f.stack.length) (h18:o.1=18\/o.1=19->1<=f.stack.length) (hsl:f.stack.length<=1000) (hfl:fs.length<=1000) (hO:Z2 H p (.u 2 0 0) (m.top fs f) dp) (h9:H (.u 9 0 0)=none) :
  Zj prog gl 154 D12 [.pt Xn 0,.ep (.u 2 0 0) 7 fs.length 0,.agg [iv o.1,iv o.2]] H (λ_ _ H'=>∃ q,(q=.u 2 0 0\/q=.c Xn 0 6)/\Or H' p q (ya p m fs f o) dp) noE:=by
 have hT:=hO.top;obtain⟨L,j,hL,hat,hlt,hF,hf,hn,hsk⟩:=hO.qAj rfl;obtain⟨_,hatE⟩:=gS hat;simp only [uX,Zb.top] at hT;have harg:=hR.arg;have hblk:=hR.Z1;have hatt:=hR.attr;have hfn:=hM.nf;have hfo:=hM.out;obtain⟨c,a⟩:=o;obtain⟨x,rfl⟩:∃ x:Nat,a=x:=⟨a.toNat,eG⟩;simp only at hc h14 h18 harg hblk hatt;refine Zj.Zl func154 [] ntmps154 (λ_=>zG) λC w g root hroot=>?_;refine mU ?_<|aI hT<|hF;refine uu (λs=>s.tm 0=.pt Xn 0/\s.tm 1=.ep (.u 2 0 0) 7 fs.length 0/\s.tm 5=.pt (.s 5) 0/\s.hp (.s 5)=some (.row 2 [[iv c,iv x]])/\s.tm 10=iv c/\s.tm 11=bv (c==1)/\Z2 s.hp p (.u 2 0 0) (m.top fs f) dp) ⟨qB,qB,qB,qB,qB,qB,(have h:=hO;Z2.re h)⟩ ?_;clear hT hF hf hn hsk hat hatE hlt hL hO;rintro s ⟨t0,t1,t5,p5,t10,t11,hO⟩;have hT:=hO.top;obtain⟨L,j,hL,hat,hlt,hF,hf,hn,hsk⟩:=hO.qAj rfl;obtain⟨_,hatE⟩:=gS hat;simp only [uX,Zb.top] at hT;have hX0:s.hp Xn≠none:=th;have hU0:s.hp (.u 2 0 0)≠none:=by rw [hF];simp
 subst hc;have hw:ya p m fs f (16,(x:Int))=z8 p (m.top fs f) x (uk p f x) []:=aV;rw [hw];obtain⟨kb,hk1,hk2,hk3,_⟩:=hblk (.inr rfl);simp only [b6] at hk1;have hxl:=(gS hk1).1
 have hpm:(zC p x).params=[]:=by
  have:=hP.sh.head x kb hk1;unfold vG at this;rw [if_neg qA] at this;have h0:kb.params.length=0:=qA;simp [zC,hk1,gj h0]
 have hBg:Oh p (m.top fs f) x [] 0 (List.replicate (qP p x).length none) (m.cells++List.replicate (qF p x).length none):=.inl ⟨rfl,rfl,rfl⟩;have hfin:=hBg.fin (cs:=uk p f x) rfl;have hc1:=hM.nc;have hc2:=hM.made;have hc3:=yY (p:=p) (b:=x);have hcl:(uk p f x).length=(qd p x).length:=(Bk hP.sh.Zc hM.top hk1 hk2).1;refine mU ?_<|jJ t0 t1 t5 p5 t10 t11 hT hF hat hatE<|hlt;intro K hK;have fx:=aI t0 (aI t1 (aI t5 (aI p5 (aI hT hF))));refine pj (λK' h'=>jR (hB:=.cons (In (p:=p) (n:=.u 2 0 0) (m:=m.top fs f) (dp:=dp) (have h:=hO;Z2.re h) qA) (.cons (OO (by simp;exact hF) hat) (.cons (.refl _) .nil))) (hF:=EQ gl p _ _ _ _ _ _ _ _ _ _ _ _ _ _ _ _ (jN f.cells) (zt p x) (uk p f x) x _ qA hxl rfl dJ (No (f:={ f with pc:=pc0 }) hP.sh.Zc hM.top hk1 hk2) (Il x)) (h:=h')) qB zd ?_;clear fx;refine mU ?_<|qU t0 t1 t5 p5 t10 t11 hT hF hat hatE hlt hsk<|hsl;have fx:=aI t0 (aI t1 (aI hT hF));refine yP (.c (.s 108) 0 3) (.s 20) (.inl rfl) (.inl rfl) ?_;refine yP (.c (.s 108) 0 5) (.s 21) (.inl rfl) (.inl rfl) ?_;refine yP (.c (.s 108) 0 6) (.s 22) (.inl rfl) (.inl rfl) ?_;refine yp qu dR (hF:=lA _ _ p (m.top fs f) x (uk p f x) dp hxl CI qA Bz (have h:=hO;Z2.re h)) (h:=?_);rintro y H1 ⟨rfl,h3,h5,h6,hO1⟩;clear fx;have hT1:=hO1.top;simp only [uX] at hT1;obtain⟨js,hF1⟩:=hO1.fr.top;have hfl2:fs.length+1<=2000:=qA
 simp only [JN] at hF1;refine mU ?_<|qU t0 t1 t5 p5 hT hT1 hF hF1 hat hatE hlt h3<|jI h5 h6<|hfl2;rw [hfin];refine zy [] .nil qE ⟨_,.inr rfl,Z2.qBd (Z2.fin ?_ (.inl qB))⟩
 have key:∀ (i1:Nat) g,(fs++[f]++[(⟨x,0,List.replicate (qP p x).length none,(List.range (qF p x).length).map (m.cells.length+·)++uk p f x,q9,[]⟩:Z8)])[i1]?=some g->(i1=fs.length+1/\g=⟨x,0,List.replicate (qP p x).length none,(List.range (qF p x).length).map (m.cells.length+·)++uk p f x,q9,[]⟩)\/(i1<fs.length+1/\(fs++[f])[i1]?=some g):=by
  intro i1 g hg;rcases E7 i1 (fs++[f]).length with e|e|e
  .rw [uW e] at hg;exact .inr ⟨by simpa using e,hg⟩
  .subst e;simp at hg;exact .inl ⟨qB,hg.symm⟩
  .rw [pQ (by simp at e ⊢;omega)] at hg
   cases hg
 refine⟨?_,?_,?_,?_,?_,?_,?_,?_,⟨[],?_⟩,λi1 g hg=>?_,λi1 g hg=>?_,λi1 g hg=>?_⟩
 .simp [uX]
 .simp [hO1.qAZ]
 .simp [hO1.cells]
 .simp [hO1.Zg]
 .simp [hO1.ZZ]
 .simp [hO1.Zw]
 .simp [hO1.out]
 .simp [hO1.trc]
 .simp;rw [<- HQ,ou]
  have htk:(fs++f::js).take (fs.length+1)=fs++[f]:=by
   simp [CY];exact b9 qA
  rw [htk,s6 (m:=.c Xn 0 6) λi1 g hg=>?_]
  .have:=s7 (p:=p) (n:=.c Xn 0 6) (l:=fs++[f]) (f:=⟨x,0,List.replicate (qP p x).length none,(List.range (qF p x).length).map (m.cells.length+·)++uk p f x,q9,[]⟩);simp [jV,ux] at this;exact this
  .have hlt:=(gS hg).1;have hne:¬ i1=fs.length+1:=by simp at hlt;omega
   simp [jV,hne]
 .rcases key i1 g hg with⟨rfl,rfl⟩|⟨hl,hg⟩
  .simp [h3]
  .have hne:¬ i1=fs.length+1:=qA;simp [hO1.fr.Z3 i1 g hg,hne]
 .rcases key i1 g hg with⟨rfl,rfl⟩|⟨hl,hg⟩
  .simp [h5]
  .have hne:¬ i1=fs.length+1:=qA;simp [hO1.fr.names i1 g hg,hne]
 .rcases key i1 g hg with⟨rfl,rfl⟩|⟨hl,hg⟩
  .exact⟨[],by simp [h6,zn]⟩
  .have hne:¬ i1=fs.length+1:=qA;exact (hO1.fr.stack i1 g hg).imp λj1 hj1=>by simp [hj1,hne]
abbrev V2:Zh:=aS<|.l 8 [4,3,2,1,0]<|.l 9 [0]<|.q 10<|.q 11<|.l 12 []<|.done
abbrev V1:Zh:=vi<|.l 12 [7,5,4,3,2,1,0]<|.l 13 [7,5,0]<|.q 14<|.q 15<|.l 16 []<|.done
abbrev V0:Zh:=yz<|.l 11 [6,5,4,3,2,1,0]<|.q 12<|.l 13 [4,3,2,1,0]<|.l 14 [0]<|.q 15<|.q 16<|.l 17 []<|.done
abbrev VZ:Zh:=vi<|.l 12 [7,6,5,4,3,2,1,0]<|.l 13 [7,6,5,0]<|.q 14<|.q 15<|.l 16 []<|.done
abbrev VY:Zh:=vi<|.l 12 [7,6,5,4,3,2,1,0]<|.l 13 [4,3,2,1,0]<|.l 14 [4,3,2,1,0]<|.l 15 [0]<|.q 16<|.q 17<|.l 18 []<|.done
abbrev VX:Zh:=wP<|.done
abbrev VW:Zh:=rP<|.l 18 [13,11,10,9,8,7,6,5,4,3,2,1,0]<|.l 19 [13,11,10,9,8,7,6,5,0]<|.q 20<|.q 21<|.l 22 []<|.done
abbrev VV:Zh:=wE<|.l 6 [4,3,2,1,0]<|.l 7 [4,3,2,1,0]<|.l 8 [4,3,2,1,0]<|.l 9 [0]<|.q 10<|.q 11<|.l 12 []<|.done
theorem wz {A G G2:Prop} (k:G2) (x:A) (h:A->Zx G2->G:=by
 intro fx kk;refine qG ?_
 repeat ((first|refine Ze (id:=3) V2 mixed ?_|refine Ze (id:=9) V1 mixed ?_|refine Ze (id:=11) V0 mixed ?_|refine Ze (id:=12) VZ mixed ?_|refine Ze (id:=14) VY mixed ?_|refine Ze (id:=19) VX mixed ?_|refine Ze (id:=21) VW mixed ?_|refine Ze (id:=23) VV mixed ?_);refine qZ ?_;refine qG ?_)
 exact kk.h):G:=h x ⟨k⟩
theorem mC (gl) (H:Nm->Option AO) (p:Z0) (m:Zb) (fs:List Z8) (f:Z8) (o:Int×Int) (dp pc0:Nat) (hP:Zm p) (hM:MOk p m fs { f with pc:=pc0 }) (hR:qC3 p f.Z1 o) (hc:o.1=18\/o.1=19) (h14:o.1=14->2<=f.stack.length) (h18:o.1=18\/o.1=19->1<=f.stack.length) (hsl:f.stack.length<=1000) (hfl:fs.length<=1000) (hO:Z2 H p (.u 2 0 0) (m.top fs f) dp) (h9:H (.u 9 0 0)=none) :
  Zj prog gl 154 D12 [.pt Xn 0,.ep (.u 2 0 0) 7 fs.length 0,.agg [iv o.1,iv o.2]] H (λ_ _ H'=>∃ q,(q=.u 2 0 0\/q=.c Xn 0 6)/\Or H' p q (ya p m fs f o) dp) noE:=by
 have hT:=hO.top;obtain⟨L,j,hL,hat,hlt,hF,hf,hn,hsk⟩:=hO.qAj rfl;obtain⟨_,hatE⟩:=gS hat;simp only [uX,Zb.top] at hT;have harg:=hR.arg;have hblk:=hR.Z1;have hatt:=hR.attr;have hfn:=hM.nf;have hfo:=hM.out;obtain⟨c,a⟩:=o;obtain⟨x,rfl⟩:∃ x:Nat,a=x:=⟨a.toNat,eG⟩;simp only at hc h14 h18 harg hblk hatt;refine Zj.Zl func154 [] ntmps154 (λ_=>zG) λC w g root hroot=>?_;refine wz ?_<|aI hT<|hF;refine uu (λs=>s.tm 0=.pt Xn 0/\s.tm 1=.ep (.u 2 0 0) 7 fs.length 0/\s.tm 5=.pt (.s 5) 0/\s.hp (.s 5)=some (.row 2 [[iv c,iv x]])/\s.tm 10=iv c/\s.tm 11=bv (c==1)/\Z2 s.hp p (.u 2 0 0) (m.top fs f) dp) ⟨qB,qB,qB,qB,qB,qB,(have h:=hO;Z2.re h)⟩ ?_;clear hT hF hf hn hsk hat hatE hlt hL hO;rintro s ⟨t0,t1,t5,p5,t10,t11,hO⟩;have hT:=hO.top;obtain⟨L,j,hL,hat,hlt,hF,hf,hn,hsk⟩:=hO.qAj rfl;obtain⟨_,hatE⟩:=gS hat;simp only [uX,Zb.top] at hT;have hX0:s.hp Xn≠none:=th;have hU0:s.hp (.u 2 0 0)≠none:=by rw [hF];simp
 obtain⟨k,hk⟩:∃ k,f.stack.length=k+1:=⟨f.stack.length - 1,by have:=h18 hc;omega⟩;have hv0:=hM.top.sv _ (cF (f:=f) qA);have hpl2:=aw hk;rcases hc with rfl|rfl
 .have hattr:ge m fs f (18,(x:Int))=(if f.tos.1≠3 then m.stop fs f.pop 5 else match uE (m.ZV.getD f.tos.2.toNat []) x with|some u=>m.top fs (f.pop.push u)|none=>m.stop fs f.pop 7):=rfl;have hw:ya p m fs f (18,(x:Int))=ge m fs f (18,(x:Int)):=aV;rw [hw,hattr];clear hw hattr;obtain⟨rows,a0,a1,a2,a3,a4,a5,vs,e1,e2,e3,e4,e5⟩:=hO.take hk;refine wz ?_<|uD t0 t1 t5 p5 t10<|t11;intro K hK;have fx:=aI t0 t1;refine yp (E4.2 hX0) (E4.2 hU0) (hF:=lC gl D12 (λ_=>zG) _ rows fs.length k a0 a1 a2 a3 a4 a5 vs f.tos e2 e3 e4 e5 qA) (h:=?_);intro y H1 hw1;clear fx;have hO1:=hO.taken e1 hk hw1;obtain⟨rfl,-⟩:=hw1;have qAH:∀ c∈m.ZV,c.length=8:=λc hc=>(hM.cls c hc).1;generalize hfp:f.pop=f1 at *;generalize hft:f.tos=u at *;obtain⟨u1,u2⟩:=u;have ht0':(s.call 116 D12 (vC D12 s.hp) H1).tm 0=.pt Xn 0:=un;have ht1':(s.call 116 D12 (vC D12 s.hp) H1).tm 1=.ep (.u 2 0 0) 7 fs.length 0:=by simp [t1,hF]
  have hT1:=hO1.top;refine wz ?_<|u4 t0 t1 t5 p5 hT hF<|hT1;refine uu (λs=>s.tm 0=.pt Xn 0/\s.tm 1=.ep (.u 2 0 0) 7 fs.length 0/\s.tm 5=.pt (.s 5) 0/\s.hp (.s 5)=some (.row 2 [[iv 18,iv x]])/\s.tm 8=.pt (.s 8) 0/\s.hp (.s 8)=some (.row 2 [[iv u1,iv u2]])/\s.tm 119=bv (u1 != 3)/\Z2 s.hp p (.u 2 0 0) (m.top fs f1) dp) ⟨un,by simp [t1,hF],gG,by simp [p5],qB,qB,qB,(have h:=hO1;Z2.re h)⟩ ?_;clear t0 t1 t5 p5 t10 t11 hT hF hf hn hsk hlt hat hatE hL e1 e2 e3 e4 e5 hO hO1 hT1 ht0' ht1' hX0 hU0;rintro s ⟨t0,t1,t5,p5,t8,p8,t119,hO⟩;have hT:=hO.top;obtain⟨L,j,hL,hat,hlt,hF,hf,hn,hsk⟩:=hO.qAj rfl;obtain⟨_,hatE⟩:=gS hat;simp only [uX,Zb.top] at hT;have hsl2:f1.stack.length<=1000:=qA;simp only;by_cases k3:u1=3
  case neg =>
   have kb:(u1 != 3)=true:=by simpa using k3
   rw [if_pos k3];refine wz ?_<|bA t0 t1 t5 p5 t8 p8 t119 hT<|kb;refine zy [] .nil qE ⟨_,.inl rfl,Z2.qBd (Z2.fin (Z2.qDb hO rfl λk hk=>?_) (.inr rfl))⟩;simp [uX]
  subst k3;rw [if_neg qB];have hu2:=hv0.num;have hu3:=hv0.cls rfl;simp only at hu2 hu3;obtain⟨z,rfl⟩:∃ z:Nat,u2=z:=⟨u2.toNat,qA⟩;have hzl:z<m.ZV.length:=qA;obtain⟨cl,hcl⟩:=gX hzl;obtain⟨_,hclE⟩:=gS hcl;have hcl8:=qAH cl (gM hcl);have hx7:=hatt rfl;have hx8:x<cl.length:=qA;have hx8i:(x:Int)<8:=qA;obtain⟨s0,hs0⟩:=gX hx8;obtain⟨_,hs0E⟩:=gS hs0;have hCl:=hO.Zw;simp only [FJ] at hCl;have hsa:uE (m.ZV.getD ((z:Int).toNat) []) x=s0:=by rw [b6,xC,hcl];simp [uE,hs0]
  rw [hsa]
  cases s0 with
  | some u =>
   obtain⟨w1,w2⟩:=u;refine wz ?_<|qU t0 t1 t5 p5 t8 p8 t119 hT hCl hzl hcl hclE<|jJ hcl8 hx8 hx8i hs0 hs0E hF hat hatE hlt hsk<|hsl2;refine zy [] .nil qE ⟨_,.inl rfl,Z2.qBd (Z2.fin (have h:=hO;Z2.reT h rfl hL rfl fA ew er ⟨[],ez⟩ (h0:=cB)) (.inr rfl))⟩
  | none =>
   refine wz ?_<|qU t0 t1 t5 p5 t8 p8 t119 hT hCl hzl hcl hclE<|yS hcl8 hx8 hx8i hs0<|hs0E;refine zy [] .nil qE ⟨_,.inl rfl,Z2.qBd (Z2.fin (Z2.qDb hO rfl λk hk=>?_) (.inr rfl))⟩;simp [uX]
 .have hw:ya p m fs f (19,(x:Int))={ m.top fs f.pop with out:=m.out++[Hm.shown f.tos] }:=aV;rw [hw];have hOu:=hO.out;simp only [S3] at hOu;have hol:m.out.length<=1000:=qA;have hsh:=df gl f.tos;refine wz ?_<|bA t0 t1 t5 p5 t10 t11 hT hOu<|hol;intro K hK;obtain⟨rows,rows',a0,a1,a2,a3,a4,a5,vs,e1,e2,e3,e4,e5,e6⟩:=hO.qB7 (N:=.c Xn 0 9) hk qB qB;have fx:=aI t0 t1;refine Hd D12 (.c Xn 0 9) (.u 9 0 0) (.u 2 0 0) (.row 7 (qk rows fs.length 6 [.hs (.c (.u 2 0 0) fs.length 6) 2 0 k])) (Zd.av f.tos) (hV:=rfl) (hN:=rfl) (hVe:=tA) (λ_=>zG) qB (λq hq=>by have:=Nm.qAJ (a:=.u 1 0 0) (b:=.c Xn 0 9) qB hq;simp [this]) (λ_=>WW) (by simp [hOu]) (λk i j _=>Og hX0 hU0 k i j) qB qB qB (hF:=Nu) (h:=?_);intro hp' hS;clear fx;have hOp:=(hO.qAp e1 hk).same (.inr rfl) hS;have hT1:=hOp.top;have hOu1:=hOp.out;simp only [uX] at hT1;generalize hv:f.tos=v at *;obtain⟨v1,v2⟩:=v;have fx:=jJ t0 t1 t5 p5 t10 t11 hT hT1 hOu hOu1<|hol;have c1:=hsh;refine wz ?_<|fx;clear fx c1;refine zy [] .nil qE ⟨_,.inl rfl,Z2.qBd (Z2.fin (have h:=hOp;Z2.re h (h0:=by simp [uX]) (h6:=qB)) (.inr rfl))⟩
end Go.Proofs.YtdnebaieamppbaaGreatDoor
end
