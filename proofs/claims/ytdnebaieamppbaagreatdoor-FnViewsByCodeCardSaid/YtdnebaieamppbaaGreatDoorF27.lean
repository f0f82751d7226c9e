import Derived.Test.YtdnebaieamppbaaGreatDoorF26
import Derived.Test.YtdnebaieamppbaaGreatDoorF18
set_option linter.unusedSimpArgs false
set_option linter.unusedVariables false
set_option maxRecDepth 100000
set_option maxHeartbeats 4000000

section
namespace Go.Proofs.YtdnebaieamppbaaGreatDoor
open Go Go.Hm Go.Proofs Tryz
abbrev U9:Y8:=kr<|.l 8 [7,6,5,4,3,2,1,0]<|.l 9 []<|.done
abbrev Wh:Y8:=ai<|.l 7 []<|.l 8 []<|.done
abbrev Wg:Y8:=oa<|.q 16<|.l 13 [16,5,4,3,2,1,0]<|.q 14<|.q 15<|.q 17<|.l 18 []<|.done
abbrev Wf:Y8:=kP<|.l 6 [4,3,2,1,0]<|.l 7 [0]<|.q 8<|.q 9<|.l 10 []<|.done
theorem uV {A G G2:Prop} (k:G2) (x:A) (h:A->Yr G2->G:=by
 intro fx kk;refine qI ?_
 repeat ((first|refine Y7 (id:=8) U9 mixed ?_|refine Y7 (id:=9) U9 mixed ?_|refine Y7 (id:=17) Wh mixed ?_|refine Y7 (id:=20) Wg mixed ?_|refine Y7 (id:=21) Wf mixed ?_);refine qW ?_;refine qI ?_)
 exact kk.h):G:=h x ⟨k⟩
theorem EW (gl) (H:Nm->Option AO) (p:YU) (m:Y2) (fs:List YZ) (f:YZ) (n dp pc0:Nat) (hP:Yl p) (h:MOk p m fs { f with pc:=pc0 }) (hn1:n<=1) (hst:n+1<=f.stack.length) (hsl:f.stack.length<=1000) (hfl:fs.length<=1000) (hO:YW H p (.u 2 0 0) (m.top fs f) dp) :
  Yc prog gl 151 ZK [.pt Xn 0,.ep (.u 2 0 0) 7 fs.length 0,iv n] H (λ_ _ H'=>∃ q,(q=.u 2 0 0\/q=.c Xn 0 6)/\YW H' p q (fj p m fs f (17,(n:Int))) dp) Yz:=by
 have hT:=hO.top;have hF:=hO.fr.top;refine Yc.Yb func151 [] ntmps151 (λ_=>zi) λC w g root hroot=>?_;have hcm:=Dh (p:=p) (m:=m) (fs:=fs) hst;refine uV ?_<|Ya;refine qR (λk s=>∃ i:Nat,k=n - i/\i<=n/\s.tm 0=.pt Xn 0/\s.tm 1=.ep (.u 2 0 0) 7 fs.length 0/\s.tm 2=iv n/\s.tm 6=.hs (.s 6) 2 0 i/\s.hp (.s 6)=some (.row 2 (zf (f.stack.drop (f.stack.length - i))))/\s.tm 7=iv i/\YW s.hp p (.u 2 0 0) (m.top fs (f.cut i)) dp) n ?_ ?_
 .exact⟨0,qA,qA,qB,qB,qB,qB,iM,qB,by rw [Hg];exact (have h:=hO;YW.re h)⟩
 clear hT hF hO;rintro k s - - ⟨i,rfl,hi,t0,t1,t2,t6,p6,t7,hO⟩;have hT:=hO.top;have hX0:s.hp Xn≠none:=rT;have hU0:s.hp (.u 2 0 0)≠none:=by obtain⟨js,e⟩:=hO.fr.top;rw [e];simp
 have hk:=Mg (f:=f) (i:=i) qA;obtain⟨rows,a0,a1,a2,a3,a4,a5,vs,e1,e2,e3,e4,e5⟩:=hO.take hk;by_cases hil:i<n
 .have hdl:(zf (f.stack.drop (f.stack.length - i))).length=i:=qv;have hdv:=Hh (f:=f) (i:=i) qA;refine uV ?_<|kG t0 t1 t2 t6 p6 t7<|hil;intro K hK;have fx:=aI t0 (aI t1 t6);refine vS (Dp.2 hX0) (Dp.2 hU0) (hF:=gh gl ZK (λ_=>zi) _ rows fs.length (f.stack.length - (i+1)) a0 a1 a2 a3 a4 a5 vs (f.cut i).Yw e2 e3 e4 e5 qA) (h:=?_);intro y H1 hw;clear fx;have hO1:=hO.taken e1 hk hw;obtain⟨rfl,-⟩:=hw;rw [Ab qA] at hO1;generalize (f.cut i).Yw=v at *;obtain⟨v1,v2⟩:=v;have hT1:=hO1.top;have hap:[[iv v1,iv v2]]++zf (f.stack.drop (f.stack.length - i))=zf (f.stack.drop (f.stack.length - (i+1))):=by rw [hdv];rfl
  have hi1:i<=1:=qA;refine uV ?_<|er t0 t1 t2 t6 p6 t7 hT1 hdl<|hi1;have htk:(f.stack.drop (f.stack.length - i)).take i=f.stack.drop (f.stack.length - i):=bC qv;exact⟨n - (i+1),qA,i+1,rfl,qA,wF,by simp [t1,e1],uQ,qv,by simp [htk,<- hap],q8,(have h:=hO1;YW.re h)⟩
 .obtain rfl:i=n:=qA;have hdl:(f.stack.drop (f.stack.length - i)).length=i:=qv;have htm:=h.top.sv _ (gM (Aa (f:=f) (i:=i) qA));rw [hcm];refine uV ?_<|kH t0 t1 t2 t6 p6<|t7;intro K hK;have fx:=aI t0 (aI t1 t6);refine vS (Dp.2 hX0) (Dp.2 hU0) (hF:=gh gl ZK (λ_=>zi) _ rows fs.length (f.stack.length - (i+1)) a0 a1 a2 a3 a4 a5 vs (f.cut i).Yw e2 e3 e4 e5 qA) (h:=?_);intro y H1 hw;clear fx;have hO1:=hO.taken e1 hk hw;obtain⟨rfl,-⟩:=hw;rw [Ab qA] at hO1;generalize (f.cut i).Yw=v at *;obtain⟨v1,v2⟩:=v;have hT1:=hO1.top;refine uV ?_<|kG t0 t1 t2 t6 p6 t7<|hT1;refine uk (λs=>s.tm 0=.pt Xn 0/\s.tm 1=.ep (.u 2 0 0) 7 fs.length 0/\s.tm 2=iv i/\s.tm 6=.hs (.s 6) 2 0 i/\s.hp (.s 6)=some (.row 2 (zf (f.stack.drop (f.stack.length - i))))/\s.tm 8=.pt (.s 8) 0/\s.hp (.s 8)=some (.row 2 [[iv v1,iv v2]])/\s.tm 30=bv (v1 != 2)/\YW s.hp p (.u 2 0 0) (m.top fs (f.cut (i+1))) dp) ⟨wF,by simp [t1,e1],uQ,aT,by simp [p6],qB,qB,qB,(have h:=hO1;YW.re h)⟩ ?_;clear hT hT1 e1 e2 e3 e4 e5 t0 t1 t2 t6 p6 t7 hO hO1 hX0 hU0 hdl;rintro s ⟨t0,t1,t2,t6,p6,t8,p8,t30,hO⟩;have hT:=hO.top;simp only [vg,Y2.top] at hT;by_cases h2:v1=2
  case neg =>
   have hb:(v1 != 2)=true:=mJ;rw [if_pos h2];refine uV ?_<|gJ t0 t1 t2 t6 p6 t8 p8 t30 hT<|hb;refine qE [] .nil qF ⟨_,.inl rfl,YW.fin (YW.qCN hO rfl λk hk=>?_) (.inr rfl)⟩;simp [vg]
  subst h2;rw [if_neg qB];have hv2:=htm.num;have hv3:=htm.fn rfl;simp only at hv2 hv3;obtain⟨jf,rfl⟩:∃ jf:Nat,v2=jf:=⟨v2.toNat,qA⟩;have hjl:jf<m.YT.length:=qA;obtain⟨q,hq⟩:=gX hjl;obtain⟨_,hqE⟩:=gS hq;obtain⟨kq,hk1,hk2,hk3,hk4⟩:=h.YT q (gM hq);obtain⟨b,cs⟩:=q;simp only at hk1 hk2 hk3 hk4;have hFn:=hO.YT;simp only [cO] at hFn;have Ym:=(gS hk1).1;have hcd:(qg p p.length)[b]?=some (qd p b):=by simp [qg,Ym]
  obtain⟨hcdl,hcdE⟩:=gS hcd;have hpn:(qd p b).params.length=fH p b:=by simp [qd,hk1,fH]
  simp only [a6,hq];by_cases hpi:fH p b=i
  case neg =>
   rw [if_pos hpi];have hb:(((fH p b:Nat):Int) != (i:Int))=true:=by rw [bne_iff_ne];omega
   have hb2:¬ ((fH p b:Nat):Int)=(i:Int):=qA;refine uV ?_<|qQ t0 t1 t2 t6 p6 t8 p8 t30 hT hFn hq hqE<|kG hjl hcd hcdl hcdE hpn hb<|hb2;refine qE [] .nil qF ⟨_,.inl rfl,YW.fin (have h:=hO;YW.re h (h0:=by simp [vg])) (.inr rfl)⟩
  rw [if_neg (by simpa using hpi)];refine uV ?_<|qQ t0 t1 t2 t6 p6 t8 p8 t30 hT hFn hq hqE<|kH hjl hcd hcdl hcdE hpn<|hpi;obtain⟨js,hU⟩:=hO.fr.top;have hc1:=h.nc;have hc2:=h.made;have hc3:=j7 (p:=p) (b:=b);intro K hK;have fx:=aI t0 hT;refine vS zB zo (hF:=ge _ _ p (m.top fs (f.cut (i+1))) b cs dp Ym Av qA As (have h:=hO;YW.re h)) (h:=?_);rintro y H1 ⟨rfl,h3,h5,h6,hO1⟩;clear fx;have hT1:=hO1.top;refine uV ?_<|jP t0 t1 t2 t6 p6 t8 p8 hT hT1 h3<|aI h5<|h6;have hcf:(qd p b).YV=qG p b:=by simp [qd,hk1]
  have hcc:(qd p b).cells=qC p b:=by simp [qd,hk1]
  have hkp:(qd p b).params=kq.params:=by simp [qd,hk1]
  have hf8:=vF (p:=p) (b:=b);have hc8:=zn (p:=p) (b:=b);simp only [Bu] at h3 h5 h6 hO1;refine qR (λk s=>∃ (j:Nat) (fl C:List Yj),k=i - j/\j<=i/\No p m b (f.stack.drop (f.stack.length - i)) j fl C/\s.tm 0=.pt Xn 0/\s.tm 2=iv i/\s.tm 6=.hs (.s 6) 2 0 i/\s.hp (.s 6)=some (.row 2 (zf (f.stack.drop (f.stack.length - i))))/\s.tm 10=.pt (.s 10) 0/\s.hp (.s 10)=some (.row 6 [(qd p b).row])/\s.tm 11=.pt (.s 11) 0/\s.hp (.s 11)=some (.row 7 [[iv b,iv 0,iv (-1),.hs (.c (.s 63) 0 3) 3 0 (qG p b).length,ZD (zu ((List.range (qC p b).length).map (m.cells.length+·)++cs)),.hs (.c (.s 63) 0 5) 3 0 8,.hs (.c (.s 63) 0 6) 2 0 0]])/\s.hp (.c (.s 63) 0 3)=some (.row 3 (qU fl))/\s.hp (.c (.s 63) 0 5)=some (.row 3 (qU qc))/\s.hp (.c (.s 63) 0 6)=some (.row 2 [])/\s.tm 12=iv j/\YW s.hp p (.u 2 0 0) { m.top fs (f.cut (i+1)) with cells:=C,made:=m.made+1 } dp) i ?_ ?_
  .exact⟨0,_,_,qA,qA,.inl ⟨rfl,rfl,rfl⟩,wF,uQ,aT,by simp [p6],qB,qB,qB,qB,zN,zA,zL,qB,(have h:=hO1;YW.re h)⟩
  clear t0 t1 t2 t6 p6 t8 p8 t30 hT hT1 h3 h5 h6 hO1 hO hU;rintro k s - - ⟨j,fl,C,rfl,hj,hB,t0,t2,t6,p6,t10,p10,t11,p11,h3,h5,h6,t12,hO⟩;have hT:=hO.top;simp only [vg,Y2.top] at hT;have hC:=hO.cells;simp only at hC;have hBf:=hB.fl;have hBc:=hB.cl;by_cases hji:j<i
  .obtain rfl:i=1:=qA;obtain rfl:j=0:=qA
   obtain⟨x,hx⟩:∃ x,kq.params=[x]:=by
    have:kq.params.length=1:=by rw [<- hkp,hpn];exact hpi
    match h:kq.params,this with
    | [x],_=>exact⟨x,rfl⟩
   have hdl:(f.stack.drop (f.stack.length - 1)).length=1:=qv
   obtain⟨v,hv⟩:∃ v,f.stack.drop (f.stack.length - 1)=[v]:=by
    match h:f.stack.drop (f.stack.length - 1),hdl with
    | [v],_=>exact⟨v,rfl⟩
   rw [hv] at hB p6;rw [hx] at hkp;have hxm:x∈kq.params:=by rw [hx];simp
   obtain⟨-,rfl,rfl⟩:0=0/\fl=List.replicate (qG p b).length none/\C=m.cells++List.replicate (qC p b).length none:=by
    rcases hB with h|⟨h,_⟩
    .exact h
    .omega
   obtain⟨v1,v2⟩:=v;have hpl:=ve gl (qG p b) x qA;have hpc:=ve gl (qC p b) x qA;by_cases hxf:x∈qG p b
   .obtain⟨z,hz,hzl,_⟩:=zQ hxf;rw [hz] at hpl;have fx:=qQ t0 t2 t6 p6 t10 p10 t11 p11 h3 h5 h6 t12<|kH hT hC hcf hcc hkp<|hzl;have c1:=hpl;refine uV ?_<|fx;clear fx c1;exact⟨0,qA,1,_,_,qA,qA,.inr ⟨rfl,x,(v1,v2),hkp,hv,.inl ⟨hxf,rfl,rfl⟩⟩,wF,uQ,aT,by simp [p6,hv],by simp [t10],by simp [p10],by simp [t11],by simp [p11],by simp [hz],zA,zL,qF,(have h:=hO;YW.re h)⟩
   .have hxc:x∈qC p b:=(ot hP hk1 hxm).resolve_left hxf;obtain⟨z,hz,hzl,_⟩:=zQ hxc;have hneg:qq (qG p b) x<0:=Int.not_le.1 λe=>hxf (zr.1 e);have hneg2:¬ 0<=qq (qG p b) x:=Int.not_le.2 hneg;rw [hz] at hpc
    have hzc:(zu ((List.range (qC p b).length).map (m.cells.length+·)++cs))[z]?=some (((m.cells.length+z:Nat)):Int):=by
     simp only [zu];rw [kU,dX (by simpa using hzl),kU,List.getElem?_range hzl]
     rfl
    obtain⟨hzcl,hzcE⟩:=gS hzc;have hzm:m.cells.length+z<(m.cells++List.replicate (qC p b).length (none:Yj)).length:=qv;have hzm2:z<(qC p b).length+cs.length:=qA;have hz1:((m.cells.length:Int)+z).toNat=m.cells.length+z:=qA;have hz0:(0:Int)<=(m.cells.length:Int)+z:=qA;have hz2:(m.cells.length:Int)+z<(m.cells.length:Int)+(qC p b).length:=qA;generalize qq (qG p b) x=u at hpl hneg hneg2;have fx:=qQ t0 t2 t6 p6 t10 p10 t11 p11 h3 h5 h6 t12<|qQ hT hC hcf hcc hkp hzl hneg hneg2 hzc hzcl hzcE hzm<|j4 hzm2 hz1 hz0<|hz2;have c1:=hpl;have c2:=hpc;refine uV ?_<|fx;clear fx c1 c2;exact⟨0,qA,1,_,_,qA,qA,.inr ⟨rfl,x,(v1,v2),hkp,hv,.inr ⟨hxf,rfl,rfl⟩⟩,wF,uQ,aT,by simp [p6,hv],by simp [t10],by simp [p10],by simp [t11],by simp [p11],zN,zA,zL,qF,(have h:=hO;YW.re h (h0:=ar) (h2:=by simp [hz]))⟩
  .obtain rfl:j=i:=qA;obtain⟨js,hF⟩:=hO.fr.top;have hvl:(f.stack.drop (f.stack.length - j)).length=j:=qv;have hfin:=hB.fin (m:=m.top fs (f.cut (j+1))) (cs:=cs) hvl;have hfl2:fs.length+1<=2000:=qA;refine Np (.c (.s 63) 0 3) (.s 20) (.inl rfl) (.inl rfl) (Np (.c (.s 63) 0 5) (.s 21) (.inl rfl) (.inl rfl) (Np (.c (.s 63) 0 6) (.s 22) (.inl rfl) (.inl rfl) ?_));refine uV ?_<|qQ t0 t2 t6 p6 t10 p10 t11 p11 h3 h5 h6 t12<|jD hT hF<|hfl2;rw [hfin];refine jS [] .nil qF ⟨_,.inr rfl,YW.fin ?_ (.inl qB)⟩
   have key:∀ (i1:Nat) g,(fs++[f.cut (j+1)]++[(⟨b,0,fl,(List.range (qC p b).length).map (m.cells.length+·)++cs,qc,[]⟩:YZ)])[i1]?=some g->(i1=fs.length+1/\g=⟨b,0,fl,(List.range (qC p b).length).map (m.cells.length+·)++cs,qc,[]⟩)\/(i1<fs.length+1/\(fs++[f.cut (j+1)])[i1]?=some g):=by
    intro i1 g hg;rcases Dq i1 (fs++[f.cut (j+1)]).length with e|e|e
    .rw [dX e] at hg;exact .inr ⟨by simpa using e,hg⟩
    .subst e;simp at hg;exact .inl ⟨qB,hg.symm⟩
    .rw [nT (by simp at e ⊢;omega)] at hg
     cases hg
   refine⟨?_,?_,?_,?_,?_,?_,?_,?_,⟨[],?_⟩,λi1 g hg=>?_,λi1 g hg=>?_,λi1 g hg=>?_⟩
   .simp [vg]
   .simp [hO.ZP]
   .simp [hO.cells]
   .simp [hO.Yd]
   .simp [hO.YT]
   .simp [hO.Yt]
   .simp [hO.out]
   .simp [hO.Zb]
   .simp;rw [<- Dr,nD]
    have htk:(fs++f.cut (j+1)::js).take (fs.length+1)=fs++[f.cut (j+1)]:=by
     simp [BT];exact bC qA
    rw [htk,pU (m:=.c Xn 0 6) λi1 g hg=>?_]
    .have:=pV (p:=p) (n:=.c Xn 0 6) (l:=fs++[f.cut (j+1)]) (f:=⟨b,0,fl,(List.range (qC p b).length).map (m.cells.length+·)++cs,qc,[]⟩);simp [zy,u5,hBf] at this;exact this
    .have hlt:=(gS hg).1;have hne:¬ i1=fs.length+1:=by simp at hlt;omega
     simp [zy,hne]
   .rcases key i1 g hg with⟨rfl,rfl⟩|⟨hl,hg⟩
    .simp [h3]
    .have hne:¬ i1=fs.length+1:=qA;simp [hO.fr.YV i1 g hg,hne]
   .rcases key i1 g hg with⟨rfl,rfl⟩|⟨hl,hg⟩
    .simp [h5]
    .have hne:¬ i1=fs.length+1:=qA;simp [hO.fr.names i1 g hg,hne]
   .rcases key i1 g hg with⟨rfl,rfl⟩|⟨hl,hg⟩
    .exact⟨[],by simp [h6,zf]⟩
    .have hne:¬ i1=fs.length+1:=qA;exact (hO.fr.stack i1 g hg).imp λj1 hj1=>by simp [hj1,hne]
abbrev We:Y8:=kr<|.l 8 [4,3,2,1,0]<|.l 9 [0]<|.q 10<|.q 11<|.l 12 []<|.done
abbrev Wd:Y8:=vH<|.l 12 [7,5,4,3,2,1,0]<|.l 13 [7,5,0]<|.q 14<|.q 15<|.l 16 []<|.done
abbrev Wc:Y8:=yq<|.l 11 [6,5,4,3,2,1,0]<|.q 12<|.l 13 [4,3,2,1,0]<|.l 14 [0]<|.q 15<|.q 16<|.l 17 []<|.done
abbrev Wb:Y8:=vH<|.l 12 [7,6,5,4,3,2,1,0]<|.l 13 [7,6,5,0]<|.q 14<|.q 15<|.l 16 []<|.done
abbrev Wa:Y8:=vH<|.l 12 [7,6,5,4,3,2,1,0]<|.l 13 [4,3,2,1,0]<|.l 14 [4,3,2,1,0]<|.l 15 [0]<|.q 16<|.q 17<|.l 18 []<|.done
abbrev W9:Y8:=bK<|.done
abbrev W8:Y8:=xj<|.l 18 [13,11,10,9,8,7,6,5,4,3,2,1,0]<|.l 19 [13,11,10,9,8,7,6,5,0]<|.q 20<|.q 21<|.l 22 []<|.done
abbrev W7:Y8:=kP<|.l 6 [4,3,2,1,0]<|.l 7 [4,3,2,1,0]<|.l 8 [4,3,2,1,0]<|.l 9 [0]<|.q 10<|.q 11<|.l 12 []<|.done
theorem uu {A G G2:Prop} (k:G2) (x:A) (h:A->Yr G2->G:=by
 intro fx kk;refine qI ?_
 repeat ((first|refine Y7 (id:=3) We mixed ?_|refine Y7 (id:=9) Wd mixed ?_|refine Y7 (id:=11) Wc mixed ?_|refine Y7 (id:=12) Wb mixed ?_|refine Y7 (id:=14) Wa mixed ?_|refine Y7 (id:=19) W9 mixed ?_|refine Y7 (id:=21) W8 mixed ?_|refine Y7 (id:=23) W7 mixed ?_);refine qW ?_;refine qI ?_)
 exact kk.h):G:=h x ⟨k⟩
theorem cQ (gl) (H:Nm->Option AO) (p:YU) (m:Y2) (fs:List YZ) (f:YZ) (o:Int×Int) (dp pc0:Nat) (hP:Yl p) (hM:MOk p m fs { f with pc:=pc0 }) (hR:qBA p f.YS o) (hc:o.1=1\/o.1=14\/o.1=15) (h14:o.1=14->2<=f.stack.length) (h18:o.1=18\/o.1=19->1<=f.stack.length) (hsl:f.stack.length<=1000) (hfl:fs.length<=1000) (hO:YW H p (.u 2 0 0) (m.top fs f) dp) (h9:H (.u 9 0 0)=none) :
  Yc prog gl 154 ZK [.pt Xn 0,.ep (.u 2 0 0) 7 fs.length 0,.agg [iv o.1,iv o.2]] H (λ_ _ H'=>∃ q,(q=.u 2 0 0\/q=.c Xn 0 6)/\Nw H' p q (yd p m fs f o) dp) Yz:=by
 have hT:=hO.top;obtain⟨L,j,hL,hat,hlt,hF,hf,hn,hsk⟩:=hO.Z2 rfl;obtain⟨_,hatE⟩:=gS hat;simp only [vg,Y2.top] at hT;have harg:=hR.arg;have hblk:=hR.YS;have hatt:=hR.attr;have hfn:=hM.nf;have hfo:=hM.out;obtain⟨c,a⟩:=o;obtain⟨x,rfl⟩:∃ x:Nat,a=x:=⟨a.toNat,cj⟩;simp only at hc h14 h18 harg hblk hatt;refine Yc.Yb func154 [] ntmps154 (λ_=>zi) λC w g root hroot=>?_;refine uu ?_<|aI hT<|hF;refine uk (λs=>s.tm 0=.pt Xn 0/\s.tm 1=.ep (.u 2 0 0) 7 fs.length 0/\s.tm 5=.pt (.s 5) 0/\s.hp (.s 5)=some (.row 2 [[iv c,iv x]])/\s.tm 10=iv c/\s.tm 11=bv (c==1)/\YW s.hp p (.u 2 0 0) (m.top fs f) dp) ⟨qB,qB,qB,qB,qB,qB,(have h:=hO;YW.re h)⟩ ?_;clear hT hF hf hn hsk hat hatE hlt hL hO;rintro s ⟨t0,t1,t5,p5,t10,t11,hO⟩;have hT:=hO.top;obtain⟨L,j,hL,hat,hlt,hF,hf,hn,hsk⟩:=hO.Z2 rfl;obtain⟨_,hatE⟩:=gS hat;simp only [vg,Y2.top] at hT;have hX0:s.hp Xn≠none:=rT;have hU0:s.hp (.u 2 0 0)≠none:=by rw [hF];simp
 rcases hc with rfl|rfl|rfl
 .have hw:yd p m fs f (1,(x:Int))=m.top fs (f.push (1,x)):=wV;rw [hw];refine uu ?_<|qQ t0 t1 t5 p5 t10 t11 hT hF hat hatE hlt hsk<|hsl;refine jS [] .nil qF ⟨_,.inl rfl,YW.qAY (YW.fin (have h:=hO;YW.reT h rfl hL rfl dL dF dK ⟨[],dJ⟩ (h0:=ar)) (.inr rfl))⟩
 .have hw:yd p m fs f (14,(x:Int))=Jl m fs f:=wV;have hadd:Jl m fs f=(if f.pop.Yw.1≠1\/f.Yw.1≠1 then m.stop fs f.pop.pop 5 else m.top fs (f.pop.pop.push (1,(f.pop.Yw.2+f.Yw.2).tmod 1000))):=rfl;rw [hw,hadd];clear hw hadd;have h2:=h14 rfl;obtain⟨rows,a0,a1,a2,a3,a4,a5,vs,e1,e2,e3,e4,e5⟩:=hO.take (k:=f.stack.length - 1) qA;refine uu ?_<|kH t0 t1 t5 p5 t10<|t11;intro K hK;have fx:=aI t0 t1;refine vS (Dp.2 hX0) (Dp.2 hU0) (hF:=gh gl ZK (λ_=>zi) _ rows fs.length (f.stack.length - 1) a0 a1 a2 a3 a4 a5 vs f.Yw e2 e3 e4 e5 qA) (h:=?_);intro y H1 hw1;clear fx;have hO1:=hO.taken e1 qA hw1;obtain⟨rfl,-⟩:=hw1;have hv1:=hM.top.sv _ (bH (f:=f) qA);have hv2:=hM.top.sv _ (dk (bH (f:=f.pop) (by rw [cV];omega)));have hpl:f.pop.stack.length=(f.stack.length - 2)+1:=by rw [cV];omega
  generalize hfp:f.pop=f1 at *;generalize hft:f.Yw=u at *;obtain⟨u1,u2⟩:=u;have hT1:=hO1.top;refine uu ?_<|kG t0 t1 t5 p5 hT hF<|hT1;intro K hK;refine uD (λs=>s.tm 0=.pt Xn 0/\s.tm 1=.ep (.u 2 0 0) 7 fs.length 0/\s.tm 6=.pt (.s 6) 0/\s.hp (.s 6)=some (.row 2 [[iv u1,iv u2]])/\s.tm 29=.ep (.u 2 0 0) 7 fs.length 0/\YW s.hp p (.u 2 0 0) (m.top fs f1) dp) ⟨wF,by simp [t1,hF],qB,qB,qB,(have h:=hO1;YW.re h)⟩ ?_;clear t0 t1 t5 p5 t10 t11 hT hT1 hF hf hn hsk hat hatE hlt hL hO hO1 e1 e2 e3 e4 e5 hX0 hU0;rintro s ⟨t0,t1,t6,p6,t29,hO⟩;have hT:=hO.top;obtain⟨L,j,hL,hat,hlt,hF,hf,hn,hsk⟩:=hO.Z2 rfl;simp only [vg,Y2.top] at hT;obtain⟨rows,a0,a1,a2,a3,a4,a5,vs,e1,e2,e3,e4,e5⟩:=hO.take hpl;have fx:=aI t0 (aI t1 t29);refine vS zB cE (hF:=gh gl ZK (λ_=>zi) _ rows fs.length (f.stack.length - 2) a0 a1 a2 a3 a4 a5 vs f1.Yw e2 e3 e4 e5 qA) (h:=?_);intro y H1 hw1;clear fx;have hO1:=hO.taken e1 hpl hw1;obtain⟨rfl,-⟩:=hw1;have hpl2:=wo hpl;generalize hfp2:f1.pop=f2 at *;generalize hft2:f1.Yw=v at *;obtain⟨v1,v2⟩:=v;have hT1:=hO1.top;have hu2:=hv1.num;have hv2:=hv2.num;simp only at hu2 hv2;have hwr:IntKind.i64.wrap (v2+u2)=v2+u2:=Yi qA qA;have hq0:=Int.tmod_nonneg 1000 (show 0<=v2+u2 by omega);have hq1:=Int.tmod_lt_of_pos (v2+u2) (show (0:Int)<1000 by omega);simp only;have hwq:IntKind.i64.wrap ((v2+u2).tmod 1000)=(v2+u2).tmod 1000:=Yi qA qA;have ht0':(s.call 30 ZK (yb ZK s.hp) H1).tm 0=.pt Xn 0:=wF
  have ht1':(s.call 30 ZK (yb ZK s.hp) H1).tm 1=.ep (.u 2 0 0) 7 fs.length 0:=by simp [t1,hF]
  have ht6':(s.call 30 ZK (yb ZK s.hp) H1).tm 6=.pt (.s 6) 0:=aT;have hp6':(s.call 30 ZK (yb ZK s.hp) H1).hp (.s 6)=some (.row 2 [[iv u1,iv u2]]):=by simp [p6]
  have hO3:YW (s.call 30 ZK (yb ZK s.hp) H1).hp p (.u 2 0 0) (m.top fs f2) dp:=(have h:=hO1;YW.re h);clear t0 t1 t6 p6 t29 hT hF hf hn hsk hlt hat hL e1 e2 e3 e4 e5 hO hO1 hT1;generalize s.call 30 ZK (yb ZK s.hp) H1=s at ht0' ht1' ht6' hp6' hO3 hK ⊢;have hO:=hO3;have hT:=hO.top;obtain⟨L,j,hL,hat,hlt,hF,hf,hn,hsk⟩:=hO.Z2 rfl;obtain⟨_,hatE⟩:=gS hat;simp only [vg,Y2.top] at hT;have hsl2:f2.stack.length<=1000:=qA;generalize hmm:(if (v1,v2).1≠1\/(u1,u2).1≠1 then m.stop fs f2 5 else m.top fs (f2.push (1,((v1,v2).2+(u1,u2).2).tmod 1000)))=mm at hK ⊢;simp only at hmm;by_cases k1:v1=1
  .subst k1;by_cases k2:u1=1
   .subst k2;rw [if_neg qB] at hmm;subst hmm;refine uu ?_<|qQ ht0' ht1' ht6' hp6' hT hwr hwq hF hat hatE hlt hsk<|hsl2;refine jS [] .nil qF ⟨_,.inl rfl,YW.qAY (YW.fin (have h:=hO;YW.reT h rfl hL rfl dL dF dK ⟨[],dJ⟩ (h0:=ar)) (.inr rfl))⟩
   .have kb:(u1 != 1)=true:=by simpa using k2
    rw [if_pos (.inr k2)] at hmm;subst hmm;refine uu ?_<|qQ ht0' ht1' ht6' hp6' hT hwr hwq hF hat hatE hlt hsk<|aI hsl2<|kb;refine jS [] .nil qF ⟨_,.inl rfl,fs++[f2.push (1,(v2+u2).tmod 1000)],⟨λe=>absurd e qB,Aw⟩,YW.fin (have h:=hO;YW.reT h rfl hL rfl dL dF dK ⟨[],dJ⟩ (h0:=ar)) (.inr rfl)⟩
  .have kb:(v1 != 1)=true:=by simpa using k1
   rw [if_pos (.inl k1)] at hmm;subst hmm;refine uu ?_<|qQ ht0' ht1' ht6' hp6' hT hwr hwq hF hat hatE hlt hsk<|aI hsl2<|kb;refine jS [] .nil qF ⟨_,.inl rfl,fs++[f2.push (1,(v2+u2).tmod 1000)],⟨λe=>absurd e qB,Aw⟩,YW.fin (have h:=hO;YW.reT h rfl hL rfl dL dF dK ⟨[],dJ⟩ (h0:=ar)) (.inr rfl)⟩
 .have hw:yd p m fs f (15,(x:Int))={ m.top fs (f.push (2,m.YT.length)) with YT:=m.YT++[(x,uM p f x)] }:=wV;rw [hw];obtain⟨kb,hk1,hk2,hk3,_⟩:=hblk (.inl rfl);simp only [a6] at hk1;have hxl:=(gS hk1).1;have hFn:=hO.YT;simp only [cO] at hFn;have hap:wT m.YT++[[iv x,ZD (zu (uM p f x))]]=wT (m.YT++[(x,uM p f x)]):=JR (g:=(x,uM p f x));have hfl3:m.YT.length<=1000:=qA;have hwf:IntKind.i64.wrap (m.YT.length:Int)=m.YT.length:=Yi qA qA;refine uu ?_<|jP t0 t1 t5 p5 t10 t11 hT hFn hF hat<|aI hatE<|hlt;intro K hK;have fx:=aI t0 (aI t1 (aI t5 (aI p5 (aI hT hFn))));refine oJ (λK' h'=>zw (hB:=.cons (Hq (p:=p) (n:=.u 2 0 0) (m:=m.top fs f) (dp:=dp) (have h:=hO;YW.re h) qA) (.cons (NS (by simp;exact hF) hat) (.cons (.refl _) .nil))) (hF:=Dd gl p _ _ _ _ _ _ _ _ _ _ _ _ _ _ _ _ (zu f.cells) (z8 p x) (uM p f x) x _ qA hxl rfl cB (Mv (f:={ f with pc:=pc0 }) hP.sh.Y9 hM.top hk1 hk2) (Hl x)) (h:=h')) qB zU ?_;clear fx;refine uu ?_<|qQ t0 t1 t5 p5 t10 t11 hT hFn hF hat hatE hlt<|j4 hsk hsl hfl3<|hwf;refine jS [] .nil qF ⟨_,.inl rfl,YW.qAY (YW.fin (have h:=hO;YW.reT h rfl hL rfl dL dF dK ⟨[],dJ⟩ (h0:=ar) (h4:=rX)) (.inr rfl))⟩
abbrev U8:Y8:=kr<|.l 8 [4,3,2,1,0]<|.l 9 [0]<|.q 10<|.q 11<|.l 12 []<|.done
abbrev U7:Y8:=vH<|.l 12 [7,5,4,3,2,1,0]<|.l 13 [7,5,0]<|.q 14<|.q 15<|.l 16 []<|.done
abbrev U6:Y8:=yq<|.l 11 [6,5,4,3,2,1,0]<|.q 12<|.l 13 [4,3,2,1,0]<|.l 14 [0]<|.q 15<|.q 16<|.l 17 []<|.done
abbrev U5:Y8:=vH<|.l 12 [7,6,5,4,3,2,1,0]<|.l 13 [7,6,5,0]<|.q 14<|.q 15<|.l 16 []<|.done
abbrev U4:Y8:=vH<|.l 12 [7,6,5,4,3,2,1,0]<|.l 13 [4,3,2,1,0]<|.l 14 [4,3,2,1,0]<|.l 15 [0]<|.q 16<|.q 17<|.l 18 []<|.done
abbrev U3:Y8:=bK<|.done
abbrev U2:Y8:=xj<|.l 18 [13,11,10,9,8,7,6,5,4,3,2,1,0]<|.l 19 [13,11,10,9,8,7,6,5,0]<|.q 20<|.q 21<|.l 22 []<|.done
abbrev U1:Y8:=kP<|.l 6 [4,3,2,1,0]<|.l 7 [4,3,2,1,0]<|.l 8 [4,3,2,1,0]<|.l 9 [0]<|.q 10<|.q 11<|.l 12 []<|.done
theorem lG {A G G2:Prop} (k:G2) (x:A) (h:A->Yr G2->G:=by
 intro fx kk;refine qI ?_
 repeat ((first|refine Y7 (id:=3) U8 mixed ?_|refine Y7 (id:=9) U7 mixed ?_|refine Y7 (id:=11) U6 mixed ?_|refine Y7 (id:=12) U5 mixed ?_|refine Y7 (id:=14) U4 mixed ?_|refine Y7 (id:=19) U3 mixed ?_|refine Y7 (id:=21) U2 mixed ?_|refine Y7 (id:=23) U1 mixed ?_);refine qW ?_;refine qI ?_)
 exact kk.h):G:=h x ⟨k⟩
theorem xX (gl) (H:Nm->Option AO) (p:YU) (m:Y2) (fs:List YZ) (f:YZ) (o:Int×Int) (dp pc0:Nat) (hP:Yl p) (hM:MOk p m fs { f with pc:=pc0 }) (hR:qBA p f.YS o) (hc:o.1=16) (h14:o.1=14->2<=f.stack.length) (h18:o.1=18\/o.1=19->1<=f.stack.length) (hsl:f.stack.length<=1000) (hfl:fs.length<=1000) (hO:YW H p (.u 2 0 0) (m.top fs f) dp) (h9:H (.u 9 0 0)=none) :
  Yc prog gl 154 ZK [.pt Xn 0,.ep (.u 2 0 0) 7 fs.length 0,.agg [iv o.1,iv o.2]] H (λ_ _ H'=>∃ q,(q=.u 2 0 0\/q=.c Xn 0 6)/\Nw H' p q (yd p m fs f o) dp) Yz:=by
 have hT:=hO.top;obtain⟨L,j,hL,hat,hlt,hF,hf,hn,hsk⟩:=hO.Z2 rfl;obtain⟨_,hatE⟩:=gS hat;simp only [vg,Y2.top] at hT;have harg:=hR.arg;have hblk:=hR.YS;have hatt:=hR.attr;have hfn:=hM.nf;have hfo:=hM.out;obtain⟨c,a⟩:=o;obtain⟨x,rfl⟩:∃ x:Nat,a=x:=⟨a.toNat,cj⟩;simp only at hc h14 h18 harg hblk hatt;refine Yc.Yb func154 [] ntmps154 (λ_=>zi) λC w g root hroot=>?_;refine lG ?_<|aI hT<|hF;refine uk (λs=>s.tm 0=.pt Xn 0/\s.tm 1=.ep (.u 2 0 0) 7 fs.length 0/\s.tm 5=.pt (.s 5) 0/\s.hp (.s 5)=some (.row 2 [[iv c,iv x]])/\s.tm 10=iv c/\s.tm 11=bv (c==1)/\YW s.hp p (.u 2 0 0) (m.top fs f) dp) ⟨qB,qB,qB,qB,qB,qB,(have h:=hO;YW.re h)⟩ ?_;clear hT hF hf hn hsk hat hatE hlt hL hO;rintro s ⟨t0,t1,t5,p5,t10,t11,hO⟩;have hT:=hO.top;obtain⟨L,j,hL,hat,hlt,hF,hf,hn,hsk⟩:=hO.Z2 rfl;obtain⟨_,hatE⟩:=gS hat;simp only [vg,Y2.top] at hT;have hX0:s.hp Xn≠none:=rT;have hU0:s.hp (.u 2 0 0)≠none:=by rw [hF];simp
 subst hc;have hw:yd p m fs f (16,(x:Int))=ze p (m.top fs f) x (uM p f x) []:=wV;rw [hw];obtain⟨kb,hk1,hk2,hk3,_⟩:=hblk (.inr rfl);simp only [a6] at hk1;have hxl:=(gS hk1).1
 have hpm:(qd p x).params=[]:=by
  have:=hP.sh.head x kb hk1;unfold ym at this;rw [if_neg qA] at this;have h0:kb.params.length=0:=qA;simp [qd,hk1,eh h0]
 have hBg:No p (m.top fs f) x [] 0 (List.replicate (qG p x).length none) (m.cells++List.replicate (qC p x).length none):=.inl ⟨rfl,rfl,rfl⟩;have hfin:=hBg.fin (cs:=uM p f x) rfl;have hc1:=hM.nc;have hc2:=hM.made;have hc3:=j7 (p:=p) (b:=x);have hcl:(uM p f x).length=(qN p x).length:=(Ai hP.sh.Y9 hM.top hk1 hk2).1;refine lG ?_<|jP t0 t1 t5 p5 t10 t11 hT hF hat hatE<|hlt;intro K hK;have fx:=aI t0 (aI t1 (aI t5 (aI p5 (aI hT hF))));refine oJ (λK' h'=>zw (hB:=.cons (Hq (p:=p) (n:=.u 2 0 0) (m:=m.top fs f) (dp:=dp) (have h:=hO;YW.re h) qA) (.cons (NS (by simp;exact hF) hat) (.cons (.refl _) .nil))) (hF:=Dd gl p _ _ _ _ _ _ _ _ _ _ _ _ _ _ _ _ (zu f.cells) (z8 p x) (uM p f x) x _ qA hxl rfl cB (Mv (f:={ f with pc:=pc0 }) hP.sh.Y9 hM.top hk1 hk2) (Hl x)) (h:=h')) qB zU ?_;clear fx;refine lG ?_<|qQ t0 t1 t5 p5 t10 t11 hT hF hat hatE hlt hsk<|hsl;have fx:=aI t0 (aI t1 (aI hT hF));refine yu (.c (.s 108) 0 3) (.s 20) (.inl rfl) (.inl rfl) ?_;refine yu (.c (.s 108) 0 5) (.s 21) (.inl rfl) (.inl rfl) ?_;refine yu (.c (.s 108) 0 6) (.s 22) (.inl rfl) (.inl rfl) ?_;refine vS zB cE (hF:=ge _ _ p (m.top fs f) x (uM p f x) dp hxl Av qA As (have h:=hO;YW.re h)) (h:=?_);rintro y H1 ⟨rfl,h3,h5,h6,hO1⟩;clear fx;have hT1:=hO1.top;simp only [vg] at hT1;obtain⟨js,hF1⟩:=hO1.fr.top;have hfl2:fs.length+1<=2000:=qA
 simp only [IJ] at hF1;refine lG ?_<|qQ t0 t1 t5 p5 hT hT1 hF hF1 hat hatE hlt h3<|jD h5 h6<|hfl2;rw [hfin];refine jS [] .nil qF ⟨_,.inr rfl,YW.qAY (YW.fin ?_ (.inl qB))⟩
 have key:∀ (i1:Nat) g,(fs++[f]++[(⟨x,0,List.replicate (qG p x).length none,(List.range (qC p x).length).map (m.cells.length+·)++uM p f x,qc,[]⟩:YZ)])[i1]?=some g->(i1=fs.length+1/\g=⟨x,0,List.replicate (qG p x).length none,(List.range (qC p x).length).map (m.cells.length+·)++uM p f x,qc,[]⟩)\/(i1<fs.length+1/\(fs++[f])[i1]?=some g):=by
  intro i1 g hg;rcases Dq i1 (fs++[f]).length with e|e|e
  .rw [dX e] at hg;exact .inr ⟨by simpa using e,hg⟩
  .subst e;simp at hg;exact .inl ⟨qB,hg.symm⟩
  .rw [nT (by simp at e ⊢;omega)] at hg
   cases hg
 refine⟨?_,?_,?_,?_,?_,?_,?_,?_,⟨[],?_⟩,λi1 g hg=>?_,λi1 g hg=>?_,λi1 g hg=>?_⟩
 .simp [vg]
 .simp [hO1.ZP]
 .simp [hO1.cells]
 .simp [hO1.Yd]
 .simp [hO1.YT]
 .simp [hO1.Yt]
 .simp [hO1.out]
 .simp [hO1.Zb]
 .simp;rw [<- Dr,nD]
  have htk:(fs++f::js).take (fs.length+1)=fs++[f]:=by
   simp [BT];exact bC qA
  rw [htk,pU (m:=.c Xn 0 6) λi1 g hg=>?_]
  .have:=pV (p:=p) (n:=.c Xn 0 6) (l:=fs++[f]) (f:=⟨x,0,List.replicate (qG p x).length none,(List.range (qC p x).length).map (m.cells.length+·)++uM p f x,qc,[]⟩);simp [zy,u5] at this;exact this
  .have hlt:=(gS hg).1;have hne:¬ i1=fs.length+1:=by simp at hlt;omega
   simp [zy,hne]
 .rcases key i1 g hg with⟨rfl,rfl⟩|⟨hl,hg⟩
  .simp [h3]
  .have hne:¬ i1=fs.length+1:=qA;simp [hO1.fr.YV i1 g hg,hne]
 .rcases key i1 g hg with⟨rfl,rfl⟩|⟨hl,hg⟩
  .simp [h5]
  .have hne:¬ i1=fs.length+1:=qA;simp [hO1.fr.names i1 g hg,hne]
 .rcases key i1 g hg with⟨rfl,rfl⟩|⟨hl,hg⟩
  .exact⟨[],by simp [h6,zf]⟩
  .have hne:¬ i1=fs.length+1:=qA;exact (hO1.fr.stack i1 g hg).imp λj1 hj1=>by simp [hj1,hne]
abbrev U0:Y8:=kr<|.l 8 [4,3,2,1,0]<|.l 9 [0]<|.q 10<|.q 11<|.l 12 []<|.done
abbrev UZ:Y8:=vH<|.l 12 [7,5,4,3,2,1,0]<|.l 13 [7,5,0]<|.q 14<|.q 15<|.l 16 []<|.done
abbrev UY:Y8:=yq<|.l 11 [6,5,4,3,2,1,0]<|.q 12<|.l 13 [4,3,2,1,0]<|.l 14 [0]<|.q 15<|.q 16<|.l 17 []<|.done
abbrev UX:Y8:=vH<|.l 12 [7,6,5,4,3,2,1,0]<|.l 13 [7,6,5,0]<|.q 14<|.q 15<|.l 16 []<|.done
abbrev UW:Y8:=vH<|.l 12 [7,6,5,4,3,2,1,0]<|.l 13 [4,3,2,1,0]<|.l 14 [4,3,2,1,0]<|.l 15 [0]<|.q 16<|.q 17<|.l 18 []<|.done
abbrev UV:Y8:=bK<|.done
abbrev UU:Y8:=xj<|.l 18 [13,11,10,9,8,7,6,5,4,3,2,1,0]<|.l 19 [13,11,10,9,8,7,6,5,0]<|.q 20<|.q 21<|.l 22 []<|.done
abbrev UT:Y8:=kP<|.l 6 [4,3,2,1,0]<|.l 7 [4,3,2,1,0]<|.l 8 [4,3,2,1,0]<|.l 9 [0]<|.q 10<|.q 11<|.l 12 []<|.done
theorem wC {A G G2:Prop} (k:G2) (x:A) (h:A->Yr G2->G:=by
 intro fx kk;refine qI ?_
 repeat ((first|refine Y7 (id:=3) U0 mixed ?_|refine Y7 (id:=9) UZ mixed ?_|refine Y7 (id:=11) UY mixed ?_|refine Y7 (id:=12) UX mixed ?_|refine Y7 (id:=14) UW mixed ?_|refine Y7 (id:=19) UV mixed ?_|refine Y7 (id:=21) UU mixed ?_|refine Y7 (id:=23) UT mixed ?_);refine qW ?_;refine qI ?_)
 exact kk.h):G:=h x ⟨k⟩
theorem ie (gl) (H:Nm->Option AO) (p:YU) (m:Y2) (fs:List YZ) (f:YZ) (o:Int×Int) (dp pc0:Nat) (hP:Yl p) (hM:MOk p m fs { f with pc:=pc0 }) (hR:qBA p f.YS o) (hc:o.1=18\/o.1=19) (h14:o.1=14->2<=f.stack.length) (h18:o.1=18\/o.1=19->1<=f.stack.length) (hsl:f.stack.length<=1000) (hfl:fs.length<=1000) (hO:YW H p (.u 2 0 0) (m.top fs f) dp) (h9:H (.u 9 0 0)=none) :
  Yc prog gl 154 ZK [.pt Xn 0,.ep (.u 2 0 0) 7 fs.length 0,.agg [iv o.1,iv o.2]] H (λ_ _ H'=>∃ q,(q=.u 2 0 0\/q=.c Xn 0 6)/\Nw H' p q (yd p m fs f o) dp) Yz:=by
 have hT:=hO.top;obtain⟨L,j,hL,hat,hlt,hF,hf,hn,hsk⟩:=hO.Z2 rfl;obtain⟨_,hatE⟩:=gS hat;simp only [vg,Y2.top] at hT;have harg:=hR.arg;have hblk:=hR.YS;have hatt:=hR.attr;have hfn:=hM.nf;have hfo:=hM.out;obtain⟨c,a⟩:=o;obtain⟨x,rfl⟩:∃ x:Nat,a=x:=⟨a.toNat,cj⟩;simp only at hc h14 h18 harg hblk hatt;refine Yc.Yb func154 [] ntmps154 (λ_=>zi) λC w g root hroot=>?_;refine wC ?_<|aI hT<|hF;refine uk (λs=>s.tm 0=.pt Xn 0/\s.tm 1=.ep (.u 2 0 0) 7 fs.length 0/\s.tm 5=.pt (.s 5) 0/\s.hp (.s 5)=some (.row 2 [[iv c,iv x]])/\s.tm 10=iv c/\s.tm 11=bv (c==1)/\YW s.hp p (.u 2 0 0) (m.top fs f) dp) ⟨qB,qB,qB,qB,qB,qB,(have h:=hO;YW.re h)⟩ ?_;clear hT hF hf hn hsk hat hatE hlt hL hO;rintro s ⟨t0,t1,t5,p5,t10,t11,hO⟩;have hT:=hO.top;obtain⟨L,j,hL,hat,hlt,hF,hf,hn,hsk⟩:=hO.Z2 rfl;obtain⟨_,hatE⟩:=gS hat;simp only [vg,Y2.top] at hT;have hX0:s.hp Xn≠none:=rT;have hU0:s.hp (.u 2 0 0)≠none:=by rw [hF];simp
 obtain⟨k,hk⟩:∃ k,f.stack.length=k+1:=⟨f.stack.length - 1,by have:=h18 hc;omega⟩;have hv0:=hM.top.sv _ (bH (f:=f) qA);have hpl2:=wo hk;rcases hc with rfl|rfl
 .have hattr:iQ m fs f (18,(x:Int))=(if f.Yw.1≠3 then m.stop fs f.pop 5 else match ju (m.YP.getD f.Yw.2.toNat []) x with|some u=>m.top fs (f.pop.push u)|none=>m.stop fs f.pop 7):=rfl;have hw:yd p m fs f (18,(x:Int))=iQ m fs f (18,(x:Int)):=wV;rw [hw,hattr];clear hw hattr;obtain⟨rows,a0,a1,a2,a3,a4,a5,vs,e1,e2,e3,e4,e5⟩:=hO.take hk;refine wC ?_<|kH t0 t1 t5 p5 t10<|t11;intro K hK;have fx:=aI t0 t1;refine vS (Dp.2 hX0) (Dp.2 hU0) (hF:=gh gl ZK (λ_=>zi) _ rows fs.length k a0 a1 a2 a3 a4 a5 vs f.Yw e2 e3 e4 e5 qA) (h:=?_);intro y H1 hw1;clear fx;have hO1:=hO.taken e1 hk hw1;obtain⟨rfl,-⟩:=hw1;have Yv:∀ c∈m.YP,c.length=8:=λc hc=>(hM.cls c hc).1;generalize hfp:f.pop=f1 at *;generalize hft:f.Yw=u at *;obtain⟨u1,u2⟩:=u;have ht0':(s.call 116 ZK (yb ZK s.hp) H1).tm 0=.pt Xn 0:=wF;have ht1':(s.call 116 ZK (yb ZK s.hp) H1).tm 1=.ep (.u 2 0 0) 7 fs.length 0:=by simp [t1,hF]
  have hT1:=hO1.top;refine wC ?_<|kG t0 t1 t5 p5 hT hF<|hT1;refine uk (λs=>s.tm 0=.pt Xn 0/\s.tm 1=.ep (.u 2 0 0) 7 fs.length 0/\s.tm 5=.pt (.s 5) 0/\s.hp (.s 5)=some (.row 2 [[iv 18,iv x]])/\s.tm 8=.pt (.s 8) 0/\s.hp (.s 8)=some (.row 2 [[iv u1,iv u2]])/\s.tm 119=bv (u1 != 3)/\YW s.hp p (.u 2 0 0) (m.top fs f1) dp) ⟨wF,by simp [t1,hF],wG,by simp [p5],qB,qB,qB,(have h:=hO1;YW.re h)⟩ ?_;clear t0 t1 t5 p5 t10 t11 hT hF hf hn hsk hlt hat hatE hL e1 e2 e3 e4 e5 hO hO1 hT1 ht0' ht1' hX0 hU0;rintro s ⟨t0,t1,t5,p5,t8,p8,t119,hO⟩;have hT:=hO.top;obtain⟨L,j,hL,hat,hlt,hF,hf,hn,hsk⟩:=hO.Z2 rfl;obtain⟨_,hatE⟩:=gS hat;simp only [vg,Y2.top] at hT;have hsl2:f1.stack.length<=1000:=qA;simp only;by_cases k3:u1=3
  case neg =>
   have kb:(u1 != 3)=true:=by simpa using k3
   rw [if_pos k3];refine wC ?_<|er t0 t1 t5 p5 t8 p8 t119 hT<|kb;refine jS [] .nil qF ⟨_,.inl rfl,YW.qAY (YW.fin (YW.qCN hO rfl λk hk=>?_) (.inr rfl))⟩;simp [vg]
  subst k3;rw [if_neg qB];have hu2:=hv0.num;have hu3:=hv0.cls rfl;simp only at hu2 hu3;obtain⟨z,rfl⟩:∃ z:Nat,u2=z:=⟨u2.toNat,qA⟩;have hzl:z<m.YP.length:=qA;obtain⟨cl,hcl⟩:=gX hzl;obtain⟨_,hclE⟩:=gS hcl;have hcl8:=Yv cl (gM hcl);have hx7:=hatt rfl;have hx8:x<cl.length:=qA;have hx8i:(x:Int)<8:=qA;obtain⟨s0,hs0⟩:=gX hx8;obtain⟨_,hs0E⟩:=gS hs0;have hCl:=hO.Yt;simp only [EP] at hCl;have hsa:ju (m.YP.getD ((z:Int).toNat) []) x=s0:=by rw [a6,sM,hcl];simp [ju,hs0]
  rw [hsa]
  cases s0 with
  | some u =>
   obtain⟨w1,w2⟩:=u;refine wC ?_<|qQ t0 t1 t5 p5 t8 p8 t119 hT hCl hzl hcl hclE<|jP hcl8 hx8 hx8i hs0 hs0E hF hat hatE hlt hsk<|hsl2;refine jS [] .nil qF ⟨_,.inl rfl,YW.qAY (YW.fin (have h:=hO;YW.reT h rfl hL rfl dL dF dK ⟨[],dJ⟩ (h0:=ar)) (.inr rfl))⟩
  | none =>
   refine wC ?_<|qQ t0 t1 t5 p5 t8 p8 t119 hT hCl hzl hcl hclE<|yl hcl8 hx8 hx8i hs0<|hs0E;refine jS [] .nil qF ⟨_,.inl rfl,YW.qAY (YW.fin (YW.qCN hO rfl λk hk=>?_) (.inr rfl))⟩;simp [vg]
 .have hw:yd p m fs f (19,(x:Int))={ m.top fs f.pop with out:=m.out++[Hm.shown f.Yw] }:=wV;rw [hw];have hOu:=hO.out;simp only [RM] at hOu;have hol:m.out.length<=1000:=qA;have hsh:=ii gl f.Yw;refine wC ?_<|er t0 t1 t5 p5 t10 t11 hT hOu<|hol;intro K hK;obtain⟨rows,rows',a0,a1,a2,a3,a4,a5,vs,e1,e2,e3,e4,e5,e6⟩:=hO.qAQ (N:=.c Xn 0 9) hk qB qB;have fx:=aI t0 t1;refine Gd ZK (.c Xn 0 9) (.u 9 0 0) (.u 2 0 0) (.row 7 (qY rows fs.length 6 [.hs (.c (.u 2 0 0) fs.length 6) 2 0 k])) (Y6.av f.Yw) (hV:=rfl) (hN:=rfl) (hVe:=rW) (λ_=>zi) qB (λq hq=>by have:=Nm.ZA (a:=.u 1 0 0) (b:=.c Xn 0 9) qB hq;simp [this]) (λ_=>VX) (by simp [hOu]) (λk i j _=>Nn hX0 hU0 k i j) qB qB qB (hF:=NA) (h:=?_);intro hp' hS;clear fx;have hOp:=(hO.Z9 e1 hk).same (.inr rfl) hS;have hT1:=hOp.top;have hOu1:=hOp.out;simp only [vg] at hT1;generalize hv:f.Yw=v at *;obtain⟨v1,v2⟩:=v;have fx:=jP t0 t1 t5 p5 t10 t11 hT hT1 hOu hOu1<|hol;have c1:=hsh;refine wC ?_<|fx;clear fx c1;refine jS [] .nil qF ⟨_,.inl rfl,YW.qAY (YW.fin (have h:=hOp;YW.re h (h0:=by simp [vg]) (h6:=qB)) (.inr rfl))⟩
end Go.Proofs.YtdnebaieamppbaaGreatDoor
end
