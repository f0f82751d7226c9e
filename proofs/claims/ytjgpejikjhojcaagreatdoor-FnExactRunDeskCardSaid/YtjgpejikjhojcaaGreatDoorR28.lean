import Derived.Test.YtjgpejikjhojcaaGreatDoorR27
set_option linter.unusedSimpArgs false
set_option linter.unusedVariables false
set_option maxRecDepth 100000
set_option maxHeartbeats 4000000

section
namespace Go.Proofs.YtjgpejikjhojcaaGreatDoor
open Go Go.Hm Go.Proofs Tryz
abbrev WK:qV:=bF<|.l 8 [4,3,2,1,0]<|.l 9 [0]<|.q 10<|.q 11<|.l 12 []<|.done
abbrev WM:qV:=aK<|.l 12 [7,5,4,3,2,1,0]<|.l 13 [7,5,0]<|.q 14<|.q 15<|.l 16 []<|.done
abbrev WN:qV:=kf<|.l 11 [6,5,4,3,2,1,0]<|.q 12<|.l 13 [4,3,2,1,0]<|.l 14 [0]<|.q 15<|.q 16<|.l 17 []<|.done
abbrev WO:qV:=aK<|.l 12 [7,6,5,4,3,2,1,0]<|.l 13 [7,6,5,0]<|.q 14<|.q 15<|.l 16 []<|.done
abbrev WP:qV:=aK<|.l 12 [7,6,5,4,3,2,1,0]<|.l 13 [4,3,2,1,0]<|.l 14 [4,3,2,1,0]<|.l 15 [0]<|.q 16<|.q 17<|.l 18 []<|.done
abbrev WQ:qV:=ea<|.done
abbrev WR:qV:=A6<|.l 18 [13,11,10,9,8,7,6,5,4,3,2,1,0]<|.l 19 [13,11,10,9,8,7,6,5,0]<|.q 20<|.q 21<|.l 22 []<|.done
abbrev WS:qV:=aL<|.l 6 [4,3,2,1,0]<|.l 7 [4,3,2,1,0]<|.l 8 [4,3,2,1,0]<|.l 9 [0]<|.q 10<|.q 11<|.l 12 []<|.done
theorem lO {A G G2:Prop} (k:G2) (x:A) (h:A->jL G2->G:=by
 intro fx kk;refine qK ?_
 repeat ((first|refine qQ (id:=3) WK mixed ?_|refine qQ (id:=9) WM mixed ?_|refine qQ (id:=11) WN mixed ?_|refine qQ (id:=12) WO mixed ?_|refine qQ (id:=14) WP mixed ?_|refine qQ (id:=19) WQ mixed ?_|refine qQ (id:=21) WR mixed ?_|refine qQ (id:=23) WS mixed ?_);refine zK ?_;refine qK ?_)
 exact kk.h):G:=h x ⟨k⟩
theorem G6 (gl) (H:Nm->Option AO) (p:qC) (m:qR) (fs:List qO) (f:qO) (o:Int×Int) (dp pc0:Nat) (hP:zk p) (hM:yV p m fs { f with pc:=pc0 }) (hR:pz p f.qG o) (hc:o.1=1\/o.1=14\/o.1=15) (h14:o.1=14->2<=f.stack.length) (h18:o.1=18\/o.1=19->1<=f.stack.length) (hsl:f.stack.length<=1000) (hfl:fs.length<=1000) (hO:qS H p (.u 2 0 0) (m.top fs f) dp) (h9:H (.u 9 0 0)=none) :
  qZ prog gl 183 zd [.pt Xn 0,.ep (.u 2 0 0) 7 fs.length 0,.agg [iv o.1,iv o.2]] H (λ_ _ H'=>∃ q,(q=.u 2 0 0\/q=.c Xn 0 6)/\gP H' p q (y3 p m fs f o) dp) zG:=by
 have hT:=hO.top;obtain⟨L,j,hL,hat,hlt,hF,hf,hn,hsk⟩:=hO.uY rfl;obtain⟨_,hatE⟩:=gS hat;simp only [zp,qR.top] at hT;have harg:=hR.arg;have hblk:=hR.qG;have hatt:=hR.attr;have hfn:=hM.nf;have hfo:=hM.out;obtain⟨c,a⟩:=o;obtain⟨x,rfl⟩:∃ x:Nat,a=x:=⟨a.toNat,lC⟩;simp only at hc h14 h18 harg hblk hatt;refine qZ.q9 func183 [] ntmps183 (λ_=>vK) λC w g root hroot=>?_;refine lO ?_<|aI hT<|hF;refine uZ (λs=>s.tm 0=.pt Xn 0/\s.tm 1=.ep (.u 2 0 0) 7 fs.length 0/\s.tm 5=.pt (.s 5) 0/\s.hp (.s 5)=some (.row 2 [[iv c,iv x]])/\s.tm 10=iv c/\s.tm 11=bv (c==1)/\qS s.hp p (.u 2 0 0) (m.top fs f) dp) ⟨qB,qB,qB,qB,qB,qB,(have h:=hO;qS.re h)⟩ ?_;clear hT hF hf hn hsk hat hatE hlt hL hO;rintro s ⟨t0,t1,t5,p5,t10,t11,hO⟩;have hT:=hO.top;obtain⟨L,j,hL,hat,hlt,hF,hf,hn,hsk⟩:=hO.uY rfl;obtain⟨_,hatE⟩:=gS hat;simp only [zp,qR.top] at hT;have hX0:s.hp Xn≠none:=xE;have hU0:s.hp (.u 2 0 0)≠none:=by rw [hF];simp
 rcases hc with rfl|rfl|rfl
 .have hw:y3 p m fs f (1,(x:Int))=m.top fs (f.push (1,x)):=ap;rw [hw];refine lO ?_<|qh t0 t1 t5 p5 t10 t11 hT hF hat hatE hlt hsk<|hsl;refine yb [] .nil qE ⟨_,.inl rfl,qS.cm (qS.fin (have h:=hO;qS.uC h rfl hL rfl eC dy eF ⟨[],dz⟩ (h0:=cP)) (.inr rfl))⟩
 .have hw:y3 p m fs f (14,(x:Int))=dl m fs f:=ap;have hadd:dl m fs f=(if f.pop.zB.1≠1\/f.zB.1≠1 then m.stop fs f.pop.pop 5 else m.top fs (f.pop.pop.push (1,(f.pop.zB.2+f.zB.2).tmod 1000))):=rfl;rw [hw,hadd];clear hw hadd;have h2:=h14 rfl;obtain⟨rows,a0,a1,a2,a3,a4,a5,vs,e1,e2,e3,e4,e5⟩:=hO.take (k:=f.stack.length - 1) qA;refine lO ?_<|jH t0 t1 t5 p5 t10<|t11;intro K hK;have fx:=aI t0 t1;refine wF (mK.2 hX0) (mK.2 hU0) (hF:=pR gl zd (λ_=>vK) _ rows fs.length (f.stack.length - 1) a0 a1 a2 a3 a4 a5 vs f.zB e2 e3 e4 e5 qA) (h:=?_);intro y H1 hw1;clear fx;have hO1:=hO.taken e1 qA hw1;obtain⟨rfl,-⟩:=hw1;have hv1:=hM.top.sv _ (iU (f:=f) qA);have hv2:=hM.top.sv _ (nQ (iU (f:=f.pop) (by rw [la];omega)));have hpl:f.pop.stack.length=(f.stack.length - 2)+1:=by rw [la];omega
  generalize hfp:f.pop=f1 at *;generalize hft:f.zB=u at *;obtain⟨u1,u2⟩:=u;have hT1:=hO1.top;refine lO ?_<|jI t0 t1 t5 p5 hT hF<|hT1;intro K hK;refine kJ (λs=>s.tm 0=.pt Xn 0/\s.tm 1=.ep (.u 2 0 0) 7 fs.length 0/\s.tm 6=.pt (.s 6) 0/\s.hp (.s 6)=some (.row 2 [[iv u1,iv u2]])/\s.tm 29=.ep (.u 2 0 0) 7 fs.length 0/\qS s.hp p (.u 2 0 0) (m.top fs f1) dp) ⟨kr,by simp [t1,hF],qB,qB,qB,(have h:=hO1;qS.re h)⟩ ?_;clear t0 t1 t5 p5 t10 t11 hT hT1 hF hf hn hsk hat hatE hlt hL hO hO1 e1 e2 e3 e4 e5 hX0 hU0;rintro s ⟨t0,t1,t6,p6,t29,hO⟩;have hT:=hO.top;obtain⟨L,j,hL,hat,hlt,hF,hf,hn,hsk⟩:=hO.uY rfl;simp only [zp,qR.top] at hT;obtain⟨rows,a0,a1,a2,a3,a4,a5,vs,e1,e2,e3,e4,e5⟩:=hO.take hpl;have fx:=aI t0 (aI t1 t29);refine wF zE dT (hF:=pR gl zd (λ_=>vK) _ rows fs.length (f.stack.length - 2) a0 a1 a2 a3 a4 a5 vs f1.zB e2 e3 e4 e5 qA) (h:=?_);intro y H1 hw1;clear fx;have hO1:=hO.taken e1 hpl hw1;obtain⟨rfl,-⟩:=hw1;have hpl2:=tA hpl;generalize hfp2:f1.pop=f2 at *;generalize hft2:f1.zB=v at *;obtain⟨v1,v2⟩:=v;have hT1:=hO1.top;have hu2:=hv1.num;have hv2:=hv2.num;simp only at hu2 hv2;have hwr:IntKind.i64.wrap (v2+u2)=v2+u2:=qm qA qA;have hq0:=Int.tmod_nonneg 1000 (show 0<=v2+u2 by omega);have hq1:=Int.tmod_lt_of_pos (v2+u2) (show (0:Int)<1000 by omega);simp only;have hwq:IntKind.i64.wrap ((v2+u2).tmod 1000)=(v2+u2).tmod 1000:=qm qA qA;have ht0':(s.call 30 zd (z6 zd s.hp) H1).tm 0=.pt Xn 0:=kr
  have ht1':(s.call 30 zd (z6 zd s.hp) H1).tm 1=.ep (.u 2 0 0) 7 fs.length 0:=by simp [t1,hF]
  have ht6':(s.call 30 zd (z6 zd s.hp) H1).tm 6=.pt (.s 6) 0:=iy;have hp6':(s.call 30 zd (z6 zd s.hp) H1).hp (.s 6)=some (.row 2 [[iv u1,iv u2]]):=by simp [p6]
  have hO3:qS (s.call 30 zd (z6 zd s.hp) H1).hp p (.u 2 0 0) (m.top fs f2) dp:=(have h:=hO1;qS.re h);clear t0 t1 t6 p6 t29 hT hF hf hn hsk hlt hat hL e1 e2 e3 e4 e5 hO hO1 hT1;generalize s.call 30 zd (z6 zd s.hp) H1=s at ht0' ht1' ht6' hp6' hO3 hK ⊢;have hO:=hO3;have hT:=hO.top;obtain⟨L,j,hL,hat,hlt,hF,hf,hn,hsk⟩:=hO.uY rfl;obtain⟨_,hatE⟩:=gS hat;simp only [zp,qR.top] at hT;have hsl2:f2.stack.length<=1000:=qA;generalize hmm:(if (v1,v2).1≠1\/(u1,u2).1≠1 then m.stop fs f2 5 else m.top fs (f2.push (1,((v1,v2).2+(u1,u2).2).tmod 1000)))=mm at hK ⊢;simp only at hmm;by_cases k1:v1=1
  .subst k1;by_cases k2:u1=1
   .subst k2;rw [if_neg qB] at hmm;subst hmm;refine lO ?_<|qh ht0' ht1' ht6' hp6' hT hwr hwq hF hat hatE hlt hsk<|hsl2;refine yb [] .nil qE ⟨_,.inl rfl,qS.cm (qS.fin (have h:=hO;qS.uC h rfl hL rfl eC dy eF ⟨[],dz⟩ (h0:=cP)) (.inr rfl))⟩
   .have kb:(u1 != 1)=true:=by simpa using k2
    rw [if_pos (.inr k2)] at hmm;subst hmm;refine lO ?_<|qh ht0' ht1' ht6' hp6' hT hwr hwq hF hat hatE hlt hsk<|aI hsl2<|kb;refine yb [] .nil qE ⟨_,.inl rfl,fs++[f2.push (1,(v2+u2).tmod 1000)],⟨λe=>absurd e qB,BO⟩,qS.fin (have h:=hO;qS.uC h rfl hL rfl eC dy eF ⟨[],dz⟩ (h0:=cP)) (.inr rfl)⟩
  .have kb:(v1 != 1)=true:=by simpa using k1
   rw [if_pos (.inl k1)] at hmm;subst hmm;refine lO ?_<|qh ht0' ht1' ht6' hp6' hT hwr hwq hF hat hatE hlt hsk<|aI hsl2<|kb;refine yb [] .nil qE ⟨_,.inl rfl,fs++[f2.push (1,(v2+u2).tmod 1000)],⟨λe=>absurd e qB,BO⟩,qS.fin (have h:=hO;qS.uC h rfl hL rfl eC dy eF ⟨[],dz⟩ (h0:=cP)) (.inr rfl)⟩
 .have hw:y3 p m fs f (15,(x:Int))={ m.top fs (f.push (2,m.qH.length)) with qH:=m.qH++[(x,jF p f x)] }:=ap;rw [hw];obtain⟨kb,hk1,hk2,hk3,_⟩:=hblk (.inl rfl);simp only [uR] at hk1;have hxl:=(gS hk1).1;have hFn:=hO.qH;simp only [pi] at hFn;have hap:ax m.qH++[[iv x,jG (jK (jF p f x))]]=ax (m.qH++[(x,jF p f x)]):=Qu (g:=(x,jF p f x));have hfl3:m.qH.length<=1000:=qA;have hwf:IntKind.i64.wrap (m.qH.length:Int)=m.qH.length:=qm qA qA;refine lO ?_<|jS t0 t1 t5 p5 t10 t11 hT hFn hF hat<|aI hatE<|hlt;intro K hK;have fx:=aI t0 (aI t1 (aI t5 (aI p5 (aI hT hFn))));refine Gw (λK' h'=>kH (hB:=.cons (IC (p:=p) (n:=.u 2 0 0) (m:=m.top fs f) (dp:=dp) (have h:=hO;qS.re h) qA) (.cons (IB (by simp;exact hF) hat) (.cons (.refl _) .nil))) (hF:=Ib gl p _ _ _ _ _ _ _ _ _ _ _ _ _ _ _ _ (jK f.cells) (zw p x) (jF p f x) x _ qA hxl rfl sH (EV (f:={ f with pc:=pc0 }) hP.sh.jj hM.top hk1 hk2) (I3 x)) (h:=h')) qB wJ ?_;clear fx;refine lO ?_<|qh t0 t1 t5 p5 t10 t11 hT hFn hF hat hatE hlt<|zD hsk hsl hfl3<|hwf;refine yb [] .nil qE ⟨_,.inl rfl,qS.cm (qS.fin (have h:=hO;qS.uC h rfl hL rfl eC dy eF ⟨[],dz⟩ (h0:=cP) (h4:=xM)) (.inr rfl))⟩
abbrev WT:qV:=bF<|.l 8 [4,3,2,1,0]<|.l 9 [0]<|.q 10<|.q 11<|.l 12 []<|.done
abbrev WU:qV:=aK<|.l 12 [7,5,4,3,2,1,0]<|.l 13 [7,5,0]<|.q 14<|.q 15<|.l 16 []<|.done
abbrev WV:qV:=kf<|.l 11 [6,5,4,3,2,1,0]<|.q 12<|.l 13 [4,3,2,1,0]<|.l 14 [0]<|.q 15<|.q 16<|.l 17 []<|.done
abbrev WW:qV:=aK<|.l 12 [7,6,5,4,3,2,1,0]<|.l 13 [7,6,5,0]<|.q 14<|.q 15<|.l 16 []<|.done
abbrev WX:qV:=aK<|.l 12 [7,6,5,4,3,2,1,0]<|.l 13 [4,3,2,1,0]<|.l 14 [4,3,2,1,0]<|.l 15 [0]<|.q 16<|.q 17<|.l 18 []<|.done
abbrev WY:qV:=ea<|.done
abbrev WZ:qV:=A6<|.l 18 [13,11,10,9,8,7,6,5,4,3,2,1,0]<|.l 19 [13,11,10,9,8,7,6,5,0]<|.q 20<|.q 21<|.l 22 []<|.done
abbrev W0:qV:=aL<|.l 6 [4,3,2,1,0]<|.l 7 [4,3,2,1,0]<|.l 8 [4,3,2,1,0]<|.l 9 [0]<|.q 10<|.q 11<|.l 12 []<|.done
theorem CC {A G G2:Prop} (k:G2) (x:A) (h:A->jL G2->G:=by
 intro fx kk;refine qK ?_
 repeat ((first|refine qQ (id:=3) WT mixed ?_|refine qQ (id:=9) WU mixed ?_|refine qQ (id:=11) WV mixed ?_|refine qQ (id:=12) WW mixed ?_|refine qQ (id:=14) WX mixed ?_|refine qQ (id:=19) WY mixed ?_|refine qQ (id:=21) WZ mixed ?_|refine qQ (id:=23) W0 mixed ?_);refine zK ?_;refine qK ?_)
 exact kk.h):G:=h x ⟨k⟩
theorem Zx (gl) (H:Nm->Option AO) (p:qC) (m:qR) (fs:List qO) (f:qO) (o:Int×Int) (dp pc0:Nat) (hP:zk p) (hM:yV p m fs { f with pc:=pc0 }) (hR:pz p f.qG o) (hc:o.1=16) (h14:o.1=14->2<=f.stack.length) (h18:o.1=18\/o.1=19->1<=f.stack.length) (hsl:f.stack.length<=1000) (hfl:fs.length<=1000) (hO:qS H p (.u 2 0 0) (m.top fs f) dp) (h9:H (.u 9 0 0)=none) :
  qZ prog gl 183 zd [.pt Xn 0,.ep (.u 2 0 0) 7 fs.length 0,.agg [iv o.1,iv o.2]] H (λ_ _ H'=>∃ q,(q=.u 2 0 0\/q=.c Xn 0 6)/\gP H' p q (y3 p m fs f o) dp) zG:=by
 have hT:=hO.top;obtain⟨L,j,hL,hat,hlt,hF,hf,hn,hsk⟩:=hO.uY rfl;obtain⟨_,hatE⟩:=gS hat;simp only [zp,qR.top] at hT;have harg:=hR.arg;have hblk:=hR.qG;have hatt:=hR.attr;have hfn:=hM.nf;have hfo:=hM.out;obtain⟨c,a⟩:=o;obtain⟨x,rfl⟩:∃ x:Nat,a=x:=⟨a.toNat,lC⟩;simp only at hc h14 h18 harg hblk hatt;refine qZ.q9 func183 [] ntmps183 (λ_=>vK) λC w g root hroot=>?_;refine CC ?_<|aI hT<|hF;refine uZ (λs=>s.tm 0=.pt Xn 0/\s.tm 1=.ep (.u 2 0 0) 7 fs.length 0/\s.tm 5=.pt (.s 5) 0/\s.hp (.s 5)=some (.row 2 [[iv c,iv x]])/\s.tm 10=iv c/\s.tm 11=bv (c==1)/\qS s.hp p (.u 2 0 0) (m.top fs f) dp) ⟨qB,qB,qB,qB,qB,qB,(have h:=hO;qS.re h)⟩ ?_;clear hT hF hf hn hsk hat hatE hlt hL hO;rintro s ⟨t0,t1,t5,p5,t10,t11,hO⟩;have hT:=hO.top;obtain⟨L,j,hL,hat,hlt,hF,hf,hn,hsk⟩:=hO.uY rfl;obtain⟨_,hatE⟩:=gS hat;simp only [zp,qR.top] at hT;have hX0:s.hp Xn≠none:=xE;have hU0:s.hp (.u 2 0 0)≠none:=by rw [hF];simp
 subst hc;have hw:y3 p m fs f (16,(x:Int))=jv p (m.top fs f) x (jF p f x) []:=ap;rw [hw];obtain⟨kb,hk1,hk2,hk3,_⟩:=hblk (.inr rfl);simp only [uR] at hk1;have hxl:=(gS hk1).1
 have hpm:(zO p x).params=[]:=by
  have:=hP.sh.head x kb hk1;unfold uq at this;rw [if_neg qA] at this;have h0:kb.params.length=0:=qA;simp [zO,hk1,ai h0]
 have hBg:er p (m.top fs f) x [] 0 (List.replicate (qx p x).length none) (m.cells++List.replicate (qY p x).length none):=.inl ⟨rfl,rfl,rfl⟩;have hfin:=hBg.fin (cs:=jF p f x) rfl;have hc1:=hM.nc;have hc2:=hM.made;have hc3:=fg (p:=p) (b:=x);have hcl:(jF p f x).length=(zZ p x).length:=(Bg hP.sh.jj hM.top hk1 hk2).1;refine CC ?_<|jS t0 t1 t5 p5 t10 t11 hT hF hat hatE<|hlt;intro K hK;have fx:=aI t0 (aI t1 (aI t5 (aI p5 (aI hT hF))));refine Gw (λK' h'=>kH (hB:=.cons (IC (p:=p) (n:=.u 2 0 0) (m:=m.top fs f) (dp:=dp) (have h:=hO;qS.re h) qA) (.cons (IB (by simp;exact hF) hat) (.cons (.refl _) .nil))) (hF:=Ib gl p _ _ _ _ _ _ _ _ _ _ _ _ _ _ _ _ (jK f.cells) (zw p x) (jF p f x) x _ qA hxl rfl sH (EV (f:={ f with pc:=pc0 }) hP.sh.jj hM.top hk1 hk2) (I3 x)) (h:=h')) qB wJ ?_;clear fx;refine CC ?_<|qh t0 t1 t5 p5 t10 t11 hT hF hat hatE hlt hsk<|hsl;have fx:=aI t0 (aI t1 (aI hT hF));refine bn (.c (.s 108) 0 3) (.s 20) (.inl rfl) (.inl rfl) ?_;refine bn (.c (.s 108) 0 5) (.s 21) (.inl rfl) (.inl rfl) ?_;refine bn (.c (.s 108) 0 6) (.s 22) (.inl rfl) (.inl rfl) ?_;refine wF zE dT (hF:=FT _ _ p (m.top fs f) x (jF p f x) dp hxl BW qA BX (have h:=hO;qS.re h)) (h:=?_);rintro y H1 ⟨rfl,h3,h5,h6,hO1⟩;clear fx;have hT1:=hO1.top;simp only [zp] at hT1;obtain⟨js,hF1⟩:=hO1.fr.top;have hfl2:fs.length+1<=2000:=qA
 simp only [qAe] at hF1;refine CC ?_<|qh t0 t1 t5 p5 hT hT1 hF hF1 hat hatE hlt h3<|qk h5 h6<|hfl2;rw [hfin];refine yb [] .nil qE ⟨_,.inr rfl,qS.cm (qS.fin ?_ (.inl qB))⟩
 have key:∀ (i1:Nat) g,(fs++[f]++[(⟨x,0,List.replicate (qx p x).length none,(List.range (qY p x).length).map (m.cells.length+·)++jF p f x,jR,[]⟩:qO)])[i1]?=some g->(i1=fs.length+1/\g=⟨x,0,List.replicate (qx p x).length none,(List.range (qY p x).length).map (m.cells.length+·)++jF p f x,jR,[]⟩)\/(i1<fs.length+1/\(fs++[f])[i1]?=some g):=by
  intro i1 g hg;rcases mI i1 (fs++[f]).length with e|e|e
  .rw [ub e] at hg;exact .inr ⟨by simpa using e,hg⟩
  .subst e;simp at hg;exact .inl ⟨qB,hg.symm⟩
  .rw [dQ (by simp at e ⊢;omega)] at hg
   cases hg
 refine⟨?_,?_,?_,?_,?_,?_,?_,?_,⟨[],?_⟩,λi1 g hg=>?_,λi1 g hg=>?_,λi1 g hg=>?_⟩
 .simp [zp]
 .simp [hO1.yn]
 .simp [hO1.cells]
 .simp [hO1.zJ]
 .simp [hO1.qH]
 .simp [hO1.jA]
 .simp [hO1.out]
 .simp [hO1.zo]
 .simp;rw [<- rL,J7]
  have htk:(fs++f::js).take (fs.length+1)=fs++[f]:=by
   simp [gW];exact yG qA
  rw [htk,J5 (m:=.c Xn 0 6) λi1 g hg=>?_]
  .have:=J4 (p:=p) (n:=.c Xn 0 6) (l:=fs++[f]) (f:=⟨x,0,List.replicate (qx p x).length none,(List.range (qY p x).length).map (m.cells.length+·)++jF p f x,jR,[]⟩);simp [yd,v7] at this;exact this
  .have hlt:=(gS hg).1;have hne:¬ i1=fs.length+1:=by simp at hlt;omega
   simp [yd,hne]
 .rcases key i1 g hg with⟨rfl,rfl⟩|⟨hl,hg⟩
  .simp [h3]
  .have hne:¬ i1=fs.length+1:=qA;simp [hO1.fr.qq i1 g hg,hne]
 .rcases key i1 g hg with⟨rfl,rfl⟩|⟨hl,hg⟩
  .simp [h5]
  .have hne:¬ i1=fs.length+1:=qA;simp [hO1.fr.names i1 g hg,hne]
 .rcases key i1 g hg with⟨rfl,rfl⟩|⟨hl,hg⟩
  .exact⟨[],by simp [h6,zh]⟩
  .have hne:¬ i1=fs.length+1:=qA;exact (hO1.fr.stack i1 g hg).imp λj1 hj1=>by simp [hj1,hne]
abbrev W1:qV:=bF<|.l 8 [4,3,2,1,0]<|.l 9 [0]<|.q 10<|.q 11<|.l 12 []<|.done
abbrev W2:qV:=aK<|.l 12 [7,5,4,3,2,1,0]<|.l 13 [7,5,0]<|.q 14<|.q 15<|.l 16 []<|.done
abbrev W4:qV:=kf<|.l 11 [6,5,4,3,2,1,0]<|.q 12<|.l 13 [4,3,2,1,0]<|.l 14 [0]<|.q 15<|.q 16<|.l 17 []<|.done
abbrev W5:qV:=aK<|.l 12 [7,6,5,4,3,2,1,0]<|.l 13 [7,6,5,0]<|.q 14<|.q 15<|.l 16 []<|.done
abbrev W6:qV:=aK<|.l 12 [7,6,5,4,3,2,1,0]<|.l 13 [4,3,2,1,0]<|.l 14 [4,3,2,1,0]<|.l 15 [0]<|.q 16<|.q 17<|.l 18 []<|.done
abbrev W7:qV:=ea<|.done
abbrev W8:qV:=A6<|.l 18 [13,11,10,9,8,7,6,5,4,3,2,1,0]<|.l 19 [13,11,10,9,8,7,6,5,0]<|.q 20<|.q 21<|.l 22 []<|.done
abbrev W9:qV:=aL<|.l 6 [4,3,2,1,0]<|.l 7 [4,3,2,1,0]<|.l 8 [4,3,2,1,0]<|.l 9 [0]<|.q 10<|.q 11<|.l 12 []<|.done
theorem nB {A G G2:Prop} (k:G2) (x:A) (h:A->jL G2->G:=by
 intro fx kk;refine qK ?_
 repeat ((first|refine qQ (id:=3) W1 mixed ?_|refine qQ (id:=9) W2 mixed ?_|refine qQ (id:=11) W4 mixed ?_|refine qQ (id:=12) W5 mixed ?_|refine qQ (id:=14) W6 mixed ?_|refine qQ (id:=19) W7 mixed ?_|refine qQ (id:=21) W8 mixed ?_|refine qQ (id:=23) W9 mixed ?_);refine zK ?_;refine qK ?_)
 exact kk.h):G:=h x ⟨k⟩
theorem NE (gl) (H:Nm->Option AO) (p:qC) (m:qR) (fs:List qO) (f:qO) (o:Int×Int) (dp pc0:Nat) (hP:zk p) (hM:yV p m fs { f with pc:=pc0 }) (hR:pz p f.qG o) (hc:o.1=18\/o.1=19) (h14:o.1=14->2<=f.stack.length) (h18:o.1=18\/o.1=19->1<=f.stack.length) (hsl:f.stack.length<=1000) (hfl:fs.length<=1000) (hO:qS H p (.u 2 0 0) (m.top fs f) dp) (h9:H (.u 9 0 0)=none) :
  qZ prog gl 183 zd [.pt Xn 0,.ep (.u 2 0 0) 7 fs.length 0,.agg [iv o.1,iv o.2]] H (λ_ _ H'=>∃ q,(q=.u 2 0 0\/q=.c Xn 0 6)/\gP H' p q (y3 p m fs f o) dp) zG:=by
 have hT:=hO.top;obtain⟨L,j,hL,hat,hlt,hF,hf,hn,hsk⟩:=hO.uY rfl;obtain⟨_,hatE⟩:=gS hat;simp only [zp,qR.top] at hT;have harg:=hR.arg;have hblk:=hR.qG;have hatt:=hR.attr;have hfn:=hM.nf;have hfo:=hM.out;obtain⟨c,a⟩:=o;obtain⟨x,rfl⟩:∃ x:Nat,a=x:=⟨a.toNat,lC⟩;simp only at hc h14 h18 harg hblk hatt;refine qZ.q9 func183 [] ntmps183 (λ_=>vK) λC w g root hroot=>?_;refine nB ?_<|aI hT<|hF;refine uZ (λs=>s.tm 0=.pt Xn 0/\s.tm 1=.ep (.u 2 0 0) 7 fs.length 0/\s.tm 5=.pt (.s 5) 0/\s.hp (.s 5)=some (.row 2 [[iv c,iv x]])/\s.tm 10=iv c/\s.tm 11=bv (c==1)/\qS s.hp p (.u 2 0 0) (m.top fs f) dp) ⟨qB,qB,qB,qB,qB,qB,(have h:=hO;qS.re h)⟩ ?_;clear hT hF hf hn hsk hat hatE hlt hL hO;rintro s ⟨t0,t1,t5,p5,t10,t11,hO⟩;have hT:=hO.top;obtain⟨L,j,hL,hat,hlt,hF,hf,hn,hsk⟩:=hO.uY rfl;obtain⟨_,hatE⟩:=gS hat;simp only [zp,qR.top] at hT;have hX0:s.hp Xn≠none:=xE;have hU0:s.hp (.u 2 0 0)≠none:=by rw [hF];simp
 obtain⟨k,hk⟩:∃ k,f.stack.length=k+1:=⟨f.stack.length - 1,by have:=h18 hc;omega⟩;have hv0:=hM.top.sv _ (iU (f:=f) qA);have hpl2:=tA hk;rcases hc with rfl|rfl
 .have hattr:cI m fs f (18,(x:Int))=(if f.zB.1≠3 then m.stop fs f.pop 5 else match jW (m.qT.getD f.zB.2.toNat []) x with|some u=>m.top fs (f.pop.push u)|none=>m.stop fs f.pop 7):=rfl;have hw:y3 p m fs f (18,(x:Int))=cI m fs f (18,(x:Int)):=ap;rw [hw,hattr];clear hw hattr;obtain⟨rows,a0,a1,a2,a3,a4,a5,vs,e1,e2,e3,e4,e5⟩:=hO.take hk;refine nB ?_<|jH t0 t1 t5 p5 t10<|t11;intro K hK;have fx:=aI t0 t1;refine wF (mK.2 hX0) (mK.2 hU0) (hF:=pR gl zd (λ_=>vK) _ rows fs.length k a0 a1 a2 a3 a4 a5 vs f.zB e2 e3 e4 e5 qA) (h:=?_);intro y H1 hw1;clear fx;have hO1:=hO.taken e1 hk hw1;obtain⟨rfl,-⟩:=hw1;have vh:∀ c∈m.qT,c.length=8:=λc hc=>(hM.cls c hc).1;generalize hfp:f.pop=f1 at *;generalize hft:f.zB=u at *;obtain⟨u1,u2⟩:=u;have ht0':(s.call 116 zd (z6 zd s.hp) H1).tm 0=.pt Xn 0:=kr;have ht1':(s.call 116 zd (z6 zd s.hp) H1).tm 1=.ep (.u 2 0 0) 7 fs.length 0:=by simp [t1,hF]
  have hT1:=hO1.top;refine nB ?_<|jI t0 t1 t5 p5 hT hF<|hT1;refine uZ (λs=>s.tm 0=.pt Xn 0/\s.tm 1=.ep (.u 2 0 0) 7 fs.length 0/\s.tm 5=.pt (.s 5) 0/\s.hp (.s 5)=some (.row 2 [[iv 18,iv x]])/\s.tm 8=.pt (.s 8) 0/\s.hp (.s 8)=some (.row 2 [[iv u1,iv u2]])/\s.tm 119=bv (u1 != 3)/\qS s.hp p (.u 2 0 0) (m.top fs f1) dp) ⟨kr,by simp [t1,hF],fX,by simp [p5],qB,qB,qB,(have h:=hO1;qS.re h)⟩ ?_;clear t0 t1 t5 p5 t10 t11 hT hF hf hn hsk hlt hat hatE hL e1 e2 e3 e4 e5 hO hO1 hT1 ht0' ht1' hX0 hU0;rintro s ⟨t0,t1,t5,p5,t8,p8,t119,hO⟩;have hT:=hO.top;obtain⟨L,j,hL,hat,hlt,hF,hf,hn,hsk⟩:=hO.uY rfl;obtain⟨_,hatE⟩:=gS hat;simp only [zp,qR.top] at hT;have hsl2:f1.stack.length<=1000:=qA;simp only;by_cases k3:u1=3
  case neg =>
   have kb:(u1 != 3)=true:=by simpa using k3
   rw [if_pos k3];refine nB ?_<|vI t0 t1 t5 p5 t8 p8 t119 hT<|kb;refine yb [] .nil qE ⟨_,.inl rfl,qS.cm (qS.fin (qS.Bq hO rfl λk hk=>?_) (.inr rfl))⟩;simp [zp]
  subst k3;rw [if_neg qB];have hu2:=hv0.num;have hu3:=hv0.cls rfl;simp only at hu2 hu3;obtain⟨z,rfl⟩:∃ z:Nat,u2=z:=⟨u2.toNat,qA⟩;have hzl:z<m.qT.length:=qA;obtain⟨cl,hcl⟩:=gX hzl;obtain⟨_,hclE⟩:=gS hcl;have hcl8:=vh cl (gM hcl);have hx7:=hatt rfl;have hx8:x<cl.length:=qA;have hx8i:(x:Int)<8:=qA;obtain⟨s0,hs0⟩:=gX hx8;obtain⟨_,hs0E⟩:=gS hs0;have hCl:=hO.jA;simp only [qAd] at hCl;have hsa:jW (m.qT.getD ((z:Int).toNat) []) x=s0:=by rw [uR,bT,hcl];simp [jW,hs0]
  rw [hsa]
  cases s0 with
  | some u =>
   obtain⟨w1,w2⟩:=u;refine nB ?_<|qh t0 t1 t5 p5 t8 p8 t119 hT hCl hzl hcl hclE<|jS hcl8 hx8 hx8i hs0 hs0E hF hat hatE hlt hsk<|hsl2;refine yb [] .nil qE ⟨_,.inl rfl,qS.cm (qS.fin (have h:=hO;qS.uC h rfl hL rfl eC dy eF ⟨[],dz⟩ (h0:=cP)) (.inr rfl))⟩
  | none =>
   refine nB ?_<|qh t0 t1 t5 p5 t8 p8 t119 hT hCl hzl hcl hclE<|zN hcl8 hx8 hx8i hs0<|hs0E;refine yb [] .nil qE ⟨_,.inl rfl,qS.cm (qS.fin (qS.Bq hO rfl λk hk=>?_) (.inr rfl))⟩;simp [zp]
 .have hw:y3 p m fs f (19,(x:Int))={ m.top fs f.pop with out:=m.out++[Hm.shown f.zB] }:=ap;rw [hw];have hOu:=hO.out;simp only [qAh] at hOu;have hol:m.out.length<=1000:=qA;have hsh:=Mw gl f.zB;refine nB ?_<|vI t0 t1 t5 p5 t10 t11 hT hOu<|hol;intro K hK;obtain⟨rows,rows',a0,a1,a2,a3,a4,a5,vs,e1,e2,e3,e4,e5,e6⟩:=hO.wN (N:=.c Xn 0 9) hk qB qB;have fx:=aI t0 t1;refine Cz zd (.c Xn 0 9) (.u 9 0 0) (.u 2 0 0) (.row 7 (j3 rows fs.length 6 [.hs (.c (.u 2 0 0) fs.length 6) 2 0 k])) (qW.av f.zB) (hV:=rfl) (hN:=rfl) (hVe:=xV) (λ_=>vK) qB (λq hq=>by have:=Nm.gH (a:=.u 1 0 0) (b:=.c Xn 0 9) qB hq;simp [this]) (λ_=>HM) (by simp [hOu]) (λk i j _=>HL hX0 hU0 k i j) qB qB qB (hF:=IX) (h:=?_);intro hp' hS;clear fx;have hOp:=(hO.cn e1 hk).same (.inr rfl) hS;have hT1:=hOp.top;have hOu1:=hOp.out;simp only [zp] at hT1;generalize hv:f.zB=v at *;obtain⟨v1,v2⟩:=v;have fx:=jS t0 t1 t5 p5 t10 t11 hT hT1 hOu hOu1<|hol;have c1:=hsh;refine nB ?_<|@fx;clear fx c1;refine yb [] .nil qE ⟨_,.inl rfl,qS.cm (qS.fin (have h:=hOp;qS.re h (h0:=by simp [zp]) (h6:=qB)) (.inr rfl))⟩
end Go.Proofs.YtjgpejikjhojcaaGreatDoor
end
