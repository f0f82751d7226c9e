import Derived.Test.YtjgpejikjhojcaaGreatDoorD33
set_option linter.all false
set_option maxRecDepth 100000
set_option maxHeartbeats 4000000
open Option renaming some->Z,none->Y
open Bool renaming true->B
open List renaming length->O

section
namespace Go.Proofs.YtjgpejikjhojcaaGreatDoor
open Go Go.Hm Go.Proofs Tryz
variable{A G G2:Prop}
abbrev Ym:qV:=bB<|.l 8 [4,3,2,1,0]<|.l 9 [0]<|.q 10<|.q 11<|.l 12 []<|.done
abbrev Yo:qV:=ax<|.l 12 [7,5,4,3,2,1,0]<|.l 13 [7,5,0]<|.q 14<|.q 15<|.l 16 []<|.done
abbrev Yp:qV:=wG<|.l 11 [6,5,4,3,2,1,0]<|.q 12<|.l 13 [4,3,2,1,0]<|.l 14 [0]<|.q 15<|.q 16<|.l 17 []<|.done
abbrev Yq:qV:=ax<|.l 12 [7,6,5,4,3,2,1,0]<|.l 13 [7,6,5,0]<|.q 14<|.q 15<|.l 16 []<|.done
abbrev Yr:qV:=ax<|.l 12 [7,6,5,4,3,2,1,0]<|.l 13 [4,3,2,1,0]<|.l 14 [4,3,2,1,0]<|.l 15 [0]<|.q 16<|.q 17<|.l 18 []<|.done
abbrev Ys:qV:=gA<|.done
abbrev Yt:qV:=Br<|.l 18 [13,11,10,9,8,7,6,5,4,3,2,1,0]<|.l 19 [13,11,10,9,8,7,6,5,0]<|.q 20<|.q 21<|.l 22 []<|.done
abbrev Yu:qV:=bA<|.l 6 [4,3,2,1,0]<|.l 7 [4,3,2,1,0]<|.l 8 [4,3,2,1,0]<|.l 9 [0]<|.q 10<|.q 11<|.l 12 []<|.done
def mh(k:G2)(x:A)(h:A->jH G2->G:=by
 intro fx kk;refine qK ?_
 repeat((first|refine qP (id:=3) Ym mixed ?_|refine qP (id:=9) Yo mixed ?_|refine qP (id:=11) Yp mixed ?_|refine qP (id:=12) Yq mixed ?_|refine qP (id:=14) Yr mixed ?_|refine qP (id:=19) Ys mixed ?_|refine qP (id:=21) Yt mixed ?_|refine qP (id:=23) Yu mixed ?_);refine zC ?_;refine qK ?_)
 exact kk.h):G:=h x ⟨k⟩
def I3(gl)(H:Nm->Option AO)(p:qC)(m:qR)(fs:List qO)(f:qO)(o:Int×Int)(dp pc0:Nat)(hP:zi p)(hM:yf p m fs {f with pc:=pc0})(hR:sU p f.qG o)(hc:o.1=1\/o.1=14\/o.1=15)(h14:o.1=14->2<=O f.stack)(h18:o.1=18\/o.1=19->1<=O f.stack)(hsl:O f.stack<=1000)(hfl:O fs<=1000)(hO:qS H p (.u 2 0 0) (m.top fs f) dp)(h9:H (.u 9 0 0)=Y):
  qX prog gl 183 zP [.pt Xn 0,.ep (.u 2 0 0) 7 (O fs) 0,.agg [iv o.1,iv o.2]] H (λ_ _ H'=>∃q,(q=.u 2 0 0\/q=.c Xn 0 6)/\io H' p q (yl p m fs f o) dp) qw:=by
 have hT:=hO.top;obtain⟨L,j,hL,hat,hlt,hF,hf,hn,hsk⟩:=hO.ux rfl;obtain⟨_,hatE⟩:=gS hat;simp only[zu,qR.top]at hT;have harg:=hR.arg;have hblk:=hR.qG;have hatt:=hR.attr;have hfn:=hM.nf;have hfo:=hM.out;obtain⟨c,a⟩:=o;obtain⟨x,rfl⟩:∃x:Nat,a=x:=⟨a.toNat,mX⟩;simp only at hc h14 h18 harg hblk hatt;refine qX.q9 func183 [] ntmps183 (λ_=>vF) λC w g root hroot=>?_;refine mh ?_<|aI hT<|hF;refine uR (λs=>s.tm 0=.pt Xn 0/\s.tm 1=.ep (.u 2 0 0) 7 (O fs) 0/\s.tm 5=.pt (.s 5) 0/\s.hp (.s 5)=Z (.row 2 [[iv c,iv x]])/\s.tm 10=iv c/\s.tm 11=bv (c==1)/\qS s.hp p (.u 2 0 0) (m.top fs f) dp) ⟨qB,qB,qB,qB,qB,qB,(have h:=hO;qS.re h)⟩ ?_;clear hT hF hf hn hsk hat hatE hlt hL hO;rintro s ⟨t0,t1,t5,p5,t10,t11,hO⟩;have hT:=hO.top;obtain⟨L,j,hL,hat,hlt,hF,hf,hn,hsk⟩:=hO.ux rfl;obtain⟨_,hatE⟩:=gS hat;simp only[zu,qR.top]at hT;have hX0:s.hp Xn≠Y:=Ae;have hU0:s.hp (.u 2 0 0)≠Y:=by rw[hF];simp
 rcases hc with rfl|rfl|rfl
 .have hw:yl p m fs f (1,(x:Int))=m.top fs (f.push (1,x)):=br;rw[hw];refine mh ?_<|qg t0 t1 t5 p5 t10 t11 hT hF hat hatE hlt hsk<|hsl;refine yu [] .nil qD ⟨_,.inl rfl,qS.dy (qS.fin (have h:=hO;qS.uY h rfl hL rfl fU fQ fO ⟨[],fR⟩ (h0:=dZ)) (.inr rfl))⟩
 .have hw:yl p m fs f (14,(x:Int))=fI m fs f:=br;have hadd:fI m fs f=(if f.pop.zE.1≠1\/f.zE.1≠1 then m.stop fs f.pop.pop 5 else m.top fs (f.pop.pop.push (1,(f.pop.zE.2+f.zE.2).tmod 1000))):=rfl;rw[hw,hadd];clear hw hadd;have h2:=h14 rfl;obtain⟨rows,a0,a1,a2,a3,a4,a5,vs,e1,e2,e3,e4,e5⟩:=hO.take (k:=O f.stack - 1) qA;refine mh ?_<|zx t0 t1 t5 p5 t10<|t11;intro K hK;have fx:=aI t0 t1;refine w9 (oF.2 hX0) (oF.2 hU0) (hF:=ry gl zP (λ_=>vF) _ rows (O fs) (O f.stack-1) a0 a1 a2 a3 a4 a5 vs f.zE e2 e3 e4 e5 qA) (h:=?_);intro y H1 hw1;clear fx;have hO1:=hO.taken e1 qA hw1;obtain⟨rfl,-⟩:=hw1;have hv1:=hM.top.sv _ (lq (f:=f) qA);have hv2:=hM.top.sv _ (pF (lq (f:=f.pop) (by rw[nE];omega)));have hpl:O f.pop.stack=(O f.stack-2)+1:=by rw[nE];omega
  generalize hfp:f.pop=f1 at *;generalize hft:f.zE=u at *;obtain⟨u1,u2⟩:=u;have hT1:=hO1.top;refine mh ?_<|zy t0 t1 t5 p5 hT hF<|hT1;intro K hK;refine uM (λs=>s.tm 0=.pt Xn 0/\s.tm 1=.ep (.u 2 0 0) 7 (O fs) 0/\s.tm 6=.pt (.s 6) 0/\s.hp (.s 6)=Z (.row 2 [[iv u1,iv u2]])/\s.tm 29=.ep (.u 2 0 0) 7 (O fs) 0/\qS s.hp p (.u 2 0 0) (m.top fs f1) dp) ⟨wP,by simp[t1,hF],qB,qB,qB,(have h:=hO1;qS.re h)⟩ ?_;clear t0 t1 t5 p5 t10 t11 hT hT1 hF hf hn hsk hat hatE hlt hL hO hO1 e1 e2 e3 e4 e5 hX0 hU0;rintro s ⟨t0,t1,t6,p6,t29,hO⟩;have hT:=hO.top;obtain⟨L,j,hL,hat,hlt,hF,hf,hn,hsk⟩:=hO.ux rfl;simp only[zu,qR.top]at hT;obtain⟨rows,a0,a1,a2,a3,a4,a5,vs,e1,e2,e3,e4,e5⟩:=hO.take hpl;have fx:=aI t0 (aI t1 t29);refine w9 zG eb (hF:=ry gl zP (λ_=>vF) _ rows (O fs) (O f.stack-2) a0 a1 a2 a3 a4 a5 vs f1.zE e2 e3 e4 e5 qA) (h:=?_);intro y H1 hw1;clear fx;have hO1:=hO.taken e1 hpl hw1;obtain⟨rfl,-⟩:=hw1;have hpl2:=xl hpl;generalize hfp2:f1.pop=f2 at *;generalize hft2:f1.zE=v at *;obtain⟨v1,v2⟩:=v;have hT1:=hO1.top;have hu2:=hv1.num;have hv2:=hv2.num;simp only at hu2 hv2;have hwr:IntKind.i64.wrap (v2+u2)=v2+u2:=qk qA qA;have hq0:=AY 1000 (show 0<=v2+u2 by omega);have hq1:=AZ (v2+u2) (show(0:Int)<1000 by omega);simp only;have hwq:IntKind.i64.wrap ((v2+u2).tmod 1000)=(v2+u2).tmod 1000:=qk qA qA;have ht0':(s.call 30 zP (zU zP s.hp) H1).tm 0=.pt Xn 0:=wP
  have ht1':(s.call 30 zP (zU zP s.hp) H1).tm 1=.ep (.u 2 0 0) 7 (O fs) 0:=by simp[t1,hF]
  have ht6':(s.call 30 zP (zU zP s.hp) H1).tm 6=.pt (.s 6) 0:=mR;have hp6':(s.call 30 zP (zU zP s.hp) H1).hp (.s 6)=Z (.row 2 [[iv u1,iv u2]]):=by simp[p6]
  have hO3:qS (s.call 30 zP (zU zP s.hp) H1).hp p (.u 2 0 0) (m.top fs f2) dp:=(have h:=hO1;qS.re h);clear t0 t1 t6 p6 t29 hT hF hf hn hsk hlt hat hL e1 e2 e3 e4 e5 hO hO1 hT1;generalize s.call 30 zP (zU zP s.hp) H1=s at ht0' ht1' ht6' hp6' hO3 hK ⊢;have hO:=hO3;have hT:=hO.top;obtain⟨L,j,hL,hat,hlt,hF,hf,hn,hsk⟩:=hO.ux rfl;obtain⟨_,hatE⟩:=gS hat;simp only[zu,qR.top]at hT;have hsl2:O f2.stack<=1000:=qA;generalize hmm:(if(v1,v2).1≠1\/(u1,u2).1≠1 then m.stop fs f2 5 else m.top fs (f2.push (1,((v1,v2).2+(u1,u2).2).tmod 1000)))=mm at hK ⊢;simp only at hmm;by_cases k1:v1=1
  .subst k1;by_cases k2:u1=1
   .subst k2;rw[if_neg qB]at hmm;subst hmm;refine mh ?_<|qg ht0' ht1' ht6' hp6' hT hwr hwq hF hat hatE hlt hsk<|hsl2;refine yu [] .nil qD ⟨_,.inl rfl,qS.dy (qS.fin (have h:=hO;qS.uY h rfl hL rfl fU fQ fO ⟨[],fR⟩ (h0:=dZ)) (.inr rfl))⟩
   .have kb:(u1 != 1)=B:=by simpa using k2
    rw[if_pos (.inr k2)]at hmm;subst hmm;refine mh ?_<|qg ht0' ht1' ht6' hp6' hT hwr hwq hF hat hatE hlt hsk<|aI hsl2<|kb;refine yu [] .nil qD ⟨_,.inl rfl,fs++[f2.push (1,(v2+u2).tmod 1000)],⟨λe=>absurd e qB,DA⟩,qS.fin (have h:=hO;qS.uY h rfl hL rfl fU fQ fO ⟨[],fR⟩ (h0:=dZ)) (.inr rfl)⟩
  .have kb:(v1 != 1)=B:=by simpa using k1
   rw[if_pos (.inl k1)]at hmm;subst hmm;refine mh ?_<|qg ht0' ht1' ht6' hp6' hT hwr hwq hF hat hatE hlt hsk<|aI hsl2<|kb;refine yu [] .nil qD ⟨_,.inl rfl,fs++[f2.push (1,(v2+u2).tmod 1000)],⟨λe=>absurd e qB,DA⟩,qS.fin (have h:=hO;qS.uY h rfl hL rfl fU fQ fO ⟨[],fR⟩ (h0:=dZ)) (.inr rfl)⟩
 .have hw:yl p m fs f (15,(x:Int))={m.top fs (f.push (2,O m.qI))with qI:=m.qI++[(x,jM p f x)]}:=br;rw[hw];obtain⟨kb,hk1,hk2,hk3,_⟩:=hblk (.inl rfl);simp only[un]at hk1;have hxl:=(gS hk1).1;have hFn:=hO.qI;simp only[sN]at hFn;have hap:cB m.qI++[[iv x,jO (jQ (jM p f x))]]=cB (m.qI++[(x,jM p f x)]):=T3 (g:=(x,jM p f x));have hfl3:O m.qI<=1000:=qA;have hwf:IntKind.i64.wrap (O m.qI:Int)=O m.qI:=qk qA qA;refine mh ?_<|jU t0 t1 t5 p5 t10 t11 hT hFn hF hat<|aI hatE<|hlt;intro K hK;have fx:=aI t0 (aI t1 (aI t5 (aI p5 (aI hT hFn))));refine Ix (λK' h'=>kf (hB:=.cons (KE (p:=p) (n:=.u 2 0 0) (m:=m.top fs f) (dp:=dp) (have h:=hO;qS.re h) qA) (.cons (KD (by simp;exact hF) hat) (.cons (.refl _) .nil))) (hF:=Ke gl p _ _ _ _ _ _ _ _ _ _ _ _ _ _ _ _ (jQ f.cells) (jD p x) (jM p f x) x _ qA hxl rfl xA (GG (f:={f with pc:=pc0}) hP.sh.jK hM.top hk1 hk2) (K6 x)) (h:=h')) qB y3 ?_;clear fx;refine mh ?_<|qg t0 t1 t5 p5 t10 t11 hT hFn hF hat hatE hlt<|qz hsk hsl hfl3<|hwf;refine yu [] .nil qD ⟨_,.inl rfl,qS.dy (qS.fin (have h:=hO;qS.uY h rfl hL rfl fU fQ fO ⟨[],fR⟩ (h0:=dZ) (h4:=Am)) (.inr rfl))⟩
abbrev Yv:qV:=bB<|.l 8 [4,3,2,1,0]<|.l 9 [0]<|.q 10<|.q 11<|.l 12 []<|.done
abbrev Yw:qV:=ax<|.l 12 [7,5,4,3,2,1,0]<|.l 13 [7,5,0]<|.q 14<|.q 15<|.l 16 []<|.done
abbrev Yx:qV:=wG<|.l 11 [6,5,4,3,2,1,0]<|.q 12<|.l 13 [4,3,2,1,0]<|.l 14 [0]<|.q 15<|.q 16<|.l 17 []<|.done
abbrev Yy:qV:=ax<|.l 12 [7,6,5,4,3,2,1,0]<|.l 13 [7,6,5,0]<|.q 14<|.q 15<|.l 16 []<|.done
abbrev Yz:qV:=ax<|.l 12 [7,6,5,4,3,2,1,0]<|.l 13 [4,3,2,1,0]<|.l 14 [4,3,2,1,0]<|.l 15 [0]<|.q 16<|.q 17<|.l 18 []<|.done
abbrev ZA:qV:=gA<|.done
abbrev ZB:qV:=Br<|.l 18 [13,11,10,9,8,7,6,5,4,3,2,1,0]<|.l 19 [13,11,10,9,8,7,6,5,0]<|.q 20<|.q 21<|.l 22 []<|.done
abbrev ZC:qV:=bA<|.l 6 [4,3,2,1,0]<|.l 7 [4,3,2,1,0]<|.l 8 [4,3,2,1,0]<|.l 9 [0]<|.q 10<|.q 11<|.l 12 []<|.done
def Dc(k:G2)(x:A)(h:A->jH G2->G:=by
 intro fx kk;refine qK ?_
 repeat((first|refine qP (id:=3) Yv mixed ?_|refine qP (id:=9) Yw mixed ?_|refine qP (id:=11) Yx mixed ?_|refine qP (id:=12) Yy mixed ?_|refine qP (id:=14) Yz mixed ?_|refine qP (id:=19) ZA mixed ?_|refine qP (id:=21) ZB mixed ?_|refine qP (id:=23) ZC mixed ?_);refine zC ?_;refine qK ?_)
 exact kk.h):G:=h x ⟨k⟩
theorem qCR(gl)(H:Nm->Option AO)(p:qC)(m:qR)(fs:List qO)(f:qO)(o:Int×Int)(dp pc0:Nat)(hP:zi p)(hM:yf p m fs {f with pc:=pc0})(hR:sU p f.qG o)(hc:o.1=16)(h14:o.1=14->2<=O f.stack)(h18:o.1=18\/o.1=19->1<=O f.stack)(hsl:O f.stack<=1000)(hfl:O fs<=1000)(hO:qS H p (.u 2 0 0) (m.top fs f) dp)(h9:H (.u 9 0 0)=Y):
  qX prog gl 183 zP [.pt Xn 0,.ep (.u 2 0 0) 7 (O fs) 0,.agg [iv o.1,iv o.2]] H (λ_ _ H'=>∃q,(q=.u 2 0 0\/q=.c Xn 0 6)/\io H' p q (yl p m fs f o) dp) qw:=by
 have hT:=hO.top;obtain⟨L,j,hL,hat,hlt,hF,hf,hn,hsk⟩:=hO.ux rfl;obtain⟨_,hatE⟩:=gS hat;simp only[zu,qR.top]at hT;have harg:=hR.arg;have hblk:=hR.qG;have hatt:=hR.attr;have hfn:=hM.nf;have hfo:=hM.out;obtain⟨c,a⟩:=o;obtain⟨x,rfl⟩:∃x:Nat,a=x:=⟨a.toNat,mX⟩;simp only at hc h14 h18 harg hblk hatt;refine qX.q9 func183 [] ntmps183 (λ_=>vF) λC w g root hroot=>?_;refine Dc ?_<|aI hT<|hF;refine uR (λs=>s.tm 0=.pt Xn 0/\s.tm 1=.ep (.u 2 0 0) 7 (O fs) 0/\s.tm 5=.pt (.s 5) 0/\s.hp (.s 5)=Z (.row 2 [[iv c,iv x]])/\s.tm 10=iv c/\s.tm 11=bv (c==1)/\qS s.hp p (.u 2 0 0) (m.top fs f) dp) ⟨qB,qB,qB,qB,qB,qB,(have h:=hO;qS.re h)⟩ ?_;clear hT hF hf hn hsk hat hatE hlt hL hO;rintro s ⟨t0,t1,t5,p5,t10,t11,hO⟩;have hT:=hO.top;obtain⟨L,j,hL,hat,hlt,hF,hf,hn,hsk⟩:=hO.ux rfl;obtain⟨_,hatE⟩:=gS hat;simp only[zu,qR.top]at hT;have hX0:s.hp Xn≠Y:=Ae;have hU0:s.hp (.u 2 0 0)≠Y:=by rw[hF];simp
 subst hc;have hw:yl p m fs f (16,(x:Int))=yG p (m.top fs f) x (jM p f x) []:=br;rw[hw];obtain⟨kb,hk1,hk2,hk3,_⟩:=hblk (.inr rfl);simp only[un]at hk1;have hxl:=(gS hk1).1
 have hpm:(zQ p x).params=[]:=by
  have:=hP.sh.head x kb hk1;unfold ul at this;rw[if_neg qA]at this;have h0:O kb.params=0:=qA;simp[zQ,hk1,bN h0]
 have hBg:gR p (m.top fs f) x [] 0 (List.replicate (O (zB p x)) Y) (m.cells++List.replicate (O (qa p x)) Y):=.inl ⟨rfl,rfl,rfl⟩;have hfin:=hBg.fin (cs:=jM p f x) rfl;have hc1:=hM.nc;have hc2:=hM.made;have hc3:=iL (p:=p) (b:=x);have hcl:O (jM p f x)=O (za p x):=(DJ hP.sh.jK hM.top hk1 hk2).1;refine Dc ?_<|jU t0 t1 t5 p5 t10 t11 hT hF hat hatE<|hlt;intro K hK;have fx:=aI t0 (aI t1 (aI t5 (aI p5 (aI hT hF))));refine Ix (λK' h'=>kf (hB:=.cons (KE (p:=p) (n:=.u 2 0 0) (m:=m.top fs f) (dp:=dp) (have h:=hO;qS.re h) qA) (.cons (KD (by simp;exact hF) hat) (.cons (.refl _) .nil))) (hF:=Ke gl p _ _ _ _ _ _ _ _ _ _ _ _ _ _ _ _ (jQ f.cells) (jD p x) (jM p f x) x _ qA hxl rfl xA (GG (f:={f with pc:=pc0}) hP.sh.jK hM.top hk1 hk2) (K6 x)) (h:=h')) qB y3 ?_;clear fx;refine Dc ?_<|qg t0 t1 t5 p5 t10 t11 hT hF hat hatE hlt hsk<|hsl;have fx:=aI t0 (aI t1 (aI hT hF));refine dC (.c (.s 108) 0 3) (.s 20) (.inl rfl) (.inl rfl) ?_;refine dC (.c (.s 108) 0 5) (.s 21) (.inl rfl) (.inl rfl) ?_;refine dC (.c (.s 108) 0 6) (.s 22) (.inl rfl) (.inl rfl) ?_;refine w9 zG eb (hF:=HH _ _ p (m.top fs f) x (jM p f x) dp hxl Cu qA Cg (have h:=hO;qS.re h)) (h:=?_);rintro y H1 ⟨rfl,h3,h5,h6,hO1⟩;clear fx;have hT1:=hO1.top;simp only[zu]at hT1;obtain⟨js,hF1⟩:=hO1.fr.top;have hfl2:O fs+1<=2000:=qA
 simp only[qDV]at hF1;refine Dc ?_<|qg t0 t1 t5 p5 hT hT1 hF hF1 hat hatE hlt h3<|ql h5 h6<|hfl2;rw[hfin];refine yu [] .nil qD ⟨_,.inr rfl,qS.dy (qS.fin ?_ (.inl qB))⟩
 have key:∀(i1:Nat)g,(fs++[f]++[(⟨x,0,List.replicate (O (zB p x)) Y,(List.range (O (qa p x))).map (O m.cells+·)++jM p f x,jZ,[]⟩:qO)])[i1]?=Z g->(i1=O fs+1/\g=⟨x,0,List.replicate (O (zB p x)) Y,(List.range (O (qa p x))).map (O m.cells+·)++jM p f x,jZ,[]⟩)\/(i1<O fs+1/\(fs++[f])[i1]?=Z g):=by
  intro i1 g hg;rcases oE i1 (O (fs++[f]))with e|e|e
  .rw [ua e]at hg;exact .inr ⟨by simpa using e,hg⟩
  .subst e;simp at hg;exact .inl ⟨qB,hg.symm⟩
  .rw [eX (by simp at e ⊢;omega)]at hg
   cases hg
 refine⟨?_,?_,?_,?_,?_,?_,?_,?_,⟨[],?_⟩,λi1 g hg=>?_,λi1 g hg=>?_,λi1 g hg=>?_⟩
 .simp [zu]
 .simp [hO1.vI]
 .simp [hO1.cells]
 .simp [hO1.zM]
 .simp [hO1.qI]
 .simp [hO1.jG]
 .simp [hO1.out]
 .simp [hO1.zt]
 .simp;rw[<- sf,La]
  have htk:(fs++f::js).take (O fs+1)=fs++[f]:=by
   simp[lA];exact jg qA
  rw[htk,L8 (m:=.c Xn 0 6) λi1 g hg=>?_]
  .have:=L7 (p:=p) (n:=.c Xn 0 6) (l:=fs++[f]) (f:=⟨x,0,List.replicate (O (zB p x)) Y,(List.range (O (qa p x))).map (O m.cells+·)++jM p f x,jZ,[]⟩);simp[yv,vv]at this;exact this
  .have hlt:=(gS hg).1;have hne:¬i1=O fs+1:=by simp at hlt;omega
   simp[yv,hne]
 .rcases key i1 g hg with⟨rfl,rfl⟩|⟨hl,hg⟩
  .simp [h3]
  .have hne:¬i1=O fs+1:=qA;simp[hO1.fr.qt i1 g hg,hne]
 .rcases key i1 g hg with⟨rfl,rfl⟩|⟨hl,hg⟩
  .simp [h5]
  .have hne:¬i1=O fs+1:=qA;simp[hO1.fr.names i1 g hg,hne]
 .rcases key i1 g hg with⟨rfl,rfl⟩|⟨hl,hg⟩
  .exact⟨[],by simp[h6,zm]⟩
  .have hne:¬i1=O fs+1:=qA;exact(hO1.fr.stack i1 g hg).imp λj1 hj1=>by simp[hj1,hne]
abbrev ZD:qV:=bB<|.l 8 [4,3,2,1,0]<|.l 9 [0]<|.q 10<|.q 11<|.l 12 []<|.done
abbrev ZE:qV:=ax<|.l 12 [7,5,4,3,2,1,0]<|.l 13 [7,5,0]<|.q 14<|.q 15<|.l 16 []<|.done
abbrev ZF:qV:=wG<|.l 11 [6,5,4,3,2,1,0]<|.q 12<|.l 13 [4,3,2,1,0]<|.l 14 [0]<|.q 15<|.q 16<|.l 17 []<|.done
abbrev ZG:qV:=ax<|.l 12 [7,6,5,4,3,2,1,0]<|.l 13 [7,6,5,0]<|.q 14<|.q 15<|.l 16 []<|.done
abbrev ZH:qV:=ax<|.l 12 [7,6,5,4,3,2,1,0]<|.l 13 [4,3,2,1,0]<|.l 14 [4,3,2,1,0]<|.l 15 [0]<|.q 16<|.q 17<|.l 18 []<|.done
abbrev ZI:qV:=gA<|.done
abbrev ZJ:qV:=Br<|.l 18 [13,11,10,9,8,7,6,5,4,3,2,1,0]<|.l 19 [13,11,10,9,8,7,6,5,0]<|.q 20<|.q 21<|.l 22 []<|.done
abbrev ZK:qV:=bA<|.l 6 [4,3,2,1,0]<|.l 7 [4,3,2,1,0]<|.l 8 [4,3,2,1,0]<|.l 9 [0]<|.q 10<|.q 11<|.l 12 []<|.done
def oq(k:G2)(x:A)(h:A->jH G2->G:=by
 intro fx kk;refine qK ?_
 repeat((first|refine qP (id:=3) ZD mixed ?_|refine qP (id:=9) ZE mixed ?_|refine qP (id:=11) ZF mixed ?_|refine qP (id:=12) ZG mixed ?_|refine qP (id:=14) ZH mixed ?_|refine qP (id:=19) ZI mixed ?_|refine qP (id:=21) ZJ mixed ?_|refine qP (id:=23) ZK mixed ?_);refine zC ?_;refine qK ?_)
 exact kk.h):G:=h x ⟨k⟩
def PO(gl)(H:Nm->Option AO)(p:qC)(m:qR)(fs:List qO)(f:qO)(o:Int×Int)(dp pc0:Nat)(hP:zi p)(hM:yf p m fs {f with pc:=pc0})(hR:sU p f.qG o)(hc:o.1=18\/o.1=19)(h14:o.1=14->2<=O f.stack)(h18:o.1=18\/o.1=19->1<=O f.stack)(hsl:O f.stack<=1000)(hfl:O fs<=1000)(hO:qS H p (.u 2 0 0) (m.top fs f) dp)(h9:H (.u 9 0 0)=Y):
  qX prog gl 183 zP [.pt Xn 0,.ep (.u 2 0 0) 7 (O fs) 0,.agg [iv o.1,iv o.2]] H (λ_ _ H'=>∃q,(q=.u 2 0 0\/q=.c Xn 0 6)/\io H' p q (yl p m fs f o) dp) qw:=by
 have hT:=hO.top;obtain⟨L,j,hL,hat,hlt,hF,hf,hn,hsk⟩:=hO.ux rfl;obtain⟨_,hatE⟩:=gS hat;simp only[zu,qR.top]at hT;have harg:=hR.arg;have hblk:=hR.qG;have hatt:=hR.attr;have hfn:=hM.nf;have hfo:=hM.out;obtain⟨c,a⟩:=o;obtain⟨x,rfl⟩:∃x:Nat,a=x:=⟨a.toNat,mX⟩;simp only at hc h14 h18 harg hblk hatt;refine qX.q9 func183 [] ntmps183 (λ_=>vF) λC w g root hroot=>?_;refine oq ?_<|aI hT<|hF;refine uR (λs=>s.tm 0=.pt Xn 0/\s.tm 1=.ep (.u 2 0 0) 7 (O fs) 0/\s.tm 5=.pt (.s 5) 0/\s.hp (.s 5)=Z (.row 2 [[iv c,iv x]])/\s.tm 10=iv c/\s.tm 11=bv (c==1)/\qS s.hp p (.u 2 0 0) (m.top fs f) dp) ⟨qB,qB,qB,qB,qB,qB,(have h:=hO;qS.re h)⟩ ?_;clear hT hF hf hn hsk hat hatE hlt hL hO;rintro s ⟨t0,t1,t5,p5,t10,t11,hO⟩;have hT:=hO.top;obtain⟨L,j,hL,hat,hlt,hF,hf,hn,hsk⟩:=hO.ux rfl;obtain⟨_,hatE⟩:=gS hat;simp only[zu,qR.top]at hT;have hX0:s.hp Xn≠Y:=Ae;have hU0:s.hp (.u 2 0 0)≠Y:=by rw[hF];simp
 obtain⟨k,hk⟩:∃k,O f.stack=k+1:=⟨O f.stack - 1,by have:=h18 hc;omega⟩;have hv0:=hM.top.sv _ (lq (f:=f) qA);have hpl2:=xl hk;rcases hc with rfl|rfl
 .have hattr:dO m fs f (18,(x:Int))=(if f.zE.1≠3 then m.stop fs f.pop 5 else match j7 (m.qU.getD f.zE.2.toNat []) x with|some u=>m.top fs (f.pop.push u)|none=>m.stop fs f.pop 7):=rfl;have hw:yl p m fs f (18,(x:Int))=dO m fs f (18,(x:Int)):=br;rw[hw,hattr];clear hw hattr;obtain⟨rows,a0,a1,a2,a3,a4,a5,vs,e1,e2,e3,e4,e5⟩:=hO.take hk;refine oq ?_<|zx t0 t1 t5 p5 t10<|t11;intro K hK;have fx:=aI t0 t1;refine w9 (oF.2 hX0) (oF.2 hU0) (hF:=ry gl zP (λ_=>vF) _ rows (O fs) k a0 a1 a2 a3 a4 a5 vs f.zE e2 e3 e4 e5 qA) (h:=?_);intro y H1 hw1;clear fx;have hO1:=hO.taken e1 hk hw1;obtain⟨rfl,-⟩:=hw1;have vj:∀c∈m.qU,O c=8:=λc hc=>(hM.cls c hc).1;generalize hfp:f.pop=f1 at *;generalize hft:f.zE=u at *;obtain⟨u1,u2⟩:=u;have ht0':(s.call 116 zP (zU zP s.hp) H1).tm 0=.pt Xn 0:=wP;have ht1':(s.call 116 zP (zU zP s.hp) H1).tm 1=.ep (.u 2 0 0) 7 (O fs) 0:=by simp[t1,hF]
  have hT1:=hO1.top;refine oq ?_<|zy t0 t1 t5 p5 hT hF<|hT1;refine uR (λs=>s.tm 0=.pt Xn 0/\s.tm 1=.ep (.u 2 0 0) 7 (O fs) 0/\s.tm 5=.pt (.s 5) 0/\s.hp (.s 5)=Z (.row 2 [[iv 18,iv x]])/\s.tm 8=.pt (.s 8) 0/\s.hp (.s 8)=Z (.row 2 [[iv u1,iv u2]])/\s.tm 119=bv (u1 != 3)/\qS s.hp p (.u 2 0 0) (m.top fs f1) dp) ⟨wP,by simp[t1,hF],ee,by simp[p5],qB,qB,qB,(have h:=hO1;qS.re h)⟩ ?_;clear t0 t1 t5 p5 t10 t11 hT hF hf hn hsk hlt hat hatE hL e1 e2 e3 e4 e5 hO hO1 hT1 ht0' ht1' hX0 hU0;rintro s ⟨t0,t1,t5,p5,t8,p8,t119,hO⟩;have hT:=hO.top;obtain⟨L,j,hL,hat,hlt,hF,hf,hn,hsk⟩:=hO.ux rfl;obtain⟨_,hatE⟩:=gS hat;simp only[zu,qR.top]at hT;have hsl2:O f1.stack<=1000:=qA;simp only;by_cases k3:u1=3
  case neg=>
   have kb:(u1 != 3)=B:=by simpa using k3
   rw[if_pos k3];refine oq ?_<|y9 t0 t1 t5 p5 t8 p8 t119 hT<|kb;refine yu [] .nil qD ⟨_,.inl rfl,qS.dy (qS.fin (qS.DU hO rfl λk hk=>?_) (.inr rfl))⟩;simp[zu]
  subst k3;rw[if_neg qB];have hu2:=hv0.num;have hu3:=hv0.cls rfl;simp only at hu2 hu3;obtain⟨z,rfl⟩:∃z:Nat,u2=z:=⟨u2.toNat,qA⟩;have hzl:z<O m.qU:=qA;obtain⟨cl,hcl⟩:=gX hzl;obtain⟨_,hclE⟩:=gS hcl;have hcl8:=vj cl (gM hcl);have hx7:=hatt rfl;have hx8:x<O cl:=qA;have hx8i:(x:Int)<8:=qA;obtain⟨s0,hs0⟩:=gX hx8;obtain⟨_,hs0E⟩:=gS hs0;have hCl:=hO.jG;simp only[qDU]at hCl;have hsa:j7 (m.qU.getD ((z:Int).toNat) []) x=s0:=by rw[un,bO,hcl];simp[j7,hs0]
  rw[hsa]
  cases s0 with
  |some u=>
   obtain⟨w1,w2⟩:=u;refine oq ?_<|qg t0 t1 t5 p5 t8 p8 t119 hT hCl hzl hcl hclE<|jU hcl8 hx8 hx8i hs0 hs0E hF hat hatE hlt hsk<|hsl2;refine yu [] .nil qD ⟨_,.inl rfl,qS.dy (qS.fin (have h:=hO;qS.uY h rfl hL rfl fU fQ fO ⟨[],fR⟩ (h0:=dZ)) (.inr rfl))⟩
  |none=>
   refine oq ?_<|qg t0 t1 t5 p5 t8 p8 t119 hT hCl hzl hcl hclE<|zJ hcl8 hx8 hx8i hs0<|hs0E;refine yu [] .nil qD ⟨_,.inl rfl,qS.dy (qS.fin (qS.DU hO rfl λk hk=>?_) (.inr rfl))⟩;simp[zu]
 .have hw:yl p m fs f (19,(x:Int))={m.top fs f.pop with out:=m.out++[Hm.shown f.zE]}:=br;rw[hw];have hOu:=hO.out;simp only[qDY]at hOu;have hol:O m.out<=1000:=qA;have hsh:=PF gl f.zE;refine oq ?_<|y9 t0 t1 t5 p5 t10 t11 hT hOu<|hol;intro K hK;obtain⟨rows,rows',a0,a1,a2,a3,a4,a5,vs,e1,e2,e3,e4,e5,e6⟩:=hO.wx (N:=.c Xn 0 9) hk qB qB;have fx:=aI t0 t1;refine Ef zP (.c Xn 0 9) (.u 9 0 0) (.u 2 0 0) (.row 7 (jn rows (O fs) 6 [.hs (.c (.u 2 0 0) (O fs) 6) 2 0 k])) (q8.av f.zE) (hV:=rfl) (hN:=rfl) (hVe:=A2) (λ_=>vF) qB (λq hq=>by have:=Nm.ie (a:=.u 1 0 0) (b:=.c Xn 0 9) qB hq;simp[this]) (λ_=>JN) (by simp[hOu]) (λk i j _=>JM hX0 hU0 k i j) qB qB qB (hF:=KV) (h:=?_);intro hp' hS;clear fx;have hOp:=(hO.eC e1 hk).same (.inr rfl) hS;have hT1:=hOp.top;have hOu1:=hOp.out;simp only[zu]at hT1;generalize hv:f.zE=v at *;obtain⟨v1,v2⟩:=v;have fx:=jU t0 t1 t5 p5 t10 t11 hT hT1 hOu hOu1<|hol;have c1:=hsh;refine oq ?_<|@fx;clear fx c1;refine yu [] .nil qD ⟨_,.inl rfl,qS.dy (qS.fin (have h:=hOp;qS.re h (h0:=by simp[zu]) (h6:=qB)) (.inr rfl))⟩
end Go.Proofs.YtjgpejikjhojcaaGreatDoor
end
