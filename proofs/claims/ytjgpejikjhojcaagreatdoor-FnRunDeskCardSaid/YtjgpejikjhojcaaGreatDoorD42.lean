import Derived.Test.YtjgpejikjhojcaaGreatDoorD40
import Derived.Test.YtjgpejikjhojcaaGreatDoorD41
set_option linter.all false
set_option maxRecDepth 100000
set_option maxHeartbeats 4000000
open Option renaming some->Z,none->Y
open Bool renaming false->M
open List renaming length->O

section
namespace Go.Proofs.YtjgpejikjhojcaaGreatDoor
open Go Go.Hm Go.Proofs Tryz
variable{A G G2:Prop}
def JC(gl)(H:Nm->Option AO)(p:qC)(m:qR)(fs:List qO)(f:qO)(o:Int×Int)(q wy:Nat)(e:Int)(h4:o.1<=4)(hq:o.2.toNat=q)(hql:q<O f.qt)(hm0:m.en=0)(he:e≠0)(hwy:wy<=2)(hfl:O fs<=150)(hst:wy=1->1<=O f.stack)(hsl:O f.stack<=1000)(h9:H (.u 9 0 0)=Y)(hO:qF H p (m.top fs f)):
  qX prog gl 168 DM [.pt Yn 0,.pt Yn (yo (O fs)),.ep (.c Yn 0 (yo (O fs)+2)) 3 q 0,iv wy,iv e] H (λ_ y H'=>y=bv (decide ((uN m fs f o wy e).en=0))/\qF H' p (uN m fs f o wy e)) qw:=by
 obtain⟨R,j,hT,tr,h2,h3,h28⟩:=hO.yX rfl qA;have hRl:=tr.len;have f28:=tr.f28;have f2:=tr.f2
 have jz:∀g s,g.qt=f.qt->yE m fs g o s=m.top fs {g with qt:=f.qt.set q s}:=λg s hg=>by
  simp only[yE,if_pos h4,hg,hq]
 have yoh:yo (O fs)+29<=4415:=kP;obtain⟨s,hs1⟩:=gX hql;obtain⟨_,hs1E⟩:=gS hs1;have hs:ka m f o=s:=by simp[ka,h4,hq,j7,hs1]
 have hrow:∀(g:qO)s J,g.qG=g.qG->(∀i:Nat,O (J i:List AV)=29)->qj p (m.top fs g) (O fs+1) (yc (fs++[g]) J)=qj p (m.top fs {g with qt:=g.qt.set q s}) (O fs+1) (yc (fs++[{g with qt:=g.qt.set q s}]) J):=by
  intro g s J _ hJ;have:=El (p:=p) (m:=m.top fs g) (h:=O fs+1) (J:=J) (fs:=fs++[g]) (i:=O fs) (f:=g) (g:={g with qt:=g.qt.set q s}) (j:=0) (vals:=[]) hJ qB qA qB (by simp[qq,ym]);have e:qq (qj p (m.top fs g) (O fs+1) (yc (fs++[g]) J)) (32+(29*O fs+0)) []=qj p (m.top fs g) (O fs+1) (yc (fs++[g]) J):=Ac;rw[e]at this;refine this.trans ?_;simp[qj,yA,yB,yZ,qR.top]
 refine qX.q9 func168 [.tmp 10] ntmps168 (λ_=>zF) λC w g root hroot=>?_;by_cases w1:wy=1
 .subst w1;have hres:uN m fs f o 1 e=yE m fs f.pop o (Z f.zE):=rfl;rw[hres,jz f.pop _ rfl];obtain⟨k,hk⟩:∃k,O f.stack=k+1:=⟨O f.stack - 1,by have:=hst rfl;omega⟩;refine qH ?_<| h2;intro K hK;have hO0:qF (w4 [.pt Yn 0,.pt Yn (yo (O fs)),.ep (.c Yn 0 (yo (O fs)+2)) 3 q 0,iv 1,iv e] H 37 gl).hp p (m.top fs f):=(have h:=hO;qF.re h);obtain⟨R0,R',vs,k1,k2,k3,k4,k5,k6⟩:=qF.wx (j:=yo (O fs)+2) hO0 rfl qA hk qA;have fx:=h2;refine Ef DM (.c Yn 0 (yo (O fs)+2)) (.u 9 0 0) Yn (.row 4415 [qq R0 (yo (O fs)+28) [.hs (.c Yn 0 (yo (O fs)+28)) 2 0 k]]) (q8.av f.zE) (hV:=rfl) (hN:=rfl) (hVe:=A2) (λ_=>zF) qB (λ_=>Ep) (λ_=>Er) jS (λk i j he=>?_) rfl qB qB (hF:=KI) (h:=?_)
  .rcases hO.ext hO0 (qb _) k i j he with h|h
   .exact .inl h
   .refine .inr λh'=>h ?_;simp only[zU]
    split
    .exact h'
    .rfl
  intro hp' hS;clear fx;have hO1:=(qF.eC (m:=m.top fs f) hO0 rfl qA k1 hk).same hS;obtain⟨R1,j1,hT1,tr1,h21,h31,h281⟩:=qF.yX (f:=f.pop) hO1 rfl qA;have h21':hp' (.c Yn 0 (yo (O fs)+2))=Z (.row 3 (zD f.qt)):=h21;generalize hv:f.zE=v at *;obtain⟨v1,v2⟩:=v;refine qH ?_<|ql h2 h21'<|hql;refine qE [] .nil qD ⟨Ct,qF.fin ?_⟩;have h:=hO1;exact qF.uY h rfl (m':=m.top fs {f.pop with qt:=f.qt.set q (Z (v1,v2))}) rfl rfl (pJ (R':=R1) hT1 dW (λJ hJ e=>e.trans (hrow f.pop _ J rfl hJ))) (h6t:=qB) (h7t:=by simp[h31]) (h8t:=⟨j1,tc⟩)
 .have w1':((wy:Int)==1)=M:=kQ
  cases s with
  |none=>
   have hres:uN m fs f o wy e=m.stop fs f e:=Fo;rw[hres];refine qH ?_<|zJ w1' h2 hs1 hs1E<|hql;intro K hK;have fx:=qW;refine jI hO (have h:=hO;qF.re h) (qb _) (hF:=λ_=>gQ gl DM (λ_=>zF) _ R e zG hRl) (h:=?_);intro y H1 hw;clear fx;have hO1:=qF.qk (qF.gG (m:=m.top fs f) (e:=e) (have h:=hO;qF.re h) rfl zG) hw;obtain⟨rfl,-⟩:=hw;refine qH ?_<|qW;refine qE [] .nil qD ⟨by simp[qR.stop,he],qF.fin (have h:=hO1;qF.re h)⟩
  |some v=>
   obtain⟨v1,v2⟩:=v;by_cases w0:wy=0
   .subst w0;have hres:uN m fs f o 0 e=m.top fs (f.push (v1,v2)):=FZ;rw[hres];refine qH ?_<|zJ w1' h2 hs1 hs1E<|hql;intro K hK;have fx:=aI h2 (aI hs1 hs1E);refine jI hO (have h:=hO;qF.re h) (qb _) (hF:=λ_=>eR gl DM (λ_=>zF) _ R (yo (O fs)) f.stack j (v1,v2) rfl rfl zG f28 kX hsl yoh) (h:=?_);intro y H1 hw;clear fx;have hO1:=qF.eD (m:=m.top fs f) ef rfl qA rfl zG hw;refine qH ?_<|qW;refine qE [] .nil qD ⟨fP,qF.fin (have h:=hO1;qF.re h)⟩
   .have hres:uN m fs f o wy e=yE m fs f o Y:=FU;rw[hres,jz f _ rfl];have w0':((wy:Int)==0)=M:=kQ;refine qH ?_<|zx w1' w0' h2 hs1 hs1E<|hql;refine qE [] .nil qD ⟨Ct,qF.fin ?_⟩;have h:=hO;exact qF.uY h rfl (m':=m.top fs {f with qt:=f.qt.set q Y}) rfl rfl (pJ (R':=R) hT zG (λJ hJ e=>e.trans (hrow f _ J rfl hJ))) (h6t:=qB) (h7t:=jr) (h8t:=⟨j,kX⟩)
abbrev ZZ:qV:=xp<|.done
abbrev Ny:qV:=eG<|.l 9 [4,2,1]<|.done
abbrev Z0:qV:=bB<|.done
def dh(k:G2)(x:A)(h:A->jH G2->G:=by
 intro fx kk;refine qK ?_
 repeat((first|refine qP (id:=1) ZZ mixed ?_|refine qP (id:=2) Ny mixed ?_|refine qP (id:=4) Z0 mixed ?_|refine qP (id:=5) Ny mixed ?_);refine zC ?_;refine qK ?_)
 exact kk.h):G:=h x ⟨k⟩
def QL(gl)(H:Nm->Option AO)(p:qC)(m:qR)(fs:List qO)(f:qO)(c x:Nat)(hc:c=8\/c=11)(hx:x<8)(hg8:O m.globals=8)(hn8:O f.names=8)(hm0:m.en=0)(hfl:O fs<=150)(hsl:O f.stack<=1000)(hO:qF H p (m.top fs f)):
  qX prog gl 169 DM [.pt Yn 0,.pt Yn (yo (O fs)),.agg [iv c,iv x]] H (λ_ y H'=>y=bv (decide ((uE p m fs f (c,(x:Int))).en=0))/\qF H' p (uE p m fs f (c,(x:Int)))) qw:=by
 refine qX.q9 func169 [.tmp 6] ntmps169 (λ_=>zF) λC w g root hroot=>?_;refine qH ?_<|qW;refine uR (λs=>s.tm 0=.pt Yn 0/\s.tm 1=.pt Yn (yo (O fs))/\s.tm 5=.pt (.s 5) 0/\s.hp (.s 5)=Z (.row 2 [[iv c,iv x]])/\qF s.hp p (m.top fs f)) ⟨qB,qB,qB,qB,hO.qy (f:=kl (.s 5)) (λk hk=>by simp[kl,(jp (λ_=>zF) hk 5).2]) (λk hk=>by have:=jp (λ_=>zF) hk 5;simp[this.1,this.2])⟩ ?_;have h0:=hO;clear hO;rintro s ⟨t0,t1,t5,p5,hO⟩;obtain⟨R,j,hT,tr,h2,h3,h28⟩:=hO.yX rfl qA;have hRl:=tr.len;have f28:=tr.f28;have yoh:yo (O fs)+29<=4415:=kP;have hwy:u0 p f (c,(x:Int))=4:=by rcases hc with rfl|rfl<;>simp[u0]
 have g0:=tr.gl x 0 hx qA;have g1:=tr.gl x 1 hx qA;have g2:=tr.gl x 2 hx qA;have n0:=tr.nm x 0 hx qA;have n1:=tr.nm x 1 hx qA;have n2:=tr.nm x 2 hx qA;simp only[qR.top,fJ]at g0 g1 g2 n0;rw[pz]at g0 g1 g2 n0 n1 n2;rw[<- dL]at g1 g2 n1 n2;have hgN:∀sn,j7 f.names x=sn->ka m f (((11:Nat):Int),(x:Int))=sn:=λsn h=>by simp[ka,h]
 have hgG:∀sg,j7 m.globals x=sg->ka m f (((8:Nat):Int),(x:Int))=sg:=λsg h=>by simp[ka,h]
 have hrest:(c=8\/j7 f.names x=Y)->uE p m fs f (c,(x:Int))=match j7 m.globals x with
   |some v=>m.top fs (f.push v)
   |none=>if(x:Int)=7 then m.top fs (f.push (1,70))else m.stop fs f 4:=by
  intro h;rcases hc with rfl|rfl
  .cases hs:j7 m.globals x with
   |some v=>simp only[uE,hgG _ hs]
   |none=>simp only[uE,hgG _ hs,hwy,if_true,un,hs]
  .rcases h with h|h
   .cases h
   .simp only[uE,hgN _ h,hwy,if_true,un]
    rfl
 obtain⟨sn,hsn⟩:∃sn,j7 f.names x=sn:=⟨_,rfl⟩;obtain⟨sg,hsg⟩:∃sg,j7 m.globals x=sg:=⟨_,rfl⟩;rw[hsg]at g0 g1 g2 hrest;rw[hsn]at n0 n1 n2;have hx7:x<=7:=qA;have hlg:6+x*3+3<=4415:=qA;have hln:yo (O fs)+4+x*3+3<=4415:=qA;have hxl:(x:Int)<8:=qA;rcases hc with rfl|rfl
 .replace hrest:=hrest (.inl rfl)
  cases sg with
  |some v=>
   obtain⟨v1,v2⟩:=v;simp only at hrest;rw[hrest];simp only[CA,gh,gi]at g0 g1 g2;obtain⟨_,g0E⟩:=gS g0;have g12:=AB g1 g2;have hl2:6+x*3+1+2<=4415:=qA;refine dh ?_<|jU t0 t1 t5 p5 hT hRl hlg hl2 g0 g0E<|aI g12<|hxl;intro K hK;have fx:=jU t0 t1 t5 p5 hT hRl hlg hl2 g0 g0E<|aI g12<|hxl;refine jI h0 (have h:=hO;qF.re h) (qb _) (hF:=λ_=>eR gl DM (λ_=>zF) _ R (yo (O fs)) f.stack j (v1,v2) rfl rfl zG f28 kX hsl yoh) (h:=?_);intro y H1 hw;clear fx;have hO1:=qF.eD (m:=m.top fs f) ef rfl qA rfl zG hw;obtain⟨R1,j1,hT1,tr1,-,-,-⟩:=qF.yX (f:=f.push (v1,v2)) hO1 rfl qA;have hR1l:=tr1.len;have k12:=tr1.Li hx hsg;refine dh ?_<|ya t0 t1 t5 p5 hT hT1 hR1l hl2 k12<|hxl;refine qE [] .nil qD ⟨fP,qF.fin (have h:=hO1;qF.re h)⟩
  |none=>
   simp only at hrest;simp only[Bz,gh]at g0;obtain⟨_,g0E⟩:=gS g0;by_cases x7:x=7
   .subst x7;rw[if_pos cj]at hrest;rw[hrest];refine dh ?_<|jA t0 t1 t5 p5 hT hRl g0<|g0E;intro K hK;have fx:=jA t0 t1 t5 p5 hT hRl g0<|g0E;refine jI h0 (have h:=hO;qF.re h) (qb _) (hF:=λ_=>eR gl DM (λ_=>zF) _ R (yo (O fs)) f.stack j (1,70) rfl rfl zG f28 kX hsl yoh) (h:=?_);intro y H1 hw;clear fx;have hO1:=qF.eD (m:=m.top fs f) ef rfl qA rfl zG hw;refine dh ?_<|qW;refine qE [] .nil qD ⟨fP,qF.fin (have h:=hO1;qF.re h)⟩
   .rw [if_neg qA]at hrest;rw[hrest];have x7':((x:Int)==7)=M:=kQ;refine dh ?_<|jU t0 t1 t5 p5 hT hRl hlg g0 g0E x7'<|hxl;intro K hK;have fx:=aI t0 t1;refine jI h0 (have h:=hO;qF.re h) (qb _) (hF:=λ_=>gQ gl DM (λ_=>zF) _ R 4 zG hRl) (h:=?_);intro y H1 hw;clear fx;have hO1:=qF.qk (qF.gG (m:=m.top fs f) (e:=4) (have h:=hO;qF.re h) rfl zG) hw;obtain⟨rfl,-⟩:=hw;refine dh ?_<|qW;refine qE [] .nil qD ⟨tF,qF.fin (have h:=hO1;qF.re h)⟩
 .cases sn with
  |some v=>
   obtain⟨v1,v2⟩:=v;have hres:uE p m fs f (((11:Nat):Int),(x:Int))=m.top fs (f.push (v1,v2)):=by simp only[uE,hgN _ hsn]
   rw[hres];simp only[CA,gh,gi]at n0 n1 n2;obtain⟨_,n0E⟩:=gS n0;have n12:=AB n1 n2;have hl2:yo (O fs)+4+x*3+1+2<=4415:=qA;refine dh ?_<|jU t0 t1 t5 p5 hT hRl hln hl2 n0 n0E<|aI n12<|hxl;intro K hK;have fx:=jU t0 t1 t5 p5 hT hRl hln hl2 n0 n0E<|aI n12<|hxl;refine jI h0 (have h:=hO;qF.re h) (qb _) (hF:=λ_=>eR gl DM (λ_=>zF) _ R (yo (O fs)) f.stack j (v1,v2) rfl rfl zG f28 kX hsl yoh) (h:=?_);intro y H1 hw;clear fx;have hO1:=qF.eD (m:=m.top fs f) ef rfl qA rfl zG hw;obtain⟨R1,j1,hT1,tr1,-,-,-⟩:=qF.yX (f:=f.push (v1,v2)) hO1 rfl qA;have hR1l:=tr1.len;have k12:=tr1.Wd hx hsn;refine dh ?_<|ya t0 t1 t5 p5 hT hT1 hR1l hl2 k12<|hxl;refine qE [] .nil qD ⟨fP,qF.fin (have h:=hO1;qF.re h)⟩
  |none=>
   replace hrest:=hrest (.inr hsn);simp only[Bz,gh]at n0;obtain⟨_,n0E⟩:=gS n0
   cases sg with
   |some v=>
    obtain⟨v1,v2⟩:=v;simp only at hrest;rw[hrest];simp only[CA,gh,gi]at g0 g1 g2;obtain⟨_,g0E⟩:=gS g0;have g12:=AB g1 g2;have hl2:6+x*3+1+2<=4415:=qA;refine dh ?_<|qg t0 t1 t5 p5 hln n0 n0E hT hRl hlg hl2 g0<|ql g0E g12<|hxl;intro K hK;have fx:=qg t0 t1 t5 p5 hln n0 n0E hT hRl hlg hl2 g0<|ql g0E g12<|hxl;refine jI h0 (have h:=hO;qF.re h) (qb _) (hF:=λ_=>eR gl DM (λ_=>zF) _ R (yo (O fs)) f.stack j (v1,v2) rfl rfl zG f28 kX hsl yoh) (h:=?_);intro y H1 hw;clear fx;have hO1:=qF.eD (m:=m.top fs f) ef rfl qA rfl zG hw;obtain⟨R1,j1,hT1,tr1,-,-,-⟩:=qF.yX (f:=f.push (v1,v2)) hO1 rfl qA;have hR1l:=tr1.len;have k12:=tr1.Li hx hsg;refine dh ?_<|ya t0 t1 t5 p5 hT hT1 hR1l hl2 k12<|hxl;refine qE [] .nil qD ⟨fP,qF.fin (have h:=hO1;qF.re h)⟩
   |none=>
    simp only at hrest;simp only[Bz,gh]at g0;obtain⟨_,g0E⟩:=gS g0;by_cases x7:x=7
    .subst x7;rw[if_pos cj]at hrest;rw[hrest];refine dh ?_<|jU t0 t1 t5 p5 hln n0 n0E hT hRl g0<|g0E;intro K hK;have fx:=jU t0 t1 t5 p5 hln n0 n0E hT hRl g0<|g0E;refine jI h0 (have h:=hO;qF.re h) (qb _) (hF:=λ_=>eR gl DM (λ_=>zF) _ R (yo (O fs)) f.stack j (1,70) rfl rfl zG f28 kX hsl yoh) (h:=?_);intro y H1 hw;clear fx;have hO1:=qF.eD (m:=m.top fs f) ef rfl qA rfl zG hw;refine dh ?_<|qW;refine qE [] .nil qD ⟨fP,qF.fin (have h:=hO1;qF.re h)⟩
    .rw [if_neg qA]at hrest;rw[hrest];have x7':((x:Int)==7)=M:=kQ;refine dh ?_<|qg t0 t1 t5 p5 hln n0 n0E hT hRl hlg g0 g0E<|aI x7'<|hxl;intro K hK;have fx:=aI t0 t1;refine jI h0 (have h:=hO;qF.re h) (qb _) (hF:=λ_=>gQ gl DM (λ_=>zF) _ R 4 zG hRl) (h:=?_);intro y H1 hw;clear fx;have hO1:=qF.qk (qF.gG (m:=m.top fs f) (e:=4) (have h:=hO;qF.re h) rfl zG) hw;obtain⟨rfl,-⟩:=hw;refine dh ?_<|qW;refine qE [] .nil qD ⟨tF,qF.fin (have h:=hO1;qF.re h)⟩
abbrev Zp:qV:=ax<|.l 12 [2]<|.l 13 []<|.done
abbrev Zq:qV:=IK<|.done
abbrev Zr:qV:=gA<|.l 14 [3,2]<|.l 15 []<|.done
abbrev Nz:qV:=wG<|.l 11 []<|.l 12 []<|.done
abbrev OA:qV:=wG<|.l 11 [6,5,4,3,2,1,0]<|.q 12<|.l 13 [4,3,2,1,0]<|.l 14 [0]<|.q 15<|.q 16<|.l 17 []<|.done
abbrev OB:qV:=ba<|.l 7 [2,1,0]<|.l 8 []<|.done
abbrev OC:qV:=bA<|.l 6 [4,3,2,1,0]<|.l 7 [4,3,2,1,0]<|.l 8 [4,3,2,1,0]<|.l 9 [0]<|.q 10<|.q 11<|.l 12 []<|.done
def vl(k:G2)(x:A)(h:A->jH G2->G:=by
 intro fx kk;refine qK ?_
 repeat((first|refine qP (id:=7) Zp mixed ?_|refine qP (id:=12) Zq mixed ?_|refine qP (id:=14) Zr mixed ?_|refine qP (id:=20) Nz mixed ?_|refine qP (id:=23) Nz mixed ?_);refine zC ?_;refine qK ?_)
 exact kk.h):G:=h x ⟨k⟩
def qFD(gl)(H:Nm->Option AO)(p:qC)(m:qR)(fs:List qO)(f:qO)(o:Int×Int)(hP:zi p)(hM:yf p m fs f)(ho:(zS p f.qG)[f.pc]?=Z o)(hm0:m.en=0)(h9:H (.u 9 0 0)=Y)(hO:qF H p (m.top fs f.next)):
  qX prog gl 118 DM [.pt Yn 0,.pt Yn (yo (O fs)),.agg [iv o.1,iv o.2]] H (λ_ y H'=>y=bv (decide ((yD p m fs f.next o).en=0))/\qF H' p (yD p m fs f.next o)) qw:=by
 have h0:=hO;have hol:=sA (p:=p) (b:=f.qG) hP.sh;have hpc:=hM.top.pc;have hsl:=hM.top.sl;have hdp:=hM.deep;have hmd:=hM.made;have hp:=hM.top.qG;have hp7:=hP.sh.len;have htr:=hM.tr;obtain⟨hol2,hoE⟩:=gS ho;obtain⟨k,hk⟩:=gX hp;have hOr:=Dx hP.sh hk o (gM ho);have hcode:=hOr.code;have harg:=hOr.arg;have hok:=hM.top.ok;rw[oa ho,fJ]at hok
 have hgsl:∀g∈fs,O g.stack<=1000:=λg hg=>by
  have h1:=(hM.low g hg).sl;have h2:=(hM.low g hg).pc;have h3:=sA (p:=p) (b:=g.qG) hP.sh;omega
 have hnsl:O f.next.stack<=1000:=by simp only[qO.next];omega
 have hn8:=hM.top.nm.1;have hg8:=hM.zM.1;have hfl:O fs<=150:=qA;have hsO:=λh13=>sV.of hM hOr h13;have hnam:=hOr.name;have hfas:=hOr.LI;have hatt:=hOr.attr;have hbk:=hOr.qG;have hcl1:=hOr.call;have hret:=hOr.ret
 have hf16:o.1=16\/o.1=17->O fs+1<=150:=λh=>by
  have:=X9 hM ho h;omega
 have hne20:o.1=20->fs≠[]:=λh e=>by
  subst e;have h1:=hM.b0 f qB;have h2:=hret h;have h3:=(hP.sh.ei hk).2 h1;simp[jk,hk,h3]at h2
 have hch:5<=o.1->o.1<=7->∃c,f.cells[o.2.toNat]?=Z c/\c<O m.cells:=λh1 h2=>by
  have h3:=(hsO ⟨qA,qA⟩).cell h1 h2;exact⟨_,h3,hM.top.cr _ (gM h3)⟩
 have htick:=QN gl;obtain⟨c,a⟩:=o;obtain⟨x,rfl⟩:∃x:Nat,a=x:=⟨a.toNat,mX⟩;simp only at hcode harg hsO hnam hfas hatt hbk hcl1 hret hf16 hne20 hch;simp only[yN]at hok;refine qX.q9 func118 [.tmp 6] ntmps118 (λ_=>zF) λC w g root hroot=>?_;refine qH ?_<|qW;refine uR (λs=>s.tm 0=.pt Yn 0/\s.tm 1=.pt Yn (yo (O fs))/\s.tm 5=.pt (.s 5) 0/\s.hp (.s 5)=Z (.row 2 [[iv c,iv x]])/\s.tm 9=iv c/\s.tm 10=bv (c==0)/\s.hp (.u 9 0 0)=Y/\qF s.hp p (m.top fs f.next)) ⟨qB,qB,qB,qB,qB,qB,dV,oV⟩ ?_;clear hO;rintro s ⟨t0,t1,t5,p5,t9,t10,h9,hO⟩;obtain⟨R,j,hT,tr,h2,h3,h28⟩:=hO.yX rfl qA;have hRl:=tr.len;have hnb:f.next.qG=f.qG:=rfl;have hnp:f.next.pc=f.pc+1:=rfl;have hnc:f.next.cells=f.cells:=rfl;have hnf:f.next.qt=f.qt:=rfl;have hns:f.next.stack=f.stack:=rfl;have yoh:yo (O fs)+29<=4415:=kP;by_cases c0:c=0
 .subst c0;have hord:yD p m fs f.next (0,(x:Int))=aD p m fs f.next:=by simp[yD]
  rw[hord];refine vl ?_<|zx t0 t1 t5 p5 t9<|t10;intro K hK;have fx:=aI t0 t1;refine jI h0 (have h:=hO;qF.re h) (qb _) (hF:=λhO=>QN gl _ p m fs f.next (0,(x:Int)) (by rw[hnp];exact ho) rfl hp qA hm0 hfl qA qA qA (by rw[hnp];exact hol2) (by rw[hnb];omega) hO) (h:=?_);rintro y H1 ⟨rfl,hO1⟩;clear fx;refine vl ?_<|qW;refine qE [] .nil qD ⟨qB,qF.fin (have h:=hO1;qF.re h)⟩
 have cb0:(c==0)=M:=by simpa using c0
 by_cases c13:2<=c/\c<=13
 .have hst1:c=3\/c=6\/c=9\/c=12->1<=O f.next.stack:=λh=>by rcases h with rfl|rfl|rfl|rfl<;>simp at hok<;>exact hok.1
  have f2:=tr.f2;obtain⟨f2l,f2E⟩:=gS f2;have f0:=tr.f0;obtain⟨f0l,f0E⟩:=gS f0;have f3:=tr.f3;obtain⟨f3l,f3E⟩:=gS f3;have r0:=tr.r0;obtain⟨_,r0E⟩:=gS r0;have hcd:(jo p (O p))[f.qG]?=Z (zQ p f.qG):=Av;obtain⟨hcdl,hcdE⟩:=gS hcd;have hcc:(zQ p f.qG).cells=qa p f.qG:=gz;rw[hnb]at f0 f0E;rw[hnc]at f3 f3E h3;rw[hnf]at f2 f2E h2;by_cases c4:c<=4
  .have hxf:x<O f.qt:=by have:=hfas c13.1 c4;rw[hM.top.fl];omega
   have hc:c=2\/c=3\/c=4:=qA;rcases hc with rfl|rfl|rfl
   .rw [HO qf qf rfl];refine vl ?_<|qg t0 t1 t5 p5 t9 t10 hT hRl f2 f2E f2l yoh<|aI hxf<|h2;intro K hK;have fx:=aI t0 (aI t1 (aI t5 p5));refine jI h0 (have h:=hO;qF.re h) (qb _) (hF:=λhO=>JC gl _ p m fs f.next (2,(x:Int)) x 0 2 qB rfl hxf hm0 qf qf hfl (λh=>kv) hnsl dV hO) (h:=?_);rintro y H1 ⟨rfl,hO1⟩;clear fx;refine vl ?_<|qz t0 t1 t5<|hT;refine qE [] .nil qD ⟨qB,qF.fin (have h:=hO1;qF.re h)⟩
   .rw [HO qf qf rfl];refine vl ?_<|qg t0 t1 t5 p5 t9 t10 hT hRl f2 f2E f2l yoh<|aI hxf<|h2;intro K hK;have fx:=aI t0 (aI t1 (aI t5 p5));refine jI h0 (have h:=hO;qF.re h) (qb _) (hF:=λhO=>JC gl _ p m fs f.next (3,(x:Int)) x 1 2 qB rfl hxf hm0 qf qf hfl (λ_=>hst1 qB) hnsl dV hO) (h:=?_);rintro y H1 ⟨rfl,hO1⟩;clear fx;refine vl ?_<|qz t0 t1 t5<|hT;refine qE [] .nil qD ⟨qB,qF.fin (have h:=hO1;qF.re h)⟩
   .rw [HO qf qf rfl];refine vl ?_<|qg t0 t1 t5 p5 t9 t10 hT hRl f2 f2E f2l yoh<|aI hxf<|h2;intro K hK;have fx:=aI t0 (aI t1 (aI t5 p5));refine jI h0 (have h:=hO;qF.re h) (qb _) (hF:=λhO=>JC gl _ p m fs f.next (4,(x:Int)) x 2 2 qB rfl hxf hm0 qf qf hfl (λh=>kv) hnsl dV hO) (h:=?_);rintro y H1 ⟨rfl,hO1⟩;clear fx;refine vl ?_<|qz t0 t1 t5<|hT;refine qE [] .nil qD ⟨qB,qF.fin (have h:=hO1;qF.re h)⟩
  by_cases c7:c<=7
  .obtain⟨cc,hcc1,hcc2⟩:=hch qA c7;simp only[un]at hcc1;have hgd:f.next.cells.getD ((x:Int)).toNat 0=cc:=by rw[hnc,bO,un,hcc1];rfl
   obtain⟨hxl,_⟩:=gS hcc1;have her:(zd f.cells)[x]?=Z [.pt (.u 7 cc 0) 0]:=by rw[LC];simp[hcc1,uH]
   obtain⟨herl,herE⟩:=gS her;have hc:c=5\/c=6\/c=7:=qA;by_cases hxc:(x:Int)<(O (qa p f.qG):Int)
   .have hcond:∀(c:Int)(w:Nat),5<=c->c<=7->((c-2)%3).toNat=w->yD p m fs f.next (c,(x:Int))=uN m fs f.next (c,(x:Int)) w 2:=λc w h1 h2 hw=>by rw[NS h1 h2 hw,hnb,if_pos hxc]
    rcases hc with rfl|rfl|rfl
    .rw [hcond _ _ qf qf rfl];refine vl ?_<|qg t0 t1 t5 p5 t9 t10 hT hRl r0 r0E f0 f0E<|qg f0l hcd hcdl hcdE hcc hxc f3 f3E f3l yoh h3 hxl<|ql her herE<|herl;intro K hK;have fx:=aI t0 (aI t1 (aI t5 p5));refine jI h0 (have h:=hO;qF.re h) (qb _) (hF:=λhO=>AI gl _ p m fs f.next (5,(x:Int)) cc 0 2 qB qB hgd hcc2 hm0 qf qf hfl (λh=>kv) hnsl hO) (h:=?_);rintro y H1 ⟨rfl,hO1⟩;clear fx;refine vl ?_<|qz t0 t1 t5<|hT;refine qE [] .nil qD ⟨qB,qF.fin (have h:=hO1;qF.re h)⟩
    .rw [hcond _ _ qf qf rfl];refine vl ?_<|qg t0 t1 t5 p5 t9 t10 hT hRl r0 r0E f0 f0E<|qg f0l hcd hcdl hcdE hcc hxc f3 f3E f3l yoh h3 hxl<|ql her herE<|herl;intro K hK;have fx:=aI t0 (aI t1 (aI t5 p5));refine jI h0 (have h:=hO;qF.re h) (qb _) (hF:=λhO=>AI gl _ p m fs f.next (6,(x:Int)) cc 1 2 qB qB hgd hcc2 hm0 qf qf hfl (λ_=>hst1 qB) hnsl hO) (h:=?_);rintro y H1 ⟨rfl,hO1⟩;clear fx;refine vl ?_<|qz t0 t1 t5<|hT;refine qE [] .nil qD ⟨qB,qF.fin (have h:=hO1;qF.re h)⟩
    .rw [hcond _ _ qf qf rfl];refine vl ?_<|qg t0 t1 t5 p5 t9 t10 hT hRl r0 r0E f0 f0E<|qg f0l hcd hcdl hcdE hcc hxc f3 f3E f3l yoh h3 hxl<|ql her herE<|herl;intro K hK;have fx:=aI t0 (aI t1 (aI t5 p5));refine jI h0 (have h:=hO;qF.re h) (qb _) (hF:=λhO=>AI gl _ p m fs f.next (7,(x:Int)) cc 2 2 qB qB hgd hcc2 hm0 qf qf hfl (λh=>kv) hnsl hO) (h:=?_);rintro y H1 ⟨rfl,hO1⟩;clear fx;refine vl ?_<|qz t0 t1 t5<|hT;refine qE [] .nil qD ⟨qB,qF.fin (have h:=hO1;qF.re h)⟩
   .have hcond:∀(c:Int)(w:Nat),5<=c->c<=7->((c-2)%3).toNat=w->yD p m fs f.next (c,(x:Int))=uN m fs f.next (c,(x:Int)) w 3:=λc w h1 h2 hw=>by rw[NS h1 h2 hw,hnb,if_neg hxc]
    rcases hc with rfl|rfl|rfl
    .rw [hcond _ _ qf qf rfl];refine vl ?_<|qg t0 t1 t5 p5 t9 t10 hT hRl r0 r0E f0 f0E<|qg f0l hcd hcdl hcdE hcc hxc f3 f3E f3l yoh h3 hxl<|ql her herE<|herl;intro K hK;have fx:=aI t0 (aI t1 (aI t5 p5));refine jI h0 (have h:=hO;qF.re h) (qb _) (hF:=λhO=>AI gl _ p m fs f.next (5,(x:Int)) cc 0 3 qB qB hgd hcc2 hm0 qf qf hfl (λh=>kv) hnsl hO) (h:=?_);rintro y H1 ⟨rfl,hO1⟩;clear fx;refine vl ?_<|qz t0 t1 t5<|hT;refine qE [] .nil qD ⟨qB,qF.fin (have h:=hO1;qF.re h)⟩
    .rw [hcond _ _ qf qf rfl];refine vl ?_<|qg t0 t1 t5 p5 t9 t10 hT hRl r0 r0E f0 f0E<|qg f0l hcd hcdl hcdE hcc hxc f3 f3E f3l yoh h3 hxl<|ql her herE<|herl;intro K hK;have fx:=aI t0 (aI t1 (aI t5 p5));refine jI h0 (have h:=hO;qF.re h) (qb _) (hF:=λhO=>AI gl _ p m fs f.next (6,(x:Int)) cc 1 3 qB qB hgd hcc2 hm0 qf qf hfl (λ_=>hst1 qB) hnsl hO) (h:=?_);rintro y H1 ⟨rfl,hO1⟩;clear fx;refine vl ?_<|qz t0 t1 t5<|hT;refine qE [] .nil qD ⟨qB,qF.fin (have h:=hO1;qF.re h)⟩
    .rw [hcond _ _ qf qf rfl];refine vl ?_<|qg t0 t1 t5 p5 t9 t10 hT hRl r0 r0E f0 f0E<|qg f0l hcd hcdl hcdE hcc hxc f3 f3E f3l yoh h3 hxl<|ql her herE<|herl;intro K hK;have fx:=aI t0 (aI t1 (aI t5 p5));refine jI h0 (have h:=hO;qF.re h) (qb _) (hF:=λhO=>AI gl _ p m fs f.next (7,(x:Int)) cc 2 3 qB qB hgd hcc2 hm0 qf qf hfl (λh=>kv) hnsl hO) (h:=?_);rintro y H1 ⟨rfl,hO1⟩;clear fx;refine vl ?_<|qz t0 t1 t5<|hT;refine qE [] .nil qD ⟨qB,qF.fin (have h:=hO1;qF.re h)⟩
  have hx7:x<8:=by have:=hnam qA c13.2;omega
  have hxl:(x:Int)<8:=qA;have hx7':x<=7:=qA;have hc:c=8\/c=11\/c=9\/c=10\/c=12\/c=13:=qA;have hWg:∀c:Int,8<=c->c<=10->mD p m fs f.next (c,(x:Int)) (6+x*3):=λc h1 h2=>by rw[pz];exact mD.zM hg8 h1 h2 hx7
  have hWn:∀c:Int,11<=c->mD p m fs f.next (c,(x:Int)) (yo (O fs)+4+x*3):=λc h1=>by rw[pz];exact mD.name hn8 qA h1 hx7
  rcases hc with rfl|rfl|rfl|rfl|rfl|rfl
  .rw [NT qB];refine vl ?_<|zy t0 t1 t5 p5 t9 t10<|hxl;intro K hK;have fx:=aI t0 (aI t1 (aI t5 p5));refine jI h0 (have h:=hO;qF.re h) (qb _) (hF:=λhO=>QL gl _ p m fs f.next 8 x qB hx7 hg8 hn8 hm0 hfl hnsl hO) (h:=?_);rintro y H1 ⟨rfl,hO1⟩;clear fx;refine vl ?_<|qz t0 t1 t5<|hT;refine qE [] .nil qD ⟨qB,qF.fin (have h:=hO1;qF.re h)⟩
  .rw [NT qB];refine vl ?_<|zy t0 t1 t5 p5 t9 t10<|hxl;intro K hK;have fx:=aI t0 (aI t1 (aI t5 p5));refine jI h0 (have h:=hO;qF.re h) (qb _) (hF:=λhO=>QL gl _ p m fs f.next 11 x qB hx7 hg8 hn8 hm0 hfl hnsl hO) (h:=?_);rintro y H1 ⟨rfl,hO1⟩;clear fx;refine vl ?_<|qz t0 t1 t5<|hT;refine qE [] .nil qD ⟨qB,qF.fin (have h:=hO1;qF.re h)⟩
  .rw [Dw qf qf qf rfl];refine vl ?_<|y9 t0 t1 t5 p5 t9 t10 hxl hx7'<|yoh;intro K hK;have fx:=aI t0 (aI t1 (aI t5 p5));refine jI h0 (have h:=hO;qF.re h) (qb _) (hF:=λhO=>Em gl _ p m fs f.next (9,(x:Int)) _ 1 4 (hWg _ qf qf) hm0 qf qf hfl (λ_=>hst1 qB) hnsl hO) (h:=?_);rintro y H1 ⟨rfl,hO1⟩;clear fx;refine vl ?_<|qz t0 t1 t5<|hT;refine qE [] .nil qD ⟨qB,qF.fin (have h:=hO1;qF.re h)⟩
  .rw [Dw qf qf qf rfl];refine vl ?_<|y9 t0 t1 t5 p5 t9 t10 hxl hx7'<|yoh;intro K hK;have fx:=aI t0 (aI t1 (aI t5 p5));refine jI h0 (have h:=hO;qF.re h) (qb _) (hF:=λhO=>Em gl _ p m fs f.next (10,(x:Int)) _ 2 4 (hWg _ qf qf) hm0 qf qf hfl (λh=>kv) hnsl hO) (h:=?_);rintro y H1 ⟨rfl,hO1⟩;clear fx;refine vl ?_<|qz t0 t1 t5<|hT;refine qE [] .nil qD ⟨qB,qF.fin (have h:=hO1;qF.re h)⟩
  .rw [Dw qf qf qf rfl];refine vl ?_<|y9 t0 t1 t5 p5 t9 t10 hxl hx7'<|yoh;intro K hK;have fx:=aI t0 (aI t1 (aI t5 p5));refine jI h0 (have h:=hO;qF.re h) (qb _) (hF:=λhO=>Em gl _ p m fs f.next (12,(x:Int)) _ 1 4 (hWn _ qf) hm0 qf qf hfl (λ_=>hst1 qB) hnsl hO) (h:=?_);rintro y H1 ⟨rfl,hO1⟩;clear fx;refine vl ?_<|qz t0 t1 t5<|hT;refine qE [] .nil qD ⟨qB,qF.fin (have h:=hO1;qF.re h)⟩
  .rw [Dw qf qf qf rfl];refine vl ?_<|y9 t0 t1 t5 p5 t9 t10 hxl hx7'<|yoh;intro K hK;have fx:=aI t0 (aI t1 (aI t5 p5));refine jI h0 (have h:=hO;qF.re h) (qb _) (hF:=λhO=>Em gl _ p m fs f.next (13,(x:Int)) _ 2 4 (hWn _ qf) hm0 qf qf hfl (λh=>kv) hnsl hO) (h:=?_);rintro y H1 ⟨rfl,hO1⟩;clear fx;refine vl ?_<|qz t0 t1 t5<|hT;refine qE [] .nil qD ⟨qB,qF.fin (have h:=hO1;qF.re h)⟩
 rw[XJ c0 c13];have hcs:c=1\/c=14\/c=15\/c=16\/c=17\/c=18\/c=19\/c=20:=qA;have cb:∀k:Int,2<=k->k<=13->(c==k)=M:=λk h1 h2=>kQ
 have hval:∀H:Nm->Option AO,qF H p (m.top fs f.next)->H (.u 9 0 0)=Y->qX prog gl 170 DM [.pt Yn 0,.pt Yn (yo (O fs)),.agg [iv c,iv x]] H (λ_ y H'=>y=bv (decide ((yl p m fs f.next (c,(x:Int))).en=0))/\qF H' p (yl p m fs f.next (c,(x:Int)))) qw:=by
  intro H hO h9
  have h17:c=17->(x:Int)<=1/\((x:Int)).toNat+1<=O f.next.stack/\O fs+1<=150:=λh=>by
   refine⟨hcl1 h,?_,hf16 (.inr h)⟩;subst h;simp at hok;exact hok.1
  have h14:c=14->2<=O f.next.stack:=by rintro rfl;simp at hok;exact hok.1
  have h18:c=18->(x:Int)<=7/\1<=O f.next.stack:=by rintro rfl;simp at hok;exact⟨hatt rfl,hok.1⟩
  have h19:c=19\/c=20->1<=O f.next.stack:=KX;rcases hcs with h|h|h|h|h|h|h|h
  .exact JI gl H p m fs f.next (c,(x:Int)) harg (.inl h) f.pc hP hM h17 h18 hnsl hfl hm0 hO
  .exact qFE gl H p m fs f.next (c,(x:Int)) harg h f.pc hP hM (h14 h) hnsl hfl hm0 hO
  .exact QO gl H p m fs f.next (c,(x:Int)) harg (.inl h) f.pc hP hM (hbk (.inl h)) (λh'=>hf16 (.inl h')) hnsl hfl hm0 h9 hO
  .exact QO gl H p m fs f.next (c,(x:Int)) harg (.inr h) f.pc hP hM (hbk (.inr h)) (λh'=>hf16 (.inl h')) hnsl hfl hm0 h9 hO
  .exact JI gl H p m fs f.next (c,(x:Int)) harg (.inr (.inl h)) f.pc hP hM h17 h18 hnsl hfl hm0 hO
  .exact JI gl H p m fs f.next (c,(x:Int)) harg (.inr (.inr h)) f.pc hP hM h17 h18 hnsl hfl hm0 hO
  .exact QP gl H p m fs f.next (c,(x:Int)) harg (.inl h) f.pc hP hM (h19 (.inl h)) hret hgsl hne20 hnsl hfl hm0 h9 hO
  .exact QP gl H p m fs f.next (c,(x:Int)) harg (.inr h) f.pc hP hM (h19 (.inr h)) hret hgsl hne20 hnsl hfl hm0 h9 hO
 have e2:=cb 2 qf qf;have e3:=cb 3 qf qf;have e4:=cb 4 qf qf;have e5:=cb 5 qf qf;have e6:=cb 6 qf qf;have e7:=cb 7 qf qf;have e8:=cb 8 qf qf;have e9:=cb 9 qf qf;have e10:=cb 10 qf qf;have e11:=cb 11 qf qf;have e12:=cb 12 qf qf;have e13:=cb 13 qf qf;have fx:=qg t0 t1 t5 p5 t9 t10 cb0 e2 e3 e4 e5 e6<|zy e7 e8 e9 e10 e11 e12<|e13;refine qK ?_
 repeat((first|refine qP (id:=10) OA mixed ?_|refine qP (id:=13) OB mixed ?_|refine qP (id:=19) OC mixed ?_);refine zC ?_;refine qK ?_)
 clear fx;intro K hK;have fx:=aI t0 (aI t1 (aI t5 p5));refine jI h0 (have h:=hO;qF.re h) (qb _) (hF:=λhO=>hval _ hO dV) (h:=?_);rintro y H1 ⟨rfl,hO1⟩;clear fx;have fx:=qW;refine qK ?_
 repeat((first|refine qP (id:=10) OA mixed ?_|refine qP (id:=13) OB mixed ?_|refine qP (id:=19) OC mixed ?_);refine zC ?_;refine qK ?_)
 clear fx;refine qE [] .nil qD ⟨qB,qF.fin (have h:=hO1;qF.re h)⟩
end Go.Proofs.YtjgpejikjhojcaaGreatDoor
end
