import Derived.Test.YtdnebaieamppbaaGreatDoorE37
import Derived.Test.YtdnebaieamppbaaGreatDoorE38
set_option linter.unusedSimpArgs false
set_option linter.unusedVariables false
set_option maxRecDepth 100000
set_option maxHeartbeats 4000000

section
namespace Go.Proofs.YtdnebaieamppbaaGreatDoor
open Go Go.Hm Go.Proofs Tryz
theorem nG (gl) (H:Nm->Option AO) (p:Z0) (m:Zb) (fs:List Z8) (f:Z8) (o:Int×Int) (q wy:Nat) (e:Int) (h4:o.1<=4) (hq:o.2.toNat=q) (hql:q<f.Z3.length) (hm0:m.en=0) (he:e≠0) (hwy:wy<=2) (hfl:fs.length<=150) (hst:wy=1->1<=f.stack.length) (hsl:f.stack.length<=1000) (h9:H (.u 9 0 0)=none) (hO:ZY H p (m.top fs f)) :
  Zj prog gl 183 DM [.pt Yn 0,.pt Yn (yo fs.length),.ep (.c Yn 0 (yo fs.length+2)) 3 q 0,iv wy,iv e] H (λ_ y H'=>y=bv (decide ((yf m fs f o wy e).en=0))/\ZY H' p (yf m fs f o wy e)) noE:=by
 obtain⟨R,j,hT,tr,h2,h3,h28⟩:=hO.qAO rfl qA;have hRl:=tr.len;have f28:=tr.f28;have f2:=tr.f2
 have wF:∀ g s,g.Z3=f.Z3->qAD m fs g o s=m.top fs { g with Z3:=f.Z3.set q s }:=λg s hg=>by
  simp only [qAD,if_pos h4,hg,hq]
 have yoh:yo fs.length+29<=4415:=vq;obtain⟨s,hs1⟩:=gX hql;obtain⟨_,hs1E⟩:=gS hs1;have hs:ft m f o=s:=by simp [ft,h4,hq,uE,hs1]
 have hrow:∀ (g:Z8) s J,g.Z1=g.Z1->(∀ i:Nat,(J i:List AV).length=29)->zV p (m.top fs g) (fs.length+1) (yc (fs++[g]) J)=zV p (m.top fs { g with Z3:=g.Z3.set q s }) (fs.length+1) (yc (fs++[{ g with Z3:=g.Z3.set q s }]) J):=by
  intro g s J _ hJ;have:=Hb (p:=p) (m:=m.top fs g) (h:=fs.length+1) (J:=J) (fs:=fs++[g]) (i:=fs.length) (f:=g) (g:={ g with Z3:=g.Z3.set q s }) (j:=0) (vals:=[]) hJ qB qA qB (by simp [Zz,yfr]);have e:Zz (zV p (m.top fs g) (fs.length+1) (yc (fs++[g]) J)) (32+(29 * fs.length+0)) []=zV p (m.top fs g) (fs.length+1) (yc (fs++[g]) J):=te;rw [e] at this;refine this.trans ?_;simp [zV,yA,yB,yZ,Zb.top]
 refine Zj.Zl func183 [.tmp 10] ntmps183 (λ_=>qN) λC w g root hroot=>?_;by_cases w1:wy=1
 .subst w1;have hres:yf m fs f o 1 e=qAD m fs f.pop o (some f.tos):=rfl;rw [hres,wF f.pop _ rfl];obtain⟨k,hk⟩:∃ k,f.stack.length=k+1:=⟨f.stack.length - 1,by have:=hst rfl;omega⟩;refine qC ?_<| h2;intro K hK;have hO0:ZY (st0 [.pt Yn 0,.pt Yn (yo fs.length),.ep (.c Yn 0 (yo fs.length+2)) 3 q 0,iv 1,iv e] H 37 gl).hp p (m.top fs f):=(have h:=hO;ZY.re h);obtain⟨R0,R',vs,k1,k2,k3,k4,k5,k6⟩:=ZY.qB7 (j:=yo fs.length+2) hO0 rfl qA hk qA;have fx:=h2;refine Hd DM (.c Yn 0 (yo fs.length+2)) (.u 9 0 0) Yn (.row 4415 [Zz R0 (yo fs.length+28) [.hs (.c Yn 0 (yo fs.length+28)) 2 0 k]]) (Zd.av f.tos) (hV:=rfl) (hN:=rfl) (hVe:=tA) (λ_=>qN) qB (λ_=>UN) (λ_=>Ys) ql (λk i j he=>?_) rfl qB qB (hF:=Nx) (h:=?_)
  .rcases hO.ext hO0 (qf _) k i j he with h|h
   .exact .inl h
   .refine .inr λh'=>h ?_;simp only [vC]
    split
    .exact h'
    .rfl
  intro hp' hS;clear fx;have hO1:=(ZY.qAp (m:=m.top fs f) hO0 rfl qA k1 hk).same hS;obtain⟨R1,j1,hT1,tr1,h21,h31,h281⟩:=ZY.qAO (f:=f.pop) hO1 rfl qA;have h21':hp' (.c Yn 0 (yo fs.length+2))=some (.row 3 (qW f.Z3)):=h21;generalize hv:f.tos=v at *;obtain⟨v1,v2⟩:=v;refine qC ?_<|jI h2 h21'<|hql;refine qD [] .nil qE ⟨Bl,ZY.fin ?_⟩;have h:=hO1;exact ZY.reT h rfl (m':=m.top fs { f.pop with Z3:=f.Z3.set q (some (v1,v2)) }) rfl rfl (od (R':=R1) hT1 bt (λJ hJ e=>e.trans (hrow f.pop _ J rfl hJ))) (h6t:=qB) (h7t:=by simp [h31]) (h8t:=⟨j1,oS⟩)
 .have w1':((wy:Int)==1)=false:=vP
  cases s with
  | none =>
   have hres:yf m fs f o wy e=m.stop fs f e:=Gw;rw [hres];refine qC ?_<|yS w1' h2 hs1 hs1E<|hql;intro K hK;have fx:=Zk;refine qe hO (have h:=hO;ZY.re h) (qf _) (hF:=λ_=>uo gl DM (λ_=>qN) _ R e qu hRl) (h:=?_);intro y H1 hw;clear fx;have hO1:=ZY.Zv (ZY.qAg (m:=m.top fs f) (e:=e) (have h:=hO;ZY.re h) rfl qu) hw;obtain⟨rfl,-⟩:=hw;refine qC ?_<|Zk;refine qD [] .nil qE ⟨by simp [Zb.stop,he],ZY.fin (have h:=hO1;ZY.re h)⟩
  | some v =>
   obtain⟨v1,v2⟩:=v;by_cases w0:wy=0
   .subst w0;have hres:yf m fs f o 0 e=m.top fs (f.push (v1,v2)):=HB;rw [hres];refine qC ?_<|yS w1' h2 hs1 hs1E<|hql;intro K hK;have fx:=aI h2 (aI hs1 hs1E);refine qe hO (have h:=hO;ZY.re h) (qf _) (hF:=λ_=>vl gl DM (λ_=>qN) _ R (yo fs.length) f.stack j (v1,v2) rfl rfl qu f28 vo hsl yoh) (h:=?_);intro y H1 hw;clear fx;have hO1:=ZY.qAo (m:=m.top fs f) dP rfl qA rfl qu hw;refine qC ?_<|Zk;refine qD [] .nil qE ⟨ey,ZY.fin (have h:=hO1;ZY.re h)⟩
   .have hres:yf m fs f o wy e=qAD m fs f o none:=Gk;rw [hres,wF f _ rfl];have w0':((wy:Int)==0)=false:=vP;refine qC ?_<|uD w1' w0' h2 hs1 hs1E<|hql;refine qD [] .nil qE ⟨Bl,ZY.fin ?_⟩;have h:=hO;exact ZY.reT h rfl (m':=m.top fs { f with Z3:=f.Z3.set q none }) rfl rfl (od (R':=R) hT qu (λJ hJ e=>e.trans (hrow f _ J rfl hJ))) (h6t:=qB) (h7t:=qt) (h8t:=⟨j,vo⟩)
abbrev XV:Zh:=nP<|.done
abbrev VS:Zh:=wo<|.l 9 [4,2,1]<|.done
abbrev XU:Zh:=aS<|.done
theorem yk {A G G2:Prop} (k:G2) (x:A) (h:A->Zx G2->G:=by
 intro fx kk;refine qG ?_
 repeat ((first|refine Ze (id:=1) XV mixed ?_|refine Ze (id:=2) VS mixed ?_|refine Ze (id:=4) XU mixed ?_|refine Ze (id:=5) VS mixed ?_);refine qZ ?_;refine qG ?_)
 exact kk.h):G:=h x ⟨k⟩
theorem Ha (gl) (H:Nm->Option AO) (p:Z0) (m:Zb) (fs:List Z8) (f:Z8) (c x:Nat) (hc:c=8\/c=11) (hx:x<8) (hg8:m.globals.length=8) (hn8:f.names.length=8) (hm0:m.en=0) (hfl:fs.length<=150) (hsl:f.stack.length<=1000) (hO:ZY H p (m.top fs f)) :
  Zj prog gl 184 DM [.pt Yn 0,.pt Yn (yo fs.length),.agg [iv c,iv x]] H (λ_ y H'=>y=bv (decide ((vj p m fs f (c,(x:Int))).en=0))/\ZY H' p (vj p m fs f (c,(x:Int)))) noE:=by
 refine Zj.Zl func184 [.tmp 6] ntmps184 (λ_=>qN) λC w g root hroot=>?_;refine qC ?_<|Zk;refine uu (λs=>s.tm 0=.pt Yn 0/\s.tm 1=.pt Yn (yo fs.length)/\s.tm 5=.pt (.s 5) 0/\s.hp (.s 5)=some (.row 2 [[iv c,iv x]])/\ZY s.hp p (m.top fs f)) ⟨qB,qB,qB,qB,hO.Zn (f:=kl (.s 5)) (λk hk=>by simp [kl,(D_s (λ_=>qN) hk 5).2]) (λk hk=>by have:=D_s (λ_=>qN) hk 5;simp [this.1,this.2])⟩ ?_;have h0:=hO;clear hO;rintro s ⟨t0,t1,t5,p5,hO⟩;obtain⟨R,j,hT,tr,h2,h3,h28⟩:=hO.qAO rfl qA;have hRl:=tr.len;have f28:=tr.f28;have yoh:yo fs.length+29<=4415:=vq;have hwy:fH p f (c,(x:Int))=4:=by rcases hc with rfl|rfl <;> simp [fH]
 have g0:=tr.gl x 0 hx qA;have g1:=tr.gl x 1 hx qA;have g2:=tr.gl x 2 hx qA;have n0:=tr.nm x 0 hx qA;have n1:=tr.nm x 1 hx qA;have n2:=tr.nm x 2 hx qA;simp only [Zb.top,C4] at g0 g1 g2 n0;rw [Eh] at g0 g1 g2 n0 n1 n2;rw [<- nA] at g1 g2 n1 n2;have hgN:∀ sn,uE f.names x=sn->ft m f (((11:Nat):Int),(x:Int))=sn:=λsn h=>by simp [ft,h]
 have hgG:∀ sg,uE m.globals x=sg->ft m f (((8:Nat):Int),(x:Int))=sg:=λsg h=>by simp [ft,h]
 have hrest:(c=8\/uE f.names x=none)->vj p m fs f (c,(x:Int))=match uE m.globals x with
   | some v=>m.top fs (f.push v)
   | none=>if (x:Int)=7 then m.top fs (f.push (1,70)) else m.stop fs f 4:=by
  intro h;rcases hc with rfl|rfl
  .cases hs:uE m.globals x with
   | some v=>simp only [vj,hgG _ hs]
   | none=>simp only [vj,hgG _ hs,hwy,if_true,b6,hs]
  .rcases h with h|h
   .cases h
   .simp only [vj,hgN _ h,hwy,if_true,b6]
    rfl
 obtain⟨sn,hsn⟩:∃ sn,uE f.names x=sn:=⟨_,rfl⟩;obtain⟨sg,hsg⟩:∃ sg,uE m.globals x=sg:=⟨_,rfl⟩;rw [hsg] at g0 g1 g2 hrest;rw [hsn] at n0 n1 n2;have hx7:x<=7:=qA;have hlg:6+x * 3+3<=4415:=qA;have hln:yo fs.length+4+x * 3+3<=4415:=qA;have hxl:(x:Int)<8:=qA;rcases hc with rfl|rfl
 .replace hrest:=hrest (.inl rfl)
  cases sg with
  | some v =>
   obtain⟨v1,v2⟩:=v;simp only at hrest;rw [hrest];simp only [kC,iU,Ed] at g0 g1 g2;obtain⟨_,g0E⟩:=gS g0;have g12:=gt g1 g2;have hl2:6+x * 3+1+2<=4415:=qA;refine yk ?_<|jJ t0 t1 t5 p5 hT hRl hlg hl2 g0 g0E<|aI g12<|hxl;intro K hK;have fx:=jJ t0 t1 t5 p5 hT hRl hlg hl2 g0 g0E<|aI g12<|hxl;refine qe h0 (have h:=hO;ZY.re h) (qf _) (hF:=λ_=>vl gl DM (λ_=>qN) _ R (yo fs.length) f.stack j (v1,v2) rfl rfl qu f28 vo hsl yoh) (h:=?_);intro y H1 hw;clear fx;have hO1:=ZY.qAo (m:=m.top fs f) dP rfl qA rfl qu hw;obtain⟨R1,j1,hT1,tr1,-,-,-⟩:=ZY.qAO (f:=f.push (v1,v2)) hO1 rfl qA;have hR1l:=tr1.len;have k12:=tr1.glv hx hsg;refine yk ?_<|aJ t0 t1 t5 p5 hT hT1 hR1l hl2 k12<|hxl;refine qD [] .nil qE ⟨ey,ZY.fin (have h:=hO1;ZY.re h)⟩
  | none =>
   simp only at hrest;simp only [wN,iU] at g0;obtain⟨_,g0E⟩:=gS g0;by_cases x7:x=7
   .subst x7;rw [if_pos eh] at hrest;rw [hrest];refine yk ?_<|kO t0 t1 t5 p5 hT hRl g0<|g0E;intro K hK;have fx:=kO t0 t1 t5 p5 hT hRl g0<|g0E;refine qe h0 (have h:=hO;ZY.re h) (qf _) (hF:=λ_=>vl gl DM (λ_=>qN) _ R (yo fs.length) f.stack j (1,70) rfl rfl qu f28 vo hsl yoh) (h:=?_);intro y H1 hw;clear fx;have hO1:=ZY.qAo (m:=m.top fs f) dP rfl qA rfl qu hw;refine yk ?_<|Zk;refine qD [] .nil qE ⟨ey,ZY.fin (have h:=hO1;ZY.re h)⟩
   .rw [if_neg qA] at hrest;rw [hrest];have x7':((x:Int)==7)=false:=vP;refine yk ?_<|jJ t0 t1 t5 p5 hT hRl hlg g0 g0E x7'<|hxl;intro K hK;have fx:=aI t0 t1;refine qe h0 (have h:=hO;ZY.re h) (qf _) (hF:=λ_=>uo gl DM (λ_=>qN) _ R 4 qu hRl) (h:=?_);intro y H1 hw;clear fx;have hO1:=ZY.Zv (ZY.qAg (m:=m.top fs f) (e:=4) (have h:=hO;ZY.re h) rfl qu) hw;obtain⟨rfl,-⟩:=hw;refine yk ?_<|Zk;refine qD [] .nil qE ⟨oQ,ZY.fin (have h:=hO1;ZY.re h)⟩
 .cases sn with
  | some v =>
   obtain⟨v1,v2⟩:=v;have hres:vj p m fs f (((11:Nat):Int),(x:Int))=m.top fs (f.push (v1,v2)):=by simp only [vj,hgN _ hsn]
   rw [hres];simp only [kC,iU,Ed] at n0 n1 n2;obtain⟨_,n0E⟩:=gS n0;have n12:=gt n1 n2;have hl2:yo fs.length+4+x * 3+1+2<=4415:=qA;refine yk ?_<|jJ t0 t1 t5 p5 hT hRl hln hl2 n0 n0E<|aI n12<|hxl;intro K hK;have fx:=jJ t0 t1 t5 p5 hT hRl hln hl2 n0 n0E<|aI n12<|hxl;refine qe h0 (have h:=hO;ZY.re h) (qf _) (hF:=λ_=>vl gl DM (λ_=>qN) _ R (yo fs.length) f.stack j (v1,v2) rfl rfl qu f28 vo hsl yoh) (h:=?_);intro y H1 hw;clear fx;have hO1:=ZY.qAo (m:=m.top fs f) dP rfl qA rfl qu hw;obtain⟨R1,j1,hT1,tr1,-,-,-⟩:=ZY.qAO (f:=f.push (v1,v2)) hO1 rfl qA;have hR1l:=tr1.len;have k12:=tr1.nmv hx hsn;refine yk ?_<|aJ t0 t1 t5 p5 hT hT1 hR1l hl2 k12<|hxl;refine qD [] .nil qE ⟨ey,ZY.fin (have h:=hO1;ZY.re h)⟩
  | none =>
   replace hrest:=hrest (.inr hsn);simp only [wN,iU] at n0;obtain⟨_,n0E⟩:=gS n0
   cases sg with
   | some v =>
    obtain⟨v1,v2⟩:=v;simp only at hrest;rw [hrest];simp only [kC,iU,Ed] at g0 g1 g2;obtain⟨_,g0E⟩:=gS g0;have g12:=gt g1 g2;have hl2:6+x * 3+1+2<=4415:=qA;refine yk ?_<|qU t0 t1 t5 p5 hln n0 n0E hT hRl hlg hl2 g0<|jI g0E g12<|hxl;intro K hK;have fx:=qU t0 t1 t5 p5 hln n0 n0E hT hRl hlg hl2 g0<|jI g0E g12<|hxl;refine qe h0 (have h:=hO;ZY.re h) (qf _) (hF:=λ_=>vl gl DM (λ_=>qN) _ R (yo fs.length) f.stack j (v1,v2) rfl rfl qu f28 vo hsl yoh) (h:=?_);intro y H1 hw;clear fx;have hO1:=ZY.qAo (m:=m.top fs f) dP rfl qA rfl qu hw;obtain⟨R1,j1,hT1,tr1,-,-,-⟩:=ZY.qAO (f:=f.push (v1,v2)) hO1 rfl qA;have hR1l:=tr1.len;have k12:=tr1.glv hx hsg;refine yk ?_<|aJ t0 t1 t5 p5 hT hT1 hR1l hl2 k12<|hxl;refine qD [] .nil qE ⟨ey,ZY.fin (have h:=hO1;ZY.re h)⟩
   | none =>
    simp only at hrest;simp only [wN,iU] at g0;obtain⟨_,g0E⟩:=gS g0;by_cases x7:x=7
    .subst x7;rw [if_pos eh] at hrest;rw [hrest];refine yk ?_<|jJ t0 t1 t5 p5 hln n0 n0E hT hRl g0<|g0E;intro K hK;have fx:=jJ t0 t1 t5 p5 hln n0 n0E hT hRl g0<|g0E;refine qe h0 (have h:=hO;ZY.re h) (qf _) (hF:=λ_=>vl gl DM (λ_=>qN) _ R (yo fs.length) f.stack j (1,70) rfl rfl qu f28 vo hsl yoh) (h:=?_);intro y H1 hw;clear fx;have hO1:=ZY.qAo (m:=m.top fs f) dP rfl qA rfl qu hw;refine yk ?_<|Zk;refine qD [] .nil qE ⟨ey,ZY.fin (have h:=hO1;ZY.re h)⟩
    .rw [if_neg qA] at hrest;rw [hrest];have x7':((x:Int)==7)=false:=vP;refine yk ?_<|qU t0 t1 t5 p5 hln n0 n0E hT hRl hlg g0 g0E<|aI x7'<|hxl;intro K hK;have fx:=aI t0 t1;refine qe h0 (have h:=hO;ZY.re h) (qf _) (hF:=λ_=>uo gl DM (λ_=>qN) _ R 4 qu hRl) (h:=?_);intro y H1 hw;clear fx;have hO1:=ZY.Zv (ZY.qAg (m:=m.top fs f) (e:=4) (have h:=hO;ZY.re h) rfl qu) hw;obtain⟨rfl,-⟩:=hw;refine yk ?_<|Zk;refine qD [] .nil qE ⟨oQ,ZY.fin (have h:=hO1;ZY.re h)⟩
abbrev Wx:Zh:=vi<|.l 12 [2]<|.l 13 []<|.done
abbrev Ww:Zh:=FZ<|.done
abbrev Wv:Zh:=wP<|.l 14 [3,2]<|.l 15 []<|.done
abbrev VO:Zh:=yz<|.l 11 []<|.l 12 []<|.done
abbrev VN:Zh:=yz<|.l 11 [6,5,4,3,2,1,0]<|.q 12<|.l 13 [4,3,2,1,0]<|.l 14 [0]<|.q 15<|.q 16<|.l 17 []<|.done
abbrev VM:Zh:=bI<|.l 7 [2,1,0]<|.l 8 []<|.done
abbrev VL:Zh:=wE<|.l 6 [4,3,2,1,0]<|.l 7 [4,3,2,1,0]<|.l 8 [4,3,2,1,0]<|.l 9 [0]<|.q 10<|.q 11<|.l 12 []<|.done
theorem qv {A G G2:Prop} (k:G2) (x:A) (h:A->Zx G2->G:=by
 intro fx kk;refine qG ?_
 repeat ((first|refine Ze (id:=7) Wx mixed ?_|refine Ze (id:=12) Ww mixed ?_|refine Ze (id:=14) Wv mixed ?_|refine Ze (id:=20) VO mixed ?_|refine Ze (id:=23) VO mixed ?_);refine qZ ?_;refine qG ?_)
 exact kk.h):G:=h x ⟨k⟩
theorem Ou (gl) (H:Nm->Option AO) (p:Z0) (m:Zb) (fs:List Z8) (f:Z8) (o:Int×Int) (hP:Zm p) (hM:MOk p m fs f) (ho:(vI p f.Z1)[f.pc]?=some o) (hm0:m.en=0) (h9:H (.u 9 0 0)=none) (hO:ZY H p (m.top fs f.next)) :
  Zj prog gl 146 DM [.pt Yn 0,.pt Yn (yo fs.length),.agg [iv o.1,iv o.2]] H (λ_ y H'=>y=bv (decide ((kM p m fs f.next o).en=0))/\ZY H' p (kM p m fs f.next o)) noE:=by
 have h0:=hO;have hol:=dl (p:=p) (b:=f.Z1) hP.sh;have hpc:=hM.top.pc;have hsl:=hM.top.sl;have hdp:=hM.deep;have hmd:=hM.made;have hp:=hM.top.Z1;have hp7:=hP.sh.len;have htr:=hM.tr;obtain⟨hol2,hoE⟩:=gS ho;obtain⟨k,hk⟩:=gX hp;have hOr:=IK hP.sh hk o (gM ho);have hcode:=hOr.code;have harg:=hOr.arg;have hok:=hM.top.ok;rw [dy ho,C4] at hok
 have hgsl:∀ g∈fs,g.stack.length<=1000:=λg hg=>by
  have h1:=(hM.low g hg).sl;have h2:=(hM.low g hg).pc;have h3:=dl (p:=p) (b:=g.Z1) hP.sh;omega
 have hnsl:f.next.stack.length<=1000:=by simp only [Z8.next];omega
 have hn8:=hM.top.nm.1;have hg8:=hM.Zg.1;have hfl:fs.length<=150:=qA;have hsO:=λh13=>qDG.of hM hOr h13;have hnam:=hOr.name;have hfas:=hOr.qEW;have hatt:=hOr.attr;have hbk:=hOr.Z1;have hcl1:=hOr.call;have hret:=hOr.ret
 have hf16:o.1=16\/o.1=17->fs.length+1<=150:=λh=>by
  have:=TY hM ho h;omega
 have hne20:o.1=20->fs≠[]:=λh e=>by
  subst e;have h1:=hM.b0 f qB;have h2:=hret h;have h3:=(hP.sh.qAx hk).2 h1;simp [qg,hk,h3] at h2
 have hch:5<=o.1->o.1<=7->∃ c,f.cells[o.2.toNat]?=some c/\c<m.cells.length:=λh1 h2=>by
  have h3:=(hsO ⟨qA,qA⟩).cell h1 h2;exact⟨_,h3,hM.top.cr _ (gM h3)⟩
 have htick:=H9 gl;obtain⟨c,a⟩:=o;obtain⟨x,rfl⟩:∃ x:Nat,a=x:=⟨a.toNat,eG⟩;simp only at hcode harg hsO hnam hfas hatt hbk hcl1 hret hf16 hne20 hch;simp only [zu] at hok;refine Zj.Zl func146 [.tmp 6] ntmps146 (λ_=>qN) λC w g root hroot=>?_;refine qC ?_<|Zk;refine uu (λs=>s.tm 0=.pt Yn 0/\s.tm 1=.pt Yn (yo fs.length)/\s.tm 5=.pt (.s 5) 0/\s.hp (.s 5)=some (.row 2 [[iv c,iv x]])/\s.tm 9=iv c/\s.tm 10=bv (c==0)/\s.hp (.u 9 0 0)=none/\ZY s.hp p (m.top fs f.next)) ⟨qB,qB,qB,qB,qB,qB,b5,gB⟩ ?_;clear hO;rintro s ⟨t0,t1,t5,p5,t9,t10,h9,hO⟩;obtain⟨R,j,hT,tr,h2,h3,h28⟩:=hO.qAO rfl qA;have hRl:=tr.len;have hnb:f.next.Z1=f.Z1:=rfl;have hnp:f.next.pc=f.pc+1:=rfl;have hnc:f.next.cells=f.cells:=rfl;have hnf:f.next.Z3=f.Z3:=rfl;have hns:f.next.stack=f.stack:=rfl;have yoh:yo fs.length+29<=4415:=vq;by_cases c0:c=0
 .subst c0;have hord:kM p m fs f.next (0,(x:Int))=bE p m fs f.next:=by simp [kM]
  rw [hord];refine qv ?_<|uD t0 t1 t5 p5 t9<|t10;intro K hK;have fx:=aI t0 t1;refine qe h0 (have h:=hO;ZY.re h) (qf _) (hF:=λhO=>H9 gl _ p m fs f.next (0,(x:Int)) (by rw [hnp];exact ho) rfl hp qA hm0 hfl qA qA qA (by rw [hnp];exact hol2) (by rw [hnb];omega) hO) (h:=?_);rintro y H1 ⟨rfl,hO1⟩;clear fx;refine qv ?_<|Zk;refine qD [] .nil qE ⟨qB,ZY.fin (have h:=hO1;ZY.re h)⟩
 have cb0:(c==0)=false:=by simpa using c0
 by_cases c13:2<=c/\c<=13
 .have hst1:c=3\/c=6\/c=9\/c=12->1<=f.next.stack.length:=λh=>by rcases h with rfl|rfl|rfl|rfl <;> simp at hok <;> exact hok.1
  have f2:=tr.f2;obtain⟨f2l,f2E⟩:=gS f2;have f0:=tr.f0;obtain⟨f0l,f0E⟩:=gS f0;have f3:=tr.f3;obtain⟨f3l,f3E⟩:=gS f3;have r0:=tr.r0;obtain⟨_,r0E⟩:=gS r0;have hcd:(qw p p.length)[f.Z1]?=some (zC p f.Z1):=tu;obtain⟨hcdl,hcdE⟩:=gS hcd;have hcc:(zC p f.Z1).cells=qF p f.Z1:=em;rw [hnb] at f0 f0E;rw [hnc] at f3 f3E h3;rw [hnf] at f2 f2E h2;by_cases c4:c<=4
  .have hxf:x<f.Z3.length:=by have:=hfas c13.1 c4;rw [hM.top.fl];omega
   have hc:c=2\/c=3\/c=4:=qA;rcases hc with rfl|rfl|rfl
   .rw [BI qO qO rfl];refine qv ?_<|qU t0 t1 t5 p5 t9 t10 hT hRl f2 f2E f2l yoh<|aI hxf<|h2;intro K hK;have fx:=aI t0 (aI t1 (aI t5 p5));refine qe h0 (have h:=hO;ZY.re h) (qf _) (hF:=λhO=>nG gl _ p m fs f.next (2,(x:Int)) x 0 2 qB rfl hxf hm0 qO qO hfl (λh=>uA) hnsl b5 hO) (h:=?_);rintro y H1 ⟨rfl,hO1⟩;clear fx;refine qv ?_<|yE t0 t1 t5<|hT;refine qD [] .nil qE ⟨qB,ZY.fin (have h:=hO1;ZY.re h)⟩
   .rw [BI qO qO rfl];refine qv ?_<|qU t0 t1 t5 p5 t9 t10 hT hRl f2 f2E f2l yoh<|aI hxf<|h2;intro K hK;have fx:=aI t0 (aI t1 (aI t5 p5));refine qe h0 (have h:=hO;ZY.re h) (qf _) (hF:=λhO=>nG gl _ p m fs f.next (3,(x:Int)) x 1 2 qB rfl hxf hm0 qO qO hfl (λ_=>hst1 qB) hnsl b5 hO) (h:=?_);rintro y H1 ⟨rfl,hO1⟩;clear fx;refine qv ?_<|yE t0 t1 t5<|hT;refine qD [] .nil qE ⟨qB,ZY.fin (have h:=hO1;ZY.re h)⟩
   .rw [BI qO qO rfl];refine qv ?_<|qU t0 t1 t5 p5 t9 t10 hT hRl f2 f2E f2l yoh<|aI hxf<|h2;intro K hK;have fx:=aI t0 (aI t1 (aI t5 p5));refine qe h0 (have h:=hO;ZY.re h) (qf _) (hF:=λhO=>nG gl _ p m fs f.next (4,(x:Int)) x 2 2 qB rfl hxf hm0 qO qO hfl (λh=>uA) hnsl b5 hO) (h:=?_);rintro y H1 ⟨rfl,hO1⟩;clear fx;refine qv ?_<|yE t0 t1 t5<|hT;refine qD [] .nil qE ⟨qB,ZY.fin (have h:=hO1;ZY.re h)⟩
  by_cases c7:c<=7
  .obtain⟨cc,hcc1,hcc2⟩:=hch qA c7;simp only [b6] at hcc1;have hgd:f.next.cells.getD ((x:Int)).toNat 0=cc:=by rw [hnc,xC,b6,hcc1];rfl
   obtain⟨hxl,_⟩:=gS hcc1;have her:(zQ f.cells)[x]?=some [.pt (.u 7 cc 0) 0]:=by rw [EJ];simp [hcc1,ptE]
   obtain⟨herl,herE⟩:=gS her;have hc:c=5\/c=6\/c=7:=qA;by_cases hxc:(x:Int)<((qF p f.Z1).length:Int)
   .have hcond:∀ (c:Int) (w:Nat),5<=c->c<=7->((c - 2) % 3).toNat=w->kM p m fs f.next (c,(x:Int))=yf m fs f.next (c,(x:Int)) w 2:=λc w h1 h2 hw=>by rw [IM h1 h2 hw,hnb,if_pos hxc]
    rcases hc with rfl|rfl|rfl
    .rw [hcond _ _ qO qO rfl];refine qv ?_<|qU t0 t1 t5 p5 t9 t10 hT hRl r0 r0E f0 f0E<|qU f0l hcd hcdl hcdE hcc hxc f3 f3E f3l yoh h3 hxl<|jI her herE<|herl;intro K hK;have fx:=aI t0 (aI t1 (aI t5 p5));refine qe h0 (have h:=hO;ZY.re h) (qf _) (hF:=λhO=>ap gl _ p m fs f.next (5,(x:Int)) cc 0 2 qB qB hgd hcc2 hm0 qO qO hfl (λh=>uA) hnsl hO) (h:=?_);rintro y H1 ⟨rfl,hO1⟩;clear fx;refine qv ?_<|yE t0 t1 t5<|hT;refine qD [] .nil qE ⟨qB,ZY.fin (have h:=hO1;ZY.re h)⟩
    .rw [hcond _ _ qO qO rfl];refine qv ?_<|qU t0 t1 t5 p5 t9 t10 hT hRl r0 r0E f0 f0E<|qU f0l hcd hcdl hcdE hcc hxc f3 f3E f3l yoh h3 hxl<|jI her herE<|herl;intro K hK;have fx:=aI t0 (aI t1 (aI t5 p5));refine qe h0 (have h:=hO;ZY.re h) (qf _) (hF:=λhO=>ap gl _ p m fs f.next (6,(x:Int)) cc 1 2 qB qB hgd hcc2 hm0 qO qO hfl (λ_=>hst1 qB) hnsl hO) (h:=?_);rintro y H1 ⟨rfl,hO1⟩;clear fx;refine qv ?_<|yE t0 t1 t5<|hT;refine qD [] .nil qE ⟨qB,ZY.fin (have h:=hO1;ZY.re h)⟩
    .rw [hcond _ _ qO qO rfl];refine qv ?_<|qU t0 t1 t5 p5 t9 t10 hT hRl r0 r0E f0 f0E<|qU f0l hcd hcdl hcdE hcc hxc f3 f3E f3l yoh h3 hxl<|jI her herE<|herl;intro K hK;have fx:=aI t0 (aI t1 (aI t5 p5));refine qe h0 (have h:=hO;ZY.re h) (qf _) (hF:=λhO=>ap gl _ p m fs f.next (7,(x:Int)) cc 2 2 qB qB hgd hcc2 hm0 qO qO hfl (λh=>uA) hnsl hO) (h:=?_);rintro y H1 ⟨rfl,hO1⟩;clear fx;refine qv ?_<|yE t0 t1 t5<|hT;refine qD [] .nil qE ⟨qB,ZY.fin (have h:=hO1;ZY.re h)⟩
   .have hcond:∀ (c:Int) (w:Nat),5<=c->c<=7->((c - 2) % 3).toNat=w->kM p m fs f.next (c,(x:Int))=yf m fs f.next (c,(x:Int)) w 3:=λc w h1 h2 hw=>by rw [IM h1 h2 hw,hnb,if_neg hxc]
    rcases hc with rfl|rfl|rfl
    .rw [hcond _ _ qO qO rfl];refine qv ?_<|qU t0 t1 t5 p5 t9 t10 hT hRl r0 r0E f0 f0E<|qU f0l hcd hcdl hcdE hcc hxc f3 f3E f3l yoh h3 hxl<|jI her herE<|herl;intro K hK;have fx:=aI t0 (aI t1 (aI t5 p5));refine qe h0 (have h:=hO;ZY.re h) (qf _) (hF:=λhO=>ap gl _ p m fs f.next (5,(x:Int)) cc 0 3 qB qB hgd hcc2 hm0 qO qO hfl (λh=>uA) hnsl hO) (h:=?_);rintro y H1 ⟨rfl,hO1⟩;clear fx;refine qv ?_<|yE t0 t1 t5<|hT;refine qD [] .nil qE ⟨qB,ZY.fin (have h:=hO1;ZY.re h)⟩
    .rw [hcond _ _ qO qO rfl];refine qv ?_<|qU t0 t1 t5 p5 t9 t10 hT hRl r0 r0E f0 f0E<|qU f0l hcd hcdl hcdE hcc hxc f3 f3E f3l yoh h3 hxl<|jI her herE<|herl;intro K hK;have fx:=aI t0 (aI t1 (aI t5 p5));refine qe h0 (have h:=hO;ZY.re h) (qf _) (hF:=λhO=>ap gl _ p m fs f.next (6,(x:Int)) cc 1 3 qB qB hgd hcc2 hm0 qO qO hfl (λ_=>hst1 qB) hnsl hO) (h:=?_);rintro y H1 ⟨rfl,hO1⟩;clear fx;refine qv ?_<|yE t0 t1 t5<|hT;refine qD [] .nil qE ⟨qB,ZY.fin (have h:=hO1;ZY.re h)⟩
    .rw [hcond _ _ qO qO rfl];refine qv ?_<|qU t0 t1 t5 p5 t9 t10 hT hRl r0 r0E f0 f0E<|qU f0l hcd hcdl hcdE hcc hxc f3 f3E f3l yoh h3 hxl<|jI her herE<|herl;intro K hK;have fx:=aI t0 (aI t1 (aI t5 p5));refine qe h0 (have h:=hO;ZY.re h) (qf _) (hF:=λhO=>ap gl _ p m fs f.next (7,(x:Int)) cc 2 3 qB qB hgd hcc2 hm0 qO qO hfl (λh=>uA) hnsl hO) (h:=?_);rintro y H1 ⟨rfl,hO1⟩;clear fx;refine qv ?_<|yE t0 t1 t5<|hT;refine qD [] .nil qE ⟨qB,ZY.fin (have h:=hO1;ZY.re h)⟩
  have hx7:x<8:=by have:=hnam qA c13.2;omega
  have hxl:(x:Int)<8:=qA;have hx7':x<=7:=qA;have hc:c=8\/c=11\/c=9\/c=10\/c=12\/c=13:=qA;have hWg:∀ c:Int,8<=c->c<=10->WrY p m fs f.next (c,(x:Int)) (6+x * 3):=λc h1 h2=>by rw [Eh];exact WrY.Zg hg8 h1 h2 hx7
  have hWn:∀ c:Int,11<=c->WrY p m fs f.next (c,(x:Int)) (yo fs.length+4+x * 3):=λc h1=>by rw [Eh];exact WrY.name hn8 qA h1 hx7
  rcases hc with rfl|rfl|rfl|rfl|rfl|rfl
  .rw [IL qB];refine qv ?_<|u4 t0 t1 t5 p5 t9 t10<|hxl;intro K hK;have fx:=aI t0 (aI t1 (aI t5 p5));refine qe h0 (have h:=hO;ZY.re h) (qf _) (hF:=λhO=>Ha gl _ p m fs f.next 8 x qB hx7 hg8 hn8 hm0 hfl hnsl hO) (h:=?_);rintro y H1 ⟨rfl,hO1⟩;clear fx;refine qv ?_<|yE t0 t1 t5<|hT;refine qD [] .nil qE ⟨qB,ZY.fin (have h:=hO1;ZY.re h)⟩
  .rw [IL qB];refine qv ?_<|u4 t0 t1 t5 p5 t9 t10<|hxl;intro K hK;have fx:=aI t0 (aI t1 (aI t5 p5));refine qe h0 (have h:=hO;ZY.re h) (qf _) (hF:=λhO=>Ha gl _ p m fs f.next 11 x qB hx7 hg8 hn8 hm0 hfl hnsl hO) (h:=?_);rintro y H1 ⟨rfl,hO1⟩;clear fx;refine qv ?_<|yE t0 t1 t5<|hT;refine qD [] .nil qE ⟨qB,ZY.fin (have h:=hO1;ZY.re h)⟩
  .rw [BJ qO qO qO rfl];refine qv ?_<|bA t0 t1 t5 p5 t9 t10 hxl hx7'<|yoh;intro K hK;have fx:=aI t0 (aI t1 (aI t5 p5));refine qe h0 (have h:=hO;ZY.re h) (qf _) (hF:=λhO=>gm gl _ p m fs f.next (9,(x:Int)) _ 1 4 (hWg _ qO qO) hm0 qO qO hfl (λ_=>hst1 qB) hnsl hO) (h:=?_);rintro y H1 ⟨rfl,hO1⟩;clear fx;refine qv ?_<|yE t0 t1 t5<|hT;refine qD [] .nil qE ⟨qB,ZY.fin (have h:=hO1;ZY.re h)⟩
  .rw [BJ qO qO qO rfl];refine qv ?_<|bA t0 t1 t5 p5 t9 t10 hxl hx7'<|yoh;intro K hK;have fx:=aI t0 (aI t1 (aI t5 p5));refine qe h0 (have h:=hO;ZY.re h) (qf _) (hF:=λhO=>gm gl _ p m fs f.next (10,(x:Int)) _ 2 4 (hWg _ qO qO) hm0 qO qO hfl (λh=>uA) hnsl hO) (h:=?_);rintro y H1 ⟨rfl,hO1⟩;clear fx;refine qv ?_<|yE t0 t1 t5<|hT;refine qD [] .nil qE ⟨qB,ZY.fin (have h:=hO1;ZY.re h)⟩
  .rw [BJ qO qO qO rfl];refine qv ?_<|bA t0 t1 t5 p5 t9 t10 hxl hx7'<|yoh;intro K hK;have fx:=aI t0 (aI t1 (aI t5 p5));refine qe h0 (have h:=hO;ZY.re h) (qf _) (hF:=λhO=>gm gl _ p m fs f.next (12,(x:Int)) _ 1 4 (hWn _ qO) hm0 qO qO hfl (λ_=>hst1 qB) hnsl hO) (h:=?_);rintro y H1 ⟨rfl,hO1⟩;clear fx;refine qv ?_<|yE t0 t1 t5<|hT;refine qD [] .nil qE ⟨qB,ZY.fin (have h:=hO1;ZY.re h)⟩
  .rw [BJ qO qO qO rfl];refine qv ?_<|bA t0 t1 t5 p5 t9 t10 hxl hx7'<|yoh;intro K hK;have fx:=aI t0 (aI t1 (aI t5 p5));refine qe h0 (have h:=hO;ZY.re h) (qf _) (hF:=λhO=>gm gl _ p m fs f.next (13,(x:Int)) _ 2 4 (hWn _ qO) hm0 qO qO hfl (λh=>uA) hnsl hO) (h:=?_);rintro y H1 ⟨rfl,hO1⟩;clear fx;refine qv ?_<|yE t0 t1 t5<|hT;refine qD [] .nil qE ⟨qB,ZY.fin (have h:=hO1;ZY.re h)⟩
 rw [QM c0 c13];have hcs:c=1\/c=14\/c=15\/c=16\/c=17\/c=18\/c=19\/c=20:=qA;have cb:∀ k:Int,2<=k->k<=13->(c==k)=false:=λk h1 h2=>vP
 have hval:∀ H:Nm->Option AO,ZY H p (m.top fs f.next)->H (.u 9 0 0)=none->Zj prog gl 185 DM [.pt Yn 0,.pt Yn (yo fs.length),.agg [iv c,iv x]] H (λ_ y H'=>y=bv (decide ((ya p m fs f.next (c,(x:Int))).en=0))/\ZY H' p (ya p m fs f.next (c,(x:Int)))) noE:=by
  intro H hO h9
  have h17:c=17->(x:Int)<=1/\((x:Int)).toNat+1<=f.next.stack.length/\fs.length+1<=150:=λh=>by
   refine⟨hcl1 h,?_,hf16 (.inr h)⟩;subst h;simp at hok;exact hok.1
  have h14:c=14->2<=f.next.stack.length:=by rintro rfl;simp at hok;exact hok.1
  have h18:c=18->(x:Int)<=7/\1<=f.next.stack.length:=by rintro rfl;simp at hok;exact⟨hatt rfl,hok.1⟩
  have h19:c=19\/c=20->1<=f.next.stack.length:=OJ;rcases hcs with h|h|h|h|h|h|h|h
  .exact pf gl H p m fs f.next (c,(x:Int)) harg (.inl h) f.pc hP hM h17 h18 hnsl hfl hm0 hO
  .exact Kr gl H p m fs f.next (c,(x:Int)) harg h f.pc hP hM (h14 h) hnsl hfl hm0 hO
  .exact Cc gl H p m fs f.next (c,(x:Int)) harg (.inl h) f.pc hP hM (hbk (.inl h)) (λh'=>hf16 (.inl h')) hnsl hfl hm0 h9 hO
  .exact Cc gl H p m fs f.next (c,(x:Int)) harg (.inr h) f.pc hP hM (hbk (.inr h)) (λh'=>hf16 (.inl h')) hnsl hfl hm0 h9 hO
  .exact pf gl H p m fs f.next (c,(x:Int)) harg (.inr (.inl h)) f.pc hP hM h17 h18 hnsl hfl hm0 hO
  .exact pf gl H p m fs f.next (c,(x:Int)) harg (.inr (.inr h)) f.pc hP hM h17 h18 hnsl hfl hm0 hO
  .exact Cb gl H p m fs f.next (c,(x:Int)) harg (.inl h) f.pc hP hM (h19 (.inl h)) hret hgsl hne20 hnsl hfl hm0 h9 hO
  .exact Cb gl H p m fs f.next (c,(x:Int)) harg (.inr h) f.pc hP hM (h19 (.inr h)) hret hgsl hne20 hnsl hfl hm0 h9 hO
 have e2:=cb 2 qO qO;have e3:=cb 3 qO qO;have e4:=cb 4 qO qO;have e5:=cb 5 qO qO;have e6:=cb 6 qO qO;have e7:=cb 7 qO qO;have e8:=cb 8 qO qO;have e9:=cb 9 qO qO;have e10:=cb 10 qO qO;have e11:=cb 11 qO qO;have e12:=cb 12 qO qO;have e13:=cb 13 qO qO;have fx:=qU t0 t1 t5 p5 t9 t10 cb0 e2 e3 e4 e5 e6<|u4 e7 e8 e9 e10 e11 e12<|e13;refine qG ?_
 repeat ((first|refine Ze (id:=10) VN mixed ?_|refine Ze (id:=13) VM mixed ?_|refine Ze (id:=19) VL mixed ?_);refine qZ ?_;refine qG ?_)
 clear fx;intro K hK;have fx:=aI t0 (aI t1 (aI t5 p5));refine qe h0 (have h:=hO;ZY.re h) (qf _) (hF:=λhO=>hval _ hO b5) (h:=?_);rintro y H1 ⟨rfl,hO1⟩;clear fx;have fx:=Zk;refine qG ?_
 repeat ((first|refine Ze (id:=10) VN mixed ?_|refine Ze (id:=13) VM mixed ?_|refine Ze (id:=19) VL mixed ?_);refine qZ ?_;refine qG ?_)
 clear fx;refine qD [] .nil qE ⟨qB,ZY.fin (have h:=hO1;ZY.re h)⟩
end Go.Proofs.YtdnebaieamppbaaGreatDoor
end
