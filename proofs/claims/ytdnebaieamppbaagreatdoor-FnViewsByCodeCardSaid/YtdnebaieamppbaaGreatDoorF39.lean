import Derived.Test.YtdnebaieamppbaaGreatDoorF37
import Derived.Test.YtdnebaieamppbaaGreatDoorF38
set_option linter.unusedSimpArgs false
set_option linter.unusedVariables false
set_option maxRecDepth 100000
set_option maxHeartbeats 4000000

section
namespace Go.Proofs.YtdnebaieamppbaaGreatDoor
open Go Go.Hm Go.Proofs Tryz
theorem l6 (gl) (H:Nm->Option AO) (p:YU) (m:Y2) (fs:List YZ) (f:YZ) (o:Int×Int) (q wy:Nat) (e:Int) (h4:o.1<=4) (hq:o.2.toNat=q) (hql:q<f.YV.length) (hm0:m.en=0) (he:e≠0) (hwy:wy<=2) (hfl:fs.length<=150) (hst:wy=1->1<=f.stack.length) (hsl:f.stack.length<=1000) (h9:H (.u 9 0 0)=none) (hO:YQ H p (m.top fs f)) :
  Yc prog gl 183 DM [.pt Yn 0,.pt Yn (yo fs.length),.ep (.c Yn 0 (yo fs.length+2)) 3 q 0,iv wy,iv e] H (λ_ y H'=>y=bv (decide ((jw m fs f o wy e).en=0))/\YQ H' p (jw m fs f o wy e)) Yz:=by
 obtain⟨R,j,hT,tr,h2,h3,h28⟩:=hO.ZH rfl qA;have hRl:=tr.len;have f28:=tr.f28;have f2:=tr.f2
 have yF:∀ g s,g.YV=f.YV->Yy m fs g o s=m.top fs { g with YV:=f.YV.set q s }:=λg s hg=>by
  simp only [Yy,if_pos h4,hg,hq]
 have yoh:yo fs.length+29<=4415:=yX;obtain⟨s,hs1⟩:=gX hql;obtain⟨_,hs1E⟩:=gS hs1;have hs:gq m f o=s:=by simp [gq,h4,hq,ju,hs1]
 have hrow:∀ (g:YZ) s J,g.YS=g.YS->(∀ i:Nat,(J i:List AV).length=29)->zJ p (m.top fs g) (fs.length+1) (yc (fs++[g]) J)=zJ p (m.top fs { g with YV:=g.YV.set q s }) (fs.length+1) (yc (fs++[{ g with YV:=g.YV.set q s }]) J):=by
  intro g s J _ hJ;have:=Ga (p:=p) (m:=m.top fs g) (h:=fs.length+1) (J:=J) (fs:=fs++[g]) (i:=fs.length) (f:=g) (g:={ g with YV:=g.YV.set q s }) (j:=0) (vals:=[]) hJ qB qA qB (by simp [Yo,Zy]);have e:Yo (zJ p (m.top fs g) (fs.length+1) (yc (fs++[g]) J)) (32+(29 * fs.length+0)) []=zJ p (m.top fs g) (fs.length+1) (yc (fs++[g]) J):=rG;rw [e] at this;refine this.trans ?_;simp [zJ,yA,yB,yZ,Y2.top]
 refine Yc.Yb func183 [.tmp 10] ntmps183 (λ_=>qJ) λC w g root hroot=>?_;by_cases w1:wy=1
 .subst w1;have hres:jw m fs f o 1 e=Yy m fs f.pop o (some f.Yw):=rfl;rw [hres,yF f.pop _ rfl];obtain⟨k,hk⟩:∃ k,f.stack.length=k+1:=⟨f.stack.length - 1,by have:=hst rfl;omega⟩;refine qD ?_<| h2;intro K hK;have hO0:YQ (st0 [.pt Yn 0,.pt Yn (yo fs.length),.ep (.c Yn 0 (yo fs.length+2)) 3 q 0,iv 1,iv e] H 37 gl).hp p (m.top fs f):=(have h:=hO;YQ.re h);obtain⟨R0,R',vs,k1,k2,k3,k4,k5,k6⟩:=YQ.qAQ (j:=yo fs.length+2) hO0 rfl qA hk qA;have fx:=h2;refine Gd DM (.c Yn 0 (yo fs.length+2)) (.u 9 0 0) Yn (.row 4415 [Yo R0 (yo fs.length+28) [.hs (.c Yn 0 (yo fs.length+28)) 2 0 k]]) (Y6.av f.Yw) (hV:=rfl) (hN:=rfl) (hVe:=rW) (λ_=>qJ) qB (λ_=>TD) (λ_=>Xk) qj (λk i j he=>?_) rfl qB qB (hF:=NQ) (h:=?_)
  .rcases hO.ext hO0 (qp _) k i j he with h|h
   .exact .inl h
   .refine .inr λh'=>h ?_;simp only [yb]
    split
    .exact h'
    .rfl
  intro hp' hS;clear fx;have hO1:=(YQ.Z9 (m:=m.top fs f) hO0 rfl qA k1 hk).same hS;obtain⟨R1,j1,hT1,tr1,h21,h31,h281⟩:=YQ.ZH (f:=f.pop) hO1 rfl qA;have h21':hp' (.c Yn 0 (yo fs.length+2))=some (.row 3 (qU f.YV)):=h21;generalize hv:f.Yw=v at *;obtain⟨v1,v2⟩:=v;refine qD ?_<|jD h2 h21'<|hql;refine qE [] .nil qF ⟨Am,YQ.fin ?_⟩;have h:=hO1;exact YQ.reT h rfl (m':=m.top fs { f.pop with YV:=f.YV.set q (some (v1,v2)) }) rfl rfl (mw (R':=R1) hT1 iE (λJ hJ e=>e.trans (hrow f.pop _ J rfl hJ))) (h6t:=qB) (h7t:=by simp [h31]) (h8t:=⟨j1,mU⟩)
 .have w1':((wy:Int)==1)=false:=yY
  cases s with
  | none =>
   have hres:jw m fs f o wy e=m.stop fs f e:=GO;rw [hres];refine qD ?_<|yl w1' h2 hs1 hs1E<|hql;intro K hK;have fx:=Ya;refine q7 hO (have h:=hO;YQ.re h) (qp _) (hF:=λ_=>uT gl DM (λ_=>qJ) _ R e zB hRl) (h:=?_);intro y H1 hw;clear fx;have hO1:=YQ.Yi (YQ.Z1 (m:=m.top fs f) (e:=e) (have h:=hO;YQ.re h) rfl zB) hw;obtain⟨rfl,-⟩:=hw;refine qD ?_<|Ya;refine qE [] .nil qF ⟨by simp [Y2.stop,he],YQ.fin (have h:=hO1;YQ.re h)⟩
  | some v =>
   obtain⟨v1,v2⟩:=v;by_cases w0:wy=0
   .subst w0;have hres:jw m fs f o 0 e=m.top fs (f.push (v1,v2)):=Ff;rw [hres];refine qD ?_<|yl w1' h2 hs1 hs1E<|hql;intro K hK;have fx:=aI h2 (aI hs1 hs1E);refine q7 hO (have h:=hO;YQ.re h) (qp _) (hF:=λ_=>vK gl DM (λ_=>qJ) _ R (yo fs.length) f.stack j (v1,v2) rfl rfl zB f28 vO hsl yoh) (h:=?_);intro y H1 hw;clear fx;have hO1:=YQ.Z8 (m:=m.top fs f) cD rfl qA rfl zB hw;refine qD ?_<|Ya;refine qE [] .nil qF ⟨dM,YQ.fin (have h:=hO1;YQ.re h)⟩
   .have hres:jw m fs f o wy e=Yy m fs f o none:=F9;rw [hres,yF f _ rfl];have w0':((wy:Int)==0)=false:=yY;refine qD ?_<|kH w1' w0' h2 hs1 hs1E<|hql;refine qE [] .nil qF ⟨Am,YQ.fin ?_⟩;have h:=hO;exact YQ.reT h rfl (m':=m.top fs { f with YV:=f.YV.set q none }) rfl rfl (mw (R':=R) hT zB (λJ hJ e=>e.trans (hrow f _ J rfl hJ))) (h6t:=qB) (h7t:=zN) (h8t:=⟨j,vO⟩)
abbrev WT:Y8:=oa<|.done
abbrev UQ:Y8:=aB<|.l 9 [4,2,1]<|.done
abbrev WS:Y8:=kr<|.done
theorem yC {A G G2:Prop} (k:G2) (x:A) (h:A->Yr G2->G:=by
 intro fx kk;refine qI ?_
 repeat ((first|refine Y7 (id:=1) WT mixed ?_|refine Y7 (id:=2) UQ mixed ?_|refine Y7 (id:=4) WS mixed ?_|refine Y7 (id:=5) UQ mixed ?_);refine qW ?_;refine qI ?_)
 exact kk.h):G:=h x ⟨k⟩
theorem G9 (gl) (H:Nm->Option AO) (p:YU) (m:Y2) (fs:List YZ) (f:YZ) (c x:Nat) (hc:c=8\/c=11) (hx:x<8) (hg8:m.globals.length=8) (hn8:f.names.length=8) (hm0:m.en=0) (hfl:fs.length<=150) (hsl:f.stack.length<=1000) (hO:YQ H p (m.top fs f)) :
  Yc prog gl 184 DM [.pt Yn 0,.pt Yn (yo fs.length),.agg [iv c,iv x]] H (λ_ y H'=>y=bv (decide ((vw p m fs f (c,(x:Int))).en=0))/\YQ H' p (vw p m fs f (c,(x:Int)))) Yz:=by
 refine Yc.Yb func184 [.tmp 6] ntmps184 (λ_=>qJ) λC w g root hroot=>?_;refine qD ?_<|Ya;refine uk (λs=>s.tm 0=.pt Yn 0/\s.tm 1=.pt Yn (yo fs.length)/\s.tm 5=.pt (.s 5) 0/\s.hp (.s 5)=some (.row 2 [[iv c,iv x]])/\YQ s.hp p (m.top fs f)) ⟨qB,qB,qB,qB,hO.Yq (f:=kl (.s 5)) (λk hk=>by simp [kl,(Zq (λ_=>qJ) hk 5).2]) (λk hk=>by have:=Zq (λ_=>qJ) hk 5;simp [this.1,this.2])⟩ ?_;have h0:=hO;clear hO;rintro s ⟨t0,t1,t5,p5,hO⟩;obtain⟨R,j,hT,tr,h2,h3,h28⟩:=hO.ZH rfl qA;have hRl:=tr.len;have f28:=tr.f28;have yoh:yo fs.length+29<=4415:=yX;have hwy:dW p f (c,(x:Int))=4:=by rcases hc with rfl|rfl <;> simp [dW]
 have g0:=tr.gl x 0 hx qA;have g1:=tr.gl x 1 hx qA;have g2:=tr.gl x 2 hx qA;have n0:=tr.nm x 0 hx qA;have n1:=tr.nm x 1 hx qA;have n2:=tr.nm x 2 hx qA;simp only [Y2.top,so] at g0 g1 g2 n0;rw [B4] at g0 g1 g2 n0 n1 n2;rw [<- dU] at g1 g2 n1 n2;have hgN:∀ sn,ju f.names x=sn->gq m f (((11:Nat):Int),(x:Int))=sn:=λsn h=>by simp [gq,h]
 have hgG:∀ sg,ju m.globals x=sg->gq m f (((8:Nat):Int),(x:Int))=sg:=λsg h=>by simp [gq,h]
 have hrest:(c=8\/ju f.names x=none)->vw p m fs f (c,(x:Int))=match ju m.globals x with
   | some v=>m.top fs (f.push v)
   | none=>if (x:Int)=7 then m.top fs (f.push (1,70)) else m.stop fs f 4:=by
  intro h;rcases hc with rfl|rfl
  .cases hs:ju m.globals x with
   | some v=>simp only [vw,hgG _ hs]
   | none=>simp only [vw,hgG _ hs,hwy,if_true,a6,hs]
  .rcases h with h|h
   .cases h
   .simp only [vw,hgN _ h,hwy,if_true,a6]
    rfl
 obtain⟨sn,hsn⟩:∃ sn,ju f.names x=sn:=⟨_,rfl⟩;obtain⟨sg,hsg⟩:∃ sg,ju m.globals x=sg:=⟨_,rfl⟩;rw [hsg] at g0 g1 g2 hrest;rw [hsn] at n0 n1 n2;have hx7:x<=7:=qA;have hlg:6+x * 3+3<=4415:=qA;have hln:yo fs.length+4+x * 3+3<=4415:=qA;have hxl:(x:Int)<8:=qA;rcases hc with rfl|rfl
 .replace hrest:=hrest (.inl rfl)
  cases sg with
  | some v =>
   obtain⟨v1,v2⟩:=v;simp only at hrest;rw [hrest];simp only [jt,fm,BY] at g0 g1 g2;obtain⟨_,g0E⟩:=gS g0;have g12:=fB g1 g2;have hl2:6+x * 3+1+2<=4415:=qA;refine yC ?_<|jP t0 t1 t5 p5 hT hRl hlg hl2 g0 g0E<|aI g12<|hxl;intro K hK;have fx:=jP t0 t1 t5 p5 hT hRl hlg hl2 g0 g0E<|aI g12<|hxl;refine q7 h0 (have h:=hO;YQ.re h) (qp _) (hF:=λ_=>vK gl DM (λ_=>qJ) _ R (yo fs.length) f.stack j (v1,v2) rfl rfl zB f28 vO hsl yoh) (h:=?_);intro y H1 hw;clear fx;have hO1:=YQ.Z8 (m:=m.top fs f) cD rfl qA rfl zB hw;obtain⟨R1,j1,hT1,tr1,-,-,-⟩:=YQ.ZH (f:=f.push (v1,v2)) hO1 rfl qA;have hR1l:=tr1.len;have k12:=tr1.glv hx hsg;refine yC ?_<|gJ t0 t1 t5 p5 hT hT1 hR1l hl2 k12<|hxl;refine qE [] .nil qF ⟨dM,YQ.fin (have h:=hO1;YQ.re h)⟩
  | none =>
   simp only at hrest;simp only [yR,fm] at g0;obtain⟨_,g0E⟩:=gS g0;by_cases x7:x=7
   .subst x7;rw [if_pos dD] at hrest;rw [hrest];refine yC ?_<|ko t0 t1 t5 p5 hT hRl g0<|g0E;intro K hK;have fx:=ko t0 t1 t5 p5 hT hRl g0<|g0E;refine q7 h0 (have h:=hO;YQ.re h) (qp _) (hF:=λ_=>vK gl DM (λ_=>qJ) _ R (yo fs.length) f.stack j (1,70) rfl rfl zB f28 vO hsl yoh) (h:=?_);intro y H1 hw;clear fx;have hO1:=YQ.Z8 (m:=m.top fs f) cD rfl qA rfl zB hw;refine yC ?_<|Ya;refine qE [] .nil qF ⟨dM,YQ.fin (have h:=hO1;YQ.re h)⟩
   .rw [if_neg qA] at hrest;rw [hrest];have x7':((x:Int)==7)=false:=yY;refine yC ?_<|jP t0 t1 t5 p5 hT hRl hlg g0 g0E x7'<|hxl;intro K hK;have fx:=aI t0 t1;refine q7 h0 (have h:=hO;YQ.re h) (qp _) (hF:=λ_=>uT gl DM (λ_=>qJ) _ R 4 zB hRl) (h:=?_);intro y H1 hw;clear fx;have hO1:=YQ.Yi (YQ.Z1 (m:=m.top fs f) (e:=4) (have h:=hO;YQ.re h) rfl zB) hw;obtain⟨rfl,-⟩:=hw;refine yC ?_<|Ya;refine qE [] .nil qF ⟨mc,YQ.fin (have h:=hO1;YQ.re h)⟩
 .cases sn with
  | some v =>
   obtain⟨v1,v2⟩:=v;have hres:vw p m fs f (((11:Nat):Int),(x:Int))=m.top fs (f.push (v1,v2)):=by simp only [vw,hgN _ hsn]
   rw [hres];simp only [jt,fm,BY] at n0 n1 n2;obtain⟨_,n0E⟩:=gS n0;have n12:=fB n1 n2;have hl2:yo fs.length+4+x * 3+1+2<=4415:=qA;refine yC ?_<|jP t0 t1 t5 p5 hT hRl hln hl2 n0 n0E<|aI n12<|hxl;intro K hK;have fx:=jP t0 t1 t5 p5 hT hRl hln hl2 n0 n0E<|aI n12<|hxl;refine q7 h0 (have h:=hO;YQ.re h) (qp _) (hF:=λ_=>vK gl DM (λ_=>qJ) _ R (yo fs.length) f.stack j (v1,v2) rfl rfl zB f28 vO hsl yoh) (h:=?_);intro y H1 hw;clear fx;have hO1:=YQ.Z8 (m:=m.top fs f) cD rfl qA rfl zB hw;obtain⟨R1,j1,hT1,tr1,-,-,-⟩:=YQ.ZH (f:=f.push (v1,v2)) hO1 rfl qA;have hR1l:=tr1.len;have k12:=tr1.nmv hx hsn;refine yC ?_<|gJ t0 t1 t5 p5 hT hT1 hR1l hl2 k12<|hxl;refine qE [] .nil qF ⟨dM,YQ.fin (have h:=hO1;YQ.re h)⟩
  | none =>
   replace hrest:=hrest (.inr hsn);simp only [yR,fm] at n0;obtain⟨_,n0E⟩:=gS n0
   cases sg with
   | some v =>
    obtain⟨v1,v2⟩:=v;simp only at hrest;rw [hrest];simp only [jt,fm,BY] at g0 g1 g2;obtain⟨_,g0E⟩:=gS g0;have g12:=fB g1 g2;have hl2:6+x * 3+1+2<=4415:=qA;refine yC ?_<|qQ t0 t1 t5 p5 hln n0 n0E hT hRl hlg hl2 g0<|jD g0E g12<|hxl;intro K hK;have fx:=qQ t0 t1 t5 p5 hln n0 n0E hT hRl hlg hl2 g0<|jD g0E g12<|hxl;refine q7 h0 (have h:=hO;YQ.re h) (qp _) (hF:=λ_=>vK gl DM (λ_=>qJ) _ R (yo fs.length) f.stack j (v1,v2) rfl rfl zB f28 vO hsl yoh) (h:=?_);intro y H1 hw;clear fx;have hO1:=YQ.Z8 (m:=m.top fs f) cD rfl qA rfl zB hw;obtain⟨R1,j1,hT1,tr1,-,-,-⟩:=YQ.ZH (f:=f.push (v1,v2)) hO1 rfl qA;have hR1l:=tr1.len;have k12:=tr1.glv hx hsg;refine yC ?_<|gJ t0 t1 t5 p5 hT hT1 hR1l hl2 k12<|hxl;refine qE [] .nil qF ⟨dM,YQ.fin (have h:=hO1;YQ.re h)⟩
   | none =>
    simp only at hrest;simp only [yR,fm] at g0;obtain⟨_,g0E⟩:=gS g0;by_cases x7:x=7
    .subst x7;rw [if_pos dD] at hrest;rw [hrest];refine yC ?_<|jP t0 t1 t5 p5 hln n0 n0E hT hRl g0<|g0E;intro K hK;have fx:=jP t0 t1 t5 p5 hln n0 n0E hT hRl g0<|g0E;refine q7 h0 (have h:=hO;YQ.re h) (qp _) (hF:=λ_=>vK gl DM (λ_=>qJ) _ R (yo fs.length) f.stack j (1,70) rfl rfl zB f28 vO hsl yoh) (h:=?_);intro y H1 hw;clear fx;have hO1:=YQ.Z8 (m:=m.top fs f) cD rfl qA rfl zB hw;refine yC ?_<|Ya;refine qE [] .nil qF ⟨dM,YQ.fin (have h:=hO1;YQ.re h)⟩
    .rw [if_neg qA] at hrest;rw [hrest];have x7':((x:Int)==7)=false:=yY;refine yC ?_<|qQ t0 t1 t5 p5 hln n0 n0E hT hRl hlg g0 g0E<|aI x7'<|hxl;intro K hK;have fx:=aI t0 t1;refine q7 h0 (have h:=hO;YQ.re h) (qp _) (hF:=λ_=>uT gl DM (λ_=>qJ) _ R 4 zB hRl) (h:=?_);intro y H1 hw;clear fx;have hO1:=YQ.Yi (YQ.Z1 (m:=m.top fs f) (e:=4) (have h:=hO;YQ.re h) rfl zB) hw;obtain⟨rfl,-⟩:=hw;refine yC ?_<|Ya;refine qE [] .nil qF ⟨mc,YQ.fin (have h:=hO1;YQ.re h)⟩
abbrev Vv:Y8:=vH<|.l 12 [2]<|.l 13 []<|.done
abbrev Vu:Y8:=E7<|.done
abbrev Vt:Y8:=bK<|.l 14 [3,2]<|.l 15 []<|.done
abbrev UM:Y8:=yq<|.l 11 []<|.l 12 []<|.done
abbrev UL:Y8:=yq<|.l 11 [6,5,4,3,2,1,0]<|.q 12<|.l 13 [4,3,2,1,0]<|.l 14 [0]<|.q 15<|.q 16<|.l 17 []<|.done
abbrev UK:Y8:=ai<|.l 7 [2,1,0]<|.l 8 []<|.done
abbrev UJ:Y8:=kP<|.l 6 [4,3,2,1,0]<|.l 7 [4,3,2,1,0]<|.l 8 [4,3,2,1,0]<|.l 9 [0]<|.q 10<|.q 11<|.l 12 []<|.done
theorem ql {A G G2:Prop} (k:G2) (x:A) (h:A->Yr G2->G:=by
 intro fx kk;refine qI ?_
 repeat ((first|refine Y7 (id:=7) Vv mixed ?_|refine Y7 (id:=12) Vu mixed ?_|refine Y7 (id:=14) Vt mixed ?_|refine Y7 (id:=20) UM mixed ?_|refine Y7 (id:=23) UM mixed ?_);refine qW ?_;refine qI ?_)
 exact kk.h):G:=h x ⟨k⟩
theorem Ny (gl) (H:Nm->Option AO) (p:YU) (m:Y2) (fs:List YZ) (f:YZ) (o:Int×Int) (hP:Yl p) (hM:MOk p m fs f) (ho:(yg p f.YS)[f.pc]?=some o) (hm0:m.en=0) (h9:H (.u 9 0 0)=none) (hO:YQ H p (m.top fs f.next)) :
  Yc prog gl 146 DM [.pt Yn 0,.pt Yn (yo fs.length),.agg [iv o.1,iv o.2]] H (λ_ y H'=>y=bv (decide ((uq p m fs f.next o).en=0))/\YQ H' p (uq p m fs f.next o)) Yz:=by
 have h0:=hO;have hol:=cW (p:=p) (b:=f.YS) hP.sh;have hpc:=hM.top.pc;have hsl:=hM.top.sl;have hdp:=hM.deep;have hmd:=hM.made;have hp:=hM.top.YS;have hp7:=hP.sh.len;have htr:=hM.tr;obtain⟨hol2,hoE⟩:=gS ho;obtain⟨k,hk⟩:=gX hp;have hOr:=HJ hP.sh hk o (gM ho);have hcode:=hOr.code;have harg:=hOr.arg;have hok:=hM.top.ok;rw [ca ho,so] at hok
 have hgsl:∀ g∈fs,g.stack.length<=1000:=λg hg=>by
  have h1:=(hM.low g hg).sl;have h2:=(hM.low g hg).pc;have h3:=cW (p:=p) (b:=g.YS) hP.sh;omega
 have hnsl:f.next.stack.length<=1000:=by simp only [YZ.next];omega
 have hn8:=hM.top.nm.1;have hg8:=hM.Yd.1;have hfl:fs.length<=150:=qA;have hsO:=λh13=>qBl.of hM hOr h13;have hnam:=hOr.name;have hfas:=hOr.qCt;have hatt:=hOr.attr;have hbk:=hOr.YS;have hcl1:=hOr.call;have hret:=hOr.ret
 have hf16:o.1=16\/o.1=17->fs.length+1<=150:=λh=>by
  have:=SI hM ho h;omega
 have hne20:o.1=20->fs≠[]:=λh e=>by
  subst e;have h1:=hM.b0 f qB;have h2:=hret h;have h3:=(hP.sh.Ze hk).2 h1;simp [qV,hk,h3] at h2
 have hch:5<=o.1->o.1<=7->∃ c,f.cells[o.2.toNat]?=some c/\c<m.cells.length:=λh1 h2=>by
  have h3:=(hsO ⟨qA,qA⟩).cell h1 h2;exact⟨_,h3,hM.top.cr _ (gM h3)⟩
 have htick:=G8 gl;obtain⟨c,a⟩:=o;obtain⟨x,rfl⟩:∃ x:Nat,a=x:=⟨a.toNat,cj⟩;simp only at hcode harg hsO hnam hfas hatt hbk hcl1 hret hf16 hne20 hch;simp only [zb] at hok;refine Yc.Yb func146 [.tmp 6] ntmps146 (λ_=>qJ) λC w g root hroot=>?_;refine qD ?_<|Ya;refine uk (λs=>s.tm 0=.pt Yn 0/\s.tm 1=.pt Yn (yo fs.length)/\s.tm 5=.pt (.s 5) 0/\s.hp (.s 5)=some (.row 2 [[iv c,iv x]])/\s.tm 9=iv c/\s.tm 10=bv (c==0)/\s.hp (.u 9 0 0)=none/\YQ s.hp p (m.top fs f.next)) ⟨qB,qB,qB,qB,qB,qB,v8,vt⟩ ?_;clear hO;rintro s ⟨t0,t1,t5,p5,t9,t10,h9,hO⟩;obtain⟨R,j,hT,tr,h2,h3,h28⟩:=hO.ZH rfl qA;have hRl:=tr.len;have hnb:f.next.YS=f.YS:=rfl;have hnp:f.next.pc=f.pc+1:=rfl;have hnc:f.next.cells=f.cells:=rfl;have hnf:f.next.YV=f.YV:=rfl;have hns:f.next.stack=f.stack:=rfl;have yoh:yo fs.length+29<=4415:=yX;by_cases c0:c=0
 .subst c0;have hord:uq p m fs f.next (0,(x:Int))=bI p m fs f.next:=by simp [uq]
  rw [hord];refine ql ?_<|kH t0 t1 t5 p5 t9<|t10;intro K hK;have fx:=aI t0 t1;refine q7 h0 (have h:=hO;YQ.re h) (qp _) (hF:=λhO=>G8 gl _ p m fs f.next (0,(x:Int)) (by rw [hnp];exact ho) rfl hp qA hm0 hfl qA qA qA (by rw [hnp];exact hol2) (by rw [hnb];omega) hO) (h:=?_);rintro y H1 ⟨rfl,hO1⟩;clear fx;refine ql ?_<|Ya;refine qE [] .nil qF ⟨qB,YQ.fin (have h:=hO1;YQ.re h)⟩
 have cb0:(c==0)=false:=by simpa using c0
 by_cases c13:2<=c/\c<=13
 .have hst1:c=3\/c=6\/c=9\/c=12->1<=f.next.stack.length:=λh=>by rcases h with rfl|rfl|rfl|rfl <;> simp at hok <;> exact hok.1
  have f2:=tr.f2;obtain⟨f2l,f2E⟩:=gS f2;have f0:=tr.f0;obtain⟨f0l,f0E⟩:=gS f0;have f3:=tr.f3;obtain⟨f3l,f3E⟩:=gS f3;have r0:=tr.r0;obtain⟨_,r0E⟩:=gS r0;have hcd:(qg p p.length)[f.YS]?=some (qd p f.YS):=rj;obtain⟨hcdl,hcdE⟩:=gS hcd;have hcc:(qd p f.YS).cells=qC p f.YS:=kR;rw [hnb] at f0 f0E;rw [hnc] at f3 f3E h3;rw [hnf] at f2 f2E h2;by_cases c4:c<=4
  .have hxf:x<f.YV.length:=by have:=hfas c13.1 c4;rw [hM.top.fl];omega
   have hc:c=2\/c=3\/c=4:=qA;rcases hc with rfl|rfl|rfl
   .rw [AC qL qL rfl];refine ql ?_<|qQ t0 t1 t5 p5 t9 t10 hT hRl f2 f2E f2l yoh<|aI hxf<|h2;intro K hK;have fx:=aI t0 (aI t1 (aI t5 p5));refine q7 h0 (have h:=hO;YQ.re h) (qp _) (hF:=λhO=>l6 gl _ p m fs f.next (2,(x:Int)) x 0 2 qB rfl hxf hm0 qL qL hfl (λh=>kT) hnsl v8 hO) (h:=?_);rintro y H1 ⟨rfl,hO1⟩;clear fx;refine ql ?_<|j4 t0 t1 t5<|hT;refine qE [] .nil qF ⟨qB,YQ.fin (have h:=hO1;YQ.re h)⟩
   .rw [AC qL qL rfl];refine ql ?_<|qQ t0 t1 t5 p5 t9 t10 hT hRl f2 f2E f2l yoh<|aI hxf<|h2;intro K hK;have fx:=aI t0 (aI t1 (aI t5 p5));refine q7 h0 (have h:=hO;YQ.re h) (qp _) (hF:=λhO=>l6 gl _ p m fs f.next (3,(x:Int)) x 1 2 qB rfl hxf hm0 qL qL hfl (λ_=>hst1 qB) hnsl v8 hO) (h:=?_);rintro y H1 ⟨rfl,hO1⟩;clear fx;refine ql ?_<|j4 t0 t1 t5<|hT;refine qE [] .nil qF ⟨qB,YQ.fin (have h:=hO1;YQ.re h)⟩
   .rw [AC qL qL rfl];refine ql ?_<|qQ t0 t1 t5 p5 t9 t10 hT hRl f2 f2E f2l yoh<|aI hxf<|h2;intro K hK;have fx:=aI t0 (aI t1 (aI t5 p5));refine q7 h0 (have h:=hO;YQ.re h) (qp _) (hF:=λhO=>l6 gl _ p m fs f.next (4,(x:Int)) x 2 2 qB rfl hxf hm0 qL qL hfl (λh=>kT) hnsl v8 hO) (h:=?_);rintro y H1 ⟨rfl,hO1⟩;clear fx;refine ql ?_<|j4 t0 t1 t5<|hT;refine qE [] .nil qF ⟨qB,YQ.fin (have h:=hO1;YQ.re h)⟩
  by_cases c7:c<=7
  .obtain⟨cc,hcc1,hcc2⟩:=hch qA c7;simp only [a6] at hcc1;have hgd:f.next.cells.getD ((x:Int)).toNat 0=cc:=by rw [hnc,sM,a6,hcc1];rfl
   obtain⟨hxl,_⟩:=gS hcc1;have her:(zC f.cells)[x]?=some [.pt (.u 7 cc 0) 0]:=by rw [DZ];simp [hcc1,ptE]
   obtain⟨herl,herE⟩:=gS her;have hc:c=5\/c=6\/c=7:=qA;by_cases hxc:(x:Int)<((qC p f.YS).length:Int)
   .have hcond:∀ (c:Int) (w:Nat),5<=c->c<=7->((c - 2) % 3).toNat=w->uq p m fs f.next (c,(x:Int))=jw m fs f.next (c,(x:Int)) w 2:=λc w h1 h2 hw=>by rw [HL h1 h2 hw,hnb,if_pos hxc]
    rcases hc with rfl|rfl|rfl
    .rw [hcond _ _ qL qL rfl];refine ql ?_<|qQ t0 t1 t5 p5 t9 t10 hT hRl r0 r0E f0 f0E<|qQ f0l hcd hcdl hcdE hcc hxc f3 f3E f3l yoh h3 hxl<|jD her herE<|herl;intro K hK;have fx:=aI t0 (aI t1 (aI t5 p5));refine q7 h0 (have h:=hO;YQ.re h) (qp _) (hF:=λhO=>wl gl _ p m fs f.next (5,(x:Int)) cc 0 2 qB qB hgd hcc2 hm0 qL qL hfl (λh=>kT) hnsl hO) (h:=?_);rintro y H1 ⟨rfl,hO1⟩;clear fx;refine ql ?_<|j4 t0 t1 t5<|hT;refine qE [] .nil qF ⟨qB,YQ.fin (have h:=hO1;YQ.re h)⟩
    .rw [hcond _ _ qL qL rfl];refine ql ?_<|qQ t0 t1 t5 p5 t9 t10 hT hRl r0 r0E f0 f0E<|qQ f0l hcd hcdl hcdE hcc hxc f3 f3E f3l yoh h3 hxl<|jD her herE<|herl;intro K hK;have fx:=aI t0 (aI t1 (aI t5 p5));refine q7 h0 (have h:=hO;YQ.re h) (qp _) (hF:=λhO=>wl gl _ p m fs f.next (6,(x:Int)) cc 1 2 qB qB hgd hcc2 hm0 qL qL hfl (λ_=>hst1 qB) hnsl hO) (h:=?_);rintro y H1 ⟨rfl,hO1⟩;clear fx;refine ql ?_<|j4 t0 t1 t5<|hT;refine qE [] .nil qF ⟨qB,YQ.fin (have h:=hO1;YQ.re h)⟩
    .rw [hcond _ _ qL qL rfl];refine ql ?_<|qQ t0 t1 t5 p5 t9 t10 hT hRl r0 r0E f0 f0E<|qQ f0l hcd hcdl hcdE hcc hxc f3 f3E f3l yoh h3 hxl<|jD her herE<|herl;intro K hK;have fx:=aI t0 (aI t1 (aI t5 p5));refine q7 h0 (have h:=hO;YQ.re h) (qp _) (hF:=λhO=>wl gl _ p m fs f.next (7,(x:Int)) cc 2 2 qB qB hgd hcc2 hm0 qL qL hfl (λh=>kT) hnsl hO) (h:=?_);rintro y H1 ⟨rfl,hO1⟩;clear fx;refine ql ?_<|j4 t0 t1 t5<|hT;refine qE [] .nil qF ⟨qB,YQ.fin (have h:=hO1;YQ.re h)⟩
   .have hcond:∀ (c:Int) (w:Nat),5<=c->c<=7->((c - 2) % 3).toNat=w->uq p m fs f.next (c,(x:Int))=jw m fs f.next (c,(x:Int)) w 3:=λc w h1 h2 hw=>by rw [HL h1 h2 hw,hnb,if_neg hxc]
    rcases hc with rfl|rfl|rfl
    .rw [hcond _ _ qL qL rfl];refine ql ?_<|qQ t0 t1 t5 p5 t9 t10 hT hRl r0 r0E f0 f0E<|qQ f0l hcd hcdl hcdE hcc hxc f3 f3E f3l yoh h3 hxl<|jD her herE<|herl;intro K hK;have fx:=aI t0 (aI t1 (aI t5 p5));refine q7 h0 (have h:=hO;YQ.re h) (qp _) (hF:=λhO=>wl gl _ p m fs f.next (5,(x:Int)) cc 0 3 qB qB hgd hcc2 hm0 qL qL hfl (λh=>kT) hnsl hO) (h:=?_);rintro y H1 ⟨rfl,hO1⟩;clear fx;refine ql ?_<|j4 t0 t1 t5<|hT;refine qE [] .nil qF ⟨qB,YQ.fin (have h:=hO1;YQ.re h)⟩
    .rw [hcond _ _ qL qL rfl];refine ql ?_<|qQ t0 t1 t5 p5 t9 t10 hT hRl r0 r0E f0 f0E<|qQ f0l hcd hcdl hcdE hcc hxc f3 f3E f3l yoh h3 hxl<|jD her herE<|herl;intro K hK;have fx:=aI t0 (aI t1 (aI t5 p5));refine q7 h0 (have h:=hO;YQ.re h) (qp _) (hF:=λhO=>wl gl _ p m fs f.next (6,(x:Int)) cc 1 3 qB qB hgd hcc2 hm0 qL qL hfl (λ_=>hst1 qB) hnsl hO) (h:=?_);rintro y H1 ⟨rfl,hO1⟩;clear fx;refine ql ?_<|j4 t0 t1 t5<|hT;refine qE [] .nil qF ⟨qB,YQ.fin (have h:=hO1;YQ.re h)⟩
    .rw [hcond _ _ qL qL rfl];refine ql ?_<|qQ t0 t1 t5 p5 t9 t10 hT hRl r0 r0E f0 f0E<|qQ f0l hcd hcdl hcdE hcc hxc f3 f3E f3l yoh h3 hxl<|jD her herE<|herl;intro K hK;have fx:=aI t0 (aI t1 (aI t5 p5));refine q7 h0 (have h:=hO;YQ.re h) (qp _) (hF:=λhO=>wl gl _ p m fs f.next (7,(x:Int)) cc 2 3 qB qB hgd hcc2 hm0 qL qL hfl (λh=>kT) hnsl hO) (h:=?_);rintro y H1 ⟨rfl,hO1⟩;clear fx;refine ql ?_<|j4 t0 t1 t5<|hT;refine qE [] .nil qF ⟨qB,YQ.fin (have h:=hO1;YQ.re h)⟩
  have hx7:x<8:=by have:=hnam qA c13.2;omega
  have hxl:(x:Int)<8:=qA;have hx7':x<=7:=qA;have hc:c=8\/c=11\/c=9\/c=10\/c=12\/c=13:=qA;have hWg:∀ c:Int,8<=c->c<=10->WrY p m fs f.next (c,(x:Int)) (6+x * 3):=λc h1 h2=>by rw [B4];exact WrY.Yd hg8 h1 h2 hx7
  have hWn:∀ c:Int,11<=c->WrY p m fs f.next (c,(x:Int)) (yo fs.length+4+x * 3):=λc h1=>by rw [B4];exact WrY.name hn8 qA h1 hx7
  rcases hc with rfl|rfl|rfl|rfl|rfl|rfl
  .rw [HK qB];refine ql ?_<|kG t0 t1 t5 p5 t9 t10<|hxl;intro K hK;have fx:=aI t0 (aI t1 (aI t5 p5));refine q7 h0 (have h:=hO;YQ.re h) (qp _) (hF:=λhO=>G9 gl _ p m fs f.next 8 x qB hx7 hg8 hn8 hm0 hfl hnsl hO) (h:=?_);rintro y H1 ⟨rfl,hO1⟩;clear fx;refine ql ?_<|j4 t0 t1 t5<|hT;refine qE [] .nil qF ⟨qB,YQ.fin (have h:=hO1;YQ.re h)⟩
  .rw [HK qB];refine ql ?_<|kG t0 t1 t5 p5 t9 t10<|hxl;intro K hK;have fx:=aI t0 (aI t1 (aI t5 p5));refine q7 h0 (have h:=hO;YQ.re h) (qp _) (hF:=λhO=>G9 gl _ p m fs f.next 11 x qB hx7 hg8 hn8 hm0 hfl hnsl hO) (h:=?_);rintro y H1 ⟨rfl,hO1⟩;clear fx;refine ql ?_<|j4 t0 t1 t5<|hT;refine qE [] .nil qF ⟨qB,YQ.fin (have h:=hO1;YQ.re h)⟩
  .rw [AD qL qL qL rfl];refine ql ?_<|er t0 t1 t5 p5 t9 t10 hxl hx7'<|yoh;intro K hK;have fx:=aI t0 (aI t1 (aI t5 p5));refine q7 h0 (have h:=hO;YQ.re h) (qp _) (hF:=λhO=>ew gl _ p m fs f.next (9,(x:Int)) _ 1 4 (hWg _ qL qL) hm0 qL qL hfl (λ_=>hst1 qB) hnsl hO) (h:=?_);rintro y H1 ⟨rfl,hO1⟩;clear fx;refine ql ?_<|j4 t0 t1 t5<|hT;refine qE [] .nil qF ⟨qB,YQ.fin (have h:=hO1;YQ.re h)⟩
  .rw [AD qL qL qL rfl];refine ql ?_<|er t0 t1 t5 p5 t9 t10 hxl hx7'<|yoh;intro K hK;have fx:=aI t0 (aI t1 (aI t5 p5));refine q7 h0 (have h:=hO;YQ.re h) (qp _) (hF:=λhO=>ew gl _ p m fs f.next (10,(x:Int)) _ 2 4 (hWg _ qL qL) hm0 qL qL hfl (λh=>kT) hnsl hO) (h:=?_);rintro y H1 ⟨rfl,hO1⟩;clear fx;refine ql ?_<|j4 t0 t1 t5<|hT;refine qE [] .nil qF ⟨qB,YQ.fin (have h:=hO1;YQ.re h)⟩
  .rw [AD qL qL qL rfl];refine ql ?_<|er t0 t1 t5 p5 t9 t10 hxl hx7'<|yoh;intro K hK;have fx:=aI t0 (aI t1 (aI t5 p5));refine q7 h0 (have h:=hO;YQ.re h) (qp _) (hF:=λhO=>ew gl _ p m fs f.next (12,(x:Int)) _ 1 4 (hWn _ qL) hm0 qL qL hfl (λ_=>hst1 qB) hnsl hO) (h:=?_);rintro y H1 ⟨rfl,hO1⟩;clear fx;refine ql ?_<|j4 t0 t1 t5<|hT;refine qE [] .nil qF ⟨qB,YQ.fin (have h:=hO1;YQ.re h)⟩
  .rw [AD qL qL qL rfl];refine ql ?_<|er t0 t1 t5 p5 t9 t10 hxl hx7'<|yoh;intro K hK;have fx:=aI t0 (aI t1 (aI t5 p5));refine q7 h0 (have h:=hO;YQ.re h) (qp _) (hF:=λhO=>ew gl _ p m fs f.next (13,(x:Int)) _ 2 4 (hWn _ qL) hm0 qL qL hfl (λh=>kT) hnsl hO) (h:=?_);rintro y H1 ⟨rfl,hO1⟩;clear fx;refine ql ?_<|j4 t0 t1 t5<|hT;refine qE [] .nil qF ⟨qB,YQ.fin (have h:=hO1;YQ.re h)⟩
 rw [PL c0 c13];have hcs:c=1\/c=14\/c=15\/c=16\/c=17\/c=18\/c=19\/c=20:=qA;have cb:∀ k:Int,2<=k->k<=13->(c==k)=false:=λk h1 h2=>yY
 have hval:∀ H:Nm->Option AO,YQ H p (m.top fs f.next)->H (.u 9 0 0)=none->Yc prog gl 185 DM [.pt Yn 0,.pt Yn (yo fs.length),.agg [iv c,iv x]] H (λ_ y H'=>y=bv (decide ((yd p m fs f.next (c,(x:Int))).en=0))/\YQ H' p (yd p m fs f.next (c,(x:Int)))) Yz:=by
  intro H hO h9
  have h17:c=17->(x:Int)<=1/\((x:Int)).toNat+1<=f.next.stack.length/\fs.length+1<=150:=λh=>by
   refine⟨hcl1 h,?_,hf16 (.inr h)⟩;subst h;simp at hok;exact hok.1
  have h14:c=14->2<=f.next.stack.length:=by rintro rfl;simp at hok;exact hok.1
  have h18:c=18->(x:Int)<=7/\1<=f.next.stack.length:=by rintro rfl;simp at hok;exact⟨hatt rfl,hok.1⟩
  have h19:c=19\/c=20->1<=f.next.stack.length:=NJ;rcases hcs with h|h|h|h|h|h|h|h
  .exact oB gl H p m fs f.next (c,(x:Int)) harg (.inl h) f.pc hP hM h17 h18 hnsl hfl hm0 hO
  .exact Jr gl H p m fs f.next (c,(x:Int)) harg h f.pc hP hM (h14 h) hnsl hfl hm0 hO
  .exact Bd gl H p m fs f.next (c,(x:Int)) harg (.inl h) f.pc hP hM (hbk (.inl h)) (λh'=>hf16 (.inl h')) hnsl hfl hm0 h9 hO
  .exact Bd gl H p m fs f.next (c,(x:Int)) harg (.inr h) f.pc hP hM (hbk (.inr h)) (λh'=>hf16 (.inl h')) hnsl hfl hm0 h9 hO
  .exact oB gl H p m fs f.next (c,(x:Int)) harg (.inr (.inl h)) f.pc hP hM h17 h18 hnsl hfl hm0 hO
  .exact oB gl H p m fs f.next (c,(x:Int)) harg (.inr (.inr h)) f.pc hP hM h17 h18 hnsl hfl hm0 hO
  .exact Bc gl H p m fs f.next (c,(x:Int)) harg (.inl h) f.pc hP hM (h19 (.inl h)) hret hgsl hne20 hnsl hfl hm0 h9 hO
  .exact Bc gl H p m fs f.next (c,(x:Int)) harg (.inr h) f.pc hP hM (h19 (.inr h)) hret hgsl hne20 hnsl hfl hm0 h9 hO
 have e2:=cb 2 qL qL;have e3:=cb 3 qL qL;have e4:=cb 4 qL qL;have e5:=cb 5 qL qL;have e6:=cb 6 qL qL;have e7:=cb 7 qL qL;have e8:=cb 8 qL qL;have e9:=cb 9 qL qL;have e10:=cb 10 qL qL;have e11:=cb 11 qL qL;have e12:=cb 12 qL qL;have e13:=cb 13 qL qL;have fx:=qQ t0 t1 t5 p5 t9 t10 cb0 e2 e3 e4 e5 e6<|kG e7 e8 e9 e10 e11 e12<|e13;refine qI ?_
 repeat ((first|refine Y7 (id:=10) UL mixed ?_|refine Y7 (id:=13) UK mixed ?_|refine Y7 (id:=19) UJ mixed ?_);refine qW ?_;refine qI ?_)
 clear fx;intro K hK;have fx:=aI t0 (aI t1 (aI t5 p5));refine q7 h0 (have h:=hO;YQ.re h) (qp _) (hF:=λhO=>hval _ hO v8) (h:=?_);rintro y H1 ⟨rfl,hO1⟩;clear fx;have fx:=Ya;refine qI ?_
 repeat ((first|refine Y7 (id:=10) UL mixed ?_|refine Y7 (id:=13) UK mixed ?_|refine Y7 (id:=19) UJ mixed ?_);refine qW ?_;refine qI ?_)
 clear fx;refine qE [] .nil qF ⟨qB,YQ.fin (have h:=hO1;YQ.re h)⟩
end Go.Proofs.YtdnebaieamppbaaGreatDoor
end
