import Derived.Test.YtjgpejikjhojcaaGreatDoorT34
import Derived.Test.YtjgpejikjhojcaaGreatDoorT35
set_option linter.unusedSimpArgs false
set_option linter.unusedVariables false
set_option maxRecDepth 100000
set_option maxHeartbeats 4000000

section
namespace Go.Proofs.YtjgpejikjhojcaaGreatDoor
open Go Go.Hm Go.Proofs Tryz
theorem Gp (gl) (H:Nm->Option AO) (p:qC) (m:qU) (fs:List qN) (f:qN) (o:Int×Int) (q wy:Nat) (e:Int) (h4:o.1<=4) (hq:o.2.toNat=q) (hql:q<f.qw.length) (hm0:m.en=0) (he:e≠0) (hwy:wy<=2) (hfl:fs.length<=150) (hst:wy=1->1<=f.stack.length) (hsl:f.stack.length<=1000) (h9:H (.u 9 0 0)=none) (hO:qE H p (m.top fs f)) :
  qV prog gl 168 DM [.pt Yn 0,.pt Yn (yo fs.length),.ep (.c Yn 0 (yo fs.length+2)) 3 q 0,iv wy,iv e] H (λ_ y H'=>y=bv (decide ((vu m fs f o wy e).en=0))/\qE H' p (vu m fs f o wy e)) qy:=by
 obtain⟨R,j,hT,tr,h2,h3,h28⟩:=hO.jz rfl qA;have hRl:=tr.len;have f28:=tr.f28;have f2:=tr.f2
 have yG:∀ g s,g.qw=f.qw->yY m fs g o s=m.top fs { g with qw:=f.qw.set q s }:=λg s hg=>by
  simp only [yY,if_pos h4,hg,hq]
 have yoh:yo fs.length+29<=4415:=uv;obtain⟨s,hs1⟩:=gX hql;obtain⟨_,hs1E⟩:=gS hs1;have hs:uB m f o=s:=by simp [uB,h4,hq,zn,hs1]
 have hrow:∀ (g:qN) s J,g.qD=g.qD->(∀ i:Nat,(J i:List AV).length=29)->qe p (m.top fs g) (fs.length+1) (yc (fs++[g]) J)=qe p (m.top fs { g with qw:=g.qw.set q s }) (fs.length+1) (yc (fs++[{ g with qw:=g.qw.set q s }]) J):=by
  intro g s J _ hJ;have:=Ch (p:=p) (m:=m.top fs g) (h:=fs.length+1) (J:=J) (fs:=fs++[g]) (i:=fs.length) (f:=g) (g:={ g with qw:=g.qw.set q s }) (j:=0) (vals:=[]) hJ qB qA qB (by simp [ql,yR]);have e:ql (qe p (m.top fs g) (fs.length+1) (yc (fs++[g]) J)) (32+(29 * fs.length+0)) []=qe p (m.top fs g) (fs.length+1) (yc (fs++[g]) J):=tY;rw [e] at this;refine this.trans ?_;simp [qe,yA,yB,yZ,qU.top]
 refine qV.qa func168 [.tmp 10] ntmps168 (λ_=>qv) λC w g root hroot=>?_;by_cases w1:wy=1
 .subst w1;have hres:vu m fs f o 1 e=yY m fs f.pop o (some f.zN):=rfl;rw [hres,yG f.pop _ rfl];obtain⟨k,hk⟩:∃ k,f.stack.length=k+1:=⟨f.stack.length - 1,by have:=hst rfl;omega⟩;refine qI ?_<| h2;intro K hK;have hO0:qE (ky [.pt Yn 0,.pt Yn (yo fs.length),.ep (.c Yn 0 (yo fs.length+2)) 3 q 0,iv 1,iv e] H 37 gl).hp p (m.top fs f):=(have h:=hO;qE.re h);obtain⟨R0,R',vs,k1,k2,k3,k4,k5,k6⟩:=qE.a8 (j:=yo fs.length+2) hO0 rfl qA hk qA;have fx:=h2;refine NU DM (.c Yn 0 (yo fs.length+2)) (.u 9 0 0) Yn (.row 4415 [ql R0 (yo fs.length+28) [.hs (.c Yn 0 (yo fs.length+28)) 2 0 k]]) (qR.av f.zN) (hV:=rfl) (hN:=rfl) (hVe:=by simp [jb,h9]) (λ_=>qv) qB (λ_=>Ck) (λ_=>Cl) jp (λk i j he=>?_) rfl qB qB (hF:=Hv) (h:=?_)
  .rcases hO.ext hO0 (qX _) k i j he with h|h
   .exact .inl h
   .refine .inr λh'=>h ?_;simp only [ze]
    split
    .exact h'
    .rfl
  intro hp' hS;clear fx;have hO1:=(qE.gx (m:=m.top fs f) hO0 rfl qA k1 hk).same hS;obtain⟨R1,j1,hT1,tr1,h21,h31,h281⟩:=qE.jz (f:=f.pop) hO1 rfl qA;have h21':hp' (.c Yn 0 (yo fs.length+2))=some (.row 3 (j4 f.qw)):=h21;generalize hv:f.zN=v at *;obtain⟨v1,v2⟩:=v;refine qI ?_<|qk h2 h21'<|hql;refine qG [] .nil qH ⟨BB,qE.fin ?_⟩;have h:=hO1;exact qE.eU h rfl (m':=m.top fs { f.pop with qw:=f.qw.set q (some (v1,v2)) }) rfl rfl (nE (R':=R1) hT1 dP (λJ hJ e=>e.trans (hrow f.pop _ J rfl hJ))) (h6t:=qB) (h7t:=by simp [h31]) (h8t:=⟨j1,rf⟩)
 .have w1':((wy:Int)==1)=false:=wW
  cases s with
  | none =>
   have hres:vu m fs f o wy e=m.stop fs f e:=DY;rw [hres];refine qI ?_<|zM w1' h2 hs1 hs1E<|hql;intro K hK;have fx:=qS;refine zk hO (have h:=hO;qE.re h) (qX _) (hF:=λ_=>ef gl DM (λ_=>qv) _ R e zG hRl) (h:=?_);intro y H1 hw;clear fx;have hO1:=qE.qi (qE.ea (m:=m.top fs f) (e:=e) (have h:=hO;qE.re h) rfl zG) hw;obtain⟨rfl,-⟩:=hw;refine qI ?_<|qS;refine qG [] .nil qH ⟨by simp [qU.stop,he],qE.fin (have h:=hO1;qE.re h)⟩
  | some v =>
   obtain⟨v1,v2⟩:=v;by_cases w0:wy=0
   .subst w0;have hres:vu m fs f o 0 e=m.top fs (f.push (v1,v2)):=Dy;rw [hres];refine qI ?_<|zM w1' h2 hs1 hs1E<|hql;intro K hK;have fx:=aI h2 (aI hs1 hs1E);refine zk hO (have h:=hO;qE.re h) (qX _) (hF:=λ_=>dE gl DM (λ_=>qv) _ R (yo fs.length) f.stack j (v1,v2) rfl rfl zG f28 kE hsl yoh) (h:=?_);intro y H1 hw;clear fx;have hO1:=qE.cm (m:=m.top fs f) dN rfl qA rfl zG hw;refine qI ?_<|qS;refine qG [] .nil qH ⟨dz,qE.fin (have h:=hO1;qE.re h)⟩
   .have hres:vu m fs f o wy e=yY m fs f o none:=Df;rw [hres,yG f _ rfl];have w0':((wy:Int)==0)=false:=wW;refine qI ?_<|j2 w1' w0' h2 hs1 hs1E<|hql;refine qG [] .nil qH ⟨BB,qE.fin ?_⟩;have h:=hO;exact qE.eU h rfl (m':=m.top fs { f with qw:=f.qw.set q none }) rfl rfl (nE (R':=R) hT zG (λJ hJ e=>e.trans (hrow f _ J rfl hJ))) (h6t:=qB) (h7t:=jj) (h8t:=⟨j,kE⟩)
abbrev Vq:qb:=Fu<|.done
abbrev LS:qb:=eX<|.l 9 [4,2,1]<|.done
abbrev Vr:qb:=iI<|.done
theorem c9 {A G G2:Prop} (k:G2) (x:A) (h:A->jP G2->G:=by
 intro fx kk;refine qQ ?_
 repeat ((first|refine qf (id:=1) Vq mixed ?_|refine qf (id:=2) LS mixed ?_|refine qf (id:=4) Vr mixed ?_|refine qf (id:=5) LS mixed ?_);refine zQ ?_;refine qQ ?_)
 exact kk.h):G:=h x ⟨k⟩
theorem Nb (gl) (H:Nm->Option AO) (p:qC) (m:qU) (fs:List qN) (f:qN) (c x:Nat) (hc:c=8\/c=11) (hx:x<8) (hg8:m.globals.length=8) (hn8:f.names.length=8) (hm0:m.en=0) (hfl:fs.length<=150) (hsl:f.stack.length<=1000) (hO:qE H p (m.top fs f)) :
  qV prog gl 169 DM [.pt Yn 0,.pt Yn (yo fs.length),.agg [iv c,iv x]] H (λ_ y H'=>y=bv (decide ((wc p m fs f (c,(x:Int))).en=0))/\qE H' p (wc p m fs f (c,(x:Int)))) qy:=by
 refine qV.qa func169 [.tmp 6] ntmps169 (λ_=>qv) λC w g root hroot=>?_;refine qI ?_<|qS;refine aS (λs=>s.tm 0=.pt Yn 0/\s.tm 1=.pt Yn (yo fs.length)/\s.tm 5=.pt (.s 5) 0/\s.hp (.s 5)=some (.row 2 [[iv c,iv x]])/\qE s.hp p (m.top fs f)) ⟨qB,qB,qB,qB,hO.qz (f:=kl (.s 5)) (λk hk=>by simp [kl,(yC (λ_=>qv) hk 5).2]) (λk hk=>by have:=yC (λ_=>qv) hk 5;simp [this.1,this.2])⟩ ?_;have h0:=hO;clear hO;rintro s ⟨t0,t1,t5,p5,hO⟩;obtain⟨R,j,hT,tr,h2,h3,h28⟩:=hO.jz rfl qA;have hRl:=tr.len;have f28:=tr.f28;have yoh:yo fs.length+29<=4415:=uv;have hwy:wS p f (c,(x:Int))=4:=by rcases hc with rfl|rfl <;> simp [wS]
 have g0:=tr.gl x 0 hx qA;have g1:=tr.gl x 1 hx qA;have g2:=tr.gl x 2 hx qA;have n0:=tr.nm x 0 hx qA;have n1:=tr.nm x 1 hx qA;have n2:=tr.nm x 2 hx qA;simp only [qU.top,dj] at g0 g1 g2 n0;rw [mC] at g0 g1 g2 n0 n1 n2;rw [<- cP] at g1 g2 n1 n2;have hgN:∀ sn,zn f.names x=sn->uB m f (((11:Nat):Int),(x:Int))=sn:=λsn h=>by simp [uB,h]
 have hgG:∀ sg,zn m.globals x=sg->uB m f (((8:Nat):Int),(x:Int))=sg:=λsg h=>by simp [uB,h]
 have hrest:(c=8\/zn f.names x=none)->wc p m fs f (c,(x:Int))=match zn m.globals x with
   | some v=>m.top fs (f.push v)
   | none=>if (x:Int)=7 then m.top fs (f.push (1,70)) else m.stop fs f 4:=by
  intro h;rcases hc with rfl|rfl
  .cases hs:zn m.globals x with
   | some v=>simp only [wc,hgG _ hs]
   | none=>simp only [wc,hgG _ hs,hwy,if_true,vN,hs]
  .rcases h with h|h
   .cases h
   .simp only [wc,hgN _ h,hwy,if_true,vN]
    rfl
 obtain⟨sn,hsn⟩:∃ sn,zn f.names x=sn:=⟨_,rfl⟩;obtain⟨sg,hsg⟩:∃ sg,zn m.globals x=sg:=⟨_,rfl⟩;rw [hsg] at g0 g1 g2 hrest;rw [hsn] at n0 n1 n2;have hx7:x<=7:=qA;have hlg:6+x * 3+3<=4415:=qA;have hln:yo fs.length+4+x * 3+3<=4415:=qA;have hxl:(x:Int)<8:=qA;rcases hc with rfl|rfl
 .replace hrest:=hrest (.inl rfl)
  cases sg with
  | some v =>
   obtain⟨v1,v2⟩:=v;simp only at hrest;rw [hrest];simp only [sj,bE,gL] at g0 g1 g2;obtain⟨_,g0E⟩:=gS g0;have g12:=su g1 g2;have hl2:6+x * 3+1+2<=4415:=qA;refine c9 ?_<|yD t0 t1 t5 p5 hT hRl hlg hl2 g0 g0E<|aI g12<|hxl;intro K hK;have fx:=yD t0 t1 t5 p5 hT hRl hlg hl2 g0 g0E<|aI g12<|hxl;refine zk h0 (have h:=hO;qE.re h) (qX _) (hF:=λ_=>dE gl DM (λ_=>qv) _ R (yo fs.length) f.stack j (v1,v2) rfl rfl zG f28 kE hsl yoh) (h:=?_);intro y H1 hw;clear fx;have hO1:=qE.cm (m:=m.top fs f) dN rfl qA rfl zG hw;obtain⟨R1,j1,hT1,tr1,-,-,-⟩:=qE.jz (f:=f.push (v1,v2)) hO1 rfl qA;have hR1l:=tr1.len;have k12:=tr1.JN hx hsg;refine c9 ?_<|vA t0 t1 t5 p5 hT hT1 hR1l hl2 k12<|hxl;refine qG [] .nil qH ⟨dz,qE.fin (have h:=hO1;qE.re h)⟩
  | none =>
   simp only at hrest;simp only [si,bE] at g0;obtain⟨_,g0E⟩:=gS g0;by_cases x7:x=7
   .subst x7;rw [if_pos bf] at hrest;rw [hrest];refine c9 ?_<|jJ t0 t1 t5 p5 hT hRl g0<|g0E;intro K hK;have fx:=jJ t0 t1 t5 p5 hT hRl g0<|g0E;refine zk h0 (have h:=hO;qE.re h) (qX _) (hF:=λ_=>dE gl DM (λ_=>qv) _ R (yo fs.length) f.stack j (1,70) rfl rfl zG f28 kE hsl yoh) (h:=?_);intro y H1 hw;clear fx;have hO1:=qE.cm (m:=m.top fs f) dN rfl qA rfl zG hw;refine c9 ?_<|qS;refine qG [] .nil qH ⟨dz,qE.fin (have h:=hO1;qE.re h)⟩
   .rw [if_neg qA] at hrest;rw [hrest];have x7':((x:Int)==7)=false:=wW;refine c9 ?_<|yD t0 t1 t5 p5 hT hRl hlg g0 g0E x7'<|hxl;intro K hK;have fx:=aI t0 t1;refine zk h0 (have h:=hO;qE.re h) (qX _) (hF:=λ_=>ef gl DM (λ_=>qv) _ R 4 zG hRl) (h:=?_);intro y H1 hw;clear fx;have hO1:=qE.qi (qE.ea (m:=m.top fs f) (e:=4) (have h:=hO;qE.re h) rfl zG) hw;obtain⟨rfl,-⟩:=hw;refine c9 ?_<|qS;refine qG [] .nil qH ⟨rY,qE.fin (have h:=hO1;qE.re h)⟩
 .cases sn with
  | some v =>
   obtain⟨v1,v2⟩:=v;have hres:wc p m fs f (((11:Nat):Int),(x:Int))=m.top fs (f.push (v1,v2)):=by simp only [wc,hgN _ hsn]
   rw [hres];simp only [sj,bE,gL] at n0 n1 n2;obtain⟨_,n0E⟩:=gS n0;have n12:=su n1 n2;have hl2:yo fs.length+4+x * 3+1+2<=4415:=qA;refine c9 ?_<|yD t0 t1 t5 p5 hT hRl hln hl2 n0 n0E<|aI n12<|hxl;intro K hK;have fx:=yD t0 t1 t5 p5 hT hRl hln hl2 n0 n0E<|aI n12<|hxl;refine zk h0 (have h:=hO;qE.re h) (qX _) (hF:=λ_=>dE gl DM (λ_=>qv) _ R (yo fs.length) f.stack j (v1,v2) rfl rfl zG f28 kE hsl yoh) (h:=?_);intro y H1 hw;clear fx;have hO1:=qE.cm (m:=m.top fs f) dN rfl qA rfl zG hw;obtain⟨R1,j1,hT1,tr1,-,-,-⟩:=qE.jz (f:=f.push (v1,v2)) hO1 rfl qA;have hR1l:=tr1.len;have k12:=tr1.Tq hx hsn;refine c9 ?_<|vA t0 t1 t5 p5 hT hT1 hR1l hl2 k12<|hxl;refine qG [] .nil qH ⟨dz,qE.fin (have h:=hO1;qE.re h)⟩
  | none =>
   replace hrest:=hrest (.inr hsn);simp only [si,bE] at n0;obtain⟨_,n0E⟩:=gS n0
   cases sg with
   | some v =>
    obtain⟨v1,v2⟩:=v;simp only at hrest;rw [hrest];simp only [sj,bE,gL] at g0 g1 g2;obtain⟨_,g0E⟩:=gS g0;have g12:=su g1 g2;have hl2:6+x * 3+1+2<=4415:=qA;refine c9 ?_<|qr t0 t1 t5 p5 hln n0 n0E hT hRl hlg hl2 g0<|qk g0E g12<|hxl;intro K hK;have fx:=qr t0 t1 t5 p5 hln n0 n0E hT hRl hlg hl2 g0<|qk g0E g12<|hxl;refine zk h0 (have h:=hO;qE.re h) (qX _) (hF:=λ_=>dE gl DM (λ_=>qv) _ R (yo fs.length) f.stack j (v1,v2) rfl rfl zG f28 kE hsl yoh) (h:=?_);intro y H1 hw;clear fx;have hO1:=qE.cm (m:=m.top fs f) dN rfl qA rfl zG hw;obtain⟨R1,j1,hT1,tr1,-,-,-⟩:=qE.jz (f:=f.push (v1,v2)) hO1 rfl qA;have hR1l:=tr1.len;have k12:=tr1.JN hx hsg;refine c9 ?_<|vA t0 t1 t5 p5 hT hT1 hR1l hl2 k12<|hxl;refine qG [] .nil qH ⟨dz,qE.fin (have h:=hO1;qE.re h)⟩
   | none =>
    simp only at hrest;simp only [si,bE] at g0;obtain⟨_,g0E⟩:=gS g0;by_cases x7:x=7
    .subst x7;rw [if_pos bf] at hrest;rw [hrest];refine c9 ?_<|yD t0 t1 t5 p5 hln n0 n0E hT hRl g0<|g0E;intro K hK;have fx:=yD t0 t1 t5 p5 hln n0 n0E hT hRl g0<|g0E;refine zk h0 (have h:=hO;qE.re h) (qX _) (hF:=λ_=>dE gl DM (λ_=>qv) _ R (yo fs.length) f.stack j (1,70) rfl rfl zG f28 kE hsl yoh) (h:=?_);intro y H1 hw;clear fx;have hO1:=qE.cm (m:=m.top fs f) dN rfl qA rfl zG hw;refine c9 ?_<|qS;refine qG [] .nil qH ⟨dz,qE.fin (have h:=hO1;qE.re h)⟩
    .rw [if_neg qA] at hrest;rw [hrest];have x7':((x:Int)==7)=false:=wW;refine c9 ?_<|qr t0 t1 t5 p5 hln n0 n0E hT hRl hlg g0 g0E<|aI x7'<|hxl;intro K hK;have fx:=aI t0 t1;refine zk h0 (have h:=hO;qE.re h) (qX _) (hF:=λ_=>ef gl DM (λ_=>qv) _ R 4 zG hRl) (h:=?_);intro y H1 hw;clear fx;have hO1:=qE.qi (qE.ea (m:=m.top fs f) (e:=4) (have h:=hO;qE.re h) rfl zG) hw;obtain⟨rfl,-⟩:=hw;refine c9 ?_<|qS;refine qG [] .nil qH ⟨rY,qE.fin (have h:=hO1;qE.re h)⟩
abbrev WR:qb:=Ft<|.l 12 [2]<|.l 13 []<|.done
abbrev WS:qb:=Lw<|.done
abbrev WT:qb:=pJ<|.l 14 [3,2]<|.l 15 []<|.done
abbrev LU:qb:=bQ<|.l 11 []<|.l 12 []<|.done
abbrev LW:qb:=bQ<|.l 11 [6,5,4,3,2,1,0]<|.q 12<|.l 13 [4,3,2,1,0]<|.l 14 [0]<|.q 15<|.q 16<|.l 17 []<|.done
abbrev LX:qb:=da<|.l 7 [2,1,0]<|.l 8 []<|.done
abbrev LY:qb:=nG<|.l 6 [4,3,2,1,0]<|.l 7 [4,3,2,1,0]<|.l 8 [4,3,2,1,0]<|.l 9 [0]<|.q 10<|.q 11<|.l 12 []<|.done
theorem vR {A G G2:Prop} (k:G2) (x:A) (h:A->jP G2->G:=by
 intro fx kk;refine qQ ?_
 repeat ((first|refine qf (id:=7) WR mixed ?_|refine qf (id:=12) WS mixed ?_|refine qf (id:=14) WT mixed ?_|refine qf (id:=20) LU mixed ?_|refine qf (id:=23) LU mixed ?_);refine zQ ?_;refine qQ ?_)
 exact kk.h):G:=h x ⟨k⟩
theorem qBL (gl) (H:Nm->Option AO) (p:qC) (m:qU) (fs:List qN) (f:qN) (o:Int×Int) (hP:zq p) (hM:yy p m fs f) (ho:(zm p f.qD)[f.pc]?=some o) (hm0:m.en=0) (h9:H (.u 9 0 0)=none) (hO:qE H p (m.top fs f.next)) :
  qV prog gl 118 DM [.pt Yn 0,.pt Yn (yo fs.length),.agg [iv o.1,iv o.2]] H (λ_ y H'=>y=bv (decide ((jW p m fs f.next o).en=0))/\qE H' p (jW p m fs f.next o)) qy:=by
 have h0:=hO;have hol:=xg (p:=p) (b:=f.qD) hP.sh;have hpc:=hM.top.pc;have hsl:=hM.top.sl;have hdp:=hM.deep;have hmd:=hM.made;have hp:=hM.top.qD;have hp7:=hP.sh.len;have htr:=hM.tr;obtain⟨hol2,hoE⟩:=gS ho;obtain⟨k,hk⟩:=gX hp;have hOr:=FD hP.sh hk o (gM ho);have hcode:=hOr.code;have harg:=hOr.arg;have hok:=hM.top.ok;rw [rp ho,dj] at hok
 have hgsl:∀ g∈fs,g.stack.length<=1000:=λg hg=>by
  have h1:=(hM.low g hg).sl;have h2:=(hM.low g hg).pc;have h3:=xg (p:=p) (b:=g.qD) hP.sh;omega
 have hnsl:f.next.stack.length<=1000:=by simp only [qN.next];omega
 have hn8:=hM.top.nm.1;have hg8:=hM.zJ.1;have hfl:fs.length<=150:=qA;have hsO:=λh13=>Cr.of hM hOr h13;have hnam:=hOr.name;have hfas:=hOr.Ik;have hatt:=hOr.attr;have hbk:=hOr.qD;have hcl1:=hOr.call;have hret:=hOr.ret
 have hf16:o.1=16\/o.1=17->fs.length+1<=150:=λh=>by
  have:=Un hM ho h;omega
 have hne20:o.1=20->fs≠[]:=λh e=>by
  subst e;have h1:=hM.b0 f qB;have h2:=hret h;have h3:=(hP.sh.dS hk).2 h1;simp [zt,hk,h3] at h2
 have hch:5<=o.1->o.1<=7->∃ c,f.cells[o.2.toNat]?=some c/\c<m.cells.length:=λh1 h2=>by
  have h3:=(hsO ⟨qA,qA⟩).cell h1 h2;exact⟨_,h3,hM.top.cr _ (gM h3)⟩
 have htick:=Nd gl;obtain⟨c,a⟩:=o;obtain⟨x,rfl⟩:∃ x:Nat,a=x:=⟨a.toNat,tq⟩;simp only at hcode harg hsO hnam hfas hatt hbk hcl1 hret hf16 hne20 hch;simp only [jw] at hok;refine qV.qa func118 [.tmp 6] ntmps118 (λ_=>qv) λC w g root hroot=>?_;refine qI ?_<|qS;refine aS (λs=>s.tm 0=.pt Yn 0/\s.tm 1=.pt Yn (yo fs.length)/\s.tm 5=.pt (.s 5) 0/\s.hp (.s 5)=some (.row 2 [[iv c,iv x]])/\s.tm 9=iv c/\s.tm 10=bv (c==0)/\s.hp (.u 9 0 0)=none/\qE s.hp p (m.top fs f.next)) ⟨qB,qB,qB,qB,qB,qB,cX,fK⟩ ?_;clear hO;rintro s ⟨t0,t1,t5,p5,t9,t10,h9,hO⟩;obtain⟨R,j,hT,tr,h2,h3,h28⟩:=hO.jz rfl qA;have hRl:=tr.len;have hnb:f.next.qD=f.qD:=rfl;have hnp:f.next.pc=f.pc+1:=rfl;have hnc:f.next.cells=f.cells:=rfl;have hnf:f.next.qw=f.qw:=rfl;have hns:f.next.stack=f.stack:=rfl;have yoh:yo fs.length+29<=4415:=uv;by_cases c0:c=0
 .subst c0;have hord:jW p m fs f.next (0,(x:Int))=dB p m fs f.next:=by simp [jW]
  rw [hord];refine vR ?_<|j2 t0 t1 t5 p5 t9<|t10;intro K hK;have fx:=aI t0 t1;refine zk h0 (have h:=hO;qE.re h) (qX _) (hF:=λhO=>Nd gl _ p m fs f.next (0,(x:Int)) (by rw [hnp];exact ho) rfl hp qA hm0 hfl qA qA qA (by rw [hnp];exact hol2) (by rw [hnb];omega) hO) (h:=?_);rintro y H1 ⟨rfl,hO1⟩;clear fx;refine vR ?_<|qS;refine qG [] .nil qH ⟨qB,qE.fin (have h:=hO1;qE.re h)⟩
 have cb0:(c==0)=false:=by simpa using c0
 by_cases c13:2<=c/\c<=13
 .have hst1:c=3\/c=6\/c=9\/c=12->1<=f.next.stack.length:=λh=>by rcases h with rfl|rfl|rfl|rfl <;> simp at hok <;> exact hok.1
  have f2:=tr.f2;obtain⟨f2l,f2E⟩:=gS f2;have f0:=tr.f0;obtain⟨f0l,f0E⟩:=gS f0;have f3:=tr.f3;obtain⟨f3l,f3E⟩:=gS f3;have r0:=tr.r0;obtain⟨_,r0E⟩:=gS r0;have hcd:(yl p p.length)[f.qD]?=some (zr p f.qD):=by simp [yl,hp]
  obtain⟨hcdl,hcdE⟩:=gS hcd;have hcc:(zr p f.qD).cells=qh p f.qD:=mS;rw [hnb] at f0 f0E;rw [hnc] at f3 f3E h3;rw [hnf] at f2 f2E h2;by_cases c4:c<=4
  .have hxf:x<f.qw.length:=by have:=hfas c13.1 c4;rw [hM.top.fl];omega
   have hc:c=2\/c=3\/c=4:=qA;rcases hc with rfl|rfl|rfl
   .rw [FC qc qc rfl];refine vR ?_<|qr t0 t1 t5 p5 t9 t10 hT hRl f2 f2E f2l yoh<|aI hxf<|h2;intro K hK;have fx:=aI t0 (aI t1 (aI t5 p5));refine zk h0 (have h:=hO;qE.re h) (qX _) (hF:=λhO=>Gp gl _ p m fs f.next (2,(x:Int)) x 0 2 qB rfl hxf hm0 qc qc hfl (λh=>wH) hnsl cX hO) (h:=?_);rintro y H1 ⟨rfl,hO1⟩;clear fx;refine vR ?_<|zC t0 t1 t5<|hT;refine qG [] .nil qH ⟨qB,qE.fin (have h:=hO1;qE.re h)⟩
   .rw [FC qc qc rfl];refine vR ?_<|qr t0 t1 t5 p5 t9 t10 hT hRl f2 f2E f2l yoh<|aI hxf<|h2;intro K hK;have fx:=aI t0 (aI t1 (aI t5 p5));refine zk h0 (have h:=hO;qE.re h) (qX _) (hF:=λhO=>Gp gl _ p m fs f.next (3,(x:Int)) x 1 2 qB rfl hxf hm0 qc qc hfl (λ_=>hst1 qB) hnsl cX hO) (h:=?_);rintro y H1 ⟨rfl,hO1⟩;clear fx;refine vR ?_<|zC t0 t1 t5<|hT;refine qG [] .nil qH ⟨qB,qE.fin (have h:=hO1;qE.re h)⟩
   .rw [FC qc qc rfl];refine vR ?_<|qr t0 t1 t5 p5 t9 t10 hT hRl f2 f2E f2l yoh<|aI hxf<|h2;intro K hK;have fx:=aI t0 (aI t1 (aI t5 p5));refine zk h0 (have h:=hO;qE.re h) (qX _) (hF:=λhO=>Gp gl _ p m fs f.next (4,(x:Int)) x 2 2 qB rfl hxf hm0 qc qc hfl (λh=>wH) hnsl cX hO) (h:=?_);rintro y H1 ⟨rfl,hO1⟩;clear fx;refine vR ?_<|zC t0 t1 t5<|hT;refine qG [] .nil qH ⟨qB,qE.fin (have h:=hO1;qE.re h)⟩
  by_cases c7:c<=7
  .obtain⟨cc,hcc1,hcc2⟩:=hch qA c7;simp only [vN] at hcc1;have hgd:f.next.cells.getD ((x:Int)).toNat 0=cc:=by rw [hnc,bC,vN,hcc1];rfl
   obtain⟨hxl,_⟩:=gS hcc1;have her:(zV f.cells)[x]?=some [.pt (.u 7 cc 0) 0]:=by rw [If];simp [hcc1,vh]
   obtain⟨herl,herE⟩:=gS her;have hc:c=5\/c=6\/c=7:=qA;by_cases hxc:(x:Int)<((qh p f.qD).length:Int)
   .have hcond:∀ (c:Int) (w:Nat),5<=c->c<=7->((c - 2) % 3).toNat=w->jW p m fs f.next (c,(x:Int))=vu m fs f.next (c,(x:Int)) w 2:=λc w h1 h2 hw=>by rw [Ke h1 h2 hw,hnb,if_pos hxc]
    rcases hc with rfl|rfl|rfl
    .rw [hcond _ _ qc qc rfl];refine vR ?_<|qr t0 t1 t5 p5 t9 t10 hT hRl r0 r0E f0 f0E<|qr f0l hcd hcdl hcdE hcc hxc f3 f3E f3l yoh h3 hxl<|qk her herE<|herl;intro K hK;have fx:=aI t0 (aI t1 (aI t5 p5));refine zk h0 (have h:=hO;qE.re h) (qX _) (hF:=λhO=>tD gl _ p m fs f.next (5,(x:Int)) cc 0 2 qB qB hgd hcc2 hm0 qc qc hfl (λh=>wH) hnsl hO) (h:=?_);rintro y H1 ⟨rfl,hO1⟩;clear fx;refine vR ?_<|zC t0 t1 t5<|hT;refine qG [] .nil qH ⟨qB,qE.fin (have h:=hO1;qE.re h)⟩
    .rw [hcond _ _ qc qc rfl];refine vR ?_<|qr t0 t1 t5 p5 t9 t10 hT hRl r0 r0E f0 f0E<|qr f0l hcd hcdl hcdE hcc hxc f3 f3E f3l yoh h3 hxl<|qk her herE<|herl;intro K hK;have fx:=aI t0 (aI t1 (aI t5 p5));refine zk h0 (have h:=hO;qE.re h) (qX _) (hF:=λhO=>tD gl _ p m fs f.next (6,(x:Int)) cc 1 2 qB qB hgd hcc2 hm0 qc qc hfl (λ_=>hst1 qB) hnsl hO) (h:=?_);rintro y H1 ⟨rfl,hO1⟩;clear fx;refine vR ?_<|zC t0 t1 t5<|hT;refine qG [] .nil qH ⟨qB,qE.fin (have h:=hO1;qE.re h)⟩
    .rw [hcond _ _ qc qc rfl];refine vR ?_<|qr t0 t1 t5 p5 t9 t10 hT hRl r0 r0E f0 f0E<|qr f0l hcd hcdl hcdE hcc hxc f3 f3E f3l yoh h3 hxl<|qk her herE<|herl;intro K hK;have fx:=aI t0 (aI t1 (aI t5 p5));refine zk h0 (have h:=hO;qE.re h) (qX _) (hF:=λhO=>tD gl _ p m fs f.next (7,(x:Int)) cc 2 2 qB qB hgd hcc2 hm0 qc qc hfl (λh=>wH) hnsl hO) (h:=?_);rintro y H1 ⟨rfl,hO1⟩;clear fx;refine vR ?_<|zC t0 t1 t5<|hT;refine qG [] .nil qH ⟨qB,qE.fin (have h:=hO1;qE.re h)⟩
   .have hcond:∀ (c:Int) (w:Nat),5<=c->c<=7->((c - 2) % 3).toNat=w->jW p m fs f.next (c,(x:Int))=vu m fs f.next (c,(x:Int)) w 3:=λc w h1 h2 hw=>by rw [Ke h1 h2 hw,hnb,if_neg hxc]
    rcases hc with rfl|rfl|rfl
    .rw [hcond _ _ qc qc rfl];refine vR ?_<|qr t0 t1 t5 p5 t9 t10 hT hRl r0 r0E f0 f0E<|qr f0l hcd hcdl hcdE hcc hxc f3 f3E f3l yoh h3 hxl<|qk her herE<|herl;intro K hK;have fx:=aI t0 (aI t1 (aI t5 p5));refine zk h0 (have h:=hO;qE.re h) (qX _) (hF:=λhO=>tD gl _ p m fs f.next (5,(x:Int)) cc 0 3 qB qB hgd hcc2 hm0 qc qc hfl (λh=>wH) hnsl hO) (h:=?_);rintro y H1 ⟨rfl,hO1⟩;clear fx;refine vR ?_<|zC t0 t1 t5<|hT;refine qG [] .nil qH ⟨qB,qE.fin (have h:=hO1;qE.re h)⟩
    .rw [hcond _ _ qc qc rfl];refine vR ?_<|qr t0 t1 t5 p5 t9 t10 hT hRl r0 r0E f0 f0E<|qr f0l hcd hcdl hcdE hcc hxc f3 f3E f3l yoh h3 hxl<|qk her herE<|herl;intro K hK;have fx:=aI t0 (aI t1 (aI t5 p5));refine zk h0 (have h:=hO;qE.re h) (qX _) (hF:=λhO=>tD gl _ p m fs f.next (6,(x:Int)) cc 1 3 qB qB hgd hcc2 hm0 qc qc hfl (λ_=>hst1 qB) hnsl hO) (h:=?_);rintro y H1 ⟨rfl,hO1⟩;clear fx;refine vR ?_<|zC t0 t1 t5<|hT;refine qG [] .nil qH ⟨qB,qE.fin (have h:=hO1;qE.re h)⟩
    .rw [hcond _ _ qc qc rfl];refine vR ?_<|qr t0 t1 t5 p5 t9 t10 hT hRl r0 r0E f0 f0E<|qr f0l hcd hcdl hcdE hcc hxc f3 f3E f3l yoh h3 hxl<|qk her herE<|herl;intro K hK;have fx:=aI t0 (aI t1 (aI t5 p5));refine zk h0 (have h:=hO;qE.re h) (qX _) (hF:=λhO=>tD gl _ p m fs f.next (7,(x:Int)) cc 2 3 qB qB hgd hcc2 hm0 qc qc hfl (λh=>wH) hnsl hO) (h:=?_);rintro y H1 ⟨rfl,hO1⟩;clear fx;refine vR ?_<|zC t0 t1 t5<|hT;refine qG [] .nil qH ⟨qB,qE.fin (have h:=hO1;qE.re h)⟩
  have hx7:x<8:=by have:=hnam qA c13.2;omega
  have hxl:(x:Int)<8:=qA;have hx7':x<=7:=qA;have hc:c=8\/c=11\/c=9\/c=10\/c=12\/c=13:=qA;have hWg:∀ c:Int,8<=c->c<=10->iX p m fs f.next (c,(x:Int)) (6+x * 3):=λc h1 h2=>by rw [mC];exact iX.zJ hg8 h1 h2 hx7
  have hWn:∀ c:Int,11<=c->iX p m fs f.next (c,(x:Int)) (yo fs.length+4+x * 3):=λc h1=>by rw [mC];exact iX.name hn8 qA h1 hx7
  rcases hc with rfl|rfl|rfl|rfl|rfl|rfl
  .rw [Kf qB];refine vR ?_<|jQ t0 t1 t5 p5 t9 t10<|hxl;intro K hK;have fx:=aI t0 (aI t1 (aI t5 p5));refine zk h0 (have h:=hO;qE.re h) (qX _) (hF:=λhO=>Nb gl _ p m fs f.next 8 x qB hx7 hg8 hn8 hm0 hfl hnsl hO) (h:=?_);rintro y H1 ⟨rfl,hO1⟩;clear fx;refine vR ?_<|zC t0 t1 t5<|hT;refine qG [] .nil qH ⟨qB,qE.fin (have h:=hO1;qE.re h)⟩
  .rw [Kf qB];refine vR ?_<|jQ t0 t1 t5 p5 t9 t10<|hxl;intro K hK;have fx:=aI t0 (aI t1 (aI t5 p5));refine zk h0 (have h:=hO;qE.re h) (qX _) (hF:=λhO=>Nb gl _ p m fs f.next 11 x qB hx7 hg8 hn8 hm0 hfl hnsl hO) (h:=?_);rintro y H1 ⟨rfl,hO1⟩;clear fx;refine vR ?_<|zC t0 t1 t5<|hT;refine qG [] .nil qH ⟨qB,qE.fin (have h:=hO1;qE.re h)⟩
  .rw [Bv qc qc qc rfl];refine vR ?_<|yz t0 t1 t5 p5 t9 t10 hxl hx7'<|yoh;intro K hK;have fx:=aI t0 (aI t1 (aI t5 p5));refine zk h0 (have h:=hO;qE.re h) (qX _) (hF:=λhO=>Ci gl _ p m fs f.next (9,(x:Int)) _ 1 4 (hWg _ qc qc) hm0 qc qc hfl (λ_=>hst1 qB) hnsl hO) (h:=?_);rintro y H1 ⟨rfl,hO1⟩;clear fx;refine vR ?_<|zC t0 t1 t5<|hT;refine qG [] .nil qH ⟨qB,qE.fin (have h:=hO1;qE.re h)⟩
  .rw [Bv qc qc qc rfl];refine vR ?_<|yz t0 t1 t5 p5 t9 t10 hxl hx7'<|yoh;intro K hK;have fx:=aI t0 (aI t1 (aI t5 p5));refine zk h0 (have h:=hO;qE.re h) (qX _) (hF:=λhO=>Ci gl _ p m fs f.next (10,(x:Int)) _ 2 4 (hWg _ qc qc) hm0 qc qc hfl (λh=>wH) hnsl hO) (h:=?_);rintro y H1 ⟨rfl,hO1⟩;clear fx;refine vR ?_<|zC t0 t1 t5<|hT;refine qG [] .nil qH ⟨qB,qE.fin (have h:=hO1;qE.re h)⟩
  .rw [Bv qc qc qc rfl];refine vR ?_<|yz t0 t1 t5 p5 t9 t10 hxl hx7'<|yoh;intro K hK;have fx:=aI t0 (aI t1 (aI t5 p5));refine zk h0 (have h:=hO;qE.re h) (qX _) (hF:=λhO=>Ci gl _ p m fs f.next (12,(x:Int)) _ 1 4 (hWn _ qc) hm0 qc qc hfl (λ_=>hst1 qB) hnsl hO) (h:=?_);rintro y H1 ⟨rfl,hO1⟩;clear fx;refine vR ?_<|zC t0 t1 t5<|hT;refine qG [] .nil qH ⟨qB,qE.fin (have h:=hO1;qE.re h)⟩
  .rw [Bv qc qc qc rfl];refine vR ?_<|yz t0 t1 t5 p5 t9 t10 hxl hx7'<|yoh;intro K hK;have fx:=aI t0 (aI t1 (aI t5 p5));refine zk h0 (have h:=hO;qE.re h) (qX _) (hF:=λhO=>Ci gl _ p m fs f.next (13,(x:Int)) _ 2 4 (hWn _ qc) hm0 qc qc hfl (λh=>wH) hnsl hO) (h:=?_);rintro y H1 ⟨rfl,hO1⟩;clear fx;refine vR ?_<|zC t0 t1 t5<|hT;refine qG [] .nil qH ⟨qB,qE.fin (have h:=hO1;qE.re h)⟩
 rw [UX c0 c13];have hcs:c=1\/c=14\/c=15\/c=16\/c=17\/c=18\/c=19\/c=20:=qA;have cb:∀ k:Int,2<=k->k<=13->(c==k)=false:=λk h1 h2=>wW
 have hval:∀ H:Nm->Option AO,qE H p (m.top fs f.next)->H (.u 9 0 0)=none->qV prog gl 170 DM [.pt Yn 0,.pt Yn (yo fs.length),.agg [iv c,iv x]] H (λ_ y H'=>y=bv (decide ((ur p m fs f.next (c,(x:Int))).en=0))/\qE H' p (ur p m fs f.next (c,(x:Int)))) qy:=by
  intro H hO h9
  have h17:c=17->(x:Int)<=1/\((x:Int)).toNat+1<=f.next.stack.length/\fs.length+1<=150:=λh=>by
   refine⟨hcl1 h,?_,hf16 (.inr h)⟩;subst h;simp at hok;exact hok.1
  have h14:c=14->2<=f.next.stack.length:=by rintro rfl;simp at hok;exact hok.1
  have h18:c=18->(x:Int)<=7/\1<=f.next.stack.length:=by rintro rfl;simp at hok;exact⟨hatt rfl,hok.1⟩
  have h19:c=19\/c=20->1<=f.next.stack.length:=by rintro (rfl|rfl) <;> simp at hok <;> exact hok.1
  rcases hcs with h|h|h|h|h|h|h|h
  .exact Gv gl H p m fs f.next (c,(x:Int)) harg (.inl h) f.pc hP hM h17 h18 hnsl hfl hm0 hO
  .exact qBM gl H p m fs f.next (c,(x:Int)) harg h f.pc hP hM (h14 h) hnsl hfl hm0 hO
  .exact Nf gl H p m fs f.next (c,(x:Int)) harg (.inl h) f.pc hP hM (hbk (.inl h)) (λh'=>hf16 (.inl h')) hnsl hfl hm0 h9 hO
  .exact Nf gl H p m fs f.next (c,(x:Int)) harg (.inr h) f.pc hP hM (hbk (.inr h)) (λh'=>hf16 (.inl h')) hnsl hfl hm0 h9 hO
  .exact Gv gl H p m fs f.next (c,(x:Int)) harg (.inr (.inl h)) f.pc hP hM h17 h18 hnsl hfl hm0 hO
  .exact Gv gl H p m fs f.next (c,(x:Int)) harg (.inr (.inr h)) f.pc hP hM h17 h18 hnsl hfl hm0 hO
  .exact Ng gl H p m fs f.next (c,(x:Int)) harg (.inl h) f.pc hP hM (h19 (.inl h)) hret hgsl hne20 hnsl hfl hm0 h9 hO
  .exact Ng gl H p m fs f.next (c,(x:Int)) harg (.inr h) f.pc hP hM (h19 (.inr h)) hret hgsl hne20 hnsl hfl hm0 h9 hO
 have e2:=cb 2 qc qc;have e3:=cb 3 qc qc;have e4:=cb 4 qc qc;have e5:=cb 5 qc qc;have e6:=cb 6 qc qc;have e7:=cb 7 qc qc;have e8:=cb 8 qc qc;have e9:=cb 9 qc qc;have e10:=cb 10 qc qc;have e11:=cb 11 qc qc;have e12:=cb 12 qc qc;have e13:=cb 13 qc qc;have fx:=qr t0 t1 t5 p5 t9 t10 cb0 e2 e3 e4 e5 e6<|jQ e7 e8 e9 e10 e11 e12<|e13;refine qQ ?_
 repeat ((first|refine qf (id:=10) LW mixed ?_|refine qf (id:=13) LX mixed ?_|refine qf (id:=19) LY mixed ?_);refine zQ ?_;refine qQ ?_)
 clear fx;intro K hK;have fx:=aI t0 (aI t1 (aI t5 p5));refine zk h0 (have h:=hO;qE.re h) (qX _) (hF:=λhO=>hval _ hO cX) (h:=?_);rintro y H1 ⟨rfl,hO1⟩;clear fx;have fx:=qS;refine qQ ?_
 repeat ((first|refine qf (id:=10) LW mixed ?_|refine qf (id:=13) LX mixed ?_|refine qf (id:=19) LY mixed ?_);refine zQ ?_;refine qQ ?_)
 clear fx;refine qG [] .nil qH ⟨qB,qE.fin (have h:=hO1;qE.re h)⟩
end Go.Proofs.YtjgpejikjhojcaaGreatDoor
end
