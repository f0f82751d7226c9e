import Derived.Test.YtjgpejikjhojcaaGreatDoorR36
import Derived.Test.YtjgpejikjhojcaaGreatDoorR37
set_option linter.unusedSimpArgs false
set_option linter.unusedVariables false
set_option maxRecDepth 100000
set_option maxHeartbeats 4000000

section
namespace Go.Proofs.YtjgpejikjhojcaaGreatDoor
open Go Go.Hm Go.Proofs Tryz
theorem HB (gl) (H:Nm->Option AO) (p:qC) (m:qR) (fs:List qO) (f:qO) (o:Int×Int) (q wy:Nat) (e:Int) (h4:o.1<=4) (hq:o.2.toNat=q) (hql:q<f.qq.length) (hm0:m.en=0) (he:e≠0) (hwy:wy<=2) (hfl:fs.length<=150) (hst:wy=1->1<=f.stack.length) (hsl:f.stack.length<=1000) (h9:H (.u 9 0 0)=none) (hO:qD H p (m.top fs f)) :
  qZ prog gl 168 DM [.pt Yn 0,.pt Yn (yo fs.length),.ep (.c Yn 0 (yo fs.length+2)) 3 q 0,iv wy,iv e] H (λ_ y H'=>y=bv (decide ((vu m fs f o wy e).en=0))/\qD H' p (vu m fs f o wy e)) zG:=by
 obtain⟨R,j,hT,tr,h2,h3,h28⟩:=hO.yM rfl qA;have hRl:=tr.len;have f28:=tr.f28;have f2:=tr.f2
 have yX:∀ g s,g.qq=f.qq->jr m fs g o s=m.top fs { g with qq:=f.qq.set q s }:=λg s hg=>by
  simp only [jr,if_pos h4,hg,hq]
 have yoh:yo fs.length+29<=4415:=uu;obtain⟨s,hs1⟩:=gX hql;obtain⟨_,hs1E⟩:=gS hs1;have hs:kG m f o=s:=by simp [kG,h4,hq,jW,hs1]
 have hrow:∀ (g:qO) s J,g.qG=g.qG->(∀ i:Nat,(J i:List AV).length=29)->qg p (m.top fs g) (fs.length+1) (yc (fs++[g]) J)=qg p (m.top fs { g with qq:=g.qq.set q s }) (fs.length+1) (yc (fs++[{ g with qq:=g.qq.set q s }]) J):=by
  intro g s J _ hJ;have:=DE (p:=p) (m:=m.top fs g) (h:=fs.length+1) (J:=J) (fs:=fs++[g]) (i:=fs.length) (f:=g) (g:={ g with qq:=g.qq.set q s }) (j:=0) (vals:=[]) hJ qB qA qB (by simp [qp,y4]);have e:qp (qg p (m.top fs g) (fs.length+1) (yc (fs++[g]) J)) (32+(29 * fs.length+0)) []=qg p (m.top fs g) (fs.length+1) (yc (fs++[g]) J):=xK;rw [e] at this;refine this.trans ?_;simp [qg,yA,yB,yZ,qR.top]
 refine qZ.q9 func168 [.tmp 10] ntmps168 (λ_=>zC) λC w g root hroot=>?_;by_cases w1:wy=1
 .subst w1;have hres:vu m fs f o 1 e=jr m fs f.pop o (some f.zB):=rfl;rw [hres,yX f.pop _ rfl];obtain⟨k,hk⟩:∃ k,f.stack.length=k+1:=⟨f.stack.length - 1,by have:=hst rfl;omega⟩;refine qJ ?_<| h2;intro K hK;have hO0:qD (wD [.pt Yn 0,.pt Yn (yo fs.length),.ep (.c Yn 0 (yo fs.length+2)) 3 q 0,iv 1,iv e] H 37 gl).hp p (m.top fs f):=(have h:=hO;qD.re h);obtain⟨R0,R',vs,k1,k2,k3,k4,k5,k6⟩:=qD.wN (j:=yo fs.length+2) hO0 rfl qA hk qA;have fx:=h2;refine Cz DM (.c Yn 0 (yo fs.length+2)) (.u 9 0 0) Yn (.row 4415 [qp R0 (yo fs.length+28) [.hs (.c Yn 0 (yo fs.length+28)) 2 0 k]]) (qW.av f.zB) (hV:=rfl) (hN:=rfl) (hVe:=xV) (λ_=>zC) qB (λ_=>DH) (λ_=>DJ) ya (λk i j he=>?_) rfl qB qB (hF:=IJ) (h:=?_)
  .rcases hO.ext hO0 (qa _) k i j he with h|h
   .exact .inl h
   .refine .inr λh'=>h ?_;simp only [z6]
    split
    .exact h'
    .rfl
  intro hp' hS;clear fx;have hO1:=(qD.cn (m:=m.top fs f) hO0 rfl qA k1 hk).same hS;obtain⟨R1,j1,hT1,tr1,h21,h31,h281⟩:=qD.yM (f:=f.pop) hO1 rfl qA;have h21':hp' (.c Yn 0 (yo fs.length+2))=some (.row 3 (zA f.qq)):=h21;generalize hv:f.zB=v at *;obtain⟨v1,v2⟩:=v;refine qJ ?_<|qk h2 h21'<|hql;refine qF [] .nil qE ⟨Be,qD.fin ?_⟩;have h:=hO1;exact qD.uC h rfl (m':=m.top fs { f.pop with qq:=f.qq.set q (some (v1,v2)) }) rfl rfl (nW (R':=R1) hT1 cM (λJ hJ e=>e.trans (hrow f.pop _ J rfl hJ))) (h6t:=qB) (h7t:=by simp [h31]) (h8t:=⟨j1,rS⟩)
 .have w1':((wy:Int)==1)=false:=ku
  cases s with
  | none =>
   have hres:vu m fs f o wy e=m.stop fs f e:=EH;rw [hres];refine qJ ?_<|zN w1' h2 hs1 hs1E<|hql;intro K hK;have fx:=qd;refine jC hO (have h:=hO;qD.re h) (qa _) (hF:=λ_=>em gl DM (λ_=>zC) _ R e zE hRl) (h:=?_);intro y H1 hw;clear fx;have hO1:=qD.qm (qD.ee (m:=m.top fs f) (e:=e) (have h:=hO;qD.re h) rfl zE) hw;obtain⟨rfl,-⟩:=hw;refine qJ ?_<|qd;refine qF [] .nil qE ⟨by simp [qR.stop,he],qD.fin (have h:=hO1;qD.re h)⟩
  | some v =>
   obtain⟨v1,v2⟩:=v;by_cases w0:wy=0
   .subst w0;have hres:vu m fs f o 0 e=m.top fs (f.push (v1,v2)):=EP;rw [hres];refine qJ ?_<|zN w1' h2 hs1 hs1E<|hql;intro K hK;have fx:=aI h2 (aI hs1 hs1E);refine jC hO (have h:=hO;qD.re h) (qa _) (hF:=λ_=>dK gl DM (λ_=>zC) _ R (yo fs.length) f.stack j (v1,v2) rfl rfl zE f28 kD hsl yoh) (h:=?_);intro y H1 hw;clear fx;have hO1:=qD.cp (m:=m.top fs f) dS rfl qA rfl zE hw;refine qJ ?_<|qd;refine qF [] .nil qE ⟨eG,qD.fin (have h:=hO1;qD.re h)⟩
   .have hres:vu m fs f o wy e=jr m fs f o none:=Dl;rw [hres,yX f _ rfl];have w0':((wy:Int)==0)=false:=ku;refine qJ ?_<|jH w1' w0' h2 hs1 hs1E<|hql;refine qF [] .nil qE ⟨Be,qD.fin ?_⟩;have h:=hO;exact qD.uC h rfl (m':=m.top fs { f with qq:=f.qq.set q none }) rfl rfl (nW (R':=R) hT zE (λJ hJ e=>e.trans (hrow f _ J rfl hJ))) (h6t:=qB) (h7t:=uT) (h8t:=⟨j,kD⟩)
abbrev Wp:qV:=tD<|.done
abbrev Lu:qV:=ct<|.l 9 [4,2,1]<|.done
abbrev Wq:qV:=bF<|.done
theorem c9 {A G G2:Prop} (k:G2) (x:A) (h:A->jL G2->G:=by
 intro fx kk;refine qK ?_
 repeat ((first|refine qQ (id:=1) Wp mixed ?_|refine qQ (id:=2) Lu mixed ?_|refine qQ (id:=4) Wq mixed ?_|refine qQ (id:=5) Lu mixed ?_);refine zK ?_;refine qK ?_)
 exact kk.h):G:=h x ⟨k⟩
theorem Nz (gl) (H:Nm->Option AO) (p:qC) (m:qR) (fs:List qO) (f:qO) (c x:Nat) (hc:c=8\/c=11) (hx:x<8) (hg8:m.globals.length=8) (hn8:f.names.length=8) (hm0:m.en=0) (hfl:fs.length<=150) (hsl:f.stack.length<=1000) (hO:qD H p (m.top fs f)) :
  qZ prog gl 169 DM [.pt Yn 0,.pt Yn (yo fs.length),.agg [iv c,iv x]] H (λ_ y H'=>y=bv (decide ((vj p m fs f (c,(x:Int))).en=0))/\qD H' p (vj p m fs f (c,(x:Int)))) zG:=by
 refine qZ.q9 func169 [.tmp 6] ntmps169 (λ_=>zC) λC w g root hroot=>?_;refine qJ ?_<|qd;refine uZ (λs=>s.tm 0=.pt Yn 0/\s.tm 1=.pt Yn (yo fs.length)/\s.tm 5=.pt (.s 5) 0/\s.hp (.s 5)=some (.row 2 [[iv c,iv x]])/\qD s.hp p (m.top fs f)) ⟨qB,qB,qB,qB,hO.qv (f:=kl (.s 5)) (λk hk=>by simp [kl,(jg (λ_=>zC) hk 5).2]) (λk hk=>by have:=jg (λ_=>zC) hk 5;simp [this.1,this.2])⟩ ?_;have h0:=hO;clear hO;rintro s ⟨t0,t1,t5,p5,hO⟩;obtain⟨R,j,hT,tr,h2,h3,h28⟩:=hO.yM rfl qA;have hRl:=tr.len;have f28:=tr.f28;have yoh:yo fs.length+29<=4415:=uu;have hwy:uE p f (c,(x:Int))=4:=by rcases hc with rfl|rfl <;> simp [uE]
 have g0:=tr.gl x 0 hx qA;have g1:=tr.gl x 1 hx qA;have g2:=tr.gl x 2 hx qA;have n0:=tr.nm x 0 hx qA;have n1:=tr.nm x 1 hx qA;have n2:=tr.nm x 2 hx qA;simp only [qR.top,dq] at g0 g1 g2 n0;rw [oR] at g0 g1 g2 n0 n1 n2;rw [<- cF] at g1 g2 n1 n2;have hgN:∀ sn,jW f.names x=sn->kG m f (((11:Nat):Int),(x:Int))=sn:=λsn h=>by simp [kG,h]
 have hgG:∀ sg,jW m.globals x=sg->kG m f (((8:Nat):Int),(x:Int))=sg:=λsg h=>by simp [kG,h]
 have hrest:(c=8\/jW f.names x=none)->vj p m fs f (c,(x:Int))=match jW m.globals x with
   | some v=>m.top fs (f.push v)
   | none=>if (x:Int)=7 then m.top fs (f.push (1,70)) else m.stop fs f 4:=by
  intro h;rcases hc with rfl|rfl
  .cases hs:jW m.globals x with
   | some v=>simp only [vj,hgG _ hs]
   | none=>simp only [vj,hgG _ hs,hwy,if_true,uR,hs]
  .rcases h with h|h
   .cases h
   .simp only [vj,hgN _ h,hwy,if_true,uR]
    rfl
 obtain⟨sn,hsn⟩:∃ sn,jW f.names x=sn:=⟨_,rfl⟩;obtain⟨sg,hsg⟩:∃ sg,jW m.globals x=sg:=⟨_,rfl⟩;rw [hsg] at g0 g1 g2 hrest;rw [hsn] at n0 n1 n2;have hx7:x<=7:=qA;have hlg:6+x * 3+3<=4415:=qA;have hln:yo fs.length+4+x * 3+3<=4415:=qA;have hxl:(x:Int)<8:=qA;rcases hc with rfl|rfl
 .replace hrest:=hrest (.inl rfl)
  cases sg with
  | some v =>
   obtain⟨v1,v2⟩:=v;simp only at hrest;rw [hrest];simp only [Ad,fH,fI] at g0 g1 g2;obtain⟨_,g0E⟩:=gS g0;have g12:=tM g1 g2;have hl2:6+x * 3+1+2<=4415:=qA;refine c9 ?_<|jS t0 t1 t5 p5 hT hRl hlg hl2 g0 g0E<|aI g12<|hxl;intro K hK;have fx:=jS t0 t1 t5 p5 hT hRl hlg hl2 g0 g0E<|aI g12<|hxl;refine jC h0 (have h:=hO;qD.re h) (qa _) (hF:=λ_=>dK gl DM (λ_=>zC) _ R (yo fs.length) f.stack j (v1,v2) rfl rfl zE f28 kD hsl yoh) (h:=?_);intro y H1 hw;clear fx;have hO1:=qD.cp (m:=m.top fs f) dS rfl qA rfl zE hw;obtain⟨R1,j1,hT1,tr1,-,-,-⟩:=qD.yM (f:=f.push (v1,v2)) hO1 rfl qA;have hR1l:=tr1.len;have k12:=tr1.Jf hx hsg;refine c9 ?_<|y8 t0 t1 t5 p5 hT hT1 hR1l hl2 k12<|hxl;refine qF [] .nil qE ⟨eG,qD.fin (have h:=hO1;qD.re h)⟩
  | none =>
   simp only at hrest;simp only [Ac,fH] at g0;obtain⟨_,g0E⟩:=gS g0;by_cases x7:x=7
   .subst x7;rw [if_pos b8] at hrest;rw [hrest];refine c9 ?_<|jN t0 t1 t5 p5 hT hRl g0<|g0E;intro K hK;have fx:=jN t0 t1 t5 p5 hT hRl g0<|g0E;refine jC h0 (have h:=hO;qD.re h) (qa _) (hF:=λ_=>dK gl DM (λ_=>zC) _ R (yo fs.length) f.stack j (1,70) rfl rfl zE f28 kD hsl yoh) (h:=?_);intro y H1 hw;clear fx;have hO1:=qD.cp (m:=m.top fs f) dS rfl qA rfl zE hw;refine c9 ?_<|qd;refine qF [] .nil qE ⟨eG,qD.fin (have h:=hO1;qD.re h)⟩
   .rw [if_neg qA] at hrest;rw [hrest];have x7':((x:Int)==7)=false:=ku;refine c9 ?_<|jS t0 t1 t5 p5 hT hRl hlg g0 g0E x7'<|hxl;intro K hK;have fx:=aI t0 t1;refine jC h0 (have h:=hO;qD.re h) (qa _) (hF:=λ_=>em gl DM (λ_=>zC) _ R 4 zE hRl) (h:=?_);intro y H1 hw;clear fx;have hO1:=qD.qm (qD.ee (m:=m.top fs f) (e:=4) (have h:=hO;qD.re h) rfl zE) hw;obtain⟨rfl,-⟩:=hw;refine c9 ?_<|qd;refine qF [] .nil qE ⟨rT,qD.fin (have h:=hO1;qD.re h)⟩
 .cases sn with
  | some v =>
   obtain⟨v1,v2⟩:=v;have hres:vj p m fs f (((11:Nat):Int),(x:Int))=m.top fs (f.push (v1,v2)):=by simp only [vj,hgN _ hsn]
   rw [hres];simp only [Ad,fH,fI] at n0 n1 n2;obtain⟨_,n0E⟩:=gS n0;have n12:=tM n1 n2;have hl2:yo fs.length+4+x * 3+1+2<=4415:=qA;refine c9 ?_<|jS t0 t1 t5 p5 hT hRl hln hl2 n0 n0E<|aI n12<|hxl;intro K hK;have fx:=jS t0 t1 t5 p5 hT hRl hln hl2 n0 n0E<|aI n12<|hxl;refine jC h0 (have h:=hO;qD.re h) (qa _) (hF:=λ_=>dK gl DM (λ_=>zC) _ R (yo fs.length) f.stack j (v1,v2) rfl rfl zE f28 kD hsl yoh) (h:=?_);intro y H1 hw;clear fx;have hO1:=qD.cp (m:=m.top fs f) dS rfl qA rfl zE hw;obtain⟨R1,j1,hT1,tr1,-,-,-⟩:=qD.yM (f:=f.push (v1,v2)) hO1 rfl qA;have hR1l:=tr1.len;have k12:=tr1.UH hx hsn;refine c9 ?_<|y8 t0 t1 t5 p5 hT hT1 hR1l hl2 k12<|hxl;refine qF [] .nil qE ⟨eG,qD.fin (have h:=hO1;qD.re h)⟩
  | none =>
   replace hrest:=hrest (.inr hsn);simp only [Ac,fH] at n0;obtain⟨_,n0E⟩:=gS n0
   cases sg with
   | some v =>
    obtain⟨v1,v2⟩:=v;simp only at hrest;rw [hrest];simp only [Ad,fH,fI] at g0 g1 g2;obtain⟨_,g0E⟩:=gS g0;have g12:=tM g1 g2;have hl2:6+x * 3+1+2<=4415:=qA;refine c9 ?_<|qh t0 t1 t5 p5 hln n0 n0E hT hRl hlg hl2 g0<|qk g0E g12<|hxl;intro K hK;have fx:=qh t0 t1 t5 p5 hln n0 n0E hT hRl hlg hl2 g0<|qk g0E g12<|hxl;refine jC h0 (have h:=hO;qD.re h) (qa _) (hF:=λ_=>dK gl DM (λ_=>zC) _ R (yo fs.length) f.stack j (v1,v2) rfl rfl zE f28 kD hsl yoh) (h:=?_);intro y H1 hw;clear fx;have hO1:=qD.cp (m:=m.top fs f) dS rfl qA rfl zE hw;obtain⟨R1,j1,hT1,tr1,-,-,-⟩:=qD.yM (f:=f.push (v1,v2)) hO1 rfl qA;have hR1l:=tr1.len;have k12:=tr1.Jf hx hsg;refine c9 ?_<|y8 t0 t1 t5 p5 hT hT1 hR1l hl2 k12<|hxl;refine qF [] .nil qE ⟨eG,qD.fin (have h:=hO1;qD.re h)⟩
   | none =>
    simp only at hrest;simp only [Ac,fH] at g0;obtain⟨_,g0E⟩:=gS g0;by_cases x7:x=7
    .subst x7;rw [if_pos b8] at hrest;rw [hrest];refine c9 ?_<|jS t0 t1 t5 p5 hln n0 n0E hT hRl g0<|g0E;intro K hK;have fx:=jS t0 t1 t5 p5 hln n0 n0E hT hRl g0<|g0E;refine jC h0 (have h:=hO;qD.re h) (qa _) (hF:=λ_=>dK gl DM (λ_=>zC) _ R (yo fs.length) f.stack j (1,70) rfl rfl zE f28 kD hsl yoh) (h:=?_);intro y H1 hw;clear fx;have hO1:=qD.cp (m:=m.top fs f) dS rfl qA rfl zE hw;refine c9 ?_<|qd;refine qF [] .nil qE ⟨eG,qD.fin (have h:=hO1;qD.re h)⟩
    .rw [if_neg qA] at hrest;rw [hrest];have x7':((x:Int)==7)=false:=ku;refine c9 ?_<|qh t0 t1 t5 p5 hln n0 n0E hT hRl hlg g0 g0E<|aI x7'<|hxl;intro K hK;have fx:=aI t0 t1;refine jC h0 (have h:=hO;qD.re h) (qa _) (hF:=λ_=>em gl DM (λ_=>zC) _ R 4 zE hRl) (h:=?_);intro y H1 hw;clear fx;have hO1:=qD.qm (qD.ee (m:=m.top fs f) (e:=4) (have h:=hO;qD.re h) rfl zE) hw;obtain⟨rfl,-⟩:=hw;refine c9 ?_<|qd;refine qF [] .nil qE ⟨rT,qD.fin (have h:=hO1;qD.re h)⟩
abbrev XP:qV:=aK<|.l 12 [2]<|.l 13 []<|.done
abbrev XQ:qV:=GM<|.done
abbrev XR:qV:=ea<|.l 14 [3,2]<|.l 15 []<|.done
abbrev Lv:qV:=kf<|.l 11 []<|.l 12 []<|.done
abbrev Lw:qV:=kf<|.l 11 [6,5,4,3,2,1,0]<|.q 12<|.l 13 [4,3,2,1,0]<|.l 14 [0]<|.q 15<|.q 16<|.l 17 []<|.done
abbrev Lx:qV:=a7<|.l 7 [2,1,0]<|.l 8 []<|.done
abbrev Ly:qV:=aL<|.l 6 [4,3,2,1,0]<|.l 7 [4,3,2,1,0]<|.l 8 [4,3,2,1,0]<|.l 9 [0]<|.q 10<|.q 11<|.l 12 []<|.done
theorem vV {A G G2:Prop} (k:G2) (x:A) (h:A->jL G2->G:=by
 intro fx kk;refine qK ?_
 repeat ((first|refine qQ (id:=7) XP mixed ?_|refine qQ (id:=12) XQ mixed ?_|refine qQ (id:=14) XR mixed ?_|refine qQ (id:=20) Lv mixed ?_|refine qQ (id:=23) Lv mixed ?_);refine zK ?_;refine qK ?_)
 exact kk.h):G:=h x ⟨k⟩
theorem qCS (gl) (H:Nm->Option AO) (p:qC) (m:qR) (fs:List qO) (f:qO) (o:Int×Int) (hP:zk p) (hM:yV p m fs f) (ho:(zR p f.qG)[f.pc]?=some o) (hm0:m.en=0) (h9:H (.u 9 0 0)=none) (hO:qD H p (m.top fs f.next)) :
  qZ prog gl 118 DM [.pt Yn 0,.pt Yn (yo fs.length),.agg [iv o.1,iv o.2]] H (λ_ y H'=>y=bv (decide ((jp p m fs f.next o).en=0))/\qD H' p (jp p m fs f.next o)) zG:=by
 have h0:=hO;have hol:=pT (p:=p) (b:=f.qG) hP.sh;have hpc:=hM.top.pc;have hsl:=hM.top.sl;have hdp:=hM.deep;have hmd:=hM.made;have hp:=hM.top.qG;have hp7:=hP.sh.len;have htr:=hM.tr;obtain⟨hol2,hoE⟩:=gS ho;obtain⟨k,hk⟩:=gX hp;have hOr:=CV hP.sh hk o (gM ho);have hcode:=hOr.code;have harg:=hOr.arg;have hok:=hM.top.ok;rw [mq ho,dq] at hok
 have hgsl:∀ g∈fs,g.stack.length<=1000:=λg hg=>by
  have h1:=(hM.low g hg).sl;have h2:=(hM.low g hg).pc;have h3:=pT (p:=p) (b:=g.qG) hP.sh;omega
 have hnsl:f.next.stack.length<=1000:=by simp only [qO.next];omega
 have hn8:=hM.top.nm.1;have hg8:=hM.zJ.1;have hfl:fs.length<=150:=qA;have hsO:=λh13=>rA.of hM hOr h13;have hnam:=hOr.name;have hfas:=hOr.JI;have hatt:=hOr.attr;have hbk:=hOr.qG;have hcl1:=hOr.call;have hret:=hOr.ret
 have hf16:o.1=16\/o.1=17->fs.length+1<=150:=λh=>by
  have:=Uz hM ho h;omega
 have hne20:o.1=20->fs≠[]:=λh e=>by
  subst e;have h1:=hM.b0 f qB;have h2:=hret h;have h3:=(hP.sh.dW hk).2 h1;simp [j9,hk,h3] at h2
 have hch:5<=o.1->o.1<=7->∃ c,f.cells[o.2.toNat]?=some c/\c<m.cells.length:=λh1 h2=>by
  have h3:=(hsO ⟨qA,qA⟩).cell h1 h2;exact⟨_,h3,hM.top.cr _ (gM h3)⟩
 have htick:=OB gl;obtain⟨c,a⟩:=o;obtain⟨x,rfl⟩:∃ x:Nat,a=x:=⟨a.toNat,lC⟩;simp only at hcode harg hsO hnam hfas hatt hbk hcl1 hret hf16 hne20 hch;simp only [jz] at hok;refine qZ.q9 func118 [.tmp 6] ntmps118 (λ_=>zC) λC w g root hroot=>?_;refine qJ ?_<|qd;refine uZ (λs=>s.tm 0=.pt Yn 0/\s.tm 1=.pt Yn (yo fs.length)/\s.tm 5=.pt (.s 5) 0/\s.hp (.s 5)=some (.row 2 [[iv c,iv x]])/\s.tm 9=iv c/\s.tm 10=bv (c==0)/\s.hp (.u 9 0 0)=none/\qD s.hp p (m.top fs f.next)) ⟨qB,qB,qB,qB,qB,qB,cO,mW⟩ ?_;clear hO;rintro s ⟨t0,t1,t5,p5,t9,t10,h9,hO⟩;obtain⟨R,j,hT,tr,h2,h3,h28⟩:=hO.yM rfl qA;have hRl:=tr.len;have hnb:f.next.qG=f.qG:=rfl;have hnp:f.next.pc=f.pc+1:=rfl;have hnc:f.next.cells=f.cells:=rfl;have hnf:f.next.qq=f.qq:=rfl;have hns:f.next.stack=f.stack:=rfl;have yoh:yo fs.length+29<=4415:=uu;by_cases c0:c=0
 .subst c0;have hord:jp p m fs f.next (0,(x:Int))=wU p m fs f.next:=by simp [jp]
  rw [hord];refine vV ?_<|jH t0 t1 t5 p5 t9<|t10;intro K hK;have fx:=aI t0 t1;refine jC h0 (have h:=hO;qD.re h) (qa _) (hF:=λhO=>OB gl _ p m fs f.next (0,(x:Int)) (by rw [hnp];exact ho) rfl hp qA hm0 hfl qA qA qA (by rw [hnp];exact hol2) (by rw [hnb];omega) hO) (h:=?_);rintro y H1 ⟨rfl,hO1⟩;clear fx;refine vV ?_<|qd;refine qF [] .nil qE ⟨qB,qD.fin (have h:=hO1;qD.re h)⟩
 have cb0:(c==0)=false:=by simpa using c0
 by_cases c13:2<=c/\c<=13
 .have hst1:c=3\/c=6\/c=9\/c=12->1<=f.next.stack.length:=λh=>by rcases h with rfl|rfl|rfl|rfl <;> simp at hok <;> exact hok.1
  have f2:=tr.f2;obtain⟨f2l,f2E⟩:=gS f2;have f0:=tr.f0;obtain⟨f0l,f0E⟩:=gS f0;have f3:=tr.f3;obtain⟨f3l,f3E⟩:=gS f3;have r0:=tr.r0;obtain⟨_,r0E⟩:=gS r0;have hcd:(jb p p.length)[f.qG]?=some (zO p f.qG):=xH;obtain⟨hcdl,hcdE⟩:=gS hcd;have hcc:(zO p f.qG).cells=qY p f.qG:=fT;rw [hnb] at f0 f0E;rw [hnc] at f3 f3E h3;rw [hnf] at f2 f2E h2;by_cases c4:c<=4
  .have hxf:x<f.qq.length:=by have:=hfas c13.1 c4;rw [hM.top.fl];omega
   have hc:c=2\/c=3\/c=4:=qA;rcases hc with rfl|rfl|rfl
   .rw [FZ qe qe rfl];refine vV ?_<|qh t0 t1 t5 p5 t9 t10 hT hRl f2 f2E f2l yoh<|aI hxf<|h2;intro K hK;have fx:=aI t0 (aI t1 (aI t5 p5));refine jC h0 (have h:=hO;qD.re h) (qa _) (hF:=λhO=>HB gl _ p m fs f.next (2,(x:Int)) x 0 2 qB rfl hxf hm0 qe qe hfl (λh=>kR) hnsl cO hO) (h:=?_);rintro y H1 ⟨rfl,hO1⟩;clear fx;refine vV ?_<|zD t0 t1 t5<|hT;refine qF [] .nil qE ⟨qB,qD.fin (have h:=hO1;qD.re h)⟩
   .rw [FZ qe qe rfl];refine vV ?_<|qh t0 t1 t5 p5 t9 t10 hT hRl f2 f2E f2l yoh<|aI hxf<|h2;intro K hK;have fx:=aI t0 (aI t1 (aI t5 p5));refine jC h0 (have h:=hO;qD.re h) (qa _) (hF:=λhO=>HB gl _ p m fs f.next (3,(x:Int)) x 1 2 qB rfl hxf hm0 qe qe hfl (λ_=>hst1 qB) hnsl cO hO) (h:=?_);rintro y H1 ⟨rfl,hO1⟩;clear fx;refine vV ?_<|zD t0 t1 t5<|hT;refine qF [] .nil qE ⟨qB,qD.fin (have h:=hO1;qD.re h)⟩
   .rw [FZ qe qe rfl];refine vV ?_<|qh t0 t1 t5 p5 t9 t10 hT hRl f2 f2E f2l yoh<|aI hxf<|h2;intro K hK;have fx:=aI t0 (aI t1 (aI t5 p5));refine jC h0 (have h:=hO;qD.re h) (qa _) (hF:=λhO=>HB gl _ p m fs f.next (4,(x:Int)) x 2 2 qB rfl hxf hm0 qe qe hfl (λh=>kR) hnsl cO hO) (h:=?_);rintro y H1 ⟨rfl,hO1⟩;clear fx;refine vV ?_<|zD t0 t1 t5<|hT;refine qF [] .nil qE ⟨qB,qD.fin (have h:=hO1;qD.re h)⟩
  by_cases c7:c<=7
  .obtain⟨cc,hcc1,hcc2⟩:=hch qA c7;simp only [uR] at hcc1;have hgd:f.next.cells.getD ((x:Int)).toNat 0=cc:=by rw [hnc,bT,uR,hcc1];rfl
   obtain⟨hxl,_⟩:=gS hcc1;have her:(za f.cells)[x]?=some [.pt (.u 7 cc 0) 0]:=by rw [JD];simp [hcc1,vo]
   obtain⟨herl,herE⟩:=gS her;have hc:c=5\/c=6\/c=7:=qA;by_cases hxc:(x:Int)<((qY p f.qG).length:Int)
   .have hcond:∀ (c:Int) (w:Nat),5<=c->c<=7->((c - 2) % 3).toNat=w->jp p m fs f.next (c,(x:Int))=vu m fs f.next (c,(x:Int)) w 2:=λc w h1 h2 hw=>by rw [LL h1 h2 hw,hnb,if_pos hxc]
    rcases hc with rfl|rfl|rfl
    .rw [hcond _ _ qe qe rfl];refine vV ?_<|qh t0 t1 t5 p5 t9 t10 hT hRl r0 r0E f0 f0E<|qh f0l hcd hcdl hcdE hcc hxc f3 f3E f3l yoh h3 hxl<|qk her herE<|herl;intro K hK;have fx:=aI t0 (aI t1 (aI t5 p5));refine jC h0 (have h:=hO;qD.re h) (qa _) (hF:=λhO=>tU gl _ p m fs f.next (5,(x:Int)) cc 0 2 qB qB hgd hcc2 hm0 qe qe hfl (λh=>kR) hnsl hO) (h:=?_);rintro y H1 ⟨rfl,hO1⟩;clear fx;refine vV ?_<|zD t0 t1 t5<|hT;refine qF [] .nil qE ⟨qB,qD.fin (have h:=hO1;qD.re h)⟩
    .rw [hcond _ _ qe qe rfl];refine vV ?_<|qh t0 t1 t5 p5 t9 t10 hT hRl r0 r0E f0 f0E<|qh f0l hcd hcdl hcdE hcc hxc f3 f3E f3l yoh h3 hxl<|qk her herE<|herl;intro K hK;have fx:=aI t0 (aI t1 (aI t5 p5));refine jC h0 (have h:=hO;qD.re h) (qa _) (hF:=λhO=>tU gl _ p m fs f.next (6,(x:Int)) cc 1 2 qB qB hgd hcc2 hm0 qe qe hfl (λ_=>hst1 qB) hnsl hO) (h:=?_);rintro y H1 ⟨rfl,hO1⟩;clear fx;refine vV ?_<|zD t0 t1 t5<|hT;refine qF [] .nil qE ⟨qB,qD.fin (have h:=hO1;qD.re h)⟩
    .rw [hcond _ _ qe qe rfl];refine vV ?_<|qh t0 t1 t5 p5 t9 t10 hT hRl r0 r0E f0 f0E<|qh f0l hcd hcdl hcdE hcc hxc f3 f3E f3l yoh h3 hxl<|qk her herE<|herl;intro K hK;have fx:=aI t0 (aI t1 (aI t5 p5));refine jC h0 (have h:=hO;qD.re h) (qa _) (hF:=λhO=>tU gl _ p m fs f.next (7,(x:Int)) cc 2 2 qB qB hgd hcc2 hm0 qe qe hfl (λh=>kR) hnsl hO) (h:=?_);rintro y H1 ⟨rfl,hO1⟩;clear fx;refine vV ?_<|zD t0 t1 t5<|hT;refine qF [] .nil qE ⟨qB,qD.fin (have h:=hO1;qD.re h)⟩
   .have hcond:∀ (c:Int) (w:Nat),5<=c->c<=7->((c - 2) % 3).toNat=w->jp p m fs f.next (c,(x:Int))=vu m fs f.next (c,(x:Int)) w 3:=λc w h1 h2 hw=>by rw [LL h1 h2 hw,hnb,if_neg hxc]
    rcases hc with rfl|rfl|rfl
    .rw [hcond _ _ qe qe rfl];refine vV ?_<|qh t0 t1 t5 p5 t9 t10 hT hRl r0 r0E f0 f0E<|qh f0l hcd hcdl hcdE hcc hxc f3 f3E f3l yoh h3 hxl<|qk her herE<|herl;intro K hK;have fx:=aI t0 (aI t1 (aI t5 p5));refine jC h0 (have h:=hO;qD.re h) (qa _) (hF:=λhO=>tU gl _ p m fs f.next (5,(x:Int)) cc 0 3 qB qB hgd hcc2 hm0 qe qe hfl (λh=>kR) hnsl hO) (h:=?_);rintro y H1 ⟨rfl,hO1⟩;clear fx;refine vV ?_<|zD t0 t1 t5<|hT;refine qF [] .nil qE ⟨qB,qD.fin (have h:=hO1;qD.re h)⟩
    .rw [hcond _ _ qe qe rfl];refine vV ?_<|qh t0 t1 t5 p5 t9 t10 hT hRl r0 r0E f0 f0E<|qh f0l hcd hcdl hcdE hcc hxc f3 f3E f3l yoh h3 hxl<|qk her herE<|herl;intro K hK;have fx:=aI t0 (aI t1 (aI t5 p5));refine jC h0 (have h:=hO;qD.re h) (qa _) (hF:=λhO=>tU gl _ p m fs f.next (6,(x:Int)) cc 1 3 qB qB hgd hcc2 hm0 qe qe hfl (λ_=>hst1 qB) hnsl hO) (h:=?_);rintro y H1 ⟨rfl,hO1⟩;clear fx;refine vV ?_<|zD t0 t1 t5<|hT;refine qF [] .nil qE ⟨qB,qD.fin (have h:=hO1;qD.re h)⟩
    .rw [hcond _ _ qe qe rfl];refine vV ?_<|qh t0 t1 t5 p5 t9 t10 hT hRl r0 r0E f0 f0E<|qh f0l hcd hcdl hcdE hcc hxc f3 f3E f3l yoh h3 hxl<|qk her herE<|herl;intro K hK;have fx:=aI t0 (aI t1 (aI t5 p5));refine jC h0 (have h:=hO;qD.re h) (qa _) (hF:=λhO=>tU gl _ p m fs f.next (7,(x:Int)) cc 2 3 qB qB hgd hcc2 hm0 qe qe hfl (λh=>kR) hnsl hO) (h:=?_);rintro y H1 ⟨rfl,hO1⟩;clear fx;refine vV ?_<|zD t0 t1 t5<|hT;refine qF [] .nil qE ⟨qB,qD.fin (have h:=hO1;qD.re h)⟩
  have hx7:x<8:=by have:=hnam qA c13.2;omega
  have hxl:(x:Int)<8:=qA;have hx7':x<=7:=qA;have hc:c=8\/c=11\/c=9\/c=10\/c=12\/c=13:=qA;have hWg:∀ c:Int,8<=c->c<=10->ij p m fs f.next (c,(x:Int)) (6+x * 3):=λc h1 h2=>by rw [oR];exact ij.zJ hg8 h1 h2 hx7
  have hWn:∀ c:Int,11<=c->ij p m fs f.next (c,(x:Int)) (yo fs.length+4+x * 3):=λc h1=>by rw [oR];exact ij.name hn8 qA h1 hx7
  rcases hc with rfl|rfl|rfl|rfl|rfl|rfl
  .rw [LM qB];refine vV ?_<|jI t0 t1 t5 p5 t9 t10<|hxl;intro K hK;have fx:=aI t0 (aI t1 (aI t5 p5));refine jC h0 (have h:=hO;qD.re h) (qa _) (hF:=λhO=>Nz gl _ p m fs f.next 8 x qB hx7 hg8 hn8 hm0 hfl hnsl hO) (h:=?_);rintro y H1 ⟨rfl,hO1⟩;clear fx;refine vV ?_<|zD t0 t1 t5<|hT;refine qF [] .nil qE ⟨qB,qD.fin (have h:=hO1;qD.re h)⟩
  .rw [LM qB];refine vV ?_<|jI t0 t1 t5 p5 t9 t10<|hxl;intro K hK;have fx:=aI t0 (aI t1 (aI t5 p5));refine jC h0 (have h:=hO;qD.re h) (qa _) (hF:=λhO=>Nz gl _ p m fs f.next 11 x qB hx7 hg8 hn8 hm0 hfl hnsl hO) (h:=?_);rintro y H1 ⟨rfl,hO1⟩;clear fx;refine vV ?_<|zD t0 t1 t5<|hT;refine qF [] .nil qE ⟨qB,qD.fin (have h:=hO1;qD.re h)⟩
  .rw [CU qe qe qe rfl];refine vV ?_<|vI t0 t1 t5 p5 t9 t10 hxl hx7'<|yoh;intro K hK;have fx:=aI t0 (aI t1 (aI t5 p5));refine jC h0 (have h:=hO;qD.re h) (qa _) (hF:=λhO=>DF gl _ p m fs f.next (9,(x:Int)) _ 1 4 (hWg _ qe qe) hm0 qe qe hfl (λ_=>hst1 qB) hnsl hO) (h:=?_);rintro y H1 ⟨rfl,hO1⟩;clear fx;refine vV ?_<|zD t0 t1 t5<|hT;refine qF [] .nil qE ⟨qB,qD.fin (have h:=hO1;qD.re h)⟩
  .rw [CU qe qe qe rfl];refine vV ?_<|vI t0 t1 t5 p5 t9 t10 hxl hx7'<|yoh;intro K hK;have fx:=aI t0 (aI t1 (aI t5 p5));refine jC h0 (have h:=hO;qD.re h) (qa _) (hF:=λhO=>DF gl _ p m fs f.next (10,(x:Int)) _ 2 4 (hWg _ qe qe) hm0 qe qe hfl (λh=>kR) hnsl hO) (h:=?_);rintro y H1 ⟨rfl,hO1⟩;clear fx;refine vV ?_<|zD t0 t1 t5<|hT;refine qF [] .nil qE ⟨qB,qD.fin (have h:=hO1;qD.re h)⟩
  .rw [CU qe qe qe rfl];refine vV ?_<|vI t0 t1 t5 p5 t9 t10 hxl hx7'<|yoh;intro K hK;have fx:=aI t0 (aI t1 (aI t5 p5));refine jC h0 (have h:=hO;qD.re h) (qa _) (hF:=λhO=>DF gl _ p m fs f.next (12,(x:Int)) _ 1 4 (hWn _ qe) hm0 qe qe hfl (λ_=>hst1 qB) hnsl hO) (h:=?_);rintro y H1 ⟨rfl,hO1⟩;clear fx;refine vV ?_<|zD t0 t1 t5<|hT;refine qF [] .nil qE ⟨qB,qD.fin (have h:=hO1;qD.re h)⟩
  .rw [CU qe qe qe rfl];refine vV ?_<|vI t0 t1 t5 p5 t9 t10 hxl hx7'<|yoh;intro K hK;have fx:=aI t0 (aI t1 (aI t5 p5));refine jC h0 (have h:=hO;qD.re h) (qa _) (hF:=λhO=>DF gl _ p m fs f.next (13,(x:Int)) _ 2 4 (hWn _ qe) hm0 qe qe hfl (λh=>kR) hnsl hO) (h:=?_);rintro y H1 ⟨rfl,hO1⟩;clear fx;refine vV ?_<|zD t0 t1 t5<|hT;refine qF [] .nil qE ⟨qB,qD.fin (have h:=hO1;qD.re h)⟩
 rw [Ua c0 c13];have hcs:c=1\/c=14\/c=15\/c=16\/c=17\/c=18\/c=19\/c=20:=qA;have cb:∀ k:Int,2<=k->k<=13->(c==k)=false:=λk h1 h2=>ku
 have hval:∀ H:Nm->Option AO,qD H p (m.top fs f.next)->H (.u 9 0 0)=none->qZ prog gl 170 DM [.pt Yn 0,.pt Yn (yo fs.length),.agg [iv c,iv x]] H (λ_ y H'=>y=bv (decide ((y3 p m fs f.next (c,(x:Int))).en=0))/\qD H' p (y3 p m fs f.next (c,(x:Int)))) zG:=by
  intro H hO h9
  have h17:c=17->(x:Int)<=1/\((x:Int)).toNat+1<=f.next.stack.length/\fs.length+1<=150:=λh=>by
   refine⟨hcl1 h,?_,hf16 (.inr h)⟩;subst h;simp at hok;exact hok.1
  have h14:c=14->2<=f.next.stack.length:=by rintro rfl;simp at hok;exact hok.1
  have h18:c=18->(x:Int)<=7/\1<=f.next.stack.length:=by rintro rfl;simp at hok;exact⟨hatt rfl,hok.1⟩
  have h19:c=19\/c=20->1<=f.next.stack.length:=IG;rcases hcs with h|h|h|h|h|h|h|h
  .exact HH gl H p m fs f.next (c,(x:Int)) harg (.inl h) f.pc hP hM h17 h18 hnsl hfl hm0 hO
  .exact qCT gl H p m fs f.next (c,(x:Int)) harg h f.pc hP hM (h14 h) hnsl hfl hm0 hO
  .exact OC gl H p m fs f.next (c,(x:Int)) harg (.inl h) f.pc hP hM (hbk (.inl h)) (λh'=>hf16 (.inl h')) hnsl hfl hm0 h9 hO
  .exact OC gl H p m fs f.next (c,(x:Int)) harg (.inr h) f.pc hP hM (hbk (.inr h)) (λh'=>hf16 (.inl h')) hnsl hfl hm0 h9 hO
  .exact HH gl H p m fs f.next (c,(x:Int)) harg (.inr (.inl h)) f.pc hP hM h17 h18 hnsl hfl hm0 hO
  .exact HH gl H p m fs f.next (c,(x:Int)) harg (.inr (.inr h)) f.pc hP hM h17 h18 hnsl hfl hm0 hO
  .exact OD gl H p m fs f.next (c,(x:Int)) harg (.inl h) f.pc hP hM (h19 (.inl h)) hret hgsl hne20 hnsl hfl hm0 h9 hO
  .exact OD gl H p m fs f.next (c,(x:Int)) harg (.inr h) f.pc hP hM (h19 (.inr h)) hret hgsl hne20 hnsl hfl hm0 h9 hO
 have e2:=cb 2 qe qe;have e3:=cb 3 qe qe;have e4:=cb 4 qe qe;have e5:=cb 5 qe qe;have e6:=cb 6 qe qe;have e7:=cb 7 qe qe;have e8:=cb 8 qe qe;have e9:=cb 9 qe qe;have e10:=cb 10 qe qe;have e11:=cb 11 qe qe;have e12:=cb 12 qe qe;have e13:=cb 13 qe qe;have fx:=qh t0 t1 t5 p5 t9 t10 cb0 e2 e3 e4 e5 e6<|jI e7 e8 e9 e10 e11 e12<|e13;refine qK ?_
 repeat ((first|refine qQ (id:=10) Lw mixed ?_|refine qQ (id:=13) Lx mixed ?_|refine qQ (id:=19) Ly mixed ?_);refine zK ?_;refine qK ?_)
 clear fx;intro K hK;have fx:=aI t0 (aI t1 (aI t5 p5));refine jC h0 (have h:=hO;qD.re h) (qa _) (hF:=λhO=>hval _ hO cO) (h:=?_);rintro y H1 ⟨rfl,hO1⟩;clear fx;have fx:=qd;refine qK ?_
 repeat ((first|refine qQ (id:=10) Lw mixed ?_|refine qQ (id:=13) Lx mixed ?_|refine qQ (id:=19) Ly mixed ?_);refine zK ?_;refine qK ?_)
 clear fx;refine qF [] .nil qE ⟨qB,qD.fin (have h:=hO1;qD.re h)⟩
end Go.Proofs.YtjgpejikjhojcaaGreatDoor
end
