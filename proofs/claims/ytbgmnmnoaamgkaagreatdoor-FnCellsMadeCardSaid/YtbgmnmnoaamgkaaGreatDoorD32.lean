/-
  Own texts, joined by mkclaim.py: Zf, Zg, Zv.
-/
import Derived.Test.YtbgmnmnoaamgkaaGreatDoorD26
import Derived.Test.YtbgmnmnoaamgkaaGreatDoorD17
import Derived.Test.YtbgmnmnoaamgkaaGreatDoorD30
import Derived.Test.YtbgmnmnoaamgkaaGreatDoorD31
import Derived.Test.YtbgmnmnoaamgkaaGreatDoorD18
set_option linter.unusedSimpArgs false
set_option linter.unusedVariables false
set_option maxRecDepth 100000
set_option maxHeartbeats 4000000

section
namespace Go.Proofs.YtbgmnmnoaamgkaaGreatDoor
open Go Go.Hm Go.Proofs
theorem qAi (gl) (H:Nm→Option AO) (p:Prg) (m:Mch) (fs:List Frm) (f:Frm) (o:Int×Int) (q wy:Nat) (e:Int) (h4:o.1≤4) (hq:o.2.toNat=q) (hql:q<f.fasts.length) (hm0:m.en=0) (he:e≠0) (hwy:wy≤2) (hfl:fs.length≤150) (hst:wy=1→1≤f.stack.length) (hsl:f.stack.length≤1000) (h9:H (.u 9 0 0)=none) (hO:OwnY H p (m.top fs f)) :
  FnE Tryz.prog gl 150 DM [.pt Yn 0,.pt Yn (yo fs.length),.ep (.c Yn 0 (yo fs.length+2)) 3 q 0,iv wy,iv e] H (fun _ y H'=>y=bv (decide ((zf m fs f o wy e).en=0))∧OwnY H' p (zf m fs f o wy e)) noE:=by
 obtain⟨R,j,hT,tr,h2,h3,h28⟩:=hO.topT rfl (by omega)
 have hRl:=tr.len
 have f28:=tr.f28
 have f2:=tr.f2
 have vJ:∀ g s,g.fasts=f.fasts→setS m fs g o s=m.top fs { g with fasts:=f.fasts.set q s }:=fun g s hg=>by
  simp only [setS,if_pos h4,hg,hq]
 have yoh:yo fs.length+29≤4415:=by simp only [yo];omega
 obtain⟨s,hs1⟩:∃ s,f.fasts[q]?=some s:=⟨_,gE hql⟩
 obtain⟨_,hs1E⟩:=gS hs1
 have hs:qA5 m f o=s:=by simp [qA5,h4,hq,yn,hs1]
 have hrow:∀ (g:Frm) s J,g.blk=g.blk→(∀ i:Nat,(J i:List AV).length=29)→ql p (m.top fs g) (fs.length+1) (yc (fs++[g]) J)=ql p (m.top fs { g with fasts:=g.fasts.set q s }) (fs.length+1) (yc (fs++[{ g with fasts:=g.fasts.set q s }]) J):=by
  intro g s J _ hJ
  have:=qHu (p:=p) (m:=m.top fs g) (h:=fs.length+1) (J:=J) (fs:=fs++[g]) (i:=fs.length) (f:=g) (g:={ g with fasts:=g.fasts.set q s }) (j:=0) (vals:=[]) hJ (by simp) (by omega) (by simp) (by simp [spl,yfr])
  have e:spl (ql p (m.top fs g) (fs.length+1) (yc (fs++[g]) J)) (32+(29 * fs.length+0)) []=ql p (m.top fs g) (fs.length+1) (yc (fs++[g]) J):=by simp [spl]
  rw [e] at this
  refine this.trans ?_
  simp [ql,yA,yB,yZ,Mch.top]
 refine FnE.of_sem Tryz.func150 rfl (by kernel_rfl) (rs:=[.tmp 10]) rfl Tryz.ntmps150 (lB rfl) (fun _=>qH) fun C w g root hroot=>?_
 by_cases w1:wy=1
 ·subst w1
  have hres:zf m fs f o 1 e=setS m fs f.pop o (some f.tos):=rfl
  rw [hres,vJ f.pop _ rfl]
  obtain⟨k,hk⟩:∃ k,f.stack.length=k+1:=⟨f.stack.length - 1,by have:=hst rfl;omega⟩
  have fx:= h2
  refine qB ?_
  clear fx
  intro K hK
  have hO0:OwnY (st0 [.pt Yn 0,.pt Yn (yo fs.length),.ep (.c Yn 0 (yo fs.length+2)) 3 q 0,iv 1,iv e] H 37 gl).hp p (m.top fs f):=(have h:=hO;OwnY.re h)
  obtain⟨R0,R',vs,k1,k2,k3,k4,k5,k6⟩:=OwnY.keep (j:=yo fs.length+2) hO0 rfl (by omega) hk (by omega)
  have fx:=h2
  refine qHx DM (.c Yn 0 (yo fs.length+2)) (.u 9 0 0) Yn (.row 4415 [spl R0 (yo fs.length+28) [.hs (.c Yn 0 (yo fs.length+28)) 2 0 k]]) (Val.av f.tos) (hV:=rfl) (hN:=rfl) (hVe:=by simp [un,h9]) (fun _=>qH) (by simp) (fun _=>qRu) (fun _=>qYK) (by simp [h2]) (fun k i j he=>?_) rfl (by simp) (by simp) (hF:=by rw [k6];exact uG gl DY9 (fun _=>qFR) _ R' (yo fs.length) k vs f.tos k2 k3 k4 k5 (by omega) yoh) (h:=?_)
  ·rcases hO.ext hO0 (Nat.le_refl _) k i j he with h|h
   ·exact .inl h
   ·refine .inr fun h'=>h ?_
    simp only [jl]
    split
    ·exact h'
    ·rfl
  intro hp' hS
  clear fx
  have hO1:=(OwnY.popped (m:=m.top fs f) hO0 rfl (by omega) k1 hk).same hS
  obtain⟨R1,j1,hT1,tr1,h21,h31,h281⟩:=OwnY.topT (f:=f.pop) hO1 rfl (by omega)
  have h21':hp' (.c Yn 0 (yo fs.length+2))=some (.row 3 (qN f.fasts)):=h21
  generalize hv:f.tos=v at *
  obtain⟨v1,v2⟩:=v
  have fx:=aI h2<|aI h21'<|hql
  refine qB ?_
  clear fx
  refine qF [] .nil (by simp;rfl) ⟨by simp [hm0,Mch.top],OwnY.fin ?_⟩
  have h:=hO1
  exact OwnY.reT h rfl (m':=m.top fs { f.pop with fasts:=f.fasts.set q (some (v1,v2)) }) rfl rfl (qBO (R':=R1) hT1 (by simp [hT1]) (fun J hJ e=>e.trans (hrow f.pop _ J rfl hJ))) (h6t:=by simp) (h7t:=by simp [h31]) (h8t:=⟨j1,by simp [h281]⟩)
 ·have w1':((wy:Int)==1)=false:=by rw [beq_eq_false_iff_ne];omega
  cases s with
  | none =>
   have hres:zf m fs f o wy e=m.stop fs f e:=by simp only [zf,if_neg w1,hs]
   rw [hres]
   have fx:=aI w1'<|aI h2<|aI hs1<|aI hs1E<|hql
   refine qB ?_
   clear fx
   intro K hK
   have fx:=fx0
   refine qQ hO (have h:=hO;OwnY.re h) (Nat.le_refl _) (hF:=fun _=>yL gl DM (fun _=>qH) _ R e (by simp [hT]) hRl) (h:=?_)
   intro y H1 hw
   clear fx
   have hO1:=OwnY.wrp (OwnY.stopped (m:=m.top fs f) (e:=e) (have h:=hO;OwnY.re h) rfl (by simp [hT])) hw
   obtain⟨rfl,-⟩:=hw
   have fx:=fx0
   refine qB ?_
   clear fx
   refine qF [] .nil (by simp;rfl) ⟨by simp [Mch.stop,he],OwnY.fin (have h:=hO1;OwnY.re h)⟩
  | some v =>
   obtain⟨v1,v2⟩:=v
   by_cases w0:wy=0
   ·subst w0
    have hres:zf m fs f o 0 e=m.top fs (f.push (v1,v2)):=by simp only [zf,if_neg w1,hs,if_true]
    rw [hres]
    have fx:=aI w1'<|aI h2<|aI hs1<|aI hs1E<|hql
    refine qB ?_
    clear fx
    intro K hK
    have fx:=aI h2 (aI hs1 hs1E)
    refine qQ hO (have h:=hO;OwnY.re h) (Nat.le_refl _) (hF:=fun _=>jj gl DM (fun _=>qH) _ R (yo fs.length) f.stack j (v1,v2) rfl rfl (by simp [hT]) f28 (by simp [h28]) hsl yoh) (h:=?_)
    intro y H1 hw
    clear fx
    have hO1:=OwnY.pushed (m:=m.top fs f) (by exact (have h:=hO;OwnY.re h)) rfl (by omega) rfl (by simp [hT]) hw
    have fx:=fx0
    refine qB ?_
    clear fx
    refine qF [] .nil (by simp;rfl) ⟨by simp [Mch.top,hm0],OwnY.fin (have h:=hO1;OwnY.re h)⟩
   ·have hres:zf m fs f o wy e=setS m fs f o none:=by simp only [zf,if_neg w1,hs,if_neg w0]
    rw [hres,vJ f _ rfl]
    have w0':((wy:Int)==0)=false:=by rw [beq_eq_false_iff_ne];omega
    have fx:=aI w1'<|aI w0'<|aI h2<|aI hs1<|aI hs1E<|hql
    refine qB ?_
    clear fx
    refine qF [] .nil (by simp;rfl) ⟨by simp [hm0,Mch.top],OwnY.fin ?_⟩
    have h:=hO
    exact OwnY.reT h rfl (m':=m.top fs { f with fasts:=f.fasts.set q none }) rfl rfl (qBO (R':=R) hT (by simp [hT]) (fun J hJ e=>e.trans (hrow f _ J rfl hJ))) (h6t:=by simp) (h7t:=by simp [h3]) (h8t:=⟨j,by simp [h28]⟩)
abbrev qAT:Sch:=.q 0<|.q 1<|.q 2<|.q 3<|.q 4<|.q 5<|.q 6<|.q 7<|.q 8<|.q 9<|.q 10<|.q 11<|.q 12<|.done
abbrev ym:Sch:=.q 0<|.q 1<|.q 2<|.q 3<|.q 4<|.q 5<|.q 6<|.q 7<|.q 8<|.l 9 [4,2,1]<|.done
abbrev qAS:Sch:=.q 0<|.q 1<|.q 2<|.q 3<|.q 4<|.q 5<|.q 6<|.q 7<|.done
theorem qHt (gl) (H:Nm→Option AO) (p:Prg) (m:Mch) (fs:List Frm) (f:Frm) (c x:Nat) (hc:c=8∨c=11) (hx:x<8) (hg8:m.globals.length=8) (hn8:f.names.length=8) (hm0:m.en=0) (hfl:fs.length≤150) (hsl:f.stack.length≤1000) (hO:OwnY H p (m.top fs f)) :
  FnE Tryz.prog gl 151 DM [.pt Yn 0,.pt Yn (yo fs.length),.agg [iv c,iv x]] H (fun _ y H'=>y=bv (decide ((jw p m fs f (c,(x:Int))).en=0))∧OwnY H' p (jw p m fs f (c,(x:Int)))) noE:=by
 refine FnE.of_sem Tryz.func151 rfl (by kernel_rfl) (rs:=[.tmp 6]) rfl Tryz.ntmps151 (lB rfl) (fun _=>qH) fun C w g root hroot=>?_
 have fx:=fx0
 refine qB ?_
 clear fx
 refine yd (fun s=>s.tm 0=.pt Yn 0∧s.tm 1=.pt Yn (yo fs.length)∧s.tm 5=.pt (.s 5) 0∧s.hp (.s 5)=some (.row 2 [[iv c,iv x]])∧OwnY s.hp p (m.top fs f)) ⟨by simp,by simp,by simp,by simp,hO.ren (f:=kl (.s 5)) (fun k hk=>by simp [kl,(D_s (fun _=>qH) hk 5).2]) (fun k hk=>by have:=D_s (fun _=>qH) hk 5;simp [this.1,this.2])⟩ ?_
 have h0:=hO
 clear hO
 rintro s ⟨t0,t1,t5,p5,hO⟩
 obtain⟨R,j,hT,tr,h2,h3,h28⟩:=hO.topT rfl (by omega)
 have hRl:=tr.len
 have f28:=tr.f28
 have yoh:yo fs.length+29≤4415:=by simp only [yo];omega
 have hwy:wE p f (c,(x:Int))=4:=by rcases hc with rfl|rfl <;> simp [wE]
 have g0:=tr.gl x 0 hx (by omega)
 have g1:=tr.gl x 1 hx (by omega)
 have g2:=tr.gl x 2 hx (by omega)
 have n0:=tr.nm x 0 hx (by omega)
 have n1:=tr.nm x 1 hx (by omega)
 have n2:=tr.nm x 2 hx (by omega)
 simp only [Mch.top,Nat.add_zero] at g0 g1 g2 n0
 rw [Nat.mul_comm] at g0 g1 g2 n0 n1 n2
 rw [← Nat.add_assoc] at g1 g2 n1 n2
 have hgN:∀ sn,yn f.names x=sn→qA5 m f (((11:Nat):Int),(x:Int))=sn:=fun sn h=>by simp [qA5,h]
 have hgG:∀ sg,yn m.globals x=sg→qA5 m f (((8:Nat):Int),(x:Int))=sg:=fun sg h=>by simp [qA5,h]
 have hrest:(c=8∨yn f.names x=none)→jw p m fs f (c,(x:Int))=match yn m.globals x with
   | some v=>m.top fs (f.push v)
   | none=>if (x:Int)=7 then m.top fs (f.push (1,70)) else m.stop fs f 4:=by
  intro h
  rcases hc with rfl|rfl
  ·cases hs:yn m.globals x with
   | some v=>simp only [jw,hgG _ hs]
   | none=>simp only [jw,hgG _ hs,hwy,if_true,Int.toNat_natCast,hs]
  ·rcases h with h|h
   ·cases h
   ·simp only [jw,hgN _ h,hwy,if_true,Int.toNat_natCast]
    rfl
 obtain⟨sn,hsn⟩:∃ sn,yn f.names x=sn:=⟨_,rfl⟩
 obtain⟨sg,hsg⟩:∃ sg,yn m.globals x=sg:=⟨_,rfl⟩
 rw [hsg] at g0 g1 g2 hrest
 rw [hsn] at n0 n1 n2
 have hx7:x≤7:=by omega
 have hlg:6+x * 3+3≤4415:=by omega
 have hln:yo fs.length+4+x * 3+3≤4415:=by omega
 have hxl:(x:Int)<8:=by omega
 rcases hc with rfl|rfl
 ·replace hrest:=hrest (.inl rfl)
  cases sg with
  | some v =>
   obtain⟨v1,v2⟩:=v
   simp only at hrest
   rw [hrest]
   simp only [uR,List.getElem?_cons_zero,List.getElem?_cons_succ] at g0 g1 g2
   obtain⟨_,g0E⟩:=gS g0
   have g12:=kv g1 g2
   have hl2:6+x * 3+1+2≤4415:=by omega
   have fx:=aI t0<|aI t1<|aI t5<|aI p5<|aI hT<|aI hRl<|aI hlg<|aI hl2<|aI g0<|aI g0E<|aI g12<|hxl
   refine qB ?_
   repeat ((first|refine wSc (id:=1) qAT qA ?_|refine wSc (id:=2) ym qA ?_|refine wSc (id:=4) qAS qA ?_|refine wSc (id:=5) ym qA ?_);refine qC ?_;refine qB ?_)
   clear fx
   intro K hK
   have fx:=aI t0<|aI t1<|aI t5<|aI p5<|aI hT<|aI hRl<|aI hlg<|aI hl2<|aI g0<|aI g0E<|aI g12<|hxl
   refine qQ h0 (have h:=hO;OwnY.re h) (Nat.le_refl _) (hF:=fun _=>jj gl DM (fun _=>qH) _ R (yo fs.length) f.stack j (v1,v2) rfl rfl (by simp [hT]) f28 (by simp [h28]) hsl yoh) (h:=?_)
   intro y H1 hw
   clear fx
   have hO1:=OwnY.pushed (m:=m.top fs f) (by exact (have h:=hO;OwnY.re h)) rfl (by omega) rfl (by simp [hT]) hw
   obtain⟨R1,j1,hT1,tr1,-,-,-⟩:=OwnY.topT (f:=f.push (v1,v2)) hO1 rfl (by omega)
   have hR1l:=tr1.len
   have k12:=tr1.glv hx hsg
   have fx:=aI t0<|aI t1<|aI t5<|aI p5<|aI hT<|aI hT1<|aI hR1l<|aI hl2<|aI k12<|hxl
   refine qB ?_
   repeat ((first|refine wSc (id:=1) qAT qA ?_|refine wSc (id:=2) ym qA ?_|refine wSc (id:=4) qAS qA ?_|refine wSc (id:=5) ym qA ?_);refine qC ?_;refine qB ?_)
   clear fx
   refine qF [] .nil (by simp;rfl) ⟨by simp [Mch.top,hm0],OwnY.fin (have h:=hO1;OwnY.re h)⟩
  | none =>
   simp only at hrest
   simp only [uS,List.getElem?_cons_zero] at g0
   obtain⟨_,g0E⟩:=gS g0
   by_cases x7:x=7
   ·subst x7
    rw [if_pos (by rfl)] at hrest
    rw [hrest]
    have fx:=aI t0<|aI t1<|aI t5<|aI p5<|aI hT<|aI hRl<|aI g0<|g0E
    refine qB ?_
    repeat ((first|refine wSc (id:=1) qAT qA ?_|refine wSc (id:=2) ym qA ?_|refine wSc (id:=4) qAS qA ?_|refine wSc (id:=5) ym qA ?_);refine qC ?_;refine qB ?_)
    clear fx
    intro K hK
    have fx:=aI t0<|aI t1<|aI t5<|aI p5<|aI hT<|aI hRl<|aI g0<|g0E
    refine qQ h0 (have h:=hO;OwnY.re h) (Nat.le_refl _) (hF:=fun _=>jj gl DM (fun _=>qH) _ R (yo fs.length) f.stack j (1,70) rfl rfl (by simp [hT]) f28 (by simp [h28]) hsl yoh) (h:=?_)
    intro y H1 hw
    clear fx
    have hO1:=OwnY.pushed (m:=m.top fs f) (by exact (have h:=hO;OwnY.re h)) rfl (by omega) rfl (by simp [hT]) hw
    have fx:=fx0
    refine qB ?_
    repeat ((first|refine wSc (id:=1) qAT qA ?_|refine wSc (id:=2) ym qA ?_|refine wSc (id:=4) qAS qA ?_|refine wSc (id:=5) ym qA ?_);refine qC ?_;refine qB ?_)
    clear fx
    refine qF [] .nil (by simp;rfl) ⟨by simp [Mch.top,hm0],OwnY.fin (have h:=hO1;OwnY.re h)⟩
   ·rw [if_neg (by omega)] at hrest
    rw [hrest]
    have x7':((x:Int)==7)=false:=by rw [beq_eq_false_iff_ne];omega
    have fx:=aI t0<|aI t1<|aI t5<|aI p5<|aI hT<|aI hRl<|aI hlg<|aI g0<|aI g0E<|aI x7'<|hxl
    refine qB ?_
    repeat ((first|refine wSc (id:=1) qAT qA ?_|refine wSc (id:=2) ym qA ?_|refine wSc (id:=4) qAS qA ?_|refine wSc (id:=5) ym qA ?_);refine qC ?_;refine qB ?_)
    clear fx
    intro K hK
    have fx:=aI t0 t1
    refine qQ h0 (have h:=hO;OwnY.re h) (Nat.le_refl _) (hF:=fun _=>yL gl DM (fun _=>qH) _ R 4 (by simp [hT]) hRl) (h:=?_)
    intro y H1 hw
    clear fx
    have hO1:=OwnY.wrp (OwnY.stopped (m:=m.top fs f) (e:=4) (have h:=hO;OwnY.re h) rfl (by simp [hT])) hw
    obtain⟨rfl,-⟩:=hw
    have fx:=fx0
    refine qB ?_
    repeat ((first|refine wSc (id:=1) qAT qA ?_|refine wSc (id:=2) ym qA ?_|refine wSc (id:=4) qAS qA ?_|refine wSc (id:=5) ym qA ?_);refine qC ?_;refine qB ?_)
    clear fx
    refine qF [] .nil (by simp;rfl) ⟨by simp [Mch.stop],OwnY.fin (have h:=hO1;OwnY.re h)⟩
 ·cases sn with
  | some v =>
   obtain⟨v1,v2⟩:=v
   have hres:jw p m fs f (((11:Nat):Int),(x:Int))=m.top fs (f.push (v1,v2)):=by simp only [jw,hgN _ hsn]
   rw [hres]
   simp only [uR,List.getElem?_cons_zero,List.getElem?_cons_succ] at n0 n1 n2
   obtain⟨_,n0E⟩:=gS n0
   have n12:=kv n1 n2
   have hl2:yo fs.length+4+x * 3+1+2≤4415:=by omega
   have fx:=aI t0<|aI t1<|aI t5<|aI p5<|aI hT<|aI hRl<|aI hln<|aI hl2<|aI n0<|aI n0E<|aI n12<|hxl
   refine qB ?_
   repeat ((first|refine wSc (id:=1) qAT qA ?_|refine wSc (id:=2) ym qA ?_|refine wSc (id:=4) qAS qA ?_|refine wSc (id:=5) ym qA ?_);refine qC ?_;refine qB ?_)
   clear fx
   intro K hK
   have fx:=aI t0<|aI t1<|aI t5<|aI p5<|aI hT<|aI hRl<|aI hln<|aI hl2<|aI n0<|aI n0E<|aI n12<|hxl
   refine qQ h0 (have h:=hO;OwnY.re h) (Nat.le_refl _) (hF:=fun _=>jj gl DM (fun _=>qH) _ R (yo fs.length) f.stack j (v1,v2) rfl rfl (by simp [hT]) f28 (by simp [h28]) hsl yoh) (h:=?_)
   intro y H1 hw
   clear fx
   have hO1:=OwnY.pushed (m:=m.top fs f) (by exact (have h:=hO;OwnY.re h)) rfl (by omega) rfl (by simp [hT]) hw
   obtain⟨R1,j1,hT1,tr1,-,-,-⟩:=OwnY.topT (f:=f.push (v1,v2)) hO1 rfl (by omega)
   have hR1l:=tr1.len
   have k12:=tr1.nmv hx hsn
   have fx:=aI t0<|aI t1<|aI t5<|aI p5<|aI hT<|aI hT1<|aI hR1l<|aI hl2<|aI k12<|hxl
   refine qB ?_
   repeat ((first|refine wSc (id:=1) qAT qA ?_|refine wSc (id:=2) ym qA ?_|refine wSc (id:=4) qAS qA ?_|refine wSc (id:=5) ym qA ?_);refine qC ?_;refine qB ?_)
   clear fx
   refine qF [] .nil (by simp;rfl) ⟨by simp [Mch.top,hm0],OwnY.fin (have h:=hO1;OwnY.re h)⟩
  | none =>
   replace hrest:=hrest (.inr hsn)
   simp only [uS,List.getElem?_cons_zero] at n0
   obtain⟨_,n0E⟩:=gS n0
   cases sg with
   | some v =>
    obtain⟨v1,v2⟩:=v
    simp only at hrest
    rw [hrest]
    simp only [uR,List.getElem?_cons_zero,List.getElem?_cons_succ] at g0 g1 g2
    obtain⟨_,g0E⟩:=gS g0
    have g12:=kv g1 g2
    have hl2:6+x * 3+1+2≤4415:=by omega
    have fx:=aI t0<|aI t1<|aI t5<|aI p5<|aI hln<|aI n0<|aI n0E<|aI hT<|aI hRl<|aI hlg<|aI hl2<|aI g0<|aI g0E<|aI g12<|hxl
    refine qB ?_
    repeat ((first|refine wSc (id:=1) qAT qA ?_|refine wSc (id:=2) ym qA ?_|refine wSc (id:=4) qAS qA ?_|refine wSc (id:=5) ym qA ?_);refine qC ?_;refine qB ?_)
    clear fx
    intro K hK
    have fx:=aI t0<|aI t1<|aI t5<|aI p5<|aI hln<|aI n0<|aI n0E<|aI hT<|aI hRl<|aI hlg<|aI hl2<|aI g0<|aI g0E<|aI g12<|hxl
    refine qQ h0 (have h:=hO;OwnY.re h) (Nat.le_refl _) (hF:=fun _=>jj gl DM (fun _=>qH) _ R (yo fs.length) f.stack j (v1,v2) rfl rfl (by simp [hT]) f28 (by simp [h28]) hsl yoh) (h:=?_)
    intro y H1 hw
    clear fx
    have hO1:=OwnY.pushed (m:=m.top fs f) (by exact (have h:=hO;OwnY.re h)) rfl (by omega) rfl (by simp [hT]) hw
    obtain⟨R1,j1,hT1,tr1,-,-,-⟩:=OwnY.topT (f:=f.push (v1,v2)) hO1 rfl (by omega)
    have hR1l:=tr1.len
    have k12:=tr1.glv hx hsg
    have fx:=aI t0<|aI t1<|aI t5<|aI p5<|aI hT<|aI hT1<|aI hR1l<|aI hl2<|aI k12<|hxl
    refine qB ?_
    repeat ((first|refine wSc (id:=1) qAT qA ?_|refine wSc (id:=2) ym qA ?_|refine wSc (id:=4) qAS qA ?_|refine wSc (id:=5) ym qA ?_);refine qC ?_;refine qB ?_)
    clear fx
    refine qF [] .nil (by simp;rfl) ⟨by simp [Mch.top,hm0],OwnY.fin (have h:=hO1;OwnY.re h)⟩
   | none =>
    simp only at hrest
    simp only [uS,List.getElem?_cons_zero] at g0
    obtain⟨_,g0E⟩:=gS g0
    by_cases x7:x=7
    ·subst x7
     rw [if_pos (by rfl)] at hrest
     rw [hrest]
     have fx:=aI t0<|aI t1<|aI t5<|aI p5<|aI hln<|aI n0<|aI n0E<|aI hT<|aI hRl<|aI g0<|g0E
     refine qB ?_
     repeat ((first|refine wSc (id:=1) qAT qA ?_|refine wSc (id:=2) ym qA ?_|refine wSc (id:=4) qAS qA ?_|refine wSc (id:=5) ym qA ?_);refine qC ?_;refine qB ?_)
     clear fx
     intro K hK
     have fx:=aI t0<|aI t1<|aI t5<|aI p5<|aI hln<|aI n0<|aI n0E<|aI hT<|aI hRl<|aI g0<|g0E
     refine qQ h0 (have h:=hO;OwnY.re h) (Nat.le_refl _) (hF:=fun _=>jj gl DM (fun _=>qH) _ R (yo fs.length) f.stack j (1,70) rfl rfl (by simp [hT]) f28 (by simp [h28]) hsl yoh) (h:=?_)
     intro y H1 hw
     clear fx
     have hO1:=OwnY.pushed (m:=m.top fs f) (by exact (have h:=hO;OwnY.re h)) rfl (by omega) rfl (by simp [hT]) hw
     have fx:=fx0
     refine qB ?_
     repeat ((first|refine wSc (id:=1) qAT qA ?_|refine wSc (id:=2) ym qA ?_|refine wSc (id:=4) qAS qA ?_|refine wSc (id:=5) ym qA ?_);refine qC ?_;refine qB ?_)
     clear fx
     refine qF [] .nil (by simp;rfl) ⟨by simp [Mch.top,hm0],OwnY.fin (have h:=hO1;OwnY.re h)⟩
    ·rw [if_neg (by omega)] at hrest
     rw [hrest]
     have x7':((x:Int)==7)=false:=by rw [beq_eq_false_iff_ne];omega
     have fx:=aI t0<|aI t1<|aI t5<|aI p5<|aI hln<|aI n0<|aI n0E<|aI hT<|aI hRl<|aI hlg<|aI g0<|aI g0E<|aI x7'<|hxl
     refine qB ?_
     repeat ((first|refine wSc (id:=1) qAT qA ?_|refine wSc (id:=2) ym qA ?_|refine wSc (id:=4) qAS qA ?_|refine wSc (id:=5) ym qA ?_);refine qC ?_;refine qB ?_)
     clear fx
     intro K hK
     have fx:=aI t0 t1
     refine qQ h0 (have h:=hO;OwnY.re h) (Nat.le_refl _) (hF:=fun _=>yL gl DM (fun _=>qH) _ R 4 (by simp [hT]) hRl) (h:=?_)
     intro y H1 hw
     clear fx
     have hO1:=OwnY.wrp (OwnY.stopped (m:=m.top fs f) (e:=4) (have h:=hO;OwnY.re h) rfl (by simp [hT])) hw
     obtain⟨rfl,-⟩:=hw
     have fx:=fx0
     refine qB ?_
     repeat ((first|refine wSc (id:=1) qAT qA ?_|refine wSc (id:=2) ym qA ?_|refine wSc (id:=4) qAS qA ?_|refine wSc (id:=5) ym qA ?_);refine qC ?_;refine qB ?_)
     clear fx
     refine qF [] .nil (by simp;rfl) ⟨by simp [Mch.stop],OwnY.fin (have h:=hO1;OwnY.re h)⟩
end Go.Proofs.YtbgmnmnoaamgkaaGreatDoor
end
section
namespace Go.Proofs.YtbgmnmnoaamgkaaGreatDoor
open Go Go.Hm Go.Proofs
abbrev yH:Sch:=.q 0<|.q 1<|.q 2<|.q 3<|.q 4<|.q 5<|.q 6<|.q 7<|.q 8<|.q 9<|.q 10<|.q 11<|.l 12 [2]<|.l 13 []<|.done
abbrev yG:Sch:=.q 0<|.q 1<|.q 2<|.q 3<|.q 4<|.q 5<|.q 6<|.q 7<|.q 8<|.q 9<|.q 10<|.q 11<|.q 12<|.q 13<|.q 14<|.done
abbrev yF:Sch:=.q 0<|.q 1<|.q 2<|.q 3<|.q 4<|.q 5<|.q 6<|.q 7<|.q 8<|.q 9<|.q 10<|.q 11<|.q 12<|.q 13<|.l 14 [3,2]<|.l 15 []<|.done
abbrev zL:Sch:=.q 0<|.q 1<|.q 2<|.q 3<|.q 4<|.q 5<|.q 6<|.q 7<|.q 8<|.q 9<|.q 10<|.l 11 []<|.l 12 []<|.done
abbrev qUR:Sch:=.q 0<|.q 1<|.q 2<|.q 3<|.q 4<|.q 5<|.q 6<|.q 7<|.q 8<|.q 9<|.q 10<|.l 11 [6,5,4,3,2,1,0]<|.q 12<|.l 13 [4,3,2,1,0]<|.l 14 [0]<|.q 15<|.q 16<|.l 17 []<|.done
abbrev qUQ:Sch:=.q 0<|.q 1<|.q 2<|.q 3<|.q 4<|.q 5<|.q 6<|.l 7 [2,1,0]<|.l 8 []<|.done
abbrev qUP:Sch:=.q 0<|.q 1<|.q 2<|.q 3<|.q 4<|.q 5<|.l 6 [4,3,2,1,0]<|.l 7 [4,3,2,1,0]<|.l 8 [4,3,2,1,0]<|.l 9 [0]<|.q 10<|.q 11<|.l 12 []<|.done
theorem qMd (gl) (H:Nm→Option AO) (p:Prg) (m:Mch) (fs:List Frm) (f:Frm) (o:Int×Int) (hP:ValP p) (hM:MOk p m fs f) (ho:(jO p f.blk)[f.pc]?=some o) (hm0:m.en=0) (h9:H (.u 9 0 0)=none) (hO:OwnY H p (m.top fs f.next)) :
  FnE Tryz.prog gl 116 DM [.pt Yn 0,.pt Yn (yo fs.length),.agg [iv o.1,iv o.2]] H (fun _ y H'=>y=bv (decide ((yq p m fs f.next o).en=0))∧OwnY H' p (yq p m fs f.next o)) noE:=by
 have h0:=hO
 have hol:=uh (p:=p) (b:=f.blk) hP.sh
 have hpc:=hM.top.pc
 have hsl:=hM.top.sl
 have hdp:=hM.deep
 have hmd:=hM.made
 have hp:=hM.top.blk
 have hp7:=hP.sh.len
 have htr:=hM.tr
 obtain⟨hol2,hoE⟩:=gS ho
 obtain⟨k,hk⟩:∃ k,p[f.blk]?=some k:=⟨_,gE hp⟩
 have hOr:=qI1 hP.sh hk o (gM ho)
 have hcode:=hOr.code
 have harg:=hOr.arg
 have hok:=hM.top.ok
 rw [uD ho,Nat.add_zero] at hok
 have hgsl:∀ g∈fs,g.stack.length≤1000:=fun g hg=>by
  have h1:=(hM.low g hg).sl
  have h2:=(hM.low g hg).pc
  have h3:=uh (p:=p) (b:=g.blk) hP.sh
  omega
 have hnsl:f.next.stack.length≤1000:=by simp only [Frm.next];omega
 have hn8:=hM.top.nm.1
 have hg8:=hM.glob.1
 have hfl:fs.length≤150:=by omega
 have hsO:=fun h13=>SlOk.of hM hOr h13
 have hnam:=hOr.name
 have hfas:=hOr.fast
 have hatt:=hOr.attr
 have hbk:=hOr.blk
 have hcl1:=hOr.call
 have hret:=hOr.ret
 have hf16:o.1=16∨o.1=17→fs.length+1≤150:=fun h=>by
  have:=qRR hM ho h
  omega
 have hne20:o.1=20→fs≠[]:=fun h e=>by
  subst e
  have h1:=hM.b0 f (by simp)
  have h2:=hret h
  have h3:=(hP.sh.kind0 hk).2 h1
  simp [qi,hk,h3] at h2
 have hch:5≤o.1→o.1≤7→∃ c,f.cells[o.2.toNat]?=some c∧c<m.cells.length:=fun h1 h2=>by
  have h3:=(hsO ⟨by omega,by omega⟩).cell h1 h2
  exact⟨_,h3,hM.top.cr _ (gM h3)⟩
 have htick:=qHs gl
 obtain⟨c,a⟩:=o
 obtain⟨x,rfl⟩:∃ x:Nat,a=x:=⟨a.toNat,by simp only at harg;omega⟩
 simp only at hcode harg hsO hnam hfas hatt hbk hcl1 hret hf16 hne20 hch
 simp only [zB] at hok
 refine FnE.of_sem Tryz.func116 rfl (by kernel_rfl) (rs:=[.tmp 6]) rfl Tryz.ntmps116 (lB rfl) (fun _=>qH) fun C w g root hroot=>?_
 have fx:=fx0
 refine qB ?_
 clear fx
 refine yd (fun s=>s.tm 0=.pt Yn 0∧s.tm 1=.pt Yn (yo fs.length)∧s.tm 5=.pt (.s 5) 0∧s.hp (.s 5)=some (.row 2 [[iv c,iv x]])∧s.tm 9=iv c∧s.tm 10=bv (c==0)∧s.hp (.u 9 0 0)=none∧OwnY s.hp p (m.top fs f.next)) ⟨by simp,by simp,by simp,by simp,by simp,by simp,by simp [h9],(by repeat (first|(with_reducible exact hO)|refine vu ?_|refine y9 (by rfl) ?_|refine yb ?_|refine vO ?_|refine ya ?_|refine vv ?_|exact (have h:=hO;OwnY.re h)))⟩ ?_
 clear hO
 rintro s ⟨t0,t1,t5,p5,t9,t10,h9,hO⟩
 obtain⟨R,j,hT,tr,h2,h3,h28⟩:=hO.topT rfl (by omega)
 have hRl:=tr.len
 have hnb:f.next.blk=f.blk:=rfl
 have hnp:f.next.pc=f.pc+1:=rfl
 have hnc:f.next.cells=f.cells:=rfl
 have hnf:f.next.fasts=f.fasts:=rfl
 have hns:f.next.stack=f.stack:=rfl
 have yoh:yo fs.length+29≤4415:=by simp only [yo];omega
 by_cases c0:c=0
 ·subst c0
  have hord:yq p m fs f.next (0,(x:Int))=vq p m fs f.next:=by simp [yq]
  rw [hord]
  have fx:=aI t0<|aI t1<|aI t5<|aI p5<|aI t9<|t10
  refine qB ?_
  repeat ((first|refine wSc (id:=7) yH qA ?_|refine wSc (id:=12) yG qA ?_|refine wSc (id:=14) yF qA ?_|refine wSc (id:=20) zL qA ?_|refine wSc (id:=23) zL qA ?_);refine qC ?_;refine qB ?_)
  clear fx
  intro K hK
  have fx:=aI t0 t1
  refine qQ h0 (have h:=hO;OwnY.re h) (Nat.le_refl _) (hF:=fun hO=>qHs gl _ p m fs f.next (0,(x:Int)) (by rw [hnp];exact ho) rfl hp (by omega) hm0 hfl (by omega) (by omega) (by omega) (by rw [hnp];exact hol2) (by rw [hnb];omega) hO) (h:=?_)
  rintro y H1 ⟨rfl,hO1⟩
  clear fx
  have fx:=fx0
  refine qB ?_
  repeat ((first|refine wSc (id:=7) yH qA ?_|refine wSc (id:=12) yG qA ?_|refine wSc (id:=14) yF qA ?_|refine wSc (id:=20) zL qA ?_|refine wSc (id:=23) zL qA ?_);refine qC ?_;refine qB ?_)
  clear fx
  refine qF [] .nil (by simp;rfl) ⟨by simp,OwnY.fin (have h:=hO1;OwnY.re h)⟩
 have cb0:(c==0)=false:=by simpa using c0
 by_cases c13:2≤c∧c≤13
 ·have hst1:c=3∨c=6∨c=9∨c=12→1≤f.next.stack.length:=fun h=>by rcases h with rfl|rfl|rfl|rfl <;> simp at hok <;> exact hok.1
  have f2:=tr.f2
  obtain⟨f2l,f2E⟩:=gS f2
  have f0:=tr.f0
  obtain⟨f0l,f0E⟩:=gS f0
  have f3:=tr.f3
  obtain⟨f3l,f3E⟩:=gS f3
  have r0:=tr.r0
  obtain⟨_,r0E⟩:=gS r0
  have hcd:(qX p p.length)[f.blk]?=some (q8 p f.blk):=by simp [qX,hp]
  obtain⟨hcdl,hcdE⟩:=gS hcd
  have hcc:(q8 p f.blk).cells=qE p f.blk:=by simp [q8,hk]
  rw [hnb] at f0 f0E
  rw [hnc] at f3 f3E h3
  rw [hnf] at f2 f2E h2
  by_cases c4:c≤4
  ·have hxf:x<f.fasts.length:=by have:=hfas c13.1 c4;rw [hM.top.fl];omega
   have hc:c=2∨c=3∨c=4:=by omega
   rcases hc with rfl|rfl|rfl
   ·rw [qEc (by decide) (by decide) rfl]
    have fx:=aI t0<|aI t1<|aI t5<|aI p5<|aI t9<|aI t10<|aI hT<|aI hRl<|aI f2<|aI f2E<|aI f2l<|aI yoh<|aI hxf<|h2
    refine qB ?_
    repeat ((first|refine wSc (id:=7) yH qA ?_|refine wSc (id:=12) yG qA ?_|refine wSc (id:=14) yF qA ?_|refine wSc (id:=20) zL qA ?_|refine wSc (id:=23) zL qA ?_);refine qC ?_;refine qB ?_)
    clear fx
    intro K hK
    have fx:=aI t0 (aI t1 (aI t5 p5))
    refine qQ h0 (have h:=hO;OwnY.re h) (Nat.le_refl _) (hF:=fun hO=>qAi gl _ p m fs f.next (2,(x:Int)) x 0 2 (by simp) rfl hxf hm0 (by decide) (by decide) hfl (fun h=>by cases h) hnsl (by simp [h9]) hO) (h:=?_)
    rintro y H1 ⟨rfl,hO1⟩
    clear fx
    have fx:=aI t0<|aI t1<|aI t5<|hT
    refine qB ?_
    repeat ((first|refine wSc (id:=7) yH qA ?_|refine wSc (id:=12) yG qA ?_|refine wSc (id:=14) yF qA ?_|refine wSc (id:=20) zL qA ?_|refine wSc (id:=23) zL qA ?_);refine qC ?_;refine qB ?_)
    clear fx
    refine qF [] .nil (by simp;rfl) ⟨by simp,OwnY.fin (have h:=hO1;OwnY.re h)⟩
   ·rw [qEc (by decide) (by decide) rfl]
    have fx:=aI t0<|aI t1<|aI t5<|aI p5<|aI t9<|aI t10<|aI hT<|aI hRl<|aI f2<|aI f2E<|aI f2l<|aI yoh<|aI hxf<|h2
    refine qB ?_
    repeat ((first|refine wSc (id:=7) yH qA ?_|refine wSc (id:=12) yG qA ?_|refine wSc (id:=14) yF qA ?_|refine wSc (id:=20) zL qA ?_|refine wSc (id:=23) zL qA ?_);refine qC ?_;refine qB ?_)
    clear fx
    intro K hK
    have fx:=aI t0 (aI t1 (aI t5 p5))
    refine qQ h0 (have h:=hO;OwnY.re h) (Nat.le_refl _) (hF:=fun hO=>qAi gl _ p m fs f.next (3,(x:Int)) x 1 2 (by simp) rfl hxf hm0 (by decide) (by decide) hfl (fun _=>hst1 (by simp)) hnsl (by simp [h9]) hO) (h:=?_)
    rintro y H1 ⟨rfl,hO1⟩
    clear fx
    have fx:=aI t0<|aI t1<|aI t5<|hT
    refine qB ?_
    repeat ((first|refine wSc (id:=7) yH qA ?_|refine wSc (id:=12) yG qA ?_|refine wSc (id:=14) yF qA ?_|refine wSc (id:=20) zL qA ?_|refine wSc (id:=23) zL qA ?_);refine qC ?_;refine qB ?_)
    clear fx
    refine qF [] .nil (by simp;rfl) ⟨by simp,OwnY.fin (have h:=hO1;OwnY.re h)⟩
   ·rw [qEc (by decide) (by decide) rfl]
    have fx:=aI t0<|aI t1<|aI t5<|aI p5<|aI t9<|aI t10<|aI hT<|aI hRl<|aI f2<|aI f2E<|aI f2l<|aI yoh<|aI hxf<|h2
    refine qB ?_
    repeat ((first|refine wSc (id:=7) yH qA ?_|refine wSc (id:=12) yG qA ?_|refine wSc (id:=14) yF qA ?_|refine wSc (id:=20) zL qA ?_|refine wSc (id:=23) zL qA ?_);refine qC ?_;refine qB ?_)
    clear fx
    intro K hK
    have fx:=aI t0 (aI t1 (aI t5 p5))
    refine qQ h0 (have h:=hO;OwnY.re h) (Nat.le_refl _) (hF:=fun hO=>qAi gl _ p m fs f.next (4,(x:Int)) x 2 2 (by simp) rfl hxf hm0 (by decide) (by decide) hfl (fun h=>by cases h) hnsl (by simp [h9]) hO) (h:=?_)
    rintro y H1 ⟨rfl,hO1⟩
    clear fx
    have fx:=aI t0<|aI t1<|aI t5<|hT
    refine qB ?_
    repeat ((first|refine wSc (id:=7) yH qA ?_|refine wSc (id:=12) yG qA ?_|refine wSc (id:=14) yF qA ?_|refine wSc (id:=20) zL qA ?_|refine wSc (id:=23) zL qA ?_);refine qC ?_;refine qB ?_)
    clear fx
    refine qF [] .nil (by simp;rfl) ⟨by simp,OwnY.fin (have h:=hO1;OwnY.re h)⟩
  by_cases c7:c≤7
  ·obtain⟨cc,hcc1,hcc2⟩:=hch (by omega) c7
   simp only [Int.toNat_natCast] at hcc1
   have hgd:f.next.cells.getD ((x:Int)).toNat 0=cc:=by rw [hnc,List.getD_eq_getElem?_getD,Int.toNat_natCast,hcc1];rfl
   obtain⟨hxl,_⟩:=gS hcc1
   have her:(zA f.cells)[x]?=some [.pt (.u 7 cc 0) 0]:=by rw [qGd];simp [hcc1,ptE]
   obtain⟨herl,herE⟩:=gS her
   have hc:c=5∨c=6∨c=7:=by omega
   by_cases hxc:(x:Int)<((qE p f.blk).length:Int)
   ·have hcond:∀ (c:Int) (w:Nat),5≤c→c≤7→((c - 2) % 3).toNat=w→yq p m fs f.next (c,(x:Int))=zf m fs f.next (c,(x:Int)) w 2:=fun c w h1 h2 hw=>by rw [qI3 h1 h2 hw,hnb,if_pos hxc]
    rcases hc with rfl|rfl|rfl
    ·rw [hcond _ _ (by decide) (by decide) rfl]
     have fx:=aI t0<|aI t1<|aI t5<|aI p5<|aI t9<|aI t10<|aI hT<|aI hRl<|aI r0<|aI r0E<|aI f0<|aI f0E<|aI f0l<|aI hcd<|aI hcdl<|aI hcdE<|aI hcc<|aI hxc<|aI f3<|aI f3E<|aI f3l<|aI yoh<|aI h3<|aI hxl<|aI her<|aI herE<|herl
     refine qB ?_
     repeat ((first|refine wSc (id:=7) yH qA ?_|refine wSc (id:=12) yG qA ?_|refine wSc (id:=14) yF qA ?_|refine wSc (id:=20) zL qA ?_|refine wSc (id:=23) zL qA ?_);refine qC ?_;refine qB ?_)
     clear fx
     intro K hK
     have fx:=aI t0 (aI t1 (aI t5 p5))
     refine qQ h0 (have h:=hO;OwnY.re h) (Nat.le_refl _) (hF:=fun hO=>v4 gl _ p m fs f.next (5,(x:Int)) cc 0 2 (by simp) (by simp) hgd hcc2 hm0 (by decide) (by decide) hfl (fun h=>by cases h) hnsl hO) (h:=?_)
     rintro y H1 ⟨rfl,hO1⟩
     clear fx
     have fx:=aI t0<|aI t1<|aI t5<|hT
     refine qB ?_
     repeat ((first|refine wSc (id:=7) yH qA ?_|refine wSc (id:=12) yG qA ?_|refine wSc (id:=14) yF qA ?_|refine wSc (id:=20) zL qA ?_|refine wSc (id:=23) zL qA ?_);refine qC ?_;refine qB ?_)
     clear fx
     refine qF [] .nil (by simp;rfl) ⟨by simp,OwnY.fin (have h:=hO1;OwnY.re h)⟩
    ·rw [hcond _ _ (by decide) (by decide) rfl]
     have fx:=aI t0<|aI t1<|aI t5<|aI p5<|aI t9<|aI t10<|aI hT<|aI hRl<|aI r0<|aI r0E<|aI f0<|aI f0E<|aI f0l<|aI hcd<|aI hcdl<|aI hcdE<|aI hcc<|aI hxc<|aI f3<|aI f3E<|aI f3l<|aI yoh<|aI h3<|aI hxl<|aI her<|aI herE<|herl
     refine qB ?_
     repeat ((first|refine wSc (id:=7) yH qA ?_|refine wSc (id:=12) yG qA ?_|refine wSc (id:=14) yF qA ?_|refine wSc (id:=20) zL qA ?_|refine wSc (id:=23) zL qA ?_);refine qC ?_;refine qB ?_)
     clear fx
     intro K hK
     have fx:=aI t0 (aI t1 (aI t5 p5))
     refine qQ h0 (have h:=hO;OwnY.re h) (Nat.le_refl _) (hF:=fun hO=>v4 gl _ p m fs f.next (6,(x:Int)) cc 1 2 (by simp) (by simp) hgd hcc2 hm0 (by decide) (by decide) hfl (fun _=>hst1 (by simp)) hnsl hO) (h:=?_)
     rintro y H1 ⟨rfl,hO1⟩
     clear fx
     have fx:=aI t0<|aI t1<|aI t5<|hT
     refine qB ?_
     repeat ((first|refine wSc (id:=7) yH qA ?_|refine wSc (id:=12) yG qA ?_|refine wSc (id:=14) yF qA ?_|refine wSc (id:=20) zL qA ?_|refine wSc (id:=23) zL qA ?_);refine qC ?_;refine qB ?_)
     clear fx
     refine qF [] .nil (by simp;rfl) ⟨by simp,OwnY.fin (have h:=hO1;OwnY.re h)⟩
    ·rw [hcond _ _ (by decide) (by decide) rfl]
     have fx:=aI t0<|aI t1<|aI t5<|aI p5<|aI t9<|aI t10<|aI hT<|aI hRl<|aI r0<|aI r0E<|aI f0<|aI f0E<|aI f0l<|aI hcd<|aI hcdl<|aI hcdE<|aI hcc<|aI hxc<|aI f3<|aI f3E<|aI f3l<|aI yoh<|aI h3<|aI hxl<|aI her<|aI herE<|herl
     refine qB ?_
     repeat ((first|refine wSc (id:=7) yH qA ?_|refine wSc (id:=12) yG qA ?_|refine wSc (id:=14) yF qA ?_|refine wSc (id:=20) zL qA ?_|refine wSc (id:=23) zL qA ?_);refine qC ?_;refine qB ?_)
     clear fx
     intro K hK
     have fx:=aI t0 (aI t1 (aI t5 p5))
     refine qQ h0 (have h:=hO;OwnY.re h) (Nat.le_refl _) (hF:=fun hO=>v4 gl _ p m fs f.next (7,(x:Int)) cc 2 2 (by simp) (by simp) hgd hcc2 hm0 (by decide) (by decide) hfl (fun h=>by cases h) hnsl hO) (h:=?_)
     rintro y H1 ⟨rfl,hO1⟩
     clear fx
     have fx:=aI t0<|aI t1<|aI t5<|hT
     refine qB ?_
     repeat ((first|refine wSc (id:=7) yH qA ?_|refine wSc (id:=12) yG qA ?_|refine wSc (id:=14) yF qA ?_|refine wSc (id:=20) zL qA ?_|refine wSc (id:=23) zL qA ?_);refine qC ?_;refine qB ?_)
     clear fx
     refine qF [] .nil (by simp;rfl) ⟨by simp,OwnY.fin (have h:=hO1;OwnY.re h)⟩
   ·have hcond:∀ (c:Int) (w:Nat),5≤c→c≤7→((c - 2) % 3).toNat=w→yq p m fs f.next (c,(x:Int))=zf m fs f.next (c,(x:Int)) w 3:=fun c w h1 h2 hw=>by rw [qI3 h1 h2 hw,hnb,if_neg hxc]
    rcases hc with rfl|rfl|rfl
    ·rw [hcond _ _ (by decide) (by decide) rfl]
     have fx:=aI t0<|aI t1<|aI t5<|aI p5<|aI t9<|aI t10<|aI hT<|aI hRl<|aI r0<|aI r0E<|aI f0<|aI f0E<|aI f0l<|aI hcd<|aI hcdl<|aI hcdE<|aI hcc<|aI hxc<|aI f3<|aI f3E<|aI f3l<|aI yoh<|aI h3<|aI hxl<|aI her<|aI herE<|herl
     refine qB ?_
     repeat ((first|refine wSc (id:=7) yH qA ?_|refine wSc (id:=12) yG qA ?_|refine wSc (id:=14) yF qA ?_|refine wSc (id:=20) zL qA ?_|refine wSc (id:=23) zL qA ?_);refine qC ?_;refine qB ?_)
     clear fx
     intro K hK
     have fx:=aI t0 (aI t1 (aI t5 p5))
     refine qQ h0 (have h:=hO;OwnY.re h) (Nat.le_refl _) (hF:=fun hO=>v4 gl _ p m fs f.next (5,(x:Int)) cc 0 3 (by simp) (by simp) hgd hcc2 hm0 (by decide) (by decide) hfl (fun h=>by cases h) hnsl hO) (h:=?_)
     rintro y H1 ⟨rfl,hO1⟩
     clear fx
     have fx:=aI t0<|aI t1<|aI t5<|hT
     refine qB ?_
     repeat ((first|refine wSc (id:=7) yH qA ?_|refine wSc (id:=12) yG qA ?_|refine wSc (id:=14) yF qA ?_|refine wSc (id:=20) zL qA ?_|refine wSc (id:=23) zL qA ?_);refine qC ?_;refine qB ?_)
     clear fx
     refine qF [] .nil (by simp;rfl) ⟨by simp,OwnY.fin (have h:=hO1;OwnY.re h)⟩
    ·rw [hcond _ _ (by decide) (by decide) rfl]
     have fx:=aI t0<|aI t1<|aI t5<|aI p5<|aI t9<|aI t10<|aI hT<|aI hRl<|aI r0<|aI r0E<|aI f0<|aI f0E<|aI f0l<|aI hcd<|aI hcdl<|aI hcdE<|aI hcc<|aI hxc<|aI f3<|aI f3E<|aI f3l<|aI yoh<|aI h3<|aI hxl<|aI her<|aI herE<|herl
     refine qB ?_
     repeat ((first|refine wSc (id:=7) yH qA ?_|refine wSc (id:=12) yG qA ?_|refine wSc (id:=14) yF qA ?_|refine wSc (id:=20) zL qA ?_|refine wSc (id:=23) zL qA ?_);refine qC ?_;refine qB ?_)
     clear fx
     intro K hK
     have fx:=aI t0 (aI t1 (aI t5 p5))
     refine qQ h0 (have h:=hO;OwnY.re h) (Nat.le_refl _) (hF:=fun hO=>v4 gl _ p m fs f.next (6,(x:Int)) cc 1 3 (by simp) (by simp) hgd hcc2 hm0 (by decide) (by decide) hfl (fun _=>hst1 (by simp)) hnsl hO) (h:=?_)
     rintro y H1 ⟨rfl,hO1⟩
     clear fx
     have fx:=aI t0<|aI t1<|aI t5<|hT
     refine qB ?_
     repeat ((first|refine wSc (id:=7) yH qA ?_|refine wSc (id:=12) yG qA ?_|refine wSc (id:=14) yF qA ?_|refine wSc (id:=20) zL qA ?_|refine wSc (id:=23) zL qA ?_);refine qC ?_;refine qB ?_)
     clear fx
     refine qF [] .nil (by simp;rfl) ⟨by simp,OwnY.fin (have h:=hO1;OwnY.re h)⟩
    ·rw [hcond _ _ (by decide) (by decide) rfl]
     have fx:=aI t0<|aI t1<|aI t5<|aI p5<|aI t9<|aI t10<|aI hT<|aI hRl<|aI r0<|aI r0E<|aI f0<|aI f0E<|aI f0l<|aI hcd<|aI hcdl<|aI hcdE<|aI hcc<|aI hxc<|aI f3<|aI f3E<|aI f3l<|aI yoh<|aI h3<|aI hxl<|aI her<|aI herE<|herl
     refine qB ?_
     repeat ((first|refine wSc (id:=7) yH qA ?_|refine wSc (id:=12) yG qA ?_|refine wSc (id:=14) yF qA ?_|refine wSc (id:=20) zL qA ?_|refine wSc (id:=23) zL qA ?_);refine qC ?_;refine qB ?_)
     clear fx
     intro K hK
     have fx:=aI t0 (aI t1 (aI t5 p5))
     refine qQ h0 (have h:=hO;OwnY.re h) (Nat.le_refl _) (hF:=fun hO=>v4 gl _ p m fs f.next (7,(x:Int)) cc 2 3 (by simp) (by simp) hgd hcc2 hm0 (by decide) (by decide) hfl (fun h=>by cases h) hnsl hO) (h:=?_)
     rintro y H1 ⟨rfl,hO1⟩
     clear fx
     have fx:=aI t0<|aI t1<|aI t5<|hT
     refine qB ?_
     repeat ((first|refine wSc (id:=7) yH qA ?_|refine wSc (id:=12) yG qA ?_|refine wSc (id:=14) yF qA ?_|refine wSc (id:=20) zL qA ?_|refine wSc (id:=23) zL qA ?_);refine qC ?_;refine qB ?_)
     clear fx
     refine qF [] .nil (by simp;rfl) ⟨by simp,OwnY.fin (have h:=hO1;OwnY.re h)⟩
  have hx7:x<8:=by have:=hnam (by omega) c13.2;omega
  have hxl:(x:Int)<8:=by omega
  have hx7':x≤7:=by omega
  have hc:c=8∨c=11∨c=9∨c=10∨c=12∨c=13:=by omega
  have hWg:∀ c:Int,8≤c→c≤10→WrY p m fs f.next (c,(x:Int)) (6+x * 3):=fun c h1 h2=>by rw [Nat.mul_comm];exact WrY.glob hg8 h1 h2 hx7
  have hWn:∀ c:Int,11≤c→WrY p m fs f.next (c,(x:Int)) (yo fs.length+4+x * 3):=fun c h1=>by rw [Nat.mul_comm];exact WrY.name hn8 (by omega) h1 hx7
  rcases hc with rfl|rfl|rfl|rfl|rfl|rfl
  ·rw [qI2 (by simp)]
   have fx:=aI t0<|aI t1<|aI t5<|aI p5<|aI t9<|aI t10<|hxl
   refine qB ?_
   repeat ((first|refine wSc (id:=7) yH qA ?_|refine wSc (id:=12) yG qA ?_|refine wSc (id:=14) yF qA ?_|refine wSc (id:=20) zL qA ?_|refine wSc (id:=23) zL qA ?_);refine qC ?_;refine qB ?_)
   clear fx
   intro K hK
   have fx:=aI t0 (aI t1 (aI t5 p5))
   refine qQ h0 (have h:=hO;OwnY.re h) (Nat.le_refl _) (hF:=fun hO=>qHt gl _ p m fs f.next 8 x (by simp) hx7 hg8 hn8 hm0 hfl hnsl hO) (h:=?_)
   rintro y H1 ⟨rfl,hO1⟩
   clear fx
   have fx:=aI t0<|aI t1<|aI t5<|hT
   refine qB ?_
   repeat ((first|refine wSc (id:=7) yH qA ?_|refine wSc (id:=12) yG qA ?_|refine wSc (id:=14) yF qA ?_|refine wSc (id:=20) zL qA ?_|refine wSc (id:=23) zL qA ?_);refine qC ?_;refine qB ?_)
   clear fx
   refine qF [] .nil (by simp;rfl) ⟨by simp,OwnY.fin (have h:=hO1;OwnY.re h)⟩
  ·rw [qI2 (by simp)]
   have fx:=aI t0<|aI t1<|aI t5<|aI p5<|aI t9<|aI t10<|hxl
   refine qB ?_
   repeat ((first|refine wSc (id:=7) yH qA ?_|refine wSc (id:=12) yG qA ?_|refine wSc (id:=14) yF qA ?_|refine wSc (id:=20) zL qA ?_|refine wSc (id:=23) zL qA ?_);refine qC ?_;refine qB ?_)
   clear fx
   intro K hK
   have fx:=aI t0 (aI t1 (aI t5 p5))
   refine qQ h0 (have h:=hO;OwnY.re h) (Nat.le_refl _) (hF:=fun hO=>qHt gl _ p m fs f.next 11 x (by simp) hx7 hg8 hn8 hm0 hfl hnsl hO) (h:=?_)
   rintro y H1 ⟨rfl,hO1⟩
   clear fx
   have fx:=aI t0<|aI t1<|aI t5<|hT
   refine qB ?_
   repeat ((first|refine wSc (id:=7) yH qA ?_|refine wSc (id:=12) yG qA ?_|refine wSc (id:=14) yF qA ?_|refine wSc (id:=20) zL qA ?_|refine wSc (id:=23) zL qA ?_);refine qC ?_;refine qB ?_)
   clear fx
   refine qF [] .nil (by simp;rfl) ⟨by simp,OwnY.fin (have h:=hO1;OwnY.re h)⟩
  ·rw [qEd (by decide) (by decide) (by decide) rfl]
   have fx:=aI t0<|aI t1<|aI t5<|aI p5<|aI t9<|aI t10<|aI hxl<|aI hx7'<|yoh
   refine qB ?_
   repeat ((first|refine wSc (id:=7) yH qA ?_|refine wSc (id:=12) yG qA ?_|refine wSc (id:=14) yF qA ?_|refine wSc (id:=20) zL qA ?_|refine wSc (id:=23) zL qA ?_);refine qC ?_;refine qB ?_)
   clear fx
   intro K hK
   have fx:=aI t0 (aI t1 (aI t5 p5))
   refine qQ h0 (have h:=hO;OwnY.re h) (Nat.le_refl _) (hF:=fun hO=>kr gl _ p m fs f.next (9,(x:Int)) _ 1 4 (hWg _ (by decide) (by decide)) hm0 (by decide) (by decide) hfl (fun _=>hst1 (by simp)) hnsl hO) (h:=?_)
   rintro y H1 ⟨rfl,hO1⟩
   clear fx
   have fx:=aI t0<|aI t1<|aI t5<|hT
   refine qB ?_
   repeat ((first|refine wSc (id:=7) yH qA ?_|refine wSc (id:=12) yG qA ?_|refine wSc (id:=14) yF qA ?_|refine wSc (id:=20) zL qA ?_|refine wSc (id:=23) zL qA ?_);refine qC ?_;refine qB ?_)
   clear fx
   refine qF [] .nil (by simp;rfl) ⟨by simp,OwnY.fin (have h:=hO1;OwnY.re h)⟩
  ·rw [qEd (by decide) (by decide) (by decide) rfl]
   have fx:=aI t0<|aI t1<|aI t5<|aI p5<|aI t9<|aI t10<|aI hxl<|aI hx7'<|yoh
   refine qB ?_
   repeat ((first|refine wSc (id:=7) yH qA ?_|refine wSc (id:=12) yG qA ?_|refine wSc (id:=14) yF qA ?_|refine wSc (id:=20) zL qA ?_|refine wSc (id:=23) zL qA ?_);refine qC ?_;refine qB ?_)
   clear fx
   intro K hK
   have fx:=aI t0 (aI t1 (aI t5 p5))
   refine qQ h0 (have h:=hO;OwnY.re h) (Nat.le_refl _) (hF:=fun hO=>kr gl _ p m fs f.next (10,(x:Int)) _ 2 4 (hWg _ (by decide) (by decide)) hm0 (by decide) (by decide) hfl (fun h=>by cases h) hnsl hO) (h:=?_)
   rintro y H1 ⟨rfl,hO1⟩
   clear fx
   have fx:=aI t0<|aI t1<|aI t5<|hT
   refine qB ?_
   repeat ((first|refine wSc (id:=7) yH qA ?_|refine wSc (id:=12) yG qA ?_|refine wSc (id:=14) yF qA ?_|refine wSc (id:=20) zL qA ?_|refine wSc (id:=23) zL qA ?_);refine qC ?_;refine qB ?_)
   clear fx
   refine qF [] .nil (by simp;rfl) ⟨by simp,OwnY.fin (have h:=hO1;OwnY.re h)⟩
  ·rw [qEd (by decide) (by decide) (by decide) rfl]
   have fx:=aI t0<|aI t1<|aI t5<|aI p5<|aI t9<|aI t10<|aI hxl<|aI hx7'<|yoh
   refine qB ?_
   repeat ((first|refine wSc (id:=7) yH qA ?_|refine wSc (id:=12) yG qA ?_|refine wSc (id:=14) yF qA ?_|refine wSc (id:=20) zL qA ?_|refine wSc (id:=23) zL qA ?_);refine qC ?_;refine qB ?_)
   clear fx
   intro K hK
   have fx:=aI t0 (aI t1 (aI t5 p5))
   refine qQ h0 (have h:=hO;OwnY.re h) (Nat.le_refl _) (hF:=fun hO=>kr gl _ p m fs f.next (12,(x:Int)) _ 1 4 (hWn _ (by decide)) hm0 (by decide) (by decide) hfl (fun _=>hst1 (by simp)) hnsl hO) (h:=?_)
   rintro y H1 ⟨rfl,hO1⟩
   clear fx
   have fx:=aI t0<|aI t1<|aI t5<|hT
   refine qB ?_
   repeat ((first|refine wSc (id:=7) yH qA ?_|refine wSc (id:=12) yG qA ?_|refine wSc (id:=14) yF qA ?_|refine wSc (id:=20) zL qA ?_|refine wSc (id:=23) zL qA ?_);refine qC ?_;refine qB ?_)
   clear fx
   refine qF [] .nil (by simp;rfl) ⟨by simp,OwnY.fin (have h:=hO1;OwnY.re h)⟩
  ·rw [qEd (by decide) (by decide) (by decide) rfl]
   have fx:=aI t0<|aI t1<|aI t5<|aI p5<|aI t9<|aI t10<|aI hxl<|aI hx7'<|yoh
   refine qB ?_
   repeat ((first|refine wSc (id:=7) yH qA ?_|refine wSc (id:=12) yG qA ?_|refine wSc (id:=14) yF qA ?_|refine wSc (id:=20) zL qA ?_|refine wSc (id:=23) zL qA ?_);refine qC ?_;refine qB ?_)
   clear fx
   intro K hK
   have fx:=aI t0 (aI t1 (aI t5 p5))
   refine qQ h0 (have h:=hO;OwnY.re h) (Nat.le_refl _) (hF:=fun hO=>kr gl _ p m fs f.next (13,(x:Int)) _ 2 4 (hWn _ (by decide)) hm0 (by decide) (by decide) hfl (fun h=>by cases h) hnsl hO) (h:=?_)
   rintro y H1 ⟨rfl,hO1⟩
   clear fx
   have fx:=aI t0<|aI t1<|aI t5<|hT
   refine qB ?_
   repeat ((first|refine wSc (id:=7) yH qA ?_|refine wSc (id:=12) yG qA ?_|refine wSc (id:=14) yF qA ?_|refine wSc (id:=20) zL qA ?_|refine wSc (id:=23) zL qA ?_);refine qC ?_;refine qB ?_)
   clear fx
   refine qF [] .nil (by simp;rfl) ⟨by simp,OwnY.fin (have h:=hO1;OwnY.re h)⟩
 rw [qOK c0 c13]
 have hcs:c=1∨c=14∨c=15∨c=16∨c=17∨c=18∨c=19∨c=20:=by omega
 have cb:∀ k:Int,2≤k→k≤13→(c==k)=false:=fun k h1 h2=>by rw [beq_eq_false_iff_ne];omega
 have hval:∀ H:Nm→Option AO,OwnY H p (m.top fs f.next)→H (.u 9 0 0)=none→FnE Tryz.prog gl 152 DM [.pt Yn 0,.pt Yn (yo fs.length),.agg [iv c,iv x]] H (fun _ y H'=>y=bv (decide ((zI p m fs f.next (c,(x:Int))).en=0))∧OwnY H' p (zI p m fs f.next (c,(x:Int)))) noE:=by
  intro H hO h9
  have h17:c=17→(x:Int)≤1∧((x:Int)).toNat+1≤f.next.stack.length∧fs.length+1≤150:=fun h=>by
   refine⟨hcl1 h,?_,hf16 (.inr h)⟩
   subst h
   simp at hok
   exact hok.1
  have h14:c=14→2≤f.next.stack.length:=by rintro rfl;simp at hok;exact hok.1
  have h18:c=18→(x:Int)≤7∧1≤f.next.stack.length:=by rintro rfl;simp at hok;exact⟨hatt rfl,hok.1⟩
  have h19:c=19∨c=20→1≤f.next.stack.length:=by rintro (rfl|rfl) <;> simp at hok <;> exact hok.1
  rcases hcs with h|h|h|h|h|h|h|h
  ·exact qBs gl H p m fs f.next (c,(x:Int)) harg (.inl h) f.pc hP hM h17 h18 hnsl hfl hm0 hO
  ·exact qKL gl H p m fs f.next (c,(x:Int)) harg h f.pc hP hM (h14 h) hnsl hfl hm0 hO
  ·exact qFW gl H p m fs f.next (c,(x:Int)) harg (.inl h) f.pc hP hM (hbk (.inl h)) (fun h'=>hf16 (.inl h')) hnsl hfl hm0 h9 hO
  ·exact qFW gl H p m fs f.next (c,(x:Int)) harg (.inr h) f.pc hP hM (hbk (.inr h)) (fun h'=>hf16 (.inl h')) hnsl hfl hm0 h9 hO
  ·exact qBs gl H p m fs f.next (c,(x:Int)) harg (.inr (.inl h)) f.pc hP hM h17 h18 hnsl hfl hm0 hO
  ·exact qBs gl H p m fs f.next (c,(x:Int)) harg (.inr (.inr h)) f.pc hP hM h17 h18 hnsl hfl hm0 hO
  ·exact qFV gl H p m fs f.next (c,(x:Int)) harg (.inl h) f.pc hP hM (h19 (.inl h)) hret hgsl hne20 hnsl hfl hm0 h9 hO
  ·exact qFV gl H p m fs f.next (c,(x:Int)) harg (.inr h) f.pc hP hM (h19 (.inr h)) hret hgsl hne20 hnsl hfl hm0 h9 hO
 have e2:=cb 2 (by decide) (by decide)
 have e3:=cb 3 (by decide) (by decide)
 have e4:=cb 4 (by decide) (by decide)
 have e5:=cb 5 (by decide) (by decide)
 have e6:=cb 6 (by decide) (by decide)
 have e7:=cb 7 (by decide) (by decide)
 have e8:=cb 8 (by decide) (by decide)
 have e9:=cb 9 (by decide) (by decide)
 have e10:=cb 10 (by decide) (by decide)
 have e11:=cb 11 (by decide) (by decide)
 have e12:=cb 12 (by decide) (by decide)
 have e13:=cb 13 (by decide) (by decide)
 have fx:=aI t0<|aI t1<|aI t5<|aI p5<|aI t9<|aI t10<|aI cb0<|aI e2<|aI e3<|aI e4<|aI e5<|aI e6<|aI e7<|aI e8<|aI e9<|aI e10<|aI e11<|aI e12<|e13
 refine qB ?_
 repeat ((first|refine wSc (id:=10) qUR qA ?_|refine wSc (id:=13) qUQ qA ?_|refine wSc (id:=19) qUP qA ?_);refine qC ?_;refine qB ?_)
 clear fx
 intro K hK
 have fx:=aI t0 (aI t1 (aI t5 p5))
 refine qQ h0 (have h:=hO;OwnY.re h) (Nat.le_refl _) (hF:=fun hO=>hval _ hO (by simp [h9])) (h:=?_)
 rintro y H1 ⟨rfl,hO1⟩
 clear fx
 have fx:=fx0
 refine qB ?_
 repeat ((first|refine wSc (id:=10) qUR qA ?_|refine wSc (id:=13) qUQ qA ?_|refine wSc (id:=19) qUP qA ?_);refine qC ?_;refine qB ?_)
 clear fx
 refine qF [] .nil (by simp;rfl) ⟨by simp,OwnY.fin (have h:=hO1;OwnY.re h)⟩
end Go.Proofs.YtbgmnmnoaamgkaaGreatDoor
end
