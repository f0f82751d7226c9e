/-
  Own texts, joined by mkclaim.py: Zp, Zq, Zqd, Kd.
-/
import Derived.Test.YtbgmnmnoaamgkaaGreatDoorC29
import Derived.Test.YtbgmnmnoaamgkaaGreatDoorC18
import Derived.Test.YtbgmnmnoaamgkaaGreatDoorC16
import Derived.Test.YtbgmnmnoaamgkaaGreatDoorC28
import Derived.Test.YtbgmnmnoaamgkaaGreatDoorC27
set_option linter.unusedSimpArgs false
set_option linter.unusedVariables false
set_option maxRecDepth 100000
set_option maxHeartbeats 4000000

section
namespace Go.Proofs.YtbgmnmnoaamgkaaGreatDoor
open Go Go.Hm Go.Proofs
abbrev qFt:Sch:=.q 0<|.q 1<|.q 2<|.q 3<|.q 4<|.q 5<|.q 6<|.q 7<|.q 8<|.q 9<|.q 10<|.l 11 [6,5,4,3,2,1,0]<|.q 12<|.l 13 [4,3,2,1,0]<|.l 14 [0]<|.q 15<|.q 16<|.l 17 []<|.done
abbrev qFs:Sch:=.q 0<|.q 1<|.q 2<|.q 3<|.q 4<|.q 5<|.q 6<|.l 7 [2,1,0]<|.l 8 []<|.done
abbrev qFr:Sch:=.q 0<|.q 1<|.q 2<|.q 3<|.q 4<|.q 5<|.l 6 [4,3,2,1,0]<|.l 7 [4,3,2,1,0]<|.l 8 [4,3,2,1,0]<|.l 9 [0]<|.q 10<|.q 11<|.l 12 []<|.done
theorem qKI (gl) (H:Nm→Option AO) (p:Prg) (m:Mch) (fs:List Frm) (f:Frm) (o:Int×Int) (harg:0≤o.2∧o.2≤1000) (hc:o.1=14) (pc0:Nat) (hP:ValP p) (hM:MOk p m fs { f with pc:=pc0 }) (h14:2≤f.stack.length) (hsl:f.stack.length≤1000) (hfl:fs.length≤150) (hm0:m.en=0) (hO:OwnY H p (m.top fs f)) :
  FnE Tryz.prog gl 152 DM [.pt Yn 0,.pt Yn (yo fs.length),.agg [iv o.1,iv o.2]] H (fun _ y H'=>y=bv (decide ((zS p m fs f o).en=0))∧OwnY H' p (zS p m fs f o)) noE:=by
 have h0:=hO
 have yoh:yo fs.length+29≤4415:=by simp only [yo];omega
 obtain⟨c,a⟩:=o
 obtain⟨x,rfl⟩:∃ x:Nat,a=x:=⟨a.toNat,by simp only at harg;omega⟩
 simp only at hc harg
 refine FnE.of_sem Tryz.func152 rfl (by kernel_rfl) (rs:=[.tmp 6]) rfl Tryz.ntmps152 (lB rfl) (fun _=>qQ) fun C w g root hroot=>?_
 have fx:=fx0
 refine qB ?_
 clear fx
 refine vH (fun s=>s.tm 0=.pt Yn 0∧s.tm 1=.pt Yn (yo fs.length)∧s.tm 5=.pt (.s 5) 0∧s.hp (.s 5)=some (.row 2 [[iv c,iv x]])∧s.tm 10=iv c∧s.tm 11=bv (c==1)∧OwnY s.hp p (m.top fs f)) ⟨by simp,by simp,by simp,by simp,by simp,by simp,(by repeat (first|(with_reducible exact hO)|refine vE ?_|refine jl (by rfl) ?_|refine jn ?_|refine ya ?_|refine jm ?_|refine vF ?_|exact (have h:=hO;OwnY.re h)))⟩ ?_
 clear hO
 rintro s ⟨t0,t1,t5,p5,t10,t11,hO⟩
 obtain⟨R,j,hT,tr,h2,h3,h28⟩:=hO.topT rfl (by omega)
 have f28:=tr.f28
 subst hc
 have hw:zS p m fs f (14,(x:Int))=qMV m fs f:=by simp [zS]
 have hadd:qMV m fs f=(if f.pop.tos.1≠1∨f.tos.1≠1 then m.stop fs f.pop.pop 5 else m.top fs (f.pop.pop.push (1,(f.pop.tos.2+f.tos.2).tmod 1000))):=rfl
 rw [hw,hadd]
 clear hw hadd
 obtain⟨k,hk⟩:∃ k,f.stack.length=k+1+1:=⟨f.stack.length - 2,by omega⟩
 have hk2:=vh hk
 have hv1:=hM.top.sv _ (uP (f:=f) (by omega))
 have hv2:=hM.top.sv _ (kV (uP (f:=f.pop) (by rw [uT];omega)))
 rw [hk] at f28
 have fx:=aI t0<|aI t1<|aI t5<|aI p5<|aI t10<|t11
 refine qB ?_
 repeat ((first|refine wSc (id:=10) qFt qA ?_|refine wSc (id:=13) qFs qA ?_|refine wSc (id:=19) qFr qA ?_);refine qD ?_;refine qB ?_)
 clear fx
 intro K hK
 have fx:=aI t0 t1
 refine qZ h0 (have h:=hO;OwnY.re h) (Nat.le_refl _) (hF:=fun _=>uO gl DM (fun _=>qQ) _ R (yo fs.length) (k+1) (f.stack++j) f.tos (by simp [hT]) f28 (by simp [h28]) (ja hk) (by omega) yoh) (h:=?_)
 intro y H1 hw
 clear fx
 have hO1:=OwnY.wrp (OwnY.popped (m:=m.top fs f) (have h:=hO;OwnY.re h) rfl (by omega) (by simp [hT]) hk) hw
 obtain⟨rfl,-⟩:=hw
 replace hO1:OwnY H1 p (m.top fs f.pop):=hO1
 generalize hfp:f.pop=f1 at *
 generalize hft:f.tos=u at *
 obtain⟨u1,u2⟩:=u
 have fx:=aI t0<|aI t1<|hT
 refine qB ?_
 repeat ((first|refine wSc (id:=10) qFt qA ?_|refine wSc (id:=13) qFs qA ?_|refine wSc (id:=19) qFr qA ?_);refine qD ?_;refine qB ?_)
 clear fx
 refine yg (fun s=>s.tm 0=.pt Yn 0∧s.tm 1=.pt Yn (yo fs.length)∧s.tm 21=.agg [iv u1,iv u2]∧s.tm 22=.pt Yn (yo fs.length)∧OwnY s.hp p (m.top fs f1)) ⟨by simp [t0,hT],by simp [t1,hT],by simp,by simp [t1,hT],(by repeat (first|(with_reducible exact hO1)|refine vE ?_|refine jl (by rfl) ?_|refine jn ?_|refine ya ?_|refine jm ?_|refine vF ?_|exact (have h:=hO1;OwnY.re h)))⟩ ?_
 clear hO hO1 hT tr h2 h3 h28 f28 t0 t1 t5 p5 t10 t11 R j
 rintro s ⟨t0,t1,t21,t22,hO⟩
 obtain⟨R,j,hT,tr,h2,h3,h28⟩:=hO.topT rfl (by omega)
 have f28:=tr.f28
 rw [hk2] at f28
 have fx:=aI t0 (aI t1 t22)
 refine qZ h0 (have h:=hO;OwnY.re h) (Nat.le_refl _) (hF:=fun _=>uO gl DM (fun _=>qQ) _ R (yo fs.length) k (f1.stack++j) f1.tos (by simp [hT]) f28 (by simp [h28]) (ja hk2) (by omega) yoh) (h:=?_)
 intro y H2 hw
 clear fx
 have hO2:=OwnY.wrp (OwnY.popped (m:=m.top fs f1) (have h:=hO;OwnY.re h) rfl (by omega) (by simp [hT]) hk2) hw
 obtain⟨rfl,-⟩:=hw
 replace hO2:OwnY H2 p (m.top fs f1.pop):=hO2
 have hk3:=vh hk2
 generalize hfp2:f1.pop=f2 at *
 generalize hft2:f1.tos=v at *
 obtain⟨v1,v2⟩:=v
 have hu2:=hv1.num
 have hv2:=hv2.num
 simp only at hu2 hv2
 have hwr:IntKind.i64.wrap (v2+u2)=v2+u2:=wrp (by omega) (by omega)
 have hq0:=Int.tmod_nonneg 1000 (show 0≤v2+u2 by omega)
 have hq1:=Int.tmod_lt_of_pos (v2+u2) (show (0:Int)<1000 by omega)
 have hwq:IntKind.i64.wrap ((v2+u2).tmod 1000)=(v2+u2).tmod 1000:=wrp (by omega) (by omega)
 generalize hmm:(if (v1,v2).1≠1∨(u1,u2).1≠1 then m.stop fs f2 5 else m.top fs (f2.push (1,((v1,v2).2+(u1,u2).2).tmod 1000)))=mm at hK ⊢
 simp only at hmm
 by_cases k1:v1=1∧u1=1
 ·obtain⟨rfl,rfl⟩:=k1
  rw [if_neg (by simp)] at hmm
  subst hmm
  have fx:=aI t0<|aI t1<|aI t21<|aI hT<|aI hwr<|hwq
  refine qB ?_
  repeat ((first|refine wSc (id:=10) qFt qA ?_|refine wSc (id:=13) qFs qA ?_|refine wSc (id:=19) qFr qA ?_);refine qD ?_;refine qB ?_)
  clear fx
  intro K hK
  refine yg (fun s=>s.tm 34=.pt Yn (yo fs.length)∧s.tm 41=.agg [iv 1,iv ((v2+u2).tmod 1000)]∧OwnY s.hp p (m.top fs f2)) ⟨by simp,by simp,(by repeat (first|(with_reducible exact hO2)|refine vE ?_|refine jl (by rfl) ?_|refine jn ?_|refine ya ?_|refine jm ?_|refine vF ?_|exact (have h:=hO2;OwnY.re h)))⟩ ?_
  rintro s ⟨t34,t41,hO⟩
  obtain⟨R,j,hT,tr,h2,h3,h28⟩:=hO.topT rfl (by omega)
  have fx:=aI t34 t41
  refine qZ h0 (have h:=hO;OwnY.re h) (Nat.le_refl _) (hF:=fun _=>jh gl DM (fun _=>qQ) _ R (yo fs.length) f2.stack j (1,(v2+u2).tmod 1000) rfl rfl (by simp [hT]) tr.f28 (by simp [h28]) (by omega) yoh) (h:=?_)
  intro y H3 hw3
  clear fx
  have hO3:=OwnY.pushed (m:=m.top fs f2) (by exact (have h:=hO;OwnY.re h)) rfl (by omega) rfl (by simp [hT]) hw3
  have fx:=fx0
  refine qB ?_
  repeat ((first|refine wSc (id:=10) qFt qA ?_|refine wSc (id:=13) qFs qA ?_|refine wSc (id:=19) qFr qA ?_);refine qD ?_;refine qB ?_)
  clear fx
  refine qH [] .nil (by simp;rfl) ⟨by simp [Mch.top,hm0],OwnY.fin (have h:=hO3;OwnY.re h)⟩
 ·have hne:v1≠1∨u1≠1:=by omega
  rw [if_pos hne] at hmm
  subst hmm
  by_cases k2:v1=1
  ·subst k2
   have kb:(u1 != 1)=true:=by simpa using k1
   have fx:=aI t0<|aI t1<|aI t21<|aI hT<|kb
   refine qB ?_
   repeat ((first|refine wSc (id:=10) qFt qA ?_|refine wSc (id:=13) qFs qA ?_|refine wSc (id:=19) qFr qA ?_);refine qD ?_;refine qB ?_)
   clear fx
   intro K hK
   refine yg (fun s=>s.tm 32=.pt Yn 0∧OwnY s.hp p (m.top fs f2)) ⟨by simp,(by repeat (first|(with_reducible exact hO2)|refine vE ?_|refine jl (by rfl) ?_|refine jn ?_|refine ya ?_|refine jm ?_|refine vF ?_|exact (have h:=hO2;OwnY.re h)))⟩ ?_
   rintro s ⟨t32,hO⟩
   obtain⟨R,j,hT,tr,-⟩:=hO.topT rfl (by omega)
   have fx:=t32
   refine qZ h0 (have h:=hO;OwnY.re h) (Nat.le_refl _) (hF:=fun _=>yM gl DM (fun _=>qQ) _ R 5 (by simp [hT]) tr.len) (h:=?_)
   intro y H3 hw3
   clear fx
   have hO3:=OwnY.wrp (OwnY.stopped (m:=m.top fs f2) (e:=5) (have h:=hO;OwnY.re h) rfl (by simp [hT])) hw3
   obtain⟨rfl,-⟩:=hw3
   have fx:=fx0
   refine qB ?_
   repeat ((first|refine wSc (id:=10) qFt qA ?_|refine wSc (id:=13) qFs qA ?_|refine wSc (id:=19) qFr qA ?_);refine qD ?_;refine qB ?_)
   clear fx
   refine qH [] .nil (by simp;rfl) ⟨by simp [Mch.stop],OwnY.fin (have h:=hO3;OwnY.re h)⟩
  ·have kb:(v1 != 1)=true:=by simpa using k2
   have fx:=aI t0<|aI t1<|aI t21<|aI hT<|kb
   refine qB ?_
   repeat ((first|refine wSc (id:=10) qFt qA ?_|refine wSc (id:=13) qFs qA ?_|refine wSc (id:=19) qFr qA ?_);refine qD ?_;refine qB ?_)
   clear fx
   intro K hK
   refine yg (fun s=>s.tm 32=.pt Yn 0∧OwnY s.hp p (m.top fs f2)) ⟨by simp,(by repeat (first|(with_reducible exact hO2)|refine vE ?_|refine jl (by rfl) ?_|refine jn ?_|refine ya ?_|refine jm ?_|refine vF ?_|exact (have h:=hO2;OwnY.re h)))⟩ ?_
   rintro s ⟨t32,hO⟩
   obtain⟨R,j,hT,tr,-⟩:=hO.topT rfl (by omega)
   have fx:=t32
   refine qZ h0 (have h:=hO;OwnY.re h) (Nat.le_refl _) (hF:=fun _=>yM gl DM (fun _=>qQ) _ R 5 (by simp [hT]) tr.len) (h:=?_)
   intro y H3 hw3
   clear fx
   have hO3:=OwnY.wrp (OwnY.stopped (m:=m.top fs f2) (e:=5) (have h:=hO;OwnY.re h) rfl (by simp [hT])) hw3
   obtain⟨rfl,-⟩:=hw3
   have fx:=fx0
   refine qB ?_
   repeat ((first|refine wSc (id:=10) qFt qA ?_|refine wSc (id:=13) qFs qA ?_|refine wSc (id:=19) qFr qA ?_);refine qD ?_;refine qB ?_)
   clear fx
   refine qH [] .nil (by simp;rfl) ⟨by simp [Mch.stop],OwnY.fin (have h:=hO3;OwnY.re h)⟩
abbrev qJ3:Sch:=.q 0<|.q 1<|.q 2<|.q 3<|.q 4<|.q 5<|.q 6<|.q 7<|.q 8<|.q 9<|.q 10<|.l 11 [6,5,4,3,2,1,0]<|.q 12<|.l 13 [4,3,2,1,0]<|.l 14 [0]<|.q 15<|.q 16<|.l 17 []<|.done
abbrev qJ2:Sch:=.q 0<|.q 1<|.q 2<|.q 3<|.q 4<|.q 5<|.q 6<|.l 7 [2,1,0]<|.l 8 []<|.done
abbrev qJ1:Sch:=.q 0<|.q 1<|.q 2<|.q 3<|.q 4<|.q 5<|.l 6 [4,3,2,1,0]<|.l 7 [4,3,2,1,0]<|.l 8 [4,3,2,1,0]<|.l 9 [0]<|.q 10<|.q 11<|.l 12 []<|.done
theorem qFM (gl) (H:Nm→Option AO) (p:Prg) (m:Mch) (fs:List Frm) (f:Frm) (o:Int×Int) (harg:0≤o.2∧o.2≤1000) (hc:o.1=15∨o.1=16) (pc0:Nat) (hP:ValP p) (hM:MOk p m fs { f with pc:=pc0 }) (hblk:∃ q,p[o.2.toNat]?=some q∧q.parent=f.blk∧0<o.2∧q.kind=o.1 - 14) (hf16:o.1=16→fs.length+1≤150) (hsl:f.stack.length≤1000) (hfl:fs.length≤150) (hm0:m.en=0) (h9:H (.u 9 0 0)=none) (hO:OwnY H p (m.top fs f)) :
  FnE Tryz.prog gl 152 DM [.pt Yn 0,.pt Yn (yo fs.length),.agg [iv o.1,iv o.2]] H (fun _ y H'=>y=bv (decide ((zS p m fs f o).en=0))∧OwnY H' p (zS p m fs f o)) noE:=by
 have h0:=hO
 have yoh:yo fs.length+29≤4415:=by simp only [yo];omega
 obtain⟨c,a⟩:=o
 obtain⟨x,rfl⟩:∃ x:Nat,a=x:=⟨a.toNat,by simp only at harg;omega⟩
 simp only at hc hblk hf16 harg
 refine FnE.of_sem Tryz.func152 rfl (by kernel_rfl) (rs:=[.tmp 6]) rfl Tryz.ntmps152 (lB rfl) (fun _=>qQ) fun C w g root hroot=>?_
 have fx:=fx0
 refine qB ?_
 clear fx
 refine vH (fun s=>s.tm 0=.pt Yn 0∧s.tm 1=.pt Yn (yo fs.length)∧s.tm 5=.pt (.s 5) 0∧s.hp (.s 5)=some (.row 2 [[iv c,iv x]])∧s.tm 10=iv c∧s.tm 11=bv (c==1)∧OwnY s.hp p (m.top fs f)) ⟨by simp,by simp,by simp,by simp,by simp,by simp,(by repeat (first|(with_reducible exact hO)|refine vE ?_|refine jl (by rfl) ?_|refine jn ?_|refine ya ?_|refine jm ?_|refine vF ?_|exact (have h:=hO;OwnY.re h)))⟩ ?_
 clear hO
 rintro s ⟨t0,t1,t5,p5,t10,t11,hO⟩
 obtain⟨R,j,hT,tr,h2,h3,h28⟩:=hO.topT rfl (by omega)
 have f28:=tr.f28
 obtain⟨kb,hk1,hk2,hk3,hk4⟩:=hblk
 simp only [Int.toNat_natCast] at hk1
 have hxl:=(gS hk1).1
 have hp7:=hP.sh.len
 have hcin:=qVB (f:={ f with pc:=pc0 }) hP.sh.heads hM.top hk1 hk2
 obtain⟨hco1,hco2⟩:(y9 p f x).length=(q9 p x).length∧∀ c∈y9 p f x,c<m.cells.length:=qFB (f:={ f with pc:=pc0 }) hP.sh.heads hM.top hk1 hk2
 have hc3:=jS (p:=p) (b:=x)
 have hnf:=hM.nf
 have hRl:=tr.len
 have r30:=tr.r30
 obtain⟨_,r30E⟩:=gS r30
 simp only [um] at r30 r30E
 rcases hc with rfl|rfl
 ·have hw:zS p m fs f (15,(x:Int))={ m.top fs (f.push (2,m.funs.length)) with funs:=m.funs++[(x,y9 p f x)] }:=by simp [zS]
  rw [hw]
  have hfl3:m.funs.length≤1000:=by omega
  have hwf:IntKind.i64.wrap (m.funs.length:Int)=m.funs.length:=wrp (by omega) (by omega)
  have fx:=aI t0<|aI t1<|aI t5<|aI p5<|aI t10<|aI t11<|aI hT<|aI hRl<|aI r30<|r30E
  refine qB ?_
  repeat ((first|refine wSc (id:=10) qJ3 qA ?_|refine wSc (id:=13) qJ2 qA ?_|refine wSc (id:=19) qJ1 qA ?_);refine qD ?_;refine qB ?_)
  clear fx
  intro K hK
  have fx:=aI t0 (aI t1 (aI t5 p5))
  have hO0:=hO
  refine qGF 56 (.s 56) ?_
  refine qPi DM (.c Yn 0 30) (.u 9 0 0) (z:=1) (len:=(y9 p f x).length) (rows:=zI (y9 p f x)) rfl rfl (by simp [ue,h9]) (fun _=>qQ) (by simp) (fun _=>qRr) (fun _=>qYT) (by simp [hO.funs]) (fun k i j he=>?_) (by simp) (vv fun c=>by simp) (hF:=?_) (h:=?_)
  ·rcases h0.ext hO (Nat.le_refl _) k i j he with h|h
   ·exact .inl h
   ·refine .inr fun h'=>h ?_
    simp only [yC]
    split
    ·exact h'
    ·rfl
  ·exact qKN gl DY9 (fun _=>qFH) _ p fs.length f x (R.map (AV.tr (mv (.c Yn 0 30) (.u 9 0 0)))) hxl (by omega) hfl (by simp [yC,DY9,hmv,hT,AO.tr]) (by simp [hRl]) (by rw [List.getElem?_map,tr.r1];simp) (by rw [List.getElem?_map,tr.f3];simp) (by simp [yC,DY9,hmv,hO.caps,AO.tr]) (by simp [yC,DY9,hmv,h3,AO.tr]) (fun _=>rfl) (fun _ _=>rfl) rfl hcin ug
  intro hp' hS hr1
  clear fx
  have hO1:=hO.same hS
  obtain⟨R1,j1,hT1,tr1,h21,h31,h281⟩:=OwnY.topT (f:=f) hO1 rfl (by omega)
  have hR1l:=tr1.len
  have r301:=tr1.r30
  obtain⟨_,r301E⟩:=gS r301
  simp only [um] at r301 r301E
  have hFn:=hO1.funs
  simp only [um] at hFn
  refine⟨.sl 1 (zI (y9 p f x)),qMJ (by simp [hr1]) (by simp) qG3,?_⟩
  have fx:=aI t0<|aI t1<|aI t5<|aI p5<|aI hT<|aI hRl<|aI r30<|aI r30E<|aI hT1<|aI hR1l<|aI r301<|aI r301E<|aI hFn<|aI hfl3<|hwf
  refine qB ?_
  repeat ((first|refine wSc (id:=10) qJ3 qA ?_|refine wSc (id:=13) qJ2 qA ?_|refine wSc (id:=19) qJ1 qA ?_);refine qD ?_;refine qB ?_)
  clear fx
  intro K hK
  have hap:jW m.funs++[[iv x,.sl 1 (zI (y9 p f x))]]=jW (m.funs++[(x,y9 p f x)]):=qJm (g:=(x,y9 p f x))
  refine yg (fun s=>s.tm 62=.pt Yn (yo fs.length)∧s.tm 69=.agg [iv 2,iv m.funs.length]∧OwnY s.hp p (({ m with funs:=m.funs++[(x,y9 p f x)] }:Mch).top fs f)) ⟨by simp,by simp,?_⟩ ?_
  ·have h:=hO1
   exact OwnY.reT (f:=f) (g:=f) (fs:=fs) h rfl rfl rfl (qEO hT1 (by simp;rfl) (fun J hJ e=>by rw [e];simp only [kD];exact qUw (m.funs++[(x,y9 p f x)]) hJ (by simp) (fun j hj=>by simp [hj]))) (h4:=by simp [← hap]) (h6t:=by simp [h21]) (h7t:=by simp [h31]) (h8t:=⟨j1,by simp [h281]⟩)
  rintro s ⟨t62,t69,hO⟩
  obtain⟨R,j,hT,tr,-,-,h28⟩:=OwnY.topT (f:=f) hO rfl (by omega)
  have fx:=aI t62 t69
  refine qZ h0 (have h:=hO;OwnY.re h) (Nat.le_refl _) (hF:=fun _=>jh gl DM (fun _=>qQ) _ R (yo fs.length) f.stack j (2,(m.funs.length:Int)) rfl rfl (by simp [hT]) tr.f28 (by simp [h28]) hsl yoh) (h:=?_)
  intro y H2 hw2
  clear fx
  have hO2:=OwnY.pushed (f:=f) (by exact (have h:=hO;OwnY.re h)) rfl (by omega) rfl (by simp [hT]) hw2
  have fx:=fx0
  refine qB ?_
  repeat ((first|refine wSc (id:=10) qJ3 qA ?_|refine wSc (id:=13) qJ2 qA ?_|refine wSc (id:=19) qJ1 qA ?_);refine qD ?_;refine qB ?_)
  clear fx
  refine qH [] .nil (by simp;rfl) ⟨by simp [Mch.top,hm0],OwnY.fin (have h:=hO2;OwnY.re h)⟩
 ·have hw:zS p m fs f (16,(x:Int))=z6 p (m.top fs f) x (y9 p f x) []:=by simp [zS]
  rw [hw]
  have hpm:(qk p x).params=[]:=by
   have:=hP.sh.head x kb hk1
   unfold jL at this
   rw [if_neg (by omega)] at this
   have h0:kb.params.length=0:=by omega
   simp [qk,hk1,List.eq_nil_of_length_eq_zero h0]
  have hmd:=hM.made
  have hdp:=hM.deep
  have hnc:=hM.nc
  have hf16:=hf16 rfl
  have fx:=aI t0<|aI t1<|aI t5<|aI p5<|aI t10<|t11
  refine qB ?_
  repeat ((first|refine wSc (id:=10) qJ3 qA ?_|refine wSc (id:=13) qJ2 qA ?_|refine wSc (id:=19) qJ1 qA ?_);refine qD ?_;refine qB ?_)
  clear fx
  intro K hK
  have fx:=aI t0 (aI t1 (aI t5 p5))
  refine qZ h0 (have h:=hO;OwnY.re h) (Nat.le_refl _) (hF:=fun hO=>qGk gl _ p m fs f x hxl (by omega) hfl hcin ug hO) (h:=?_)
  rintro y H1 ⟨rfl,hr1,hO1⟩
  clear fx
  have fx:=aI t0<|aI t1<|aI t5<|aI p5<|hT
  refine qB ?_
  repeat ((first|refine wSc (id:=10) qJ3 qA ?_|refine wSc (id:=13) qJ2 qA ?_|refine wSc (id:=19) qJ1 qA ?_);refine qD ?_;refine qB ?_)
  clear fx
  refine yg (fun s=>s.tm 5=.pt (.s 5) 0∧s.tm 74=.pt (.s 5) 1∧s.tm 78=.pt (.s 5) 1∧s.tm 73=.pt Yn 0∧s.tm 75=iv x∧s.tm 80=.hs (.s 80) 1 0 (y9 p f x).length∧s.hp (.s 80)=some (.row 1 (zI (y9 p f x)))∧OwnY s.hp p (m.top fs f)) ⟨by simp [t5],by simp [t5],by simp [t5],by simp [t0,hT],by simp,by simp,by simp [hr1],(have h:=hO1;OwnY.re h)⟩ ?_
  rintro s ⟨t5,t74,t78,t73,t75,t80,p80,hO⟩
  refine qC2 80 (.s 80) 1 (y9 p f x).length (zI (y9 p f x)) t80 p80 (by simp) qG3 ?_
  have fx:=aI t73 t75
  refine qZ h0 (ya hO) (Nat.le_refl _) (hF:=fun hO=>(qBq gl _ p (m.top fs f) x (y9 p f x) [] hxl (by omega) (by omega) hco2 (by simp only [kP];omega) (by simp only [qBg];omega) (by simp only [Mch.top];omega) (by simp [Mch.top];omega) (.inl hpm) (by rw [hpm];rfl) (hM.frc rfl) hM.fnc hO).nil4) (h:=?_)
  rintro y H2 hO2
  clear fx
  have fx:=aI t5<|aI t74<|t78
  refine qB ?_
  repeat ((first|refine wSc (id:=10) qJ3 qA ?_|refine wSc (id:=13) qJ2 qA ?_|refine wSc (id:=19) qJ1 qA ?_);refine qD ?_;refine qB ?_)
  clear fx
  refine qH [] .nil (by simp;rfl) ⟨by simp [qFG,Mch.top,hm0],OwnY.fin (have h:=hO2;OwnY.re h)⟩
end Go.Proofs.YtbgmnmnoaamgkaaGreatDoor
end
section
namespace Go.Proofs.YtbgmnmnoaamgkaaGreatDoor
open Go Go.Hm Go.Proofs
abbrev qFq:Sch:=.q 0<|.q 1<|.q 2<|.q 3<|.q 4<|.q 5<|.q 6<|.q 7<|.q 8<|.q 9<|.q 10<|.l 11 [6,5,4,3,2,1,0]<|.q 12<|.l 13 [4,3,2,1,0]<|.l 14 [0]<|.q 15<|.q 16<|.l 17 []<|.done
abbrev qFp:Sch:=.q 0<|.q 1<|.q 2<|.q 3<|.q 4<|.q 5<|.q 6<|.l 7 [2,1,0]<|.l 8 []<|.done
abbrev qFo:Sch:=.q 0<|.q 1<|.q 2<|.q 3<|.q 4<|.q 5<|.l 6 [4,3,2,1,0]<|.l 7 [4,3,2,1,0]<|.l 8 [4,3,2,1,0]<|.l 9 [0]<|.q 10<|.q 11<|.l 12 []<|.done
theorem qFL (gl) (H:Nm→Option AO) (p:Prg) (m:Mch) (fs:List Frm) (f:Frm) (o:Int×Int) (harg:0≤o.2∧o.2≤1000) (hc:o.1=19∨o.1=20) (pc0:Nat) (hP:ValP p) (hM:MOk p m fs { f with pc:=pc0 }) (hst:1≤f.stack.length) (h20:o.1=20→qt p f.blk=1) (hlow:∀ g∈fs,g.stack.length≤1000) (hne:o.1=20→fs≠[]) (hsl:f.stack.length≤1000) (hfl:fs.length≤150) (hm0:m.en=0) (h9:H (.u 9 0 0)=none) (hO:OwnY H p (m.top fs f)) :
  FnE Tryz.prog gl 152 DM [.pt Yn 0,.pt Yn (yo fs.length),.agg [iv o.1,iv o.2]] H (fun _ y H'=>y=bv (decide ((zS p m fs f o).en=0))∧OwnY H' p (zS p m fs f o)) noE:=by
 have h0:=hO
 have yoh:yo fs.length+29≤4415:=by simp only [yo];omega
 obtain⟨c,a⟩:=o
 obtain⟨x,rfl⟩:∃ x:Nat,a=x:=⟨a.toNat,by simp only at harg;omega⟩
 simp only at hc h20 hne harg
 refine FnE.of_sem Tryz.func152 rfl (by kernel_rfl) (rs:=[.tmp 6]) rfl Tryz.ntmps152 (lB rfl) (fun _=>qQ) fun C w g root hroot=>?_
 have fx:=fx0
 refine qB ?_
 clear fx
 refine vH (fun s=>s.tm 0=.pt Yn 0∧s.tm 1=.pt Yn (yo fs.length)∧s.tm 5=.pt (.s 5) 0∧s.hp (.s 5)=some (.row 2 [[iv c,iv x]])∧s.tm 10=iv c∧s.tm 11=bv (c==1)∧OwnY s.hp p (m.top fs f)) ⟨by simp,by simp,by simp,by simp,by simp,by simp,(by repeat (first|(with_reducible exact hO)|refine vE ?_|refine jl (by rfl) ?_|refine jn ?_|refine ya ?_|refine jm ?_|refine vF ?_|exact (have h:=hO;OwnY.re h)))⟩ ?_
 clear hO
 rintro s ⟨t0,t1,t5,p5,t10,t11,hO⟩
 obtain⟨R,j,hT,tr,h2,h3,h28⟩:=hO.topT rfl (by omega)
 have f28:=tr.f28
 obtain⟨k,hk⟩:∃ k,f.stack.length=k+1:=⟨f.stack.length - 1,by omega⟩
 rcases hc with rfl|rfl
 ·have hw:zS p m fs f (19,(x:Int))={ m.top fs f.pop with out:=m.out++[Hm.shown f.tos] }:=by simp [zS]
  rw [hw]
  have hmo:=hM.out
  have hol:m.out.length≤1000:=by omega
  have hRl:=tr.len
  have r4:=tr.r4
  obtain⟨_,r4E⟩:=gS r4
  simp only [Mch.top] at r4 r4E
  have fx:=aI t0<|aI t1<|aI t5<|aI p5<|aI t10<|aI t11<|aI hT<|aI hRl<|aI r4<|r4E
  refine qB ?_
  repeat ((first|refine wSc (id:=10) qFq qA ?_|refine wSc (id:=13) qFp qA ?_|refine wSc (id:=19) qFo qA ?_);refine qD ?_;refine qB ?_)
  clear fx
  intro K hK
  obtain⟨R0,R',vs,k1,k2,k3,k4,k5,k6⟩:=OwnY.keep (j:=4) hO rfl (by omega) hk (by simp only [yo];omega)
  have fx:=aI t0 t1
  refine qHo DM (.c Yn 0 4) (.u 9 0 0) Yn (.row 4415 [spl R0 (yo fs.length+28) [.hs (.c Yn 0 (yo fs.length+28)) 2 0 k]]) (Val.av f.tos) (hV:=rfl) (hN:=rfl) (hVe:=by simp [ue,h9]) (fun _=>qQ) (by simp) (fun _=>qRr) (fun _=>qYT) (by simp [hO.out]) (fun k i j he=>?_) rfl (by simp) (by simp) (hF:=by rw [k6];exact uO gl DY9 (fun _=>qFH) _ R' (yo fs.length) k vs f.tos k2 k3 k4 k5 (by omega) yoh) (h:=?_)
  ·rcases h0.ext hO (Nat.le_refl _) k i j he with h|h
   ·exact .inl h
   ·refine .inr fun h'=>h ?_
    simp only [yC]
    split
    ·exact h'
    ·rfl
  intro hp' hS
  clear fx
  have hO1:OwnY hp' p (m.top fs f.pop):=(OwnY.popped (m:=m.top fs f) hO rfl (by omega) k1 hk).same hS
  obtain⟨R1,j1,hT1,tr1,h21,h31,h281⟩:=OwnY.topT (f:=f.pop) hO1 rfl (by omega)
  have hR1l:=tr1.len
  have r41:=tr1.r4
  obtain⟨_,r41E⟩:=gS r41
  simp only [Mch.top] at r41 r41E
  have hOu:=hO1.out
  simp only [Mch.top] at hOu
  have hsh:=kj gl f.tos
  generalize hv:f.tos=v at *
  obtain⟨v1,v2⟩:=v
  have fx:=aI t0<|aI t1<|aI t5<|aI p5<|aI hT<|aI hRl<|aI r4<|aI r4E<|aI hT1<|aI hR1l<|aI r41<|aI r41E<|aI hOu<|hol
  have c1:=hsh
  refine qB ?_
  repeat ((first|refine wSc (id:=10) qFq qA ?_|refine wSc (id:=13) qFp qA ?_|refine wSc (id:=19) qFo qA ?_);refine qD ?_;refine qB ?_)
  clear fx c1
  refine qH [] .nil (by simp;rfl) ⟨by simp [Mch.top,hm0],OwnY.fin ?_⟩
  have h:=hO1
  exact OwnY.reT (f:=f.pop) (g:=f.pop) (fs:=fs) h rfl rfl rfl (qEO hT1 (by simp;rfl) (fun J hJ e=>by rw [e];simp only [kD];exact qXq (m.out++[Hm.shown (v1,v2)]) hJ (by simp) (fun j hj=>by simp [hj]))) (h2:=by simp) (h6t:=by simp [h21]) (h7t:=by simp [h31]) (h8t:=⟨j1,by simp [h281]⟩)
 ·have hw:zS p m fs f (20,(x:Int))=zf m fs f.tos:=by simp [zS]
  rw [hw]
  have hfne:=hne rfl
  obtain⟨gs,g0,rfl⟩:∃ gs g0,fs=gs++[g0]:=⟨fs.dropLast,fs.getLast hfne,(List.dropLast_concat_getLast hfne).symm⟩
  have hkd:=h20 rfl
  have hnk:=hM.nk
  have hmd:=hM.made
  rw [hk] at f28
  have fx:=aI t0<|aI t1<|aI t5<|aI p5<|aI t10<|t11
  refine qB ?_
  repeat ((first|refine wSc (id:=10) qFq qA ?_|refine wSc (id:=13) qFp qA ?_|refine wSc (id:=19) qFo qA ?_);refine qD ?_;refine qB ?_)
  clear fx
  intro K hK
  have fx:=aI t0 t1
  refine qZ h0 (have h:=hO;OwnY.re h) (Nat.le_refl _) (hF:=fun _=>uO gl DM (fun _=>qQ) _ R (yo (gs++[g0]).length) k (f.stack++j) f.tos (by simp [hT]) f28 (by simpa using h28) (ja hk) (by omega) yoh) (h:=?_)
  intro y H1 hw
  clear fx
  have hO1:=OwnY.wrp (OwnY.popped (m:=m.top (gs++[g0]) f) (have h:=hO;OwnY.re h) rfl (by omega) (by simp [hT]) hk) hw
  obtain⟨rfl,-⟩:=hw
  replace hO1:OwnY H1 p (m.top (gs++[g0]) f.pop):=hO1
  have hyf:=fun H hO=>qDS gl H p m gs g0 f.pop f.tos hM.top.blk (by simp at hfl;omega) (hlow g0 (by simp)) (by omega) hO
  rw [show f.pop.blk=f.blk from rfl,if_neg (by omega)] at hyf
  have fx:=aI t0<|aI t1<|hT
  refine qB ?_
  repeat ((first|refine wSc (id:=10) qFq qA ?_|refine wSc (id:=13) qFp qA ?_|refine wSc (id:=19) qFo qA ?_);refine qD ?_;refine qB ?_)
  clear fx
  have fx:=aI t0 (aI t1 hT)
  refine qZ h0 (have h:=hO1;OwnY.re h) (Nat.le_refl _) (hF:=fun hO=>hyf _ hO) (h:=?_)
  intro y H2 hO2
  clear fx
  have fx:=fx0
  refine qB ?_
  repeat ((first|refine wSc (id:=10) qFq qA ?_|refine wSc (id:=13) qFp qA ?_|refine wSc (id:=19) qFo qA ?_);refine qD ?_;refine qB ?_)
  clear fx
  refine qH [] .nil (by simp;rfl) ⟨by simp [qI2,hm0],OwnY.fin (have h:=hO2;OwnY.re h)⟩
theorem qHD {p:Prg} (h:ShapeP p) {i:Nat} {k:Blk} (hk:p[i]?=some k):k.kind=0∨k.kind=1∨k.kind=2:=by
 have:=h.head i k hk
 unfold jL at this
 split at this <;> omega
theorem qGy {l:List Int}:sorted (sorted l)=sorted l:=w9 fun x hx=>by
 rw [Go.Hm.mem_sorted]
 exact⟨fun h=>h.1,fun h=>⟨h,by omega,by omega⟩⟩
theorem qBI {p:Prg} {b:Nat}:sorted (qF p b)=qF p b:=by
 unfold qF
 split
 ·exact qGy
 ·rfl
theorem qGA {xs:List Int} {x:Int}:(qx xs x == -1)=!decide (x∈xs):=by
 have h1:=zi (xs:=xs) (x:=x)
 have h2:=wC (xs:=xs) (x:=x)
 by_cases h:x∈xs
 ·have:=h1.2 h
  simp [h]
  omega
 ·have:¬ 0≤qx xs x:=fun e=>h (h1.1 e)
  simp [h]
  omega
theorem qDi (gl) (p:Prg) (hp:ShapeP p) (b:Nat) (k:Blk) (hk:p[b]?=some k) (hk1:k.kind=1):qW Tryz.prog gl 145 [qAC p,iv b] (fun r y H'=>y=.hs r 1 0 (qT p b).length∧H' r=some (.row 1 (qY (qT p b)))):=by
 have hh:=hp.heads
 have hl7:=hp.len
 obtain⟨hbl,hbE⟩:=gS hk
 have hka:qt p b=k.kind:=by simp [qt,hk]
 have hsg:=yY (p:=p) hbl
 rw [jJ hh hk] at hsg
 obtain⟨_,hse⟩:=gS hsg
 have hc:qT p b=sorted (qz (jz p b) 8):=by
  rw [qEC]
  simp [qT,hka,hk1]
 have hkd:(k.kind==1)=true:=by simpa using hk1
 rw [hc]
 refine qW.of_sem Tryz.func145 rfl (by kernel_rfl) (rs:=[.tmp 4]) rfl Tryz.ntmps145 (lB rfl) fun C w g root=>?_
 all_goals have fx:=aI hsg<|aI hse<|aI hkd<|aI hbl<|@qr
 repeat' (first
  | refine qN ?_|refine qJ ?_|refine qR ?_|refine qM fun K hK=>?_
  | ((with_reducible refine qK hK ?_);clear hK K)
  | (with_reducible first|refine qC ?_|refine qP ?_|refine qd ?_|refine zD ?_|refine qI ?_|refine qc ?_|refine ql (by decide) ?_)
  | refine qn ?_
  | refine qX ?_
  | (with_reducible refine qG ?_)
  | ((with_reducible refine yV ?_);refine q6 (h:=?_))
  | (with_reducible first|refine ze ?_|refine jE ?_|refine vG (h:=?_)|refine vj (h:=?_)|refine x_u (h:=?_)|refine qE (h:=?_)|refine qg (h:=?_)|refine qU (h:=?_))
  | ((with_reducible refine qv 49 rfl ?_);refine qL (hF:=uf _ p hp b k hk) (h:=?_))
  | (with_reducible refine x_q (h:=?_))
  | (with_reducible refine vC (fun ht=>?_) (fun ht=>?_))
  | refine qO (h1:=?_)|refine qS (h1:=?_)
  | fail)
 all_goals try clear fx
 refine q7 (fun n st=>∃ x:Nat,n=8 - x∧x≤8∧st.tm 0=qAC p∧st.tm 1=iv b∧st.tm 5=.pt (.s 5) 0∧st.hp (.s 5)=some (.row 8 [jP (qz (jz p b) x)])∧st.tm 6=.pt (.s 6) 0∧st.hp (.s 6)=some (.row 8 [jP (qF p b)])∧st.tm 19=iv x) 8 ?_ ?_
 ·exact⟨0,by omega,by omega,by simp,by simp,by simp,by simp;rfl,by simp,by simp,by simp⟩
 rintro n st - - ⟨x,rfl,hx,h0,h1,h5,hp5,h6,hp6,h19⟩
 by_cases hx8:x<8
 ·have hx8':(x:Int)<8:=by omega
  have hfi:jz p b x=(za b k x&&!decide ((x:Int)∈qF p b)):=by simp only [jz,hk]
  have hn2:=wc (f:=jz p b) (n:=x)
  have hno:(x:Int)∉qz (jz p b) x:=fun h=>by
   rw [jg] at h
   omega
  have hbg:=wF (l:=qF p b) hx8
  obtain⟨hbgl,hbgE⟩:=gS hbg
  generalize hL:qz (jz p b) x=L at hp5 hn2 hno
  cases hlo:za b k x
  ·rw [if_neg (by rw [hfi,hlo];simp)] at hn2
   all_goals have fx:=aI h0<|aI h1<|aI h5<|aI hp5<|aI h6<|aI hp6<|aI h19<|aI hx8<|aI hx8'<|aI hsg<|aI hse<|aI hbl<|hlo
   repeat' (first
    | refine qN ?_|refine qJ ?_|refine qR ?_|refine qM fun K hK=>?_
    | ((with_reducible refine qK hK ?_);clear hK K)
    | (with_reducible first|refine qC ?_|refine qP ?_|refine qd ?_|refine zD ?_|refine qI ?_|refine qc ?_|refine ql (by decide) ?_)
    | refine qn ?_
    | refine qX ?_
    | (with_reducible refine qG ?_)
    | ((with_reducible refine yV ?_);refine q6 (h:=?_))
    | (with_reducible first|refine ze ?_|refine jE ?_|refine vG (h:=?_)|refine vj (h:=?_)|refine x_u (h:=?_)|refine qE (h:=?_)|refine qg (h:=?_)|refine qU (h:=?_))
    | ((with_reducible refine qv 121 rfl ?_);refine qL (hF:=qC8 _ p hp b k hk x hx8) (h:=?_))
    | (with_reducible refine x_q (h:=?_))
    | (with_reducible refine vC (fun ht=>?_) (fun ht=>?_))
    | refine qO (h1:=?_)|refine qS (h1:=?_)
    | fail)
   all_goals try clear fx
   exact⟨8 - (x+1),by omega,x+1,rfl,by omega,by simp [h0],by simp [h1],by simp [h5],by simp [hn2,qGf hx8 hno],by simp [h6],by simp [hp6],by simp;exact wrp (by omega) (by omega)⟩
  cases hce:decide ((x:Int)∈qF p b)
  rotate_left
  ·rw [if_neg (by rw [hfi,hlo,hce];decide)] at hn2
   all_goals have fx:=aI h0<|aI h1<|aI h5<|aI hp5<|aI h6<|aI hp6<|aI h19<|aI hx8<|aI hx8'<|aI hsg<|aI hse<|aI hbl<|aI hlo<|aI hbg<|aI hbgE<|aI hbgl<|hce
   repeat' (first
    | refine qN ?_|refine qJ ?_|refine qR ?_|refine qM fun K hK=>?_
    | ((with_reducible refine qK hK ?_);clear hK K)
    | (with_reducible first|refine qC ?_|refine qP ?_|refine qd ?_|refine zD ?_|refine qI ?_|refine qc ?_|refine ql (by decide) ?_)
    | refine qn ?_
    | refine qX ?_
    | (with_reducible refine qG ?_)
    | ((with_reducible refine yV ?_);refine q6 (h:=?_))
    | (with_reducible first|refine ze ?_|refine jE ?_|refine vG (h:=?_)|refine vj (h:=?_)|refine x_u (h:=?_)|refine qE (h:=?_)|refine qg (h:=?_)|refine qU (h:=?_))
    | ((with_reducible refine qv 121 rfl ?_);refine qL (hF:=qC8 _ p hp b k hk x hx8) (h:=?_))
    | (with_reducible refine x_q (h:=?_))
    | (with_reducible refine vC (fun ht=>?_) (fun ht=>?_))
    | refine qO (h1:=?_)|refine qS (h1:=?_)
    | fail)
   all_goals try clear fx
   exact⟨8 - (x+1),by omega,x+1,rfl,by omega,by simp [h0],by simp [h1],by simp [h5],by simp [hn2,qGf hx8 hno],by simp [h6],by simp [hp6],by simp;exact wrp (by omega) (by omega)⟩
  ·rw [if_pos (by rw [hfi,hlo,hce];rfl)] at hn2
   all_goals have fx:=aI h0<|aI h1<|aI h5<|aI hp5<|aI h6<|aI hp6<|aI h19<|aI hx8<|aI hx8'<|aI hsg<|aI hse<|aI hbl<|aI hlo<|aI hbg<|aI hbgE<|aI hbgl<|hce
   repeat' (first
    | refine qN ?_|refine qJ ?_|refine qR ?_|refine qM fun K hK=>?_
    | ((with_reducible refine qK hK ?_);clear hK K)
    | (with_reducible first|refine qC ?_|refine qP ?_|refine qd ?_|refine zD ?_|refine qI ?_|refine qc ?_|refine ql (by decide) ?_)
    | refine qn ?_
    | refine qX ?_
    | (with_reducible refine qG ?_)
    | ((with_reducible refine yV ?_);refine q6 (h:=?_))
    | (with_reducible first|refine ze ?_|refine jE ?_|refine vG (h:=?_)|refine vj (h:=?_)|refine x_u (h:=?_)|refine qE (h:=?_)|refine qg (h:=?_)|refine qU (h:=?_))
    | ((with_reducible refine qv 121 rfl ?_);refine qL (hF:=qC8 _ p hp b k hk x hx8) (h:=?_))
    | (with_reducible refine x_q (h:=?_))
    | (with_reducible refine vC (fun ht=>?_) (fun ht=>?_))
    | refine qO (h1:=?_)|refine qS (h1:=?_)
    | fail)
   all_goals try clear fx
   refine⟨8 - (x+1),by omega,x+1,rfl,by omega,by simp [h0],by simp [h1],by simp [h5],?_,by simp [h6],by simp [hp6],by simp;exact wrp (by omega) (by omega)⟩
   rw [hn2]
   simp [← uN (l:=L) (y:=(x:Int)) rfl hx8]
 ·have hge:x=8:=by omega
  subst hge
  all_goals have fx:=aI h5<|aI hp5<|h19
  repeat' (first
   | refine qN ?_|refine qJ ?_|refine qR ?_|refine qM fun K hK=>?_
   | ((with_reducible refine qK hK ?_);clear hK K)
   | (with_reducible first|refine qC ?_|refine qP ?_|refine qd ?_|refine zD ?_|refine qI ?_|refine qc ?_|refine ql (by decide) ?_)
   | refine qn ?_
   | refine qX ?_
   | (with_reducible refine qG ?_)
   | ((with_reducible refine yV ?_);refine q6 (h:=?_))
   | (with_reducible first|refine ze ?_|refine jE ?_|refine vG (h:=?_)|refine vj (h:=?_)|refine x_u (h:=?_)|refine qE (h:=?_)|refine qg (h:=?_)|refine qU (h:=?_))
   | ((with_reducible refine qv 51 rfl ?_);refine zk (hF:=qEf _ (qz (jz p b) 8)) (h:=?_))
   | (with_reducible refine x_q (h:=?_))
   | (with_reducible refine vC (fun ht=>?_) (fun ht=>?_))
   | refine qO (h1:=?_)|refine qS (h1:=?_)
   | fail)
  all_goals try clear fx
  exact zZ (t:=4) (by first|(simp [];done)|(simp [];rfl)) (by first|(simp [];done)|(simp [];rfl)) (by simp)
theorem yx (gl) (p:Prg) (hp:ShapeP p) (b:Nat) (k:Blk) (hk:p[b]?=some k) (x:Nat) (hx:x<8):qW Tryz.prog gl 113 [qAC p,iv b,iv x] (fun _ y _=>y=iv (vZ p b x)):=by
 have hbl:=(gS hk).1
 have hcl:=jB (p:=p) (b:=b)
 have hfl:=jS (p:=p) (b:=b)
 have hbd:=wC (xs:=q9 p b) (x:=(x:Int))
 have hw:IntKind.i64.wrap (((qF p b).length:Int)+qx (q9 p b) x)=(qF p b).length+qx (q9 p b) x:=wrp (by omega) (by omega)
 have hli:=qEf gl (qF p b)
 rw [qBI] at hli
 have hpn:=qGA (xs:=qF p b) (x:=(x:Int))
 refine qW.of_sem Tryz.func113 rfl (by kernel_rfl) (rs:=[.tmp 6]) rfl Tryz.ntmps113 (lB rfl) fun C w g root=>?_
 by_cases hm:(x:Int)∈qF p b
 ·have hpn':(qx (qF p b) x == -1)=false:=by rw [hpn];simp [hm]
  all_goals have fx:=aI hpn'<|@qr
  repeat' (first
   | refine qN ?_|refine qR ?_|refine qM fun K hK=>?_
   | ((with_reducible refine qK hK ?_);clear hK K)
   | (with_reducible first|refine qC ?_|refine qI ?_)
   | refine qX ?_
   | (with_reducible first|refine qG ?_|refine qE (h:=?_))
   | ((with_reducible refine qv 49 rfl ?_);refine qL (hF:=uf _ p hp b k hk) (h:=?_))
   | ((with_reducible refine qv 51 rfl ?_);refine zk (hF:=hli) (h:=?_))
   | ((with_reducible refine qv 148 rfl ?_);refine qL (hF:=vi _ (qF p b) _ (by omega)) (h:=?_))
   | (with_reducible refine x_q (h:=?_))
   | refine qO (h1:=?_)|refine qS (h1:=?_)
   | fail)
  all_goals try clear fx
  refine qH [] .nil (by simp;rfl) ?_
  simp [vZ,hm]
 ·have hpn':(qx (qF p b) x == -1)=true:=by rw [hpn];simp [hm]
  all_goals have fx:=aI hpn'<|aI hw<|@qr
  repeat' (first
   | refine qN ?_|refine qR ?_|refine qM fun K hK=>?_
   | ((with_reducible refine qK hK ?_);clear hK K)
   | (with_reducible first|refine qC ?_|refine qI ?_)
   | refine qX ?_
   | (with_reducible first|refine qG ?_|refine qE (h:=?_))
   | ((with_reducible refine qv 49 rfl ?_);refine qL (hF:=uf _ p hp b k hk) (h:=?_))
   | ((with_reducible refine qv 51 rfl ?_);refine zk (hF:=hli) (h:=?_))
   | ((with_reducible refine qv 148 rfl ?_);refine qL (hF:=vi _ (qF p b) _ (by omega)) (h:=?_))
   | ((with_reducible refine qv 112 rfl ?_);refine zk (hF:=qBC _ p hp b hbl) (h:=?_))
   | ((with_reducible refine qv 148 rfl ?_);refine qL (hF:=vi _ (q9 p b) _ (by omega)) (h:=?_))
   | (with_reducible refine x_q (h:=?_))
   | refine qO (h1:=?_)|refine qS (h1:=?_)
   | fail)
  all_goals try clear fx
  refine qH [] .nil (by simp;rfl) ?_
  simp [vZ,hm]
theorem vl (gl) (p:Prg) (hp:ShapeP p) (b:Nat) (k:Blk) (hk:p[b]?=some k) (x:Nat) (hx:x<8):qW Tryz.prog gl 187 [qAC p,iv b,iv x] (fun _ y _=>y=iv (zq p b x)):=by
 have hh:=hp.heads
 have hl7:=hp.len
 obtain⟨hbl,hbE⟩:=gS hk
 have hka:qt p b=k.kind:=by simp [qt,hk]
 have hsg:=yY (p:=p) hbl
 rw [jJ hh hk] at hsg
 obtain⟨_,hse⟩:=gS hsg
 have hop:=vL (p:=p) (c:=b) (x:=(x:Int))
 have hx8:(x:Int)<8:=by omega
 refine qW.of_sem Tryz.func187 rfl (by kernel_rfl) (rs:=[.tmp 6]) rfl Tryz.ntmps187 (lB rfl) fun C w g root=>?_
 cases ho:(zE p b x == -1)
 rotate_left
 ·skip
  all_goals have fx:=aI hsg<|aI hse<|aI hbl<|ho
  repeat' (first
   | refine qN ?_|refine qJ ?_|refine qR ?_|refine qM fun K hK=>?_
   | ((with_reducible refine qK hK ?_);clear hK K)
   | (with_reducible first|refine qC ?_|refine qP ?_|refine qI ?_|refine qc ?_)
   | refine qX ?_
   | (with_reducible first|refine qG ?_|refine qE (h:=?_))
   | ((with_reducible refine qv 81 rfl ?_);refine qL (hF:=zV _ p hp b k hk x hx) (h:=?_))
   | (with_reducible refine x_q (h:=?_))
   | refine qO (h1:=?_)|refine qS (h1:=?_)
   | fail)
  all_goals try clear fx
  refine qH [] .nil (by simp;rfl) ?_
  have ho':zE p b x=-1:=by simpa using ho
  simp [zq,ho']
 have hno:¬ zE p b x=-1:=by simpa using ho
 have hnl:¬ zE p b x<0:=by omega
 cases hb:(zE p b x==(b:Int))
 ·skip
  all_goals have fx:=aI hsg<|aI hse<|aI hbl<|aI ho<|aI hb<|@qr
  repeat' (first
   | refine qN ?_|refine qJ ?_|refine qR ?_|refine qM fun K hK=>?_
   | ((with_reducible refine qK hK ?_);clear hK K)
   | (with_reducible first|refine qC ?_|refine qP ?_|refine qI ?_|refine qc ?_)
   | refine qX ?_
   | (with_reducible first|refine qG ?_|refine qE (h:=?_))
   | ((with_reducible refine qv 81 rfl ?_);refine qL (hF:=zV _ p hp b k hk x hx) (h:=?_))
   | (with_reducible refine x_q (h:=?_))
   | refine qO (h1:=?_)|refine qS (h1:=?_)
   | fail)
  all_goals try clear fx
  refine qH [] .nil (by simp;rfl) ?_
  have hb':¬ zE p b x=b:=by simpa using hb
  simp only [zq,if_neg hnl,if_pos hb']
  rfl
 have hb':zE p b x=b:=by simpa using hb
 have hnn:¬ zE p b x≠b:=fun h=>h hb'
 cases hkd:(k.kind==2)
 rotate_left
 ·skip
  all_goals have fx:=aI hsg<|aI hse<|aI hbl<|aI ho<|aI hb<|aI @qr<|hkd
  repeat' (first
   | refine qN ?_|refine qJ ?_|refine qR ?_|refine qM fun K hK=>?_
   | ((with_reducible refine qK hK ?_);clear hK K)
   | (with_reducible first|refine qC ?_|refine qP ?_|refine qI ?_|refine qc ?_)
   | refine qX ?_
   | (with_reducible first|refine qG ?_|refine qE (h:=?_))
   | ((with_reducible refine qv 81 rfl ?_);refine qL (hF:=zV _ p hp b k hk x hx) (h:=?_))
   | (with_reducible refine x_q (h:=?_))
   | refine qO (h1:=?_)|refine qS (h1:=?_)
   | fail)
  all_goals try clear fx
  refine qH [] .nil (by simp;rfl) ?_
  have hkd':k.kind=2:=by simpa using hkd
  simp only [zq,if_neg hnl,if_neg hnn,hka,if_pos hkd']
  rfl
 have hkd':¬ k.kind=2:=by simpa using hkd
 have hbg:=wF (l:=qF p b) hx
 obtain⟨hbgl,hbgE⟩:=gS hbg
 cases hce:decide ((x:Int)∈qF p b)
 all_goals
  all_goals have fx:=aI hsg<|aI hse<|aI hbl<|aI ho<|aI hb<|aI @qr<|aI hkd<|aI hbg<|aI hbgE<|aI hbgl<|aI hx<|aI hx8<|hce
  repeat' (first
   | refine qN ?_|refine qJ ?_|refine qR ?_|refine qM fun K hK=>?_
   | ((with_reducible refine qK hK ?_);clear hK K)
   | (with_reducible first|refine qC ?_|refine qP ?_|refine qI ?_|refine qc ?_)
   | refine qX ?_
   | (with_reducible first|refine qG ?_|refine qE (h:=?_))
   | ((with_reducible refine qv 81 rfl ?_);refine qL (hF:=zV _ p hp b k hk x hx) (h:=?_))
   | ((with_reducible refine qv 49 rfl ?_);refine qL (hF:=uf _ p hp b k hk) (h:=?_))
   | (with_reducible refine x_q (h:=?_))
   | refine qO (h1:=?_)|refine qS (h1:=?_)
   | fail)
  all_goals try clear fx
  refine qH [] .nil (by simp;rfl) ?_
  simp at hce
  simp only [zq,if_neg hnl,if_neg hnn,hka,if_neg hkd',hce]
  rfl
abbrev uM:List AV:=[iv 8,iv 5,iv 11,iv 5,iv 2]
theorem qAA (gl:Nat→Option (List AV)) (hgl:gl 0=some uM) (p:Prg) (hp:ShapeP p) (b:Nat) (k:Blk) (hk:p[b]?=some k) (x:Nat) (hx:x<8) (w:Int) (hw0:0≤w) (hw2:w≤2):qW Tryz.prog gl 169 [qAC p,iv b,iv x,iv w] (fun _ y _=>y=.agg [iv (zU p b x w).1,iv (zU p b x w).2]):=by
 have hw8:IntKind.i64.wrap (8+w)=8+w:=wrp (by omega) (by omega)
 have hw11:IntKind.i64.wrap (11+w)=11+w:=wrp (by omega) (by omega)
 have hw22:IntKind.i64.wrap (2+w)=2+w:=wrp (by omega) (by omega)
 have hw5:IntKind.i64.wrap (5+w)=5+w:=wrp (by omega) (by omega)
 have hsf:=qJA (x:=(x:Int)) hk (hp.kind0 hk).symm (qHD hp hk)
 have hfl:=yy (p:=p) (b:=b)
 have hs5:zq p b x=0∨zq p b x=1∨zq p b x=2∨zq p b x=3∨zq p b x=4:=by
  unfold zq
  split
  ·simp
  ·split
   ·simp
   ·split
    ·simp
    ·split <;> simp
 refine qW.of_sem Tryz.func169 rfl (by kernel_rfl) (rs:=[.cell 8 157]) rfl Tryz.ntmps169 (lB rfl) fun C w g root=>?_
 rcases hs5 with h|h|h|h|h
 ·skip
  all_goals have fx:=aI h<|aI hgl<|hw8
  repeat' (first
   | refine qN ?_|refine qJ ?_|refine qR ?_|refine qM fun K hK=>?_
   | ((with_reducible refine qK hK ?_);clear hK K)
   | (with_reducible first|refine qC ?_|refine qP ?_|refine qI ?_|refine qc ?_)
   | refine qX ?_
   | (with_reducible first|refine qG ?_|refine qE (h:=?_)|refine qg (h:=?_)|refine qU (h:=?_))
   | ((with_reducible refine qv 187 rfl ?_);refine qL (hF:=vl _ p hp b k hk x hx) (h:=?_))
   | (with_reducible refine x_q (h:=?_))
   | refine qO (h1:=?_)|refine qS (h1:=?_)
   | fail)
  all_goals try clear fx
  refine qH [] .nil (by simp;rfl) ?_
  simp [zU,h]
 ·skip
  all_goals have fx:=aI h<|aI hgl<|hw5
  repeat' (first
   | refine qN ?_|refine qJ ?_|refine qR ?_|refine qM fun K hK=>?_
   | ((with_reducible refine qK hK ?_);clear hK K)
   | (with_reducible first|refine qC ?_|refine qP ?_|refine qI ?_|refine qc ?_)
   | refine qX ?_
   | (with_reducible first|refine qG ?_|refine qE (h:=?_)|refine qg (h:=?_)|refine qU (h:=?_))
   | ((with_reducible refine qv 187 rfl ?_);refine qL (hF:=vl _ p hp b k hk x hx) (h:=?_))
   | ((with_reducible refine qv 113 rfl ?_);refine qL (hF:=yx _ p hp b k hk x hx) (h:=?_))
   | (with_reducible refine x_q (h:=?_))
   | refine qO (h1:=?_)|refine qS (h1:=?_)
   | fail)
  all_goals try clear fx
  refine qH [] .nil (by simp;rfl) ?_
  simp [zU,h]
 ·skip
  all_goals have fx:=aI h<|aI hgl<|hw11
  repeat' (first
   | refine qN ?_|refine qJ ?_|refine qR ?_|refine qM fun K hK=>?_
   | ((with_reducible refine qK hK ?_);clear hK K)
   | (with_reducible first|refine qC ?_|refine qP ?_|refine qI ?_|refine qc ?_)
   | refine qX ?_
   | (with_reducible first|refine qG ?_|refine qE (h:=?_)|refine qg (h:=?_)|refine qU (h:=?_))
   | ((with_reducible refine qv 187 rfl ?_);refine qL (hF:=vl _ p hp b k hk x hx) (h:=?_))
   | (with_reducible refine x_q (h:=?_))
   | refine qO (h1:=?_)|refine qS (h1:=?_)
   | fail)
  all_goals try clear fx
  refine qH [] .nil (by simp;rfl) ?_
  simp [zU,h]
 ·skip
  all_goals have fx:=aI h<|aI hgl<|hw5
  repeat' (first
   | refine qN ?_|refine qJ ?_|refine qR ?_|refine qM fun K hK=>?_
   | ((with_reducible refine qK hK ?_);clear hK K)
   | (with_reducible first|refine qC ?_|refine qP ?_|refine qI ?_|refine qc ?_)
   | refine qX ?_
   | (with_reducible first|refine qG ?_|refine qE (h:=?_)|refine qg (h:=?_)|refine qU (h:=?_))
   | ((with_reducible refine qv 187 rfl ?_);refine qL (hF:=vl _ p hp b k hk x hx) (h:=?_))
   | ((with_reducible refine qv 113 rfl ?_);refine qL (hF:=yx _ p hp b k hk x hx) (h:=?_))
   | (with_reducible refine x_q (h:=?_))
   | refine qO (h1:=?_)|refine qS (h1:=?_)
   | fail)
  all_goals try clear fx
  refine qH [] .nil (by simp;rfl) ?_
  simp [zU,h]
 ·skip
  all_goals have fx:=aI h<|aI hgl<|hw22
  repeat' (first
   | refine qN ?_|refine qJ ?_|refine qR ?_|refine qM fun K hK=>?_
   | ((with_reducible refine qK hK ?_);clear hK K)
   | (with_reducible first|refine qC ?_|refine qP ?_|refine qI ?_|refine qc ?_)
   | refine qX ?_
   | (with_reducible first|refine qG ?_|refine qE (h:=?_)|refine qg (h:=?_)|refine qU (h:=?_))
   | ((with_reducible refine qv 187 rfl ?_);refine qL (hF:=vl _ p hp b k hk x hx) (h:=?_))
   | ((with_reducible refine qv 145 rfl ?_);refine zk (hF:=qDi _ p hp b k hk (hsf (.inr h))) (h:=?_))
   | ((with_reducible refine qv 148 rfl ?_);refine qL (hF:=vi _ (qT p b) _ (by omega)) (h:=?_))
   | (with_reducible refine x_q (h:=?_))
   | refine qO (h1:=?_)|refine qS (h1:=?_)
   | fail)
  all_goals try clear fx
  refine qH [] .nil (by simp;rfl) ?_
  simp [zU,h]
end Go.Proofs.YtbgmnmnoaamgkaaGreatDoor
end
