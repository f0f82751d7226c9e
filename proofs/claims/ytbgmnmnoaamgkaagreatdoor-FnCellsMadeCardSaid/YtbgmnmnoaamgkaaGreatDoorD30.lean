/-
  Own texts, joined by mkclaim.py: Zj, Zh, Qa, Zo, Zp, Zq, Zqd.
-/
import Derived.Test.YtbgmnmnoaamgkaaGreatDoorD26
import Derived.Test.YtbgmnmnoaamgkaaGreatDoorD18
import Derived.Test.YtbgmnmnoaamgkaaGreatDoorD17
import Derived.Test.YtbgmnmnoaamgkaaGreatDoorD28
import Derived.Test.YtbgmnmnoaamgkaaGreatDoorD12
import Derived.Test.YtbgmnmnoaamgkaaGreatDoorD29
set_option linter.unusedSimpArgs false
set_option linter.unusedVariables false
set_option maxRecDepth 100000
set_option maxHeartbeats 4000000

section
namespace Go.Proofs.YtbgmnmnoaamgkaaGreatDoor
open Go Go.Hm Go.Proofs
theorem qKQ (gl) (D:Nm→Bool) (hD:∀ k,D k=true→k.sroot=false) (H:Nm→Option AO) (p:Prg) (i0:Nat) (f:Frm) (b:Nat) (R:List AV) (hb:b<p.length) (hp7:p.length≤7) (hfl:i0≤150) (hT0:H Yn=some (.row 4415 [R])) (hRl0:R.length=4415) (r10:R[1]?=some (.hs (.c Yn 0 1) 1 0 p.length)) (f30:R[yo i0+3]?=some (.hs (.c Yn 0 (yo i0+3)) 1 0 f.cells.length))
  (hcp0:H (.c Yn 0 1)=some (.row 1 (jc p p.length))) (h30:H (.c Yn 0 (yo i0+3))=some (.row 1 (zA f.cells))) (hDE:∀ c,D (En c)=true) (hDc:∀ j,j=1∨j=yo i0+3→D (.c Yn 0 j)=true) (hDY:D Yn=true) (hc:∀ x∈zE p b,∃ k:Nat,x=k∧k<f.cells.length) (hcl:(zE p b).length≤8) :
  FnE Tryz.prog gl 174 D [.pt Yn 0,.pt Yn (yo i0),iv b] H (fun r y H'=>(y=.hs r 1 0 (y8 p f b).length∧H' r=some (.row 1 (zA (y8 p f b))))∧qBH D H' H) noE:=by
 obtain⟨_,r1E⟩:=gS r10
 have hcml:(y8 p f b).length=(zE p b).length:=by simp [y8]
 refine FnE.of_sem Tryz.func174 rfl (by kernel_rfl) (rs:=[.tmp 6]) rfl Tryz.ntmps174 (lB rfl) hD fun C w g root hroot=>?_
 have fx:=aI hT0<|aI hRl0<|aI r10<|aI r1E<|aI hcp0<|hb
 refine qB ?_
 clear fx
 refine qY (fun n s=>∃ i:Nat,n=(zE p b).length - i∧i≤(zE p b).length∧s.tm 1=.pt Yn (yo i0)∧s.tm 16=isl (zE p b)∧s.tm 17=iv (zE p b).length∧s.tm 18=iv i∧s.tm 7=.hs (.s 7) 1 0 i∧s.hp (.s 7)=some (.row 1 (zA ((y8 p f b).take i)))∧qBH D s.hp H) (zE p b).length ?_ ?_
 ·have hS:qBH D (st0 [.pt Yn 0,.pt Yn (yo i0),iv b] H 34 gl).hp H:=qQg
  exact⟨0,by omega,by omega,by simp,by simp,by simp,by simp,by simp,by simp [zA],(by repeat (first|(with_reducible exact hS)|refine qK9 ?_|refine qHH hD ?_|refine qHJ hD ?_|refine qHI hD ?_|refine qKa hD ?_|exact hS))⟩
 clear r1E
 rintro n s - - ⟨i,rfl,hi,t1,t16,t17,t18,t7,p7,hSm⟩
 obtain⟨F,hF,hS⟩:=hSm
 have hSm:qBH D s.hp H:=⟨F,hF,hS⟩
 have hT:s.hp Yn=some (.row 4415 [R.map (AV.tr F)]):=by rw [hS _ hDY,hT0];rfl
 have f3:(R.map (AV.tr F))[yo i0+3]?=some (.hs (.c Yn 0 (yo i0+3)) 1 0 f.cells.length):=by rw [List.getElem?_map,f30];simp [AV.tr,hF _ (hDc _ (.inr rfl))]
 have h3:s.hp (.c Yn 0 (yo i0+3))=some (.row 1 (zA f.cells)):=by
  rw [hS _ (hDc _ (.inr rfl)),h30]
  simp only [Option.map_some,AO.tr]
  rw [vn fun c=>hF _ (hDE c)]
 have hRl:(R.map (AV.tr F)).length=4415:=by simp [hRl0]
 generalize R.map (AV.tr F)=R' at hT f3 hRl
 by_cases hil:i<(zE p b).length
 ·obtain⟨x,hx⟩:∃ x,(zE p b)[i]?=some x:=⟨_,gE hil⟩
  obtain⟨k,rfl,hkl⟩:=hc x (gM hx)
  obtain⟨_,hxE⟩:=gS hx
  obtain⟨c,hcc⟩:∃ c,f.cells[k]?=some c:=⟨_,gE hkl⟩
  obtain⟨_,hccE⟩:=gS hcc
  obtain⟨f3l,f3E⟩:=gS f3
  have yoh:yo i0+3+1≤4415:=by simp only [yo];omega
  have htl:((y8 p f b).take i).length=i:=by simp;omega
  have hi8:i≤8:=by omega
  have htt:((y8 p f b).take i).take i=(y8 p f b).take i:=List.take_of_length_le (by omega)
  have her:(zA f.cells)[k]?=some [ptE c]:=by simp [hcc]
  obtain⟨herl,herE⟩:=gS her
  have fx:=aI t1<|aI t16<|aI t17<|aI t18<|aI t7<|aI p7<|aI hil<|aI hT<|aI hRl<|aI f3<|aI f3E<|aI f3l<|aI yoh<|aI h3<|aI hx<|aI hxE<|aI hcc<|aI hccE<|aI her<|aI herE<|aI hkl<|aI htl<|hi8
  refine qB ?_
  clear fx
  have e1:(y8 p f b).take (i+1)=(y8 p f b).take i++[c]:=by
   rw [List.take_add_one]
   simp [y8,hx,hcc]
  have e2:zA ((y8 p f b).take i)++[[ptE c]]=zA ((y8 p f b).take (i+1)):=by rw [e1];simp [zA]
  exact⟨(zE p b).length - (i+1),by omega,i+1,rfl,by omega,by simp [t1],by simp [t16],by simp [t17],by simp [t18];exact wrp (by omega) (by omega),by simp,by simp [← e2,htt,ptE],(by repeat (first|(with_reducible exact hSm)|refine qK9 ?_|refine qHH hD ?_|refine qHJ hD ?_|refine qHI hD ?_|refine qKa hD ?_|exact hSm))⟩
 ·obtain rfl:i=(zE p b).length:=by omega
  have htk:(y8 p f b).take (zE p b).length=y8 p f b:=List.take_of_length_le (by omega)
  rw [htk] at p7
  have fx:=aI t1<|aI t16<|aI t17<|aI t18<|aI t7<|p7
  refine qB ?_
  clear fx
  have hDr:D root=false:=hroot root (by simp)
  refine qF [(.s 6,root)] (.one rfl) (by simp;rfl) ⟨⟨by simp [t7,hcml],by simp [hDr,p7];exact vn fun c=>by simp [zu,hDE]⟩,qUH hD (by simp [Nm.sroot]) (by repeat (first|(with_reducible exact hSm)|refine qK9 ?_|refine qHH hD ?_|refine qHJ hD ?_|refine qHI hD ?_|refine qKa hD ?_|exact hSm))⟩
theorem qGu (gl) (H:Nm→Option AO) (p:Prg) (m:Mch) (fs:List Frm) (f:Frm) (b:Nat) (hb:b<p.length) (hp7:p.length≤7) (hfl:fs.length≤150) (hc:∀ x∈zE p b,∃ k:Nat,x=k∧k<f.cells.length) (hcl:(zE p b).length≤8) (hO:OwnY H p (m.top fs f)) :
  FnE Tryz.prog gl 174 DM [.pt Yn 0,.pt Yn (yo fs.length),iv b] H (fun r y H'=>y=.hs r 1 0 (y8 p f b).length∧H' r=some (.row 1 (zA (y8 p f b)))∧OwnY H' p (m.top fs f)) noE:=by
 obtain⟨R,j,hT,tr,h2,h3,h28⟩:=hO.topT rfl (by omega)
 refine (qKQ gl DM (fun _=>qH) H p fs.length f b R hb hp7 hfl hT tr.len tr.r1 tr.f3 hO.caps h3 (fun _=>rfl) (fun _ _=>rfl) rfl hc hcl).mono (fun r y H' h=>⟨h.1.1,h.1.2,hO.same h.2⟩) fun _ _ _ h=>h
abbrev qKs:Sch:=.q 0<|.q 1<|.q 2<|.q 3<|.q 4<|.q 5<|.q 6<|.q 7<|.q 8<|.q 9<|.l 10 [9,8,7,6,5,4,3,2,1,0]<|.l 11 []<|.done
theorem qMg (gl) (H:Nm→Option AO) (p:Prg) (m:Mch) (fs:List Frm) (f:Frm) (x:Nat) (hx:x<8) (hst:1≤f.stack.length) (hsl:f.stack.length≤1000) (hv:f.tos.1=3→0≤f.tos.2∧f.tos.2<m.classes.length) (hm0:m.en=0) (hfl:fs.length≤150) (hO:OwnY H p (m.top fs f)) :
  FnE Tryz.prog gl 176 DM [.pt Yn 0,.pt Yn (yo fs.length),iv x] H (fun _ y H'=>y=bv (decide ((wK m fs f (18,(x:Int))).en=0))∧OwnY H' p (wK m fs f (18,(x:Int)))) noE:=by
 refine FnE.of_sem Tryz.func176 rfl (by kernel_rfl) (rs:=[.tmp 6]) rfl Tryz.ntmps176 (lB rfl) (fun _=>qH) fun C w g root hroot=>?_
 obtain⟨k,hk⟩:∃ k,f.stack.length=k+1:=⟨f.stack.length - 1,by omega⟩
 have yoh:yo fs.length+29≤4415:=by simp only [yo];omega
 have ry0:=hO.topT rfl (by omega)
 obtain⟨R,j,hT,tr,h2,h3,h28⟩:=ry0
 have f28:=tr.f28
 rw [hk] at f28
 have fx:=fx0
 refine qB ?_
 clear fx
 intro K hK
 have fx:=fx0
 refine qQ hO (have h:=hO;OwnY.re h) (Nat.le_refl _) (hF:=fun _=>uG gl DM (fun _=>qH) _ R (yo fs.length) k (f.stack++j) f.tos (by simp [hT]) f28 (by simp [h28]) (j8 hk) (by omega) yoh) (h:=?_)
 intro y H1 hw
 clear fx
 have hO1:=OwnY.wrp (OwnY.popped (m:=m.top fs f) (have h:=hO;OwnY.re h) rfl (by omega) (by simp [hT]) hk) hw
 obtain⟨rfl,-⟩:=hw
 clear h28 h3 h2 tr f28
 have hT1n:=hT
 clear hT
 have hmp:({ (m.top fs f) with frames:=fs++[f.pop] }:Mch)=m.top fs f.pop:=rfl
 rw [hmp] at hO1
 have hpl:f.pop.stack.length≤1000:=by rw [v8 hk];omega
 have hat:wK m fs f (18,(x:Int))=(if f.tos.1≠3 then m.stop fs f.pop 5 else match yn (m.classes.getD f.tos.2.toNat []) x with
  | some u=>m.top fs (f.pop.push u)
  | none=>m.stop fs f.pop 7):=rfl
 generalize f.tos=v at *
 obtain⟨v1,v2⟩:=v
 simp only at hat hv
 by_cases c3:v1=3
 ·subst c3
  obtain⟨hv0,hv2⟩:=hv rfl
  obtain⟨n,rfl⟩:∃ n:Nat,v2=n:=⟨v2.toNat,by omega⟩
  have hnl:n<m.classes.length:=by omega
  obtain⟨C,hC⟩:∃ C,m.classes[n]?=some C:=⟨_,gE hnl⟩
  have hgd:m.classes.getD n []=C:=by simp [hC]
  simp only [ne_eq,not_true_eq_false,if_false,Int.toNat_natCast,hgd] at hat
  have fx:= hT1n
  refine qB ?_
  clear fx
  refine yd (fun s=>s.tm 0=.pt Yn 0∧s.tm 1=.pt Yn (yo fs.length)∧s.tm 2=iv x∧s.tm 7=.pt (.s 7) 0∧s.hp (.s 7)=some (.row 2 [[iv 3,iv n]])∧OwnY s.hp p (m.top fs f.pop)) ⟨by simp [hT1n],by simp [hT1n],by simp,by simp,by simp,(OwnY.ren hO1 (f:=kl (.s 7)) (fun k hk=>by simp [kl,(D_s (fun _=>qH) hk 7).2]) (fun k hk=>by have:=D_s (fun _=>qH) hk 7;simp [this.1,this.2,hk]))⟩ ?_
  have h0:=hO
  have h01:=hO1
  clear hO hO1
  rintro s ⟨t0,t1,t2,t7,p7,hO⟩
  obtain⟨R,j,hT,tr,h2,h3,h28⟩:=OwnY.topT (f:=f.pop) hO rfl (by omega)
  have hRl:=tr.len
  have r31:=tr.r31
  simp only [Mch.top] at r31
  obtain⟨_,r31E⟩:=gS r31
  have hcy:=hO.clss
  simp only [Mch.top] at hcy
  have hfl2:((vo C).drop (x * 3)).take 3=zx (yn C x):=by rw [Nat.mul_comm];exact qOc hx
  obtain⟨_,hCE⟩:=gS hC
  have hx0:(x:Int)<8:=by omega
  have hx3:x * 3+3≤24:=by omega
  obtain⟨sl,hsl2⟩:∃ sl,yn C x=sl:=⟨_,rfl⟩
  rw [hsl2] at hfl2 hat
  cases sl with
  | none =>
   simp only [uS] at hfl2
   simp only at hat
   have fx:=aI t0<|aI t1<|aI t2<|aI t7<|aI p7<|aI hT<|aI hRl<|aI r31<|aI r31E<|aI hcy<|aI hfl2<|aI hC<|aI hCE<|aI hnl<|aI hx0<|hx3
   refine qB ?_
   repeat ((first|refine wSc (id:=4) qKs qA ?_);refine qC ?_;refine qB ?_)
   clear fx
   intro K hK
   refine yr (fun s=>s.tm 29=.pt Yn 0∧OwnY s.hp p (m.top fs f.pop)) ⟨by simp [t0],(OwnY.ren hO (f:=kl (.s 8)) (fun k hk=>by simp [kl,(D_s (fun _=>qH) hk 8).2]) (fun k hk=>by have:=D_s (fun _=>qH) hk 8;simp [this.1,this.2,hk]))⟩ ?_
   rintro s ⟨t29,hO2⟩
   obtain⟨R,j,hT,tr,h2,h3,h28⟩:=OwnY.topT (f:=f.pop) hO2 rfl (by omega)
   have fx:=t29
   refine qQ h0 (have h:=hO2;OwnY.re h) (Nat.le_refl _) (hF:=fun _=>yL gl DM (fun _=>qH) _ R 7 (by simp [hT]) tr.len) (h:=?_)
   intro y H1 hw
   clear fx
   have hO1:=OwnY.wrp (OwnY.stopped (m:=m.top fs f.pop) (e:=7) (have h:=hO2;OwnY.re h) rfl (by simp [hT])) hw
   obtain⟨rfl,-⟩:=hw
   have fx:=fx0
   refine qB ?_
   repeat ((first|refine wSc (id:=4) qKs qA ?_);refine qC ?_;refine qB ?_)
   clear fx
   refine qF [] .nil (by simp;rfl) ⟨by rw [hat];simp [Mch.stop],OwnY.fin (by rw [hat];exact (have h:=hO1;OwnY.re h))⟩
  | some u =>
   obtain⟨u1,u2⟩:=u
   simp only [uR] at hfl2
   simp only at hat
   have fx:=aI t0<|aI t1<|aI t2<|aI t7<|aI p7<|aI hT<|aI hRl<|aI r31<|aI r31E<|aI hcy<|aI hfl2<|aI hC<|aI hCE<|aI hnl<|aI hx0<|hx3
   refine qB ?_
   repeat ((first|refine wSc (id:=4) qKs qA ?_);refine qC ?_;refine qB ?_)
   clear fx
   intro K hK
   refine yr (fun s=>s.tm 31=.pt Yn (yo fs.length)∧s.tm 33=.agg [iv u1,iv u2]∧OwnY s.hp p (m.top fs f.pop)) ⟨by simp [t1],by simp,(OwnY.ren hO (f:=kl (.s 8)) (fun k hk=>by simp [kl,(D_s (fun _=>qH) hk 8).2]) (fun k hk=>by have:=D_s (fun _=>qH) hk 8;simp [this.1,this.2,hk]))⟩ ?_
   rintro s ⟨t31,t33,hO2⟩
   obtain⟨R,j,hT,tr,h2,h3,h28⟩:=OwnY.topT (f:=f.pop) hO2 rfl (by omega)
   have fx:=aI t31 t33
   refine qQ h0 (have h:=hO2;OwnY.re h) (Nat.le_refl _) (hF:=fun _=>jj gl DM (fun _=>qH) _ R (yo fs.length) f.pop.stack j (u1,u2) rfl rfl (by simp [hT]) tr.f28 (by simp [h28]) hpl yoh) (h:=?_)
   intro y H1 hw
   clear fx
   have hO1:=OwnY.pushed (m:=m.top fs f.pop) (f:=f.pop) (by exact (have h:=hO2;OwnY.re h)) rfl (by omega) rfl (by simp [hT]) hw
   have fx:=fx0
   refine qB ?_
   repeat ((first|refine wSc (id:=4) qKs qA ?_);refine qC ?_;refine qB ?_)
   clear fx
   refine qF [] .nil (by simp;rfl) ⟨by rw [hat];simp [Mch.top,hm0],OwnY.fin (by rw [hat];exact (have h:=hO1;OwnY.re h))⟩
 ·rw [if_pos c3] at hat
  have c3':(v1==3)=false:=by simpa using c3
  have fx:=aI c3'<|aI @zU<|hT1n
  refine qB ?_
  clear fx
  intro K hK
  refine yr (fun s=>s.tm 14=.pt Yn 0∧OwnY s.hp p (m.top fs f.pop)) ⟨by simp [hT1n],(OwnY.ren hO1 (f:=kl (.s 7)) (fun k hk=>by simp [kl,(D_s (fun _=>qH) hk 7).2]) (fun k hk=>by have:=D_s (fun _=>qH) hk 7;simp [this.1,this.2,hk]))⟩ ?_
  rintro s ⟨t14,hO2⟩
  obtain⟨R,j,hT,tr,h2,h3,h28⟩:=OwnY.topT (f:=f.pop) hO2 rfl (by omega)
  have fx:=t14
  refine qQ hO (have h:=hO2;OwnY.re h) (Nat.le_refl _) (hF:=fun _=>yL gl DM (fun _=>qH) _ R 5 (by simp [hT]) tr.len) (h:=?_)
  intro y H1 hw
  clear fx
  have hO1:=OwnY.wrp (OwnY.stopped (m:=m.top fs f.pop) (e:=5) (have h:=hO2;OwnY.re h) rfl (by simp [hT])) hw
  obtain⟨rfl,-⟩:=hw
  have fx:=fx0
  refine qB ?_
  repeat ((first|refine wSc (id:=4) qKs qA ?_);refine qC ?_;refine qB ?_)
  clear fx
  refine qF [] .nil (by simp;rfl) ⟨by rw [hat];simp [Mch.stop],OwnY.fin (by rw [hat];exact (have h:=hO1;OwnY.re h))⟩
end Go.Proofs.YtbgmnmnoaamgkaaGreatDoor
end
section
namespace Go.Proofs.YtbgmnmnoaamgkaaGreatDoor
open Go Go.Hm Go.Proofs
theorem qCm (gl) (v:Val):qV Tryz.prog gl 87 [Val.av v] (fun _ y _=>y=iv (Hm.shown v)):=by
 refine qV.of_sem Tryz.func87 rfl (by kernel_rfl) (rs:=[.tmp 2]) rfl Tryz.ntmps87 (lB rfl) fun C w g root=>?_
 by_cases h1:v.1=1
 ·skip
  have fx:= h1
  refine qB ?_
  clear fx
  refine qF [] .nil (by simp;rfl) (by simp [Hm.shown,h1])
 by_cases h2:v.1=2
 ·skip
  have fx:=aI h1<|h2
  refine qB ?_
  clear fx
  refine qF [] .nil (by simp;rfl) (by simp [Hm.shown,h1,h2])
 by_cases h3:v.1=3
 ·skip
  have fx:=aI h1<|aI h2<|h3
  refine qB ?_
  clear fx
  refine qF [] .nil (by simp;rfl) (by simp [Hm.shown,h1,h2,h3])
 ·skip
  have fx:=aI h1<|aI h2<|h3
  refine qB ?_
  clear fx
  refine qF [] .nil (by simp;rfl) (by simp [Hm.shown,h1,h2,h3])
abbrev qJb:Sch:=.q 0<|.q 1<|.q 2<|.q 3<|.q 4<|.q 5<|.q 6<|.q 7<|.q 8<|.q 9<|.q 10<|.l 11 [6,5,4,3,2,1,0]<|.q 12<|.l 13 [4,3,2,1,0]<|.l 14 [0]<|.q 15<|.q 16<|.l 17 []<|.done
abbrev qJa:Sch:=.q 0<|.q 1<|.q 2<|.q 3<|.q 4<|.q 5<|.q 6<|.l 7 [2,1,0]<|.l 8 []<|.done
abbrev qJ9:Sch:=.q 0<|.q 1<|.q 2<|.q 3<|.q 4<|.q 5<|.l 6 [4,3,2,1,0]<|.l 7 [4,3,2,1,0]<|.l 8 [4,3,2,1,0]<|.l 9 [0]<|.q 10<|.q 11<|.l 12 []<|.done
theorem qBs (gl) (H:Nm→Option AO) (p:Prg) (m:Mch) (fs:List Frm) (f:Frm) (o:Int×Int) (harg:0≤o.2∧o.2≤1000) (hc:o.1=1∨o.1=17∨o.1=18) (pc0:Nat) (hP:ValP p) (hM:MOk p m fs { f with pc:=pc0 }) (h17:o.1=17→o.2≤1∧o.2.toNat+1≤f.stack.length∧fs.length+1≤150) (h18:o.1=18→o.2≤7∧1≤f.stack.length) (hsl:f.stack.length≤1000) (hfl:fs.length≤150) (hm0:m.en=0) (hO:OwnY H p (m.top fs f)) :
  FnE Tryz.prog gl 152 DM [.pt Yn 0,.pt Yn (yo fs.length),.agg [iv o.1,iv o.2]] H (fun _ y H'=>y=bv (decide ((zI p m fs f o).en=0))∧OwnY H' p (zI p m fs f o)) noE:=by
 have h0:=hO
 have yoh:yo fs.length+29≤4415:=by simp only [yo];omega
 obtain⟨c,a⟩:=o
 obtain⟨x,rfl⟩:∃ x:Nat,a=x:=⟨a.toNat,by simp only at harg;omega⟩
 simp only at hc h17 h18 harg
 refine FnE.of_sem Tryz.func152 rfl (by kernel_rfl) (rs:=[.tmp 6]) rfl Tryz.ntmps152 (lB rfl) (fun _=>qH) fun C w g root hroot=>?_
 have fx:=fx0
 refine qB ?_
 clear fx
 refine yd (fun s=>s.tm 0=.pt Yn 0∧s.tm 1=.pt Yn (yo fs.length)∧s.tm 5=.pt (.s 5) 0∧s.hp (.s 5)=some (.row 2 [[iv c,iv x]])∧s.tm 10=iv c∧s.tm 11=bv (c==1)∧OwnY s.hp p (m.top fs f)) ⟨by simp,by simp,by simp,by simp,by simp,by simp,(by repeat (first|(with_reducible exact hO)|refine vu ?_|refine y9 (by rfl) ?_|refine yb ?_|refine vO ?_|refine ya ?_|refine vv ?_|exact (have h:=hO;OwnY.re h)))⟩ ?_
 clear hO
 rintro s ⟨t0,t1,t5,p5,t10,t11,hO⟩
 obtain⟨R,j,hT,tr,h2,h3,h28⟩:=hO.topT rfl (by omega)
 have f28:=tr.f28
 rcases hc with rfl|rfl|rfl
 ·have hw:zI p m fs f (1,(x:Int))=m.top fs (f.push (1,x)):=by simp [zI]
  rw [hw]
  have fx:=aI t0<|aI t1<|aI t5<|aI p5<|aI t10<|t11
  refine qB ?_
  repeat ((first|refine wSc (id:=10) qJb qA ?_|refine wSc (id:=13) qJa qA ?_|refine wSc (id:=19) qJ9 qA ?_);refine qC ?_;refine qB ?_)
  clear fx
  intro K hK
  have fx:=aI t0 (aI t1 (aI t5 p5))
  refine qQ h0 (have h:=hO;OwnY.re h) (Nat.le_refl _) (hF:=fun _=>jj gl DM (fun _=>qH) _ R (yo fs.length) f.stack j (1,(x:Int)) rfl rfl (by simp [hT]) f28 (by simp [h28]) hsl yoh) (h:=?_)
  intro y H1 hw1
  clear fx
  have hO1:=OwnY.pushed (m:=m.top fs f) (by exact (have h:=hO;OwnY.re h)) rfl (by omega) rfl (by simp [hT]) hw1
  have fx:=fx0
  refine qB ?_
  repeat ((first|refine wSc (id:=10) qJb qA ?_|refine wSc (id:=13) qJa qA ?_|refine wSc (id:=19) qJ9 qA ?_);refine qC ?_;refine qB ?_)
  clear fx
  refine qF [] .nil (by simp;rfl) ⟨by simp [Mch.top,hm0],OwnY.fin (have h:=hO1;OwnY.re h)⟩
 ·have hw:zI p m fs f (17,(x:Int))=uo p m fs f (17,(x:Int)):=by simp [zI]
  rw [hw]
  obtain⟨k1,k2,k3⟩:=h17 rfl
  simp only [Int.toNat_natCast] at k2
  have fx:=aI t0<|aI t1<|aI t5<|aI p5<|aI t10<|t11
  refine qB ?_
  repeat ((first|refine wSc (id:=10) qJb qA ?_|refine wSc (id:=13) qJa qA ?_|refine wSc (id:=19) qJ9 qA ?_);refine qC ?_;refine qB ?_)
  clear fx
  intro K hK
  have fx:=aI t0 (aI t1 (aI t5 p5))
  refine qQ h0 (have h:=hO;OwnY.re h) (Nat.le_refl _) (hF:=fun hO=>qMf gl _ p m fs f x pc0 hP hM (by omega) k2 hsl k3 hm0 hO) (h:=?_)
  rintro y H1 ⟨rfl,hO1⟩
  clear fx
  have fx:=fx0
  refine qB ?_
  repeat ((first|refine wSc (id:=10) qJb qA ?_|refine wSc (id:=13) qJa qA ?_|refine wSc (id:=19) qJ9 qA ?_);refine qC ?_;refine qB ?_)
  clear fx
  refine qF [] .nil (by simp;rfl) ⟨by simp,OwnY.fin (have h:=hO1;OwnY.re h)⟩
 ·have hw:zI p m fs f (18,(x:Int))=wK m fs f (18,(x:Int)):=by simp [zI]
  rw [hw]
  obtain⟨k1,k2⟩:=h18 rfl
  have htm:=hM.top.sv _ (uI (f:=f) (by omega))
  have fx:=aI t0<|aI t1<|aI t5<|aI p5<|aI t10<|t11
  refine qB ?_
  repeat ((first|refine wSc (id:=10) qJb qA ?_|refine wSc (id:=13) qJa qA ?_|refine wSc (id:=19) qJ9 qA ?_);refine qC ?_;refine qB ?_)
  clear fx
  intro K hK
  have fx:=aI t0 (aI t1 (aI t5 p5))
  refine qQ h0 (have h:=hO;OwnY.re h) (Nat.le_refl _) (hF:=fun hO=>qMg gl _ p m fs f x (by omega) k2 hsl (fun h=>⟨htm.num.1,htm.cls h⟩) hm0 hfl hO) (h:=?_)
  rintro y H1 ⟨rfl,hO1⟩
  clear fx
  have fx:=fx0
  refine qB ?_
  repeat ((first|refine wSc (id:=10) qJb qA ?_|refine wSc (id:=13) qJa qA ?_|refine wSc (id:=19) qJ9 qA ?_);refine qC ?_;refine qB ?_)
  clear fx
  refine qF [] .nil (by simp;rfl) ⟨by simp,OwnY.fin (have h:=hO1;OwnY.re h)⟩
end Go.Proofs.YtbgmnmnoaamgkaaGreatDoor
end
section
namespace Go.Proofs.YtbgmnmnoaamgkaaGreatDoor
open Go Go.Hm Go.Proofs
abbrev qFy:Sch:=.q 0<|.q 1<|.q 2<|.q 3<|.q 4<|.q 5<|.q 6<|.q 7<|.q 8<|.q 9<|.q 10<|.l 11 [6,5,4,3,2,1,0]<|.q 12<|.l 13 [4,3,2,1,0]<|.l 14 [0]<|.q 15<|.q 16<|.l 17 []<|.done
abbrev qFx:Sch:=.q 0<|.q 1<|.q 2<|.q 3<|.q 4<|.q 5<|.q 6<|.l 7 [2,1,0]<|.l 8 []<|.done
abbrev qFw:Sch:=.q 0<|.q 1<|.q 2<|.q 3<|.q 4<|.q 5<|.l 6 [4,3,2,1,0]<|.l 7 [4,3,2,1,0]<|.l 8 [4,3,2,1,0]<|.l 9 [0]<|.q 10<|.q 11<|.l 12 []<|.done
theorem qKL (gl) (H:Nm→Option AO) (p:Prg) (m:Mch) (fs:List Frm) (f:Frm) (o:Int×Int) (harg:0≤o.2∧o.2≤1000) (hc:o.1=14) (pc0:Nat) (hP:ValP p) (hM:MOk p m fs { f with pc:=pc0 }) (h14:2≤f.stack.length) (hsl:f.stack.length≤1000) (hfl:fs.length≤150) (hm0:m.en=0) (hO:OwnY H p (m.top fs f)) :
  FnE Tryz.prog gl 152 DM [.pt Yn 0,.pt Yn (yo fs.length),.agg [iv o.1,iv o.2]] H (fun _ y H'=>y=bv (decide ((zI p m fs f o).en=0))∧OwnY H' p (zI p m fs f o)) noE:=by
 have h0:=hO
 have yoh:yo fs.length+29≤4415:=by simp only [yo];omega
 obtain⟨c,a⟩:=o
 obtain⟨x,rfl⟩:∃ x:Nat,a=x:=⟨a.toNat,by simp only at harg;omega⟩
 simp only at hc harg
 refine FnE.of_sem Tryz.func152 rfl (by kernel_rfl) (rs:=[.tmp 6]) rfl Tryz.ntmps152 (lB rfl) (fun _=>qH) fun C w g root hroot=>?_
 have fx:=fx0
 refine qB ?_
 clear fx
 refine yd (fun s=>s.tm 0=.pt Yn 0∧s.tm 1=.pt Yn (yo fs.length)∧s.tm 5=.pt (.s 5) 0∧s.hp (.s 5)=some (.row 2 [[iv c,iv x]])∧s.tm 10=iv c∧s.tm 11=bv (c==1)∧OwnY s.hp p (m.top fs f)) ⟨by simp,by simp,by simp,by simp,by simp,by simp,(by repeat (first|(with_reducible exact hO)|refine vu ?_|refine y9 (by rfl) ?_|refine yb ?_|refine vO ?_|refine ya ?_|refine vv ?_|exact (have h:=hO;OwnY.re h)))⟩ ?_
 clear hO
 rintro s ⟨t0,t1,t5,p5,t10,t11,hO⟩
 obtain⟨R,j,hT,tr,h2,h3,h28⟩:=hO.topT rfl (by omega)
 have f28:=tr.f28
 subst hc
 have hw:zI p m fs f (14,(x:Int))=qIz m fs f:=by simp [zI]
 have hadd:qIz m fs f=(if f.pop.tos.1≠1∨f.tos.1≠1 then m.stop fs f.pop.pop 5 else m.top fs (f.pop.pop.push (1,(f.pop.tos.2+f.tos.2).tmod 1000))):=rfl
 rw [hw,hadd]
 clear hw hadd
 obtain⟨k,hk⟩:∃ k,f.stack.length=k+1+1:=⟨f.stack.length - 2,by omega⟩
 have hk2:=v8 hk
 have hv1:=hM.top.sv _ (uI (f:=f) (by omega))
 have hv2:=hM.top.sv _ (kR (uI (f:=f.pop) (by rw [uL];omega)))
 rw [hk] at f28
 have fx:=aI t0<|aI t1<|aI t5<|aI p5<|aI t10<|t11
 refine qB ?_
 repeat ((first|refine wSc (id:=10) qFy qA ?_|refine wSc (id:=13) qFx qA ?_|refine wSc (id:=19) qFw qA ?_);refine qC ?_;refine qB ?_)
 clear fx
 intro K hK
 have fx:=aI t0 t1
 refine qQ h0 (have h:=hO;OwnY.re h) (Nat.le_refl _) (hF:=fun _=>uG gl DM (fun _=>qH) _ R (yo fs.length) (k+1) (f.stack++j) f.tos (by simp [hT]) f28 (by simp [h28]) (j8 hk) (by omega) yoh) (h:=?_)
 intro y H1 hw
 clear fx
 have hO1:=OwnY.wrp (OwnY.popped (m:=m.top fs f) (have h:=hO;OwnY.re h) rfl (by omega) (by simp [hT]) hk) hw
 obtain⟨rfl,-⟩:=hw
 replace hO1:OwnY H1 p (m.top fs f.pop):=hO1
 generalize hfp:f.pop=f1 at *
 generalize hft:f.tos=u at *
 obtain⟨u1,u2⟩:=u
 have fx:=aI t0<|aI t1<|hT
 refine qB ?_
 repeat ((first|refine wSc (id:=10) qFy qA ?_|refine wSc (id:=13) qFx qA ?_|refine wSc (id:=19) qFw qA ?_);refine qC ?_;refine qB ?_)
 clear fx
 refine yr (fun s=>s.tm 0=.pt Yn 0∧s.tm 1=.pt Yn (yo fs.length)∧s.tm 21=.agg [iv u1,iv u2]∧s.tm 22=.pt Yn (yo fs.length)∧OwnY s.hp p (m.top fs f1)) ⟨by simp [t0,hT],by simp [t1,hT],by simp,by simp [t1,hT],(by repeat (first|(with_reducible exact hO1)|refine vu ?_|refine y9 (by rfl) ?_|refine yb ?_|refine vO ?_|refine ya ?_|refine vv ?_|exact (have h:=hO1;OwnY.re h)))⟩ ?_
 clear hO hO1 hT tr h2 h3 h28 f28 t0 t1 t5 p5 t10 t11 R j
 rintro s ⟨t0,t1,t21,t22,hO⟩
 obtain⟨R,j,hT,tr,h2,h3,h28⟩:=hO.topT rfl (by omega)
 have f28:=tr.f28
 rw [hk2] at f28
 have fx:=aI t0 (aI t1 t22)
 refine qQ h0 (have h:=hO;OwnY.re h) (Nat.le_refl _) (hF:=fun _=>uG gl DM (fun _=>qH) _ R (yo fs.length) k (f1.stack++j) f1.tos (by simp [hT]) f28 (by simp [h28]) (j8 hk2) (by omega) yoh) (h:=?_)
 intro y H2 hw
 clear fx
 have hO2:=OwnY.wrp (OwnY.popped (m:=m.top fs f1) (have h:=hO;OwnY.re h) rfl (by omega) (by simp [hT]) hk2) hw
 obtain⟨rfl,-⟩:=hw
 replace hO2:OwnY H2 p (m.top fs f1.pop):=hO2
 have hk3:=v8 hk2
 generalize hfp2:f1.pop=f2 at *
 generalize hft2:f1.tos=v at *
 obtain⟨v1,v2⟩:=v
 have hu2:=hv1.num
 have hv2:=hv2.num
 simp only at hu2 hv2
 have hwr:IntKind.i64.wrap (v2+u2)=v2+u2:=wrp (by omega) (by omega)
 have hq0:=Int.tmod_nonneg 1000 (show 0≤v2+u2 by omega)
 have hq1:=Int.tmod_lt_of_pos (v2+u2) (show (0:Int)<1000 by omega)
 have hwq:IntKind.i64.wrap ((v2+u2).tmod 1000)=(v2+u2).tmod 1000:=wrp (by omega) (by omega)
 generalize hmm:(if (v1,v2).1≠1∨(u1,u2).1≠1 then m.stop fs f2 5 else m.top fs (f2.push (1,((v1,v2).2+(u1,u2).2).tmod 1000)))=mm at hK ⊢
 simp only at hmm
 by_cases k1:v1=1∧u1=1
 ·obtain⟨rfl,rfl⟩:=k1
  rw [if_neg (by simp)] at hmm
  subst hmm
  have fx:=aI t0<|aI t1<|aI t21<|aI hT<|aI hwr<|hwq
  refine qB ?_
  repeat ((first|refine wSc (id:=10) qFy qA ?_|refine wSc (id:=13) qFx qA ?_|refine wSc (id:=19) qFw qA ?_);refine qC ?_;refine qB ?_)
  clear fx
  intro K hK
  refine yr (fun s=>s.tm 34=.pt Yn (yo fs.length)∧s.tm 41=.agg [iv 1,iv ((v2+u2).tmod 1000)]∧OwnY s.hp p (m.top fs f2)) ⟨by simp,by simp,(by repeat (first|(with_reducible exact hO2)|refine vu ?_|refine y9 (by rfl) ?_|refine yb ?_|refine vO ?_|refine ya ?_|refine vv ?_|exact (have h:=hO2;OwnY.re h)))⟩ ?_
  rintro s ⟨t34,t41,hO⟩
  obtain⟨R,j,hT,tr,h2,h3,h28⟩:=hO.topT rfl (by omega)
  have fx:=aI t34 t41
  refine qQ h0 (have h:=hO;OwnY.re h) (Nat.le_refl _) (hF:=fun _=>jj gl DM (fun _=>qH) _ R (yo fs.length) f2.stack j (1,(v2+u2).tmod 1000) rfl rfl (by simp [hT]) tr.f28 (by simp [h28]) (by omega) yoh) (h:=?_)
  intro y H3 hw3
  clear fx
  have hO3:=OwnY.pushed (m:=m.top fs f2) (by exact (have h:=hO;OwnY.re h)) rfl (by omega) rfl (by simp [hT]) hw3
  have fx:=fx0
  refine qB ?_
  repeat ((first|refine wSc (id:=10) qFy qA ?_|refine wSc (id:=13) qFx qA ?_|refine wSc (id:=19) qFw qA ?_);refine qC ?_;refine qB ?_)
  clear fx
  refine qF [] .nil (by simp;rfl) ⟨by simp [Mch.top,hm0],OwnY.fin (have h:=hO3;OwnY.re h)⟩
 ·have hne:v1≠1∨u1≠1:=by omega
  rw [if_pos hne] at hmm
  subst hmm
  by_cases k2:v1=1
  ·subst k2
   have kb:(u1 != 1)=true:=by simpa using k1
   have fx:=aI t0<|aI t1<|aI t21<|aI hT<|kb
   refine qB ?_
   repeat ((first|refine wSc (id:=10) qFy qA ?_|refine wSc (id:=13) qFx qA ?_|refine wSc (id:=19) qFw qA ?_);refine qC ?_;refine qB ?_)
   clear fx
   intro K hK
   refine yr (fun s=>s.tm 32=.pt Yn 0∧OwnY s.hp p (m.top fs f2)) ⟨by simp,(by repeat (first|(with_reducible exact hO2)|refine vu ?_|refine y9 (by rfl) ?_|refine yb ?_|refine vO ?_|refine ya ?_|refine vv ?_|exact (have h:=hO2;OwnY.re h)))⟩ ?_
   rintro s ⟨t32,hO⟩
   obtain⟨R,j,hT,tr,-⟩:=hO.topT rfl (by omega)
   have fx:=t32
   refine qQ h0 (have h:=hO;OwnY.re h) (Nat.le_refl _) (hF:=fun _=>yL gl DM (fun _=>qH) _ R 5 (by simp [hT]) tr.len) (h:=?_)
   intro y H3 hw3
   clear fx
   have hO3:=OwnY.wrp (OwnY.stopped (m:=m.top fs f2) (e:=5) (have h:=hO;OwnY.re h) rfl (by simp [hT])) hw3
   obtain⟨rfl,-⟩:=hw3
   have fx:=fx0
   refine qB ?_
   repeat ((first|refine wSc (id:=10) qFy qA ?_|refine wSc (id:=13) qFx qA ?_|refine wSc (id:=19) qFw qA ?_);refine qC ?_;refine qB ?_)
   clear fx
   refine qF [] .nil (by simp;rfl) ⟨by simp [Mch.stop],OwnY.fin (have h:=hO3;OwnY.re h)⟩
  ·have kb:(v1 != 1)=true:=by simpa using k2
   have fx:=aI t0<|aI t1<|aI t21<|aI hT<|kb
   refine qB ?_
   repeat ((first|refine wSc (id:=10) qFy qA ?_|refine wSc (id:=13) qFx qA ?_|refine wSc (id:=19) qFw qA ?_);refine qC ?_;refine qB ?_)
   clear fx
   intro K hK
   refine yr (fun s=>s.tm 32=.pt Yn 0∧OwnY s.hp p (m.top fs f2)) ⟨by simp,(by repeat (first|(with_reducible exact hO2)|refine vu ?_|refine y9 (by rfl) ?_|refine yb ?_|refine vO ?_|refine ya ?_|refine vv ?_|exact (have h:=hO2;OwnY.re h)))⟩ ?_
   rintro s ⟨t32,hO⟩
   obtain⟨R,j,hT,tr,-⟩:=hO.topT rfl (by omega)
   have fx:=t32
   refine qQ h0 (have h:=hO;OwnY.re h) (Nat.le_refl _) (hF:=fun _=>yL gl DM (fun _=>qH) _ R 5 (by simp [hT]) tr.len) (h:=?_)
   intro y H3 hw3
   clear fx
   have hO3:=OwnY.wrp (OwnY.stopped (m:=m.top fs f2) (e:=5) (have h:=hO;OwnY.re h) rfl (by simp [hT])) hw3
   obtain⟨rfl,-⟩:=hw3
   have fx:=fx0
   refine qB ?_
   repeat ((first|refine wSc (id:=10) qFy qA ?_|refine wSc (id:=13) qFx qA ?_|refine wSc (id:=19) qFw qA ?_);refine qC ?_;refine qB ?_)
   clear fx
   refine qF [] .nil (by simp;rfl) ⟨by simp [Mch.stop],OwnY.fin (have h:=hO3;OwnY.re h)⟩
abbrev qJ8:Sch:=.q 0<|.q 1<|.q 2<|.q 3<|.q 4<|.q 5<|.q 6<|.q 7<|.q 8<|.q 9<|.q 10<|.l 11 [6,5,4,3,2,1,0]<|.q 12<|.l 13 [4,3,2,1,0]<|.l 14 [0]<|.q 15<|.q 16<|.l 17 []<|.done
abbrev qJ7:Sch:=.q 0<|.q 1<|.q 2<|.q 3<|.q 4<|.q 5<|.q 6<|.l 7 [2,1,0]<|.l 8 []<|.done
abbrev qJ6:Sch:=.q 0<|.q 1<|.q 2<|.q 3<|.q 4<|.q 5<|.l 6 [4,3,2,1,0]<|.l 7 [4,3,2,1,0]<|.l 8 [4,3,2,1,0]<|.l 9 [0]<|.q 10<|.q 11<|.l 12 []<|.done
theorem qFW (gl) (H:Nm→Option AO) (p:Prg) (m:Mch) (fs:List Frm) (f:Frm) (o:Int×Int) (harg:0≤o.2∧o.2≤1000) (hc:o.1=15∨o.1=16) (pc0:Nat) (hP:ValP p) (hM:MOk p m fs { f with pc:=pc0 }) (hblk:∃ q,p[o.2.toNat]?=some q∧q.parent=f.blk∧0<o.2∧q.kind=o.1 - 14) (hf16:o.1=16→fs.length+1≤150) (hsl:f.stack.length≤1000) (hfl:fs.length≤150) (hm0:m.en=0) (h9:H (.u 9 0 0)=none) (hO:OwnY H p (m.top fs f)) :
  FnE Tryz.prog gl 152 DM [.pt Yn 0,.pt Yn (yo fs.length),.agg [iv o.1,iv o.2]] H (fun _ y H'=>y=bv (decide ((zI p m fs f o).en=0))∧OwnY H' p (zI p m fs f o)) noE:=by
 have h0:=hO
 have yoh:yo fs.length+29≤4415:=by simp only [yo];omega
 obtain⟨c,a⟩:=o
 obtain⟨x,rfl⟩:∃ x:Nat,a=x:=⟨a.toNat,by simp only at harg;omega⟩
 simp only at hc hblk hf16 harg
 refine FnE.of_sem Tryz.func152 rfl (by kernel_rfl) (rs:=[.tmp 6]) rfl Tryz.ntmps152 (lB rfl) (fun _=>qH) fun C w g root hroot=>?_
 have fx:=fx0
 refine qB ?_
 clear fx
 refine yd (fun s=>s.tm 0=.pt Yn 0∧s.tm 1=.pt Yn (yo fs.length)∧s.tm 5=.pt (.s 5) 0∧s.hp (.s 5)=some (.row 2 [[iv c,iv x]])∧s.tm 10=iv c∧s.tm 11=bv (c==1)∧OwnY s.hp p (m.top fs f)) ⟨by simp,by simp,by simp,by simp,by simp,by simp,(by repeat (first|(with_reducible exact hO)|refine vu ?_|refine y9 (by rfl) ?_|refine yb ?_|refine vO ?_|refine ya ?_|refine vv ?_|exact (have h:=hO;OwnY.re h)))⟩ ?_
 clear hO
 rintro s ⟨t0,t1,t5,p5,t10,t11,hO⟩
 obtain⟨R,j,hT,tr,h2,h3,h28⟩:=hO.topT rfl (by omega)
 have f28:=tr.f28
 obtain⟨kb,hk1,hk2,hk3,hk4⟩:=hblk
 simp only [Int.toNat_natCast] at hk1
 have hxl:=(gS hk1).1
 have hp7:=hP.sh.len
 have hcin:=qVA (f:={ f with pc:=pc0 }) hP.sh.heads hM.top hk1 hk2
 obtain⟨hco1,hco2⟩:(y8 p f x).length=(qU p x).length∧∀ c∈y8 p f x,c<m.cells.length:=qFH (f:={ f with pc:=pc0 }) hP.sh.heads hM.top hk1 hk2
 have hc3:=jW (p:=p) (b:=x)
 have hnf:=hM.nf
 have hRl:=tr.len
 have r30:=tr.r30
 obtain⟨_,r30E⟩:=gS r30
 simp only [ud] at r30 r30E
 rcases hc with rfl|rfl
 ·have hw:zI p m fs f (15,(x:Int))={ m.top fs (f.push (2,m.funs.length)) with funs:=m.funs++[(x,y8 p f x)] }:=by simp [zI]
  rw [hw]
  have hfl3:m.funs.length≤1000:=by omega
  have hwf:IntKind.i64.wrap (m.funs.length:Int)=m.funs.length:=wrp (by omega) (by omega)
  have fx:=aI t0<|aI t1<|aI t5<|aI p5<|aI t10<|aI t11<|aI hT<|aI hRl<|aI r30<|r30E
  refine qB ?_
  repeat ((first|refine wSc (id:=10) qJ8 qA ?_|refine wSc (id:=13) qJ7 qA ?_|refine wSc (id:=19) qJ6 qA ?_);refine qC ?_;refine qB ?_)
  clear fx
  intro K hK
  have fx:=aI t0 (aI t1 (aI t5 p5))
  have hO0:=hO
  refine qGN 56 (.s 56) ?_
  refine qPr DM (.c Yn 0 30) (.u 9 0 0) (z:=1) (len:=(y8 p f x).length) (rows:=zA (y8 p f x)) rfl rfl (by simp [un,h9]) (fun _=>qH) (by simp) (fun _=>qRu) (fun _=>qYK) (by simp [hO.funs]) (fun k i j he=>?_) (by simp) (vn fun c=>by simp) (hF:=?_) (h:=?_)
  ·rcases h0.ext hO (Nat.le_refl _) k i j he with h|h
   ·exact .inl h
   ·refine .inr fun h'=>h ?_
    simp only [jl]
    split
    ·exact h'
    ·rfl
  ·exact qKQ gl DY9 (fun _=>qFR) _ p fs.length f x (R.map (AV.tr (mv (.c Yn 0 30) (.u 9 0 0)))) hxl (by omega) hfl (by simp [jl,DY9,hmv,hT,AO.tr]) (by simp [hRl]) (by rw [List.getElem?_map,tr.r1];simp) (by rw [List.getElem?_map,tr.f3];simp) (by simp [jl,DY9,hmv,hO.caps,AO.tr]) (by simp [jl,DY9,hmv,h3,AO.tr]) (fun _=>rfl) (fun _ _=>rfl) rfl hcin u6
  intro hp' hS hr1
  clear fx
  have hO1:=hO.same hS
  obtain⟨R1,j1,hT1,tr1,h21,h31,h281⟩:=OwnY.topT (f:=f) hO1 rfl (by omega)
  have hR1l:=tr1.len
  have r301:=tr1.r30
  obtain⟨_,r301E⟩:=gS r301
  simp only [ud] at r301 r301E
  have hFn:=hO1.funs
  simp only [ud] at hFn
  refine⟨.sl 1 (zA (y8 p f x)),qML (by simp [hr1]) (by simp) qGc,?_⟩
  have fx:=aI t0<|aI t1<|aI t5<|aI p5<|aI hT<|aI hRl<|aI r30<|aI r30E<|aI hT1<|aI hR1l<|aI r301<|aI r301E<|aI hFn<|aI hfl3<|hwf
  refine qB ?_
  repeat ((first|refine wSc (id:=10) qJ8 qA ?_|refine wSc (id:=13) qJ7 qA ?_|refine wSc (id:=19) qJ6 qA ?_);refine qC ?_;refine qB ?_)
  clear fx
  intro K hK
  have hap:jZ m.funs++[[iv x,.sl 1 (zA (y8 p f x))]]=jZ (m.funs++[(x,y8 p f x)]):=qJq (g:=(x,y8 p f x))
  refine yr (fun s=>s.tm 62=.pt Yn (yo fs.length)∧s.tm 69=.agg [iv 2,iv m.funs.length]∧OwnY s.hp p (({ m with funs:=m.funs++[(x,y8 p f x)] }:Mch).top fs f)) ⟨by simp,by simp,?_⟩ ?_
  ·have h:=hO1
   exact OwnY.reT (f:=f) (g:=f) (fs:=fs) h rfl rfl rfl (qET hT1 (by simp;rfl) (fun J hJ e=>by rw [e];simp only [km];exact qUw (m.funs++[(x,y8 p f x)]) hJ (by simp) (fun j hj=>by simp [hj]))) (h4:=by simp [← hap]) (h6t:=by simp [h21]) (h7t:=by simp [h31]) (h8t:=⟨j1,by simp [h281]⟩)
  rintro s ⟨t62,t69,hO⟩
  obtain⟨R,j,hT,tr,-,-,h28⟩:=OwnY.topT (f:=f) hO rfl (by omega)
  have fx:=aI t62 t69
  refine qQ h0 (have h:=hO;OwnY.re h) (Nat.le_refl _) (hF:=fun _=>jj gl DM (fun _=>qH) _ R (yo fs.length) f.stack j (2,(m.funs.length:Int)) rfl rfl (by simp [hT]) tr.f28 (by simp [h28]) hsl yoh) (h:=?_)
  intro y H2 hw2
  clear fx
  have hO2:=OwnY.pushed (f:=f) (by exact (have h:=hO;OwnY.re h)) rfl (by omega) rfl (by simp [hT]) hw2
  have fx:=fx0
  refine qB ?_
  repeat ((first|refine wSc (id:=10) qJ8 qA ?_|refine wSc (id:=13) qJ7 qA ?_|refine wSc (id:=19) qJ6 qA ?_);refine qC ?_;refine qB ?_)
  clear fx
  refine qF [] .nil (by simp;rfl) ⟨by simp [Mch.top,hm0],OwnY.fin (have h:=hO2;OwnY.re h)⟩
 ·have hw:zI p m fs f (16,(x:Int))=qk p (m.top fs f) x (y8 p f x) []:=by simp [zI]
  rw [hw]
  have hpm:(q8 p x).params=[]:=by
   have:=hP.sh.head x kb hk1
   unfold jJ at this
   rw [if_neg (by omega)] at this
   have h0:kb.params.length=0:=by omega
   simp [q8,hk1,List.eq_nil_of_length_eq_zero h0]
  have hmd:=hM.made
  have hdp:=hM.deep
  have hnc:=hM.nc
  have hf16:=hf16 rfl
  have fx:=aI t0<|aI t1<|aI t5<|aI p5<|aI t10<|t11
  refine qB ?_
  repeat ((first|refine wSc (id:=10) qJ8 qA ?_|refine wSc (id:=13) qJ7 qA ?_|refine wSc (id:=19) qJ6 qA ?_);refine qC ?_;refine qB ?_)
  clear fx
  intro K hK
  have fx:=aI t0 (aI t1 (aI t5 p5))
  refine qQ h0 (have h:=hO;OwnY.re h) (Nat.le_refl _) (hF:=fun hO=>qGu gl _ p m fs f x hxl (by omega) hfl hcin u6 hO) (h:=?_)
  rintro y H1 ⟨rfl,hr1,hO1⟩
  clear fx
  have fx:=aI t0<|aI t1<|aI t5<|aI p5<|hT
  refine qB ?_
  repeat ((first|refine wSc (id:=10) qJ8 qA ?_|refine wSc (id:=13) qJ7 qA ?_|refine wSc (id:=19) qJ6 qA ?_);refine qC ?_;refine qB ?_)
  clear fx
  refine yr (fun s=>s.tm 5=.pt (.s 5) 0∧s.tm 74=.pt (.s 5) 1∧s.tm 78=.pt (.s 5) 1∧s.tm 73=.pt Yn 0∧s.tm 75=iv x∧s.tm 80=.hs (.s 80) 1 0 (y8 p f x).length∧s.hp (.s 80)=some (.row 1 (zA (y8 p f x)))∧OwnY s.hp p (m.top fs f)) ⟨by simp [t5],by simp [t5],by simp [t5],by simp [t0,hT],by simp,by simp,by simp [hr1],(have h:=hO1;OwnY.re h)⟩ ?_
  rintro s ⟨t5,t74,t78,t73,t75,t80,p80,hO⟩
  refine qC7 80 (.s 80) 1 (y8 p f x).length (zA (y8 p f x)) t80 p80 (by simp) qGc ?_
  have fx:=aI t73 t75
  refine qQ h0 (vO hO) (Nat.le_refl _) (hF:=fun hO=>(qBu gl _ p (m.top fs f) x (y8 p f x) [] hxl (by omega) (by omega) hco2 (by simp only [kG];omega) (by simp only [qBl];omega) (by simp only [Mch.top];omega) (by simp [Mch.top];omega) (.inl hpm) (by rw [hpm];rfl) (hM.frc rfl) hM.fnc hO).nil4) (h:=?_)
  rintro y H2 hO2
  clear fx
  have fx:=aI t5<|aI t74<|t78
  refine qB ?_
  repeat ((first|refine wSc (id:=10) qJ8 qA ?_|refine wSc (id:=13) qJ7 qA ?_|refine wSc (id:=19) qJ6 qA ?_);refine qC ?_;refine qB ?_)
  clear fx
  refine qF [] .nil (by simp;rfl) ⟨by simp [qFM,Mch.top,hm0],OwnY.fin (have h:=hO2;OwnY.re h)⟩
end Go.Proofs.YtbgmnmnoaamgkaaGreatDoor
end
section
namespace Go.Proofs.YtbgmnmnoaamgkaaGreatDoor
open Go Go.Hm Go.Proofs
abbrev qFv:Sch:=.q 0<|.q 1<|.q 2<|.q 3<|.q 4<|.q 5<|.q 6<|.q 7<|.q 8<|.q 9<|.q 10<|.l 11 [6,5,4,3,2,1,0]<|.q 12<|.l 13 [4,3,2,1,0]<|.l 14 [0]<|.q 15<|.q 16<|.l 17 []<|.done
abbrev qFu:Sch:=.q 0<|.q 1<|.q 2<|.q 3<|.q 4<|.q 5<|.q 6<|.l 7 [2,1,0]<|.l 8 []<|.done
abbrev qFt:Sch:=.q 0<|.q 1<|.q 2<|.q 3<|.q 4<|.q 5<|.l 6 [4,3,2,1,0]<|.l 7 [4,3,2,1,0]<|.l 8 [4,3,2,1,0]<|.l 9 [0]<|.q 10<|.q 11<|.l 12 []<|.done
theorem qFV (gl) (H:Nm→Option AO) (p:Prg) (m:Mch) (fs:List Frm) (f:Frm) (o:Int×Int) (harg:0≤o.2∧o.2≤1000) (hc:o.1=19∨o.1=20) (pc0:Nat) (hP:ValP p) (hM:MOk p m fs { f with pc:=pc0 }) (hst:1≤f.stack.length) (h20:o.1=20→qi p f.blk=1) (hlow:∀ g∈fs,g.stack.length≤1000) (hne:o.1=20→fs≠[]) (hsl:f.stack.length≤1000) (hfl:fs.length≤150) (hm0:m.en=0) (h9:H (.u 9 0 0)=none) (hO:OwnY H p (m.top fs f)) :
  FnE Tryz.prog gl 152 DM [.pt Yn 0,.pt Yn (yo fs.length),.agg [iv o.1,iv o.2]] H (fun _ y H'=>y=bv (decide ((zI p m fs f o).en=0))∧OwnY H' p (zI p m fs f o)) noE:=by
 have h0:=hO
 have yoh:yo fs.length+29≤4415:=by simp only [yo];omega
 obtain⟨c,a⟩:=o
 obtain⟨x,rfl⟩:∃ x:Nat,a=x:=⟨a.toNat,by simp only at harg;omega⟩
 simp only at hc h20 hne harg
 refine FnE.of_sem Tryz.func152 rfl (by kernel_rfl) (rs:=[.tmp 6]) rfl Tryz.ntmps152 (lB rfl) (fun _=>qH) fun C w g root hroot=>?_
 have fx:=fx0
 refine qB ?_
 clear fx
 refine yd (fun s=>s.tm 0=.pt Yn 0∧s.tm 1=.pt Yn (yo fs.length)∧s.tm 5=.pt (.s 5) 0∧s.hp (.s 5)=some (.row 2 [[iv c,iv x]])∧s.tm 10=iv c∧s.tm 11=bv (c==1)∧OwnY s.hp p (m.top fs f)) ⟨by simp,by simp,by simp,by simp,by simp,by simp,(by repeat (first|(with_reducible exact hO)|refine vu ?_|refine y9 (by rfl) ?_|refine yb ?_|refine vO ?_|refine ya ?_|refine vv ?_|exact (have h:=hO;OwnY.re h)))⟩ ?_
 clear hO
 rintro s ⟨t0,t1,t5,p5,t10,t11,hO⟩
 obtain⟨R,j,hT,tr,h2,h3,h28⟩:=hO.topT rfl (by omega)
 have f28:=tr.f28
 obtain⟨k,hk⟩:∃ k,f.stack.length=k+1:=⟨f.stack.length - 1,by omega⟩
 rcases hc with rfl|rfl
 ·have hw:zI p m fs f (19,(x:Int))={ m.top fs f.pop with out:=m.out++[Hm.shown f.tos] }:=by simp [zI]
  rw [hw]
  have hmo:=hM.out
  have hol:m.out.length≤1000:=by omega
  have hRl:=tr.len
  have r4:=tr.r4
  obtain⟨_,r4E⟩:=gS r4
  simp only [Mch.top] at r4 r4E
  have fx:=aI t0<|aI t1<|aI t5<|aI p5<|aI t10<|aI t11<|aI hT<|aI hRl<|aI r4<|r4E
  refine qB ?_
  repeat ((first|refine wSc (id:=10) qFv qA ?_|refine wSc (id:=13) qFu qA ?_|refine wSc (id:=19) qFt qA ?_);refine qC ?_;refine qB ?_)
  clear fx
  intro K hK
  obtain⟨R0,R',vs,k1,k2,k3,k4,k5,k6⟩:=OwnY.keep (j:=4) hO rfl (by omega) hk (by simp only [yo];omega)
  have fx:=aI t0 t1
  refine qHx DM (.c Yn 0 4) (.u 9 0 0) Yn (.row 4415 [spl R0 (yo fs.length+28) [.hs (.c Yn 0 (yo fs.length+28)) 2 0 k]]) (Val.av f.tos) (hV:=rfl) (hN:=rfl) (hVe:=by simp [un,h9]) (fun _=>qH) (by simp) (fun _=>qRu) (fun _=>qYK) (by simp [hO.out]) (fun k i j he=>?_) rfl (by simp) (by simp) (hF:=by rw [k6];exact uG gl DY9 (fun _=>qFR) _ R' (yo fs.length) k vs f.tos k2 k3 k4 k5 (by omega) yoh) (h:=?_)
  ·rcases h0.ext hO (Nat.le_refl _) k i j he with h|h
   ·exact .inl h
   ·refine .inr fun h'=>h ?_
    simp only [jl]
    split
    ·exact h'
    ·rfl
  intro hp' hS
  clear fx
  have hO1:OwnY hp' p (m.top fs f.pop):=(OwnY.popped (m:=m.top fs f) hO rfl (by omega) k1 hk).same hS
  obtain⟨R1,j1,hT1,tr1,h21,h31,h281⟩:=OwnY.topT (f:=f.pop) hO1 rfl (by omega)
  have hR1l:=tr1.len
  have r41:=tr1.r4
  obtain⟨_,r41E⟩:=gS r41
  simp only [Mch.top] at r41 r41E
  have hOu:=hO1.out
  simp only [Mch.top] at hOu
  have hsh:=qCm gl f.tos
  generalize hv:f.tos=v at *
  obtain⟨v1,v2⟩:=v
  have fx:=aI t0<|aI t1<|aI t5<|aI p5<|aI hT<|aI hRl<|aI r4<|aI r4E<|aI hT1<|aI hR1l<|aI r41<|aI r41E<|aI hOu<|hol
  have c1:=hsh
  refine qB ?_
  repeat ((first|refine wSc (id:=10) qFv qA ?_|refine wSc (id:=13) qFu qA ?_|refine wSc (id:=19) qFt qA ?_);refine qC ?_;refine qB ?_)
  clear fx c1
  refine qF [] .nil (by simp;rfl) ⟨by simp [Mch.top,hm0],OwnY.fin ?_⟩
  have h:=hO1
  exact OwnY.reT (f:=f.pop) (g:=f.pop) (fs:=fs) h rfl rfl rfl (qET hT1 (by simp;rfl) (fun J hJ e=>by rw [e];simp only [km];exact qXk (m.out++[Hm.shown (v1,v2)]) hJ (by simp) (fun j hj=>by simp [hj]))) (h2:=by simp) (h6t:=by simp [h21]) (h7t:=by simp [h31]) (h8t:=⟨j1,by simp [h281]⟩)
 ·have hw:zI p m fs f (20,(x:Int))=zD m fs f.tos:=by simp [zI]
  rw [hw]
  have hfne:=hne rfl
  obtain⟨gs,g0,rfl⟩:∃ gs g0,fs=gs++[g0]:=⟨fs.dropLast,fs.getLast hfne,(List.dropLast_concat_getLast hfne).symm⟩
  have hkd:=h20 rfl
  have hnk:=hM.nk
  have hmd:=hM.made
  rw [hk] at f28
  have fx:=aI t0<|aI t1<|aI t5<|aI p5<|aI t10<|t11
  refine qB ?_
  repeat ((first|refine wSc (id:=10) qFv qA ?_|refine wSc (id:=13) qFu qA ?_|refine wSc (id:=19) qFt qA ?_);refine qC ?_;refine qB ?_)
  clear fx
  intro K hK
  have fx:=aI t0 t1
  refine qQ h0 (have h:=hO;OwnY.re h) (Nat.le_refl _) (hF:=fun _=>uG gl DM (fun _=>qH) _ R (yo (gs++[g0]).length) k (f.stack++j) f.tos (by simp [hT]) f28 (by simpa using h28) (j8 hk) (by omega) yoh) (h:=?_)
  intro y H1 hw
  clear fx
  have hO1:=OwnY.wrp (OwnY.popped (m:=m.top (gs++[g0]) f) (have h:=hO;OwnY.re h) rfl (by omega) (by simp [hT]) hk) hw
  obtain⟨rfl,-⟩:=hw
  replace hO1:OwnY H1 p (m.top (gs++[g0]) f.pop):=hO1
  have hyf:=fun H hO=>qDU gl H p m gs g0 f.pop f.tos hM.top.blk (by simp at hfl;omega) (hlow g0 (by simp)) (by omega) hO
  rw [show f.pop.blk=f.blk from rfl,if_neg (by omega)] at hyf
  have fx:=aI t0<|aI t1<|hT
  refine qB ?_
  repeat ((first|refine wSc (id:=10) qFv qA ?_|refine wSc (id:=13) qFu qA ?_|refine wSc (id:=19) qFt qA ?_);refine qC ?_;refine qB ?_)
  clear fx
  have fx:=aI t0 (aI t1 hT)
  refine qQ h0 (have h:=hO1;OwnY.re h) (Nat.le_refl _) (hF:=fun hO=>hyf _ hO) (h:=?_)
  intro y H2 hO2
  clear fx
  have fx:=fx0
  refine qB ?_
  repeat ((first|refine wSc (id:=10) qFv qA ?_|refine wSc (id:=13) qFu qA ?_|refine wSc (id:=19) qFt qA ?_);refine qC ?_;refine qB ?_)
  clear fx
  refine qF [] .nil (by simp;rfl) ⟨by simp [qIc,hm0],OwnY.fin (have h:=hO2;OwnY.re h)⟩
end Go.Proofs.YtbgmnmnoaamgkaaGreatDoor
end
