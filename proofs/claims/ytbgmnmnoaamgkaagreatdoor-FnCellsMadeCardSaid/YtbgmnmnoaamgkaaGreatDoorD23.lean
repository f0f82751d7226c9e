/-
  Own texts, joined by mkclaim.py: Yf, Yfb, Yfc.
-/
import Derived.Test.YtbgmnmnoaamgkaaGreatDoorD22
import Derived.Test.YtbgmnmnoaamgkaaGreatDoorD17
set_option linter.unusedSimpArgs false
set_option linter.unusedVariables false
set_option maxRecDepth 100000
set_option maxHeartbeats 4000000

section
namespace Go.Proofs.YtbgmnmnoaamgkaaGreatDoor
open Go Go.Hm Go.Proofs
abbrev qE4:Sch:=.q 0<|.q 1<|.q 2<|.q 3<|.q 4<|.q 5<|.q 6<|.q 7<|.l 8 [4,3,2,1,0]<|.l 9 [0]<|.q 10<|.q 11<|.l 12 []<|.done
abbrev qE3:Sch:=.q 0<|.q 1<|.q 2<|.q 3<|.q 4<|.q 5<|.q 6<|.q 7<|.q 8<|.q 9<|.q 10<|.q 11<|.l 12 [7,5,4,3,2,1,0]<|.l 13 [7,5,0]<|.q 14<|.q 15<|.l 16 []<|.done
abbrev qE2:Sch:=.q 0<|.q 1<|.q 2<|.q 3<|.q 4<|.q 5<|.q 6<|.q 7<|.q 8<|.q 9<|.q 10<|.l 11 [6,5,4,3,2,1,0]<|.q 12<|.l 13 [4,3,2,1,0]<|.l 14 [0]<|.q 15<|.q 16<|.l 17 []<|.done
abbrev qE1:Sch:=.q 0<|.q 1<|.q 2<|.q 3<|.q 4<|.q 5<|.q 6<|.q 7<|.q 8<|.q 9<|.q 10<|.q 11<|.l 12 [7,6,5,4,3,2,1,0]<|.l 13 [7,6,5,0]<|.q 14<|.q 15<|.l 16 []<|.done
abbrev qE0:Sch:=.q 0<|.q 1<|.q 2<|.q 3<|.q 4<|.q 5<|.q 6<|.q 7<|.q 8<|.q 9<|.q 10<|.q 11<|.l 12 [7,6,5,4,3,2,1,0]<|.l 13 [4,3,2,1,0]<|.l 14 [4,3,2,1,0]<|.l 15 [0]<|.q 16<|.q 17<|.l 18 []<|.done
abbrev qEZ:Sch:=.q 0<|.q 1<|.q 2<|.q 3<|.q 4<|.q 5<|.q 6<|.q 7<|.q 8<|.q 9<|.q 10<|.q 11<|.q 12<|.q 13<|.done
abbrev qEY:Sch:=.q 0<|.q 1<|.q 2<|.q 3<|.q 4<|.q 5<|.q 6<|.q 7<|.q 8<|.q 9<|.q 10<|.q 11<|.q 12<|.q 13<|.q 14<|.q 15<|.q 16<|.q 17<|.l 18 [13,11,10,9,8,7,6,5,4,3,2,1,0]<|.l 19 [13,11,10,9,8,7,6,5,0]<|.q 20<|.q 21<|.l 22 []<|.done
abbrev qEX:Sch:=.q 0<|.q 1<|.q 2<|.q 3<|.q 4<|.q 5<|.l 6 [4,3,2,1,0]<|.l 7 [4,3,2,1,0]<|.l 8 [4,3,2,1,0]<|.l 9 [0]<|.q 10<|.q 11<|.l 12 []<|.done
theorem uf (gl) (H:Nm→Option AO) (p:Prg) (m:Mch) (fs:List Frm) (f:Frm) (o:Int×Int) (dp pc0:Nat) (hP:ValP p) (hM:MOk p m fs { f with pc:=pc0 }) (hR:OrdOk p f.blk o) (hc:o.1=1∨o.1=14∨o.1=15) (h14:o.1=14→2≤f.stack.length) (h18:o.1=18∨o.1=19→1≤f.stack.length) (hsl:f.stack.length≤1000) (hfl:fs.length≤1000) (hO:OwnX H p (.u 2 0 0) (m.top fs f) dp) (h9:H (.u 9 0 0)=none) :
  FnE Tryz.prog gl 103 D12 [.pt Xn 0,.ep (.u 2 0 0) 7 fs.length 0,.agg [iv o.1,iv o.2]] H (fun _ _ H'=>∃ q,(q=.u 2 0 0∨q=.c Xn 0 6)∧qMb H' p q (zI p m fs f o) dp) noE:=by
 have hT:=hO.top
 obtain⟨L,j,hL,hat,hlt,hF,hf,hn,hsk⟩:=hO.topF rfl
 obtain⟨_,hatE⟩:=gS hat
 simp only [jR,Mch.top] at hT
 have harg:=hR.arg
 have hblk:=hR.blk
 have hatt:=hR.attr
 have hfn:=hM.nf
 have hfo:=hM.out
 obtain⟨c,a⟩:=o
 obtain⟨x,rfl⟩:∃ x:Nat,a=x:=⟨a.toNat,by simp only at harg;omega⟩
 simp only at hc h14 h18 harg hblk hatt
 refine FnE.of_sem Tryz.func103 rfl (by kernel_rfl) (rs:=[]) rfl Tryz.ntmps103 (lB rfl) (fun _=>zM) fun C w g root hroot=>?_
 have fx:=aI hT<|hF
 refine qB ?_
 repeat ((first|refine wSc (id:=3) qE4 qA ?_|refine wSc (id:=9) qE3 qA ?_|refine wSc (id:=11) qE2 qA ?_|refine wSc (id:=12) qE1 qA ?_|refine wSc (id:=14) qE0 qA ?_|refine wSc (id:=19) qEZ qA ?_|refine wSc (id:=21) qEY qA ?_|refine wSc (id:=23) qEX qA ?_);refine qC ?_;refine qB ?_)
 clear fx
 refine yd (fun s=>s.tm 0=.pt Xn 0∧s.tm 1=.ep (.u 2 0 0) 7 fs.length 0∧s.tm 5=.pt (.s 5) 0∧s.hp (.s 5)=some (.row 2 [[iv c,iv x]])∧s.tm 10=iv c∧s.tm 11=bv (c==1)∧OwnX s.hp p (.u 2 0 0) (m.top fs f) dp) ⟨by simp,by simp,by simp,by simp,by simp,by simp,(have h:=hO;OwnX.re h)⟩ ?_
 clear hT hF hf hn hsk hat hatE hlt hL hO
 rintro s ⟨t0,t1,t5,p5,t10,t11,hO⟩
 have hT:=hO.top
 obtain⟨L,j,hL,hat,hlt,hF,hf,hn,hsk⟩:=hO.topF rfl
 obtain⟨_,hatE⟩:=gS hat
 simp only [jR,Mch.top] at hT
 have hX0:s.hp Xn≠none:=by rw [hT];simp
 have hU0:s.hp (.u 2 0 0)≠none:=by rw [hF];simp
 rcases hc with rfl|rfl|rfl
 ·have hw:zI p m fs f (1,(x:Int))=m.top fs (f.push (1,x)):=by simp [zI]
  rw [hw]
  have fx:=aI t0<|aI t1<|aI t5<|aI p5<|aI t10<|aI t11<|aI hT<|aI hF<|aI hat<|aI hatE<|aI hlt<|aI hsk<|hsl
  refine qB ?_
  repeat ((first|refine wSc (id:=3) qE4 qA ?_|refine wSc (id:=9) qE3 qA ?_|refine wSc (id:=11) qE2 qA ?_|refine wSc (id:=12) qE1 qA ?_|refine wSc (id:=14) qE0 qA ?_|refine wSc (id:=19) qEZ qA ?_|refine wSc (id:=21) qEY qA ?_|refine wSc (id:=23) qEX qA ?_);refine qC ?_;refine qB ?_)
  clear fx
  refine zj [] .nil (by simp;rfl) ⟨_,.inl rfl,OwnX.out' (OwnX.fin (have h:=hO;OwnX.reT h rfl hL rfl (by simp;exact zX hat) (by simp [hf,Frm.push]) (by simp [hn,Frm.push]) ⟨[],by simp [Frm.push,qt]⟩ (h0:=by simp [hT,jR])) (.inr rfl))⟩
 ·have hw:zI p m fs f (14,(x:Int))=qIz m fs f:=by simp [zI]
  have hadd:qIz m fs f=(if f.pop.tos.1≠1∨f.tos.1≠1 then m.stop fs f.pop.pop 5 else m.top fs (f.pop.pop.push (1,(f.pop.tos.2+f.tos.2).tmod 1000))):=rfl
  rw [hw,hadd]
  clear hw hadd
  have h2:=h14 rfl
  obtain⟨rows,a0,a1,a2,a3,a4,a5,vs,e1,e2,e3,e4,e5⟩:=hO.take (k:=f.stack.length - 1) (by omega)
  have fx:=aI t0<|aI t1<|aI t5<|aI p5<|aI t10<|t11
  refine qB ?_
  repeat ((first|refine wSc (id:=3) qE4 qA ?_|refine wSc (id:=9) qE3 qA ?_|refine wSc (id:=11) qE2 qA ?_|refine wSc (id:=12) qE1 qA ?_|refine wSc (id:=14) qE0 qA ?_|refine wSc (id:=19) qEZ qA ?_|refine wSc (id:=21) qEY qA ?_|refine wSc (id:=23) qEX qA ?_);refine qC ?_;refine qB ?_)
  clear fx
  intro K hK
  have fx:=aI t0 t1
  refine jo (Option.isSome_iff_ne_none.2 hX0) (Option.isSome_iff_ne_none.2 hU0) (hF:=kY gl D12 (fun _=>zM) _ rows fs.length (f.stack.length - 1) a0 a1 a2 a3 a4 a5 vs f.tos e2 e3 e4 e5 (by omega)) (h:=?_)
  intro y H1 hw1
  clear fx
  have hO1:=hO.taken e1 (by omega) hw1
  obtain⟨rfl,-⟩:=hw1
  have hv1:=hM.top.sv _ (uI (f:=f) (by omega))
  have hv2:=hM.top.sv _ (kR (uI (f:=f.pop) (by rw [uL];omega)))
  have hpl:f.pop.stack.length=(f.stack.length - 2)+1:=by rw [uL];omega
  generalize hfp:f.pop=f1 at *
  generalize hft:f.tos=u at *
  obtain⟨u1,u2⟩:=u
  have hT1:=hO1.top
  have fx:=aI t0<|aI t1<|aI t5<|aI p5<|aI hT<|aI hF<|hT1
  refine qB ?_
  repeat ((first|refine wSc (id:=3) qE4 qA ?_|refine wSc (id:=9) qE3 qA ?_|refine wSc (id:=11) qE2 qA ?_|refine wSc (id:=12) qE1 qA ?_|refine wSc (id:=14) qE0 qA ?_|refine wSc (id:=19) qEZ qA ?_|refine wSc (id:=21) qEY qA ?_|refine wSc (id:=23) qEX qA ?_);refine qC ?_;refine qB ?_)
  clear fx
  intro K hK
  refine yr (fun s=>s.tm 0=.pt Xn 0∧s.tm 1=.ep (.u 2 0 0) 7 fs.length 0∧s.tm 6=.pt (.s 6) 0∧s.hp (.s 6)=some (.row 2 [[iv u1,iv u2]])∧s.tm 29=.ep (.u 2 0 0) 7 fs.length 0∧OwnX s.hp p (.u 2 0 0) (m.top fs f1) dp) ⟨by simp [t0,hT],by simp [t1,hF],by simp,by simp,by simp,(have h:=hO1;OwnX.re h)⟩ ?_
  clear t0 t1 t5 p5 t10 t11 hT hT1 hF hf hn hsk hat hatE hlt hL hO hO1 e1 e2 e3 e4 e5 hX0 hU0
  rintro s ⟨t0,t1,t6,p6,t29,hO⟩
  have hT:=hO.top
  obtain⟨L,j,hL,hat,hlt,hF,hf,hn,hsk⟩:=hO.topF rfl
  simp only [jR,Mch.top] at hT
  obtain⟨rows,a0,a1,a2,a3,a4,a5,vs,e1,e2,e3,e4,e5⟩:=hO.take hpl
  have fx:=aI t0 (aI t1 t29)
  refine jo (by simp [hT]) (by simp [hF]) (hF:=kY gl D12 (fun _=>zM) _ rows fs.length (f.stack.length - 2) a0 a1 a2 a3 a4 a5 vs f1.tos e2 e3 e4 e5 (by omega)) (h:=?_)
  intro y H1 hw1
  clear fx
  have hO1:=hO.taken e1 hpl hw1
  obtain⟨rfl,-⟩:=hw1
  have hpl2:=v8 hpl
  generalize hfp2:f1.pop=f2 at *
  generalize hft2:f1.tos=v at *
  obtain⟨v1,v2⟩:=v
  have hT1:=hO1.top
  have hu2:=hv1.num
  have hv2:=hv2.num
  simp only at hu2 hv2
  have hwr:IntKind.i64.wrap (v2+u2)=v2+u2:=wrp (by omega) (by omega)
  have hq0:=Int.tmod_nonneg 1000 (show 0≤v2+u2 by omega)
  have hq1:=Int.tmod_lt_of_pos (v2+u2) (show (0:Int)<1000 by omega)
  simp only
  have hwq:IntKind.i64.wrap ((v2+u2).tmod 1000)=(v2+u2).tmod 1000:=wrp (by omega) (by omega)
  have ht0':(s.call 30 D12 (jl D12 s.hp) H1).tm 0=.pt Xn 0:=by simp [t0,hT]
  have ht1':(s.call 30 D12 (jl D12 s.hp) H1).tm 1=.ep (.u 2 0 0) 7 fs.length 0:=by simp [t1,hF]
  have ht6':(s.call 30 D12 (jl D12 s.hp) H1).tm 6=.pt (.s 6) 0:=by simp [t6]
  have hp6':(s.call 30 D12 (jl D12 s.hp) H1).hp (.s 6)=some (.row 2 [[iv u1,iv u2]]):=by simp [p6]
  have hO3:OwnX (s.call 30 D12 (jl D12 s.hp) H1).hp p (.u 2 0 0) (m.top fs f2) dp:=(have h:=hO1;OwnX.re h)
  clear t0 t1 t6 p6 t29 hT hF hf hn hsk hlt hat hL e1 e2 e3 e4 e5 hO hO1 hT1
  generalize s.call 30 D12 (jl D12 s.hp) H1=s at ht0' ht1' ht6' hp6' hO3 hK ⊢
  have hO:=hO3
  have hT:=hO.top
  obtain⟨L,j,hL,hat,hlt,hF,hf,hn,hsk⟩:=hO.topF rfl
  obtain⟨_,hatE⟩:=gS hat
  simp only [jR,Mch.top] at hT
  have hsl2:f2.stack.length≤1000:=by omega
  generalize hmm:(if (v1,v2).1≠1∨(u1,u2).1≠1 then m.stop fs f2 5 else m.top fs (f2.push (1,((v1,v2).2+(u1,u2).2).tmod 1000)))=mm at hK ⊢
  simp only at hmm
  by_cases k1:v1=1
  ·subst k1
   by_cases k2:u1=1
   ·subst k2
    rw [if_neg (by simp)] at hmm
    subst hmm
    have fx:=aI ht0'<|aI ht1'<|aI ht6'<|aI hp6'<|aI hT<|aI hwr<|aI hwq<|aI hF<|aI hat<|aI hatE<|aI hlt<|aI hsk<|hsl2
    refine qB ?_
    repeat ((first|refine wSc (id:=3) qE4 qA ?_|refine wSc (id:=9) qE3 qA ?_|refine wSc (id:=11) qE2 qA ?_|refine wSc (id:=12) qE1 qA ?_|refine wSc (id:=14) qE0 qA ?_|refine wSc (id:=19) qEZ qA ?_|refine wSc (id:=21) qEY qA ?_|refine wSc (id:=23) qEX qA ?_);refine qC ?_;refine qB ?_)
    clear fx
    refine zj [] .nil (by simp;rfl) ⟨_,.inl rfl,OwnX.out' (OwnX.fin (have h:=hO;OwnX.reT h rfl hL rfl (by simp;exact zX hat) (by simp [hf,Frm.push]) (by simp [hn,Frm.push]) ⟨[],by simp [Frm.push,qt]⟩ (h0:=by simp [hT,jR])) (.inr rfl))⟩
   ·have kb:(u1 != 1)=true:=by simpa using k2
    rw [if_pos (.inr k2)] at hmm
    subst hmm
    have fx:=aI ht0'<|aI ht1'<|aI ht6'<|aI hp6'<|aI hT<|aI hwr<|aI hwq<|aI hF<|aI hat<|aI hatE<|aI hlt<|aI hsk<|aI hsl2<|kb
    refine qB ?_
    repeat ((first|refine wSc (id:=3) qE4 qA ?_|refine wSc (id:=9) qE3 qA ?_|refine wSc (id:=11) qE2 qA ?_|refine wSc (id:=12) qE1 qA ?_|refine wSc (id:=14) qE0 qA ?_|refine wSc (id:=19) qEZ qA ?_|refine wSc (id:=21) qEY qA ?_|refine wSc (id:=23) qEX qA ?_);refine qC ?_;refine qB ?_)
    clear fx
    refine zj [] .nil (by simp;rfl) ⟨_,.inl rfl,fs++[f2.push (1,(v2+u2).tmod 1000)],fun e=>absurd e (by simp),OwnX.fin (have h:=hO;OwnX.reT h rfl hL rfl (by simp;exact zX hat) (by simp [hf,Frm.push]) (by simp [hn,Frm.push]) ⟨[],by simp [Frm.push,qt]⟩ (h0:=by simp [hT,jR])) (.inr rfl)⟩
  ·have kb:(v1 != 1)=true:=by simpa using k1
   rw [if_pos (.inl k1)] at hmm
   subst hmm
   have fx:=aI ht0'<|aI ht1'<|aI ht6'<|aI hp6'<|aI hT<|aI hwr<|aI hwq<|aI hF<|aI hat<|aI hatE<|aI hlt<|aI hsk<|aI hsl2<|kb
   refine qB ?_
   repeat ((first|refine wSc (id:=3) qE4 qA ?_|refine wSc (id:=9) qE3 qA ?_|refine wSc (id:=11) qE2 qA ?_|refine wSc (id:=12) qE1 qA ?_|refine wSc (id:=14) qE0 qA ?_|refine wSc (id:=19) qEZ qA ?_|refine wSc (id:=21) qEY qA ?_|refine wSc (id:=23) qEX qA ?_);refine qC ?_;refine qB ?_)
   clear fx
   refine zj [] .nil (by simp;rfl) ⟨_,.inl rfl,fs++[f2.push (1,(v2+u2).tmod 1000)],fun e=>absurd e (by simp),OwnX.fin (have h:=hO;OwnX.reT h rfl hL rfl (by simp;exact zX hat) (by simp [hf,Frm.push]) (by simp [hn,Frm.push]) ⟨[],by simp [Frm.push,qt]⟩ (h0:=by simp [hT,jR])) (.inr rfl)⟩
 ·have hw:zI p m fs f (15,(x:Int))={ m.top fs (f.push (2,m.funs.length)) with funs:=m.funs++[(x,y8 p f x)] }:=by simp [zI]
  rw [hw]
  obtain⟨kb,hk1,hk2,hk3,_⟩:=hblk (.inl rfl)
  simp only [Int.toNat_natCast] at hk1
  have hxl:=(gS hk1).1
  have hFn:=hO.funs
  simp only [ud] at hFn
  have hap:y4 m.funs++[[iv x,isl (zg (y8 p f x))]]=y4 (m.funs++[(x,y8 p f x)]):=qJt (g:=(x,y8 p f x))
  have hfl3:m.funs.length≤1000:=by omega
  have hwf:IntKind.i64.wrap (m.funs.length:Int)=m.funs.length:=wrp (by omega) (by omega)
  have fx:=aI t0<|aI t1<|aI t5<|aI p5<|aI t10<|aI t11<|aI hT<|aI hFn<|aI hF<|aI hat<|aI hatE<|hlt
  refine qB ?_
  repeat ((first|refine wSc (id:=3) qE4 qA ?_|refine wSc (id:=9) qE3 qA ?_|refine wSc (id:=11) qE2 qA ?_|refine wSc (id:=12) qE1 qA ?_|refine wSc (id:=14) qE0 qA ?_|refine wSc (id:=19) qEZ qA ?_|refine wSc (id:=21) qEY qA ?_|refine wSc (id:=23) qEX qA ?_);refine qC ?_;refine qB ?_)
  clear fx
  intro K hK
  have fx:=aI t0 (aI t1 (aI t5 (aI p5 (aI hT hFn))))
  refine qBx (fun K' h'=>zS (hB:=.cons (qIv (p:=p) (n:=.u 2 0 0) (m:=m.top fs f) (dp:=dp) (have h:=hO;OwnX.re h) (by omega)) (.cons (qMM (by simp;exact hF) hat) (.cons (.refl _) .nil))) (hF:=qGh gl p _ _ _ _ _ _ _ _ _ _ _ _ _ _ _ _ (zg f.cells) (zE p x) (y8 p f x) x _ (by omega) hxl rfl u6 (qMH (f:={ f with pc:=pc0 }) hP.sh.heads hM.top hk1 hk2) (qIt x)) (h:=h')) (by simp) (by simp [qJ]) ?_
  clear fx
  have fx:=aI t0<|aI t1<|aI t5<|aI p5<|aI t10<|aI t11<|aI hT<|aI hFn<|aI hF<|aI hat<|aI hatE<|aI hlt<|aI hsk<|aI hsl<|aI hfl3<|hwf
  refine qB ?_
  repeat ((first|refine wSc (id:=3) qE4 qA ?_|refine wSc (id:=9) qE3 qA ?_|refine wSc (id:=11) qE2 qA ?_|refine wSc (id:=12) qE1 qA ?_|refine wSc (id:=14) qE0 qA ?_|refine wSc (id:=19) qEZ qA ?_|refine wSc (id:=21) qEY qA ?_|refine wSc (id:=23) qEX qA ?_);refine qC ?_;refine qB ?_)
  clear fx
  refine zj [] .nil (by simp;rfl) ⟨_,.inl rfl,OwnX.out' (OwnX.fin (have h:=hO;OwnX.reT h rfl hL rfl (by simp;exact zX hat) (by simp [hf,Frm.push]) (by simp [hn,Frm.push]) ⟨[],by simp [Frm.push,qt]⟩ (h0:=by simp [hT,jR]) (h4:=by simp [← hap])) (.inr rfl))⟩
abbrev qIV:Sch:=.q 0<|.q 1<|.q 2<|.q 3<|.q 4<|.q 5<|.q 6<|.q 7<|.l 8 [4,3,2,1,0]<|.l 9 [0]<|.q 10<|.q 11<|.l 12 []<|.done
abbrev qIU:Sch:=.q 0<|.q 1<|.q 2<|.q 3<|.q 4<|.q 5<|.q 6<|.q 7<|.q 8<|.q 9<|.q 10<|.q 11<|.l 12 [7,5,4,3,2,1,0]<|.l 13 [7,5,0]<|.q 14<|.q 15<|.l 16 []<|.done
abbrev qIT:Sch:=.q 0<|.q 1<|.q 2<|.q 3<|.q 4<|.q 5<|.q 6<|.q 7<|.q 8<|.q 9<|.q 10<|.l 11 [6,5,4,3,2,1,0]<|.q 12<|.l 13 [4,3,2,1,0]<|.l 14 [0]<|.q 15<|.q 16<|.l 17 []<|.done
abbrev qIS:Sch:=.q 0<|.q 1<|.q 2<|.q 3<|.q 4<|.q 5<|.q 6<|.q 7<|.q 8<|.q 9<|.q 10<|.q 11<|.l 12 [7,6,5,4,3,2,1,0]<|.l 13 [7,6,5,0]<|.q 14<|.q 15<|.l 16 []<|.done
abbrev qIR:Sch:=.q 0<|.q 1<|.q 2<|.q 3<|.q 4<|.q 5<|.q 6<|.q 7<|.q 8<|.q 9<|.q 10<|.q 11<|.l 12 [7,6,5,4,3,2,1,0]<|.l 13 [4,3,2,1,0]<|.l 14 [4,3,2,1,0]<|.l 15 [0]<|.q 16<|.q 17<|.l 18 []<|.done
abbrev qIQ:Sch:=.q 0<|.q 1<|.q 2<|.q 3<|.q 4<|.q 5<|.q 6<|.q 7<|.q 8<|.q 9<|.q 10<|.q 11<|.q 12<|.q 13<|.done
abbrev qIP:Sch:=.q 0<|.q 1<|.q 2<|.q 3<|.q 4<|.q 5<|.q 6<|.q 7<|.q 8<|.q 9<|.q 10<|.q 11<|.q 12<|.q 13<|.q 14<|.q 15<|.q 16<|.q 17<|.l 18 [13,11,10,9,8,7,6,5,4,3,2,1,0]<|.l 19 [13,11,10,9,8,7,6,5,0]<|.q 20<|.q 21<|.l 22 []<|.done
abbrev qIO:Sch:=.q 0<|.q 1<|.q 2<|.q 3<|.q 4<|.q 5<|.l 6 [4,3,2,1,0]<|.l 7 [4,3,2,1,0]<|.l 8 [4,3,2,1,0]<|.l 9 [0]<|.q 10<|.q 11<|.l 12 []<|.done
theorem qED (gl) (H:Nm→Option AO) (p:Prg) (m:Mch) (fs:List Frm) (f:Frm) (o:Int×Int) (dp pc0:Nat) (hP:ValP p) (hM:MOk p m fs { f with pc:=pc0 }) (hR:OrdOk p f.blk o) (hc:o.1=16) (h14:o.1=14→2≤f.stack.length) (h18:o.1=18∨o.1=19→1≤f.stack.length) (hsl:f.stack.length≤1000) (hfl:fs.length≤1000) (hO:OwnX H p (.u 2 0 0) (m.top fs f) dp) (h9:H (.u 9 0 0)=none) :
  FnE Tryz.prog gl 103 D12 [.pt Xn 0,.ep (.u 2 0 0) 7 fs.length 0,.agg [iv o.1,iv o.2]] H (fun _ _ H'=>∃ q,(q=.u 2 0 0∨q=.c Xn 0 6)∧qMb H' p q (zI p m fs f o) dp) noE:=by
 have hT:=hO.top
 obtain⟨L,j,hL,hat,hlt,hF,hf,hn,hsk⟩:=hO.topF rfl
 obtain⟨_,hatE⟩:=gS hat
 simp only [jR,Mch.top] at hT
 have harg:=hR.arg
 have hblk:=hR.blk
 have hatt:=hR.attr
 have hfn:=hM.nf
 have hfo:=hM.out
 obtain⟨c,a⟩:=o
 obtain⟨x,rfl⟩:∃ x:Nat,a=x:=⟨a.toNat,by simp only at harg;omega⟩
 simp only at hc h14 h18 harg hblk hatt
 refine FnE.of_sem Tryz.func103 rfl (by kernel_rfl) (rs:=[]) rfl Tryz.ntmps103 (lB rfl) (fun _=>zM) fun C w g root hroot=>?_
 have fx:=aI hT<|hF
 refine qB ?_
 repeat ((first|refine wSc (id:=3) qIV qA ?_|refine wSc (id:=9) qIU qA ?_|refine wSc (id:=11) qIT qA ?_|refine wSc (id:=12) qIS qA ?_|refine wSc (id:=14) qIR qA ?_|refine wSc (id:=19) qIQ qA ?_|refine wSc (id:=21) qIP qA ?_|refine wSc (id:=23) qIO qA ?_);refine qC ?_;refine qB ?_)
 clear fx
 refine yd (fun s=>s.tm 0=.pt Xn 0∧s.tm 1=.ep (.u 2 0 0) 7 fs.length 0∧s.tm 5=.pt (.s 5) 0∧s.hp (.s 5)=some (.row 2 [[iv c,iv x]])∧s.tm 10=iv c∧s.tm 11=bv (c==1)∧OwnX s.hp p (.u 2 0 0) (m.top fs f) dp) ⟨by simp,by simp,by simp,by simp,by simp,by simp,(have h:=hO;OwnX.re h)⟩ ?_
 clear hT hF hf hn hsk hat hatE hlt hL hO
 rintro s ⟨t0,t1,t5,p5,t10,t11,hO⟩
 have hT:=hO.top
 obtain⟨L,j,hL,hat,hlt,hF,hf,hn,hsk⟩:=hO.topF rfl
 obtain⟨_,hatE⟩:=gS hat
 simp only [jR,Mch.top] at hT
 have hX0:s.hp Xn≠none:=by rw [hT];simp
 have hU0:s.hp (.u 2 0 0)≠none:=by rw [hF];simp
 subst hc
 have hw:zI p m fs f (16,(x:Int))=qk p (m.top fs f) x (y8 p f x) []:=by simp [zI]
 rw [hw]
 obtain⟨kb,hk1,hk2,hk3,_⟩:=hblk (.inr rfl)
 simp only [Int.toNat_natCast] at hk1
 have hxl:=(gS hk1).1
 have hpm:(q8 p x).params=[]:=by
  have:=hP.sh.head x kb hk1
  unfold jJ at this
  rw [if_neg (by omega)] at this
  have h0:kb.params.length=0:=by omega
  simp [q8,hk1,List.eq_nil_of_length_eq_zero h0]
 have hBg:qPH p (m.top fs f) x [] 0 (List.replicate (qI p x).length none) (m.cells++List.replicate (qE p x).length none):=.inl ⟨rfl,rfl,rfl⟩
 have hfin:=hBg.fin (cs:=y8 p f x) rfl
 have hc1:=hM.nc
 have hc2:=hM.made
 have hc3:=jW (p:=p) (b:=x)
 have hcl:(y8 p f x).length=(qU p x).length:=(qFH hP.sh.heads hM.top hk1 hk2).1
 have fx:=aI t0<|aI t1<|aI t5<|aI p5<|aI t10<|aI t11<|aI hT<|aI hF<|aI hat<|aI hatE<|hlt
 refine qB ?_
 repeat ((first|refine wSc (id:=3) qIV qA ?_|refine wSc (id:=9) qIU qA ?_|refine wSc (id:=11) qIT qA ?_|refine wSc (id:=12) qIS qA ?_|refine wSc (id:=14) qIR qA ?_|refine wSc (id:=19) qIQ qA ?_|refine wSc (id:=21) qIP qA ?_|refine wSc (id:=23) qIO qA ?_);refine qC ?_;refine qB ?_)
 clear fx
 intro K hK
 have fx:=aI t0 (aI t1 (aI t5 (aI p5 (aI hT hF))))
 refine qBx (fun K' h'=>zS (hB:=.cons (qIv (p:=p) (n:=.u 2 0 0) (m:=m.top fs f) (dp:=dp) (have h:=hO;OwnX.re h) (by omega)) (.cons (qMM (by simp;exact hF) hat) (.cons (.refl _) .nil))) (hF:=qGh gl p _ _ _ _ _ _ _ _ _ _ _ _ _ _ _ _ (zg f.cells) (zE p x) (y8 p f x) x _ (by omega) hxl rfl u6 (qMH (f:={ f with pc:=pc0 }) hP.sh.heads hM.top hk1 hk2) (qIt x)) (h:=h')) (by simp) (by simp [qJ]) ?_
 clear fx
 have fx:=aI t0<|aI t1<|aI t5<|aI p5<|aI t10<|aI t11<|aI hT<|aI hF<|aI hat<|aI hatE<|aI hlt<|aI hsk<|hsl
 refine qB ?_
 repeat ((first|refine wSc (id:=3) qIV qA ?_|refine wSc (id:=9) qIU qA ?_|refine wSc (id:=11) qIT qA ?_|refine wSc (id:=12) qIS qA ?_|refine wSc (id:=14) qIR qA ?_|refine wSc (id:=19) qIQ qA ?_|refine wSc (id:=21) qIP qA ?_|refine wSc (id:=23) qIO qA ?_);refine qC ?_;refine qB ?_)
 clear fx
 have fx:=aI t0 (aI t1 (aI hT hF))
 refine yM (.c (.s 108) 0 3) (.s 20) (.inl rfl) (.inl rfl) ?_
 refine yM (.c (.s 108) 0 5) (.s 21) (.inl rfl) (.inl rfl) ?_
 refine yM (.c (.s 108) 0 6) (.s 22) (.inl rfl) (.inl rfl) ?_
 refine jo (by simp [hT]) (by simp [hF]) (hF:=wi _ _ p (m.top fs f) x (y8 p f x) dp hxl (by simp only [kG];omega) (by omega) (by simp only [qBl];omega) (have h:=hO;OwnX.re h)) (h:=?_)
 rintro y H1 ⟨rfl,h3,h5,h6,hO1⟩
 clear fx
 have hT1:=hO1.top
 simp only [jR] at hT1
 obtain⟨js,hF1⟩:=hO1.fr.top
 have hfl2:fs.length+1≤2000:=by omega
 simp only [qJD] at hF1
 have fx:=aI t0<|aI t1<|aI t5<|aI p5<|aI hT<|aI hT1<|aI hF<|aI hF1<|aI hat<|aI hatE<|aI hlt<|aI h3<|aI h5<|aI h6<|hfl2
 refine qB ?_
 repeat ((first|refine wSc (id:=3) qIV qA ?_|refine wSc (id:=9) qIU qA ?_|refine wSc (id:=11) qIT qA ?_|refine wSc (id:=12) qIS qA ?_|refine wSc (id:=14) qIR qA ?_|refine wSc (id:=19) qIQ qA ?_|refine wSc (id:=21) qIP qA ?_|refine wSc (id:=23) qIO qA ?_);refine qC ?_;refine qB ?_)
 clear fx
 rw [hfin]
 refine zj [] .nil (by simp;rfl) ⟨_,.inr rfl,OwnX.out' (OwnX.fin ?_ (.inl (by simp)))⟩
 have key:∀ (i1:Nat) g,(fs++[f]++[(⟨x,0,List.replicate (qI p x).length none,(List.range (qE p x).length).map (m.cells.length+·)++y8 p f x,qe,[]⟩:Frm)])[i1]?=some g→(i1=fs.length+1∧g=⟨x,0,List.replicate (qI p x).length none,(List.range (qE p x).length).map (m.cells.length+·)++y8 p f x,qe,[]⟩)∨(i1<fs.length+1∧(fs++[f])[i1]?=some g):=by
  intro i1 g hg
  rcases Nat.lt_trichotomy i1 (fs++[f]).length with e|e|e
  ·rw [List.getElem?_append_left e] at hg
   exact .inr ⟨by simpa using e,hg⟩
  ·subst e
   simp at hg
   exact .inl ⟨by simp,hg.symm⟩
  ·rw [List.getElem?_eq_none (by simp at e ⊢;omega)] at hg
   cases hg
 refine⟨?_,?_,?_,?_,?_,?_,?_,?_,⟨[],?_⟩,fun i1 g hg=>?_,fun i1 g hg=>?_,fun i1 g hg=>?_⟩
 ·simp [jR]
 ·simp [hO1.caps]
 ·simp [hO1.cells]
 ·simp [hO1.glob]
 ·simp [hO1.funs]
 ·simp [hO1.clss]
 ·simp [hO1.out]
 ·simp [hO1.trc]
 ·simp
  rw [← List.map_take,qB2]
  have htk:(fs++f::js).take (fs.length+1)=fs++[f]:=by
   simp [List.take_append]
   exact List.take_of_length_le (by omega)
  rw [htk,qCo (m:=.c Xn 0 6) fun i1 g hg=>?_]
  ·have:=qCq (p:=p) (n:=.c Xn 0 6) (l:=fs++[f]) (f:=⟨x,0,List.replicate (qI p x).length none,(List.range (qE p x).length).map (m.cells.length+·)++y8 p f x,qe,[]⟩)
   simp [z9,vN] at this
   exact this
  ·have hlt:=(gS hg).1
   have hne:¬ i1=fs.length+1:=by simp at hlt;omega
   simp [z9,hne]
 ·rcases key i1 g hg with⟨rfl,rfl⟩|⟨hl,hg⟩
  ·simp [h3]
  ·have hne:¬ i1=fs.length+1:=by omega
   simp [hO1.fr.fasts i1 g hg,hne]
 ·rcases key i1 g hg with⟨rfl,rfl⟩|⟨hl,hg⟩
  ·simp [h5]
  ·have hne:¬ i1=fs.length+1:=by omega
   simp [hO1.fr.names i1 g hg,hne]
 ·rcases key i1 g hg with⟨rfl,rfl⟩|⟨hl,hg⟩
  ·exact⟨[],by simp [h6,qt]⟩
  ·have hne:¬ i1=fs.length+1:=by omega
   exact (hO1.fr.stack i1 g hg).imp fun j1 hj1=>by simp [hj1,hne]
end Go.Proofs.YtbgmnmnoaamgkaaGreatDoor
end
section
namespace Go.Proofs.YtbgmnmnoaamgkaaGreatDoor
open Go Go.Hm Go.Proofs
abbrev qBW:Sch:=.q 0<|.q 1<|.q 2<|.q 3<|.q 4<|.q 5<|.q 6<|.q 7<|.l 8 [4,3,2,1,0]<|.l 9 [0]<|.q 10<|.q 11<|.l 12 []<|.done
abbrev qBV:Sch:=.q 0<|.q 1<|.q 2<|.q 3<|.q 4<|.q 5<|.q 6<|.q 7<|.q 8<|.q 9<|.q 10<|.q 11<|.l 12 [7,5,4,3,2,1,0]<|.l 13 [7,5,0]<|.q 14<|.q 15<|.l 16 []<|.done
abbrev qBU:Sch:=.q 0<|.q 1<|.q 2<|.q 3<|.q 4<|.q 5<|.q 6<|.q 7<|.q 8<|.q 9<|.q 10<|.l 11 [6,5,4,3,2,1,0]<|.q 12<|.l 13 [4,3,2,1,0]<|.l 14 [0]<|.q 15<|.q 16<|.l 17 []<|.done
abbrev qBT:Sch:=.q 0<|.q 1<|.q 2<|.q 3<|.q 4<|.q 5<|.q 6<|.q 7<|.q 8<|.q 9<|.q 10<|.q 11<|.l 12 [7,6,5,4,3,2,1,0]<|.l 13 [7,6,5,0]<|.q 14<|.q 15<|.l 16 []<|.done
abbrev qBS:Sch:=.q 0<|.q 1<|.q 2<|.q 3<|.q 4<|.q 5<|.q 6<|.q 7<|.q 8<|.q 9<|.q 10<|.q 11<|.l 12 [7,6,5,4,3,2,1,0]<|.l 13 [4,3,2,1,0]<|.l 14 [4,3,2,1,0]<|.l 15 [0]<|.q 16<|.q 17<|.l 18 []<|.done
abbrev qBR:Sch:=.q 0<|.q 1<|.q 2<|.q 3<|.q 4<|.q 5<|.q 6<|.q 7<|.q 8<|.q 9<|.q 10<|.q 11<|.q 12<|.q 13<|.done
abbrev qBQ:Sch:=.q 0<|.q 1<|.q 2<|.q 3<|.q 4<|.q 5<|.q 6<|.q 7<|.q 8<|.q 9<|.q 10<|.q 11<|.q 12<|.q 13<|.q 14<|.q 15<|.q 16<|.q 17<|.l 18 [13,11,10,9,8,7,6,5,4,3,2,1,0]<|.l 19 [13,11,10,9,8,7,6,5,0]<|.q 20<|.q 21<|.l 22 []<|.done
abbrev qBP:Sch:=.q 0<|.q 1<|.q 2<|.q 3<|.q 4<|.q 5<|.l 6 [4,3,2,1,0]<|.l 7 [4,3,2,1,0]<|.l 8 [4,3,2,1,0]<|.l 9 [0]<|.q 10<|.q 11<|.l 12 []<|.done
theorem qAK (gl) (H:Nm→Option AO) (p:Prg) (m:Mch) (fs:List Frm) (f:Frm) (o:Int×Int) (dp pc0:Nat) (hP:ValP p) (hM:MOk p m fs { f with pc:=pc0 }) (hR:OrdOk p f.blk o) (hc:o.1=18∨o.1=19) (h14:o.1=14→2≤f.stack.length) (h18:o.1=18∨o.1=19→1≤f.stack.length) (hsl:f.stack.length≤1000) (hfl:fs.length≤1000) (hO:OwnX H p (.u 2 0 0) (m.top fs f) dp) (h9:H (.u 9 0 0)=none) :
  FnE Tryz.prog gl 103 D12 [.pt Xn 0,.ep (.u 2 0 0) 7 fs.length 0,.agg [iv o.1,iv o.2]] H (fun _ _ H'=>∃ q,(q=.u 2 0 0∨q=.c Xn 0 6)∧qMb H' p q (zI p m fs f o) dp) noE:=by
 have hT:=hO.top
 obtain⟨L,j,hL,hat,hlt,hF,hf,hn,hsk⟩:=hO.topF rfl
 obtain⟨_,hatE⟩:=gS hat
 simp only [jR,Mch.top] at hT
 have harg:=hR.arg
 have hblk:=hR.blk
 have hatt:=hR.attr
 have hfn:=hM.nf
 have hfo:=hM.out
 obtain⟨c,a⟩:=o
 obtain⟨x,rfl⟩:∃ x:Nat,a=x:=⟨a.toNat,by simp only at harg;omega⟩
 simp only at hc h14 h18 harg hblk hatt
 refine FnE.of_sem Tryz.func103 rfl (by kernel_rfl) (rs:=[]) rfl Tryz.ntmps103 (lB rfl) (fun _=>zM) fun C w g root hroot=>?_
 have fx:=aI hT<|hF
 refine qB ?_
 repeat ((first|refine wSc (id:=3) qBW qA ?_|refine wSc (id:=9) qBV qA ?_|refine wSc (id:=11) qBU qA ?_|refine wSc (id:=12) qBT qA ?_|refine wSc (id:=14) qBS qA ?_|refine wSc (id:=19) qBR qA ?_|refine wSc (id:=21) qBQ qA ?_|refine wSc (id:=23) qBP qA ?_);refine qC ?_;refine qB ?_)
 clear fx
 refine yd (fun s=>s.tm 0=.pt Xn 0∧s.tm 1=.ep (.u 2 0 0) 7 fs.length 0∧s.tm 5=.pt (.s 5) 0∧s.hp (.s 5)=some (.row 2 [[iv c,iv x]])∧s.tm 10=iv c∧s.tm 11=bv (c==1)∧OwnX s.hp p (.u 2 0 0) (m.top fs f) dp) ⟨by simp,by simp,by simp,by simp,by simp,by simp,(have h:=hO;OwnX.re h)⟩ ?_
 clear hT hF hf hn hsk hat hatE hlt hL hO
 rintro s ⟨t0,t1,t5,p5,t10,t11,hO⟩
 have hT:=hO.top
 obtain⟨L,j,hL,hat,hlt,hF,hf,hn,hsk⟩:=hO.topF rfl
 obtain⟨_,hatE⟩:=gS hat
 simp only [jR,Mch.top] at hT
 have hX0:s.hp Xn≠none:=by rw [hT];simp
 have hU0:s.hp (.u 2 0 0)≠none:=by rw [hF];simp
 obtain⟨k,hk⟩:∃ k,f.stack.length=k+1:=⟨f.stack.length - 1,by have:=h18 hc;omega⟩
 have hv0:=hM.top.sv _ (uI (f:=f) (by omega))
 have hpl2:=v8 hk
 rcases hc with rfl|rfl
 ·have hattr:wK m fs f (18,(x:Int))=(if f.tos.1≠3 then m.stop fs f.pop 5 else match yn (m.classes.getD f.tos.2.toNat []) x with|some u=>m.top fs (f.pop.push u)|none=>m.stop fs f.pop 7):=rfl
  have hw:zI p m fs f (18,(x:Int))=wK m fs f (18,(x:Int)):=by simp [zI]
  rw [hw,hattr]
  clear hw hattr
  obtain⟨rows,a0,a1,a2,a3,a4,a5,vs,e1,e2,e3,e4,e5⟩:=hO.take hk
  have fx:=aI t0<|aI t1<|aI t5<|aI p5<|aI t10<|t11
  refine qB ?_
  repeat ((first|refine wSc (id:=3) qBW qA ?_|refine wSc (id:=9) qBV qA ?_|refine wSc (id:=11) qBU qA ?_|refine wSc (id:=12) qBT qA ?_|refine wSc (id:=14) qBS qA ?_|refine wSc (id:=19) qBR qA ?_|refine wSc (id:=21) qBQ qA ?_|refine wSc (id:=23) qBP qA ?_);refine qC ?_;refine qB ?_)
  clear fx
  intro K hK
  have fx:=aI t0 t1
  refine jo (Option.isSome_iff_ne_none.2 hX0) (Option.isSome_iff_ne_none.2 hU0) (hF:=kY gl D12 (fun _=>zM) _ rows fs.length k a0 a1 a2 a3 a4 a5 vs f.tos e2 e3 e4 e5 (by omega)) (h:=?_)
  intro y H1 hw1
  clear fx
  have hO1:=hO.taken e1 hk hw1
  obtain⟨rfl,-⟩:=hw1
  have hcln:∀ c∈m.classes,c.length=8:=fun c hc=>(hM.cls c hc).1
  generalize hfp:f.pop=f1 at *
  generalize hft:f.tos=u at *
  obtain⟨u1,u2⟩:=u
  have ht0':(s.call 116 D12 (jl D12 s.hp) H1).tm 0=.pt Xn 0:=by simp [t0,hT]
  have ht1':(s.call 116 D12 (jl D12 s.hp) H1).tm 1=.ep (.u 2 0 0) 7 fs.length 0:=by simp [t1,hF]
  have hT1:=hO1.top
  have fx:=aI t0<|aI t1<|aI t5<|aI p5<|aI hT<|aI hF<|hT1
  refine qB ?_
  repeat ((first|refine wSc (id:=3) qBW qA ?_|refine wSc (id:=9) qBV qA ?_|refine wSc (id:=11) qBU qA ?_|refine wSc (id:=12) qBT qA ?_|refine wSc (id:=14) qBS qA ?_|refine wSc (id:=19) qBR qA ?_|refine wSc (id:=21) qBQ qA ?_|refine wSc (id:=23) qBP qA ?_);refine qC ?_;refine qB ?_)
  clear fx
  refine yd (fun s=>s.tm 0=.pt Xn 0∧s.tm 1=.ep (.u 2 0 0) 7 fs.length 0∧s.tm 5=.pt (.s 5) 0∧s.hp (.s 5)=some (.row 2 [[iv 18,iv x]])∧s.tm 8=.pt (.s 8) 0∧s.hp (.s 8)=some (.row 2 [[iv u1,iv u2]])∧s.tm 119=bv (u1 != 3)∧OwnX s.hp p (.u 2 0 0) (m.top fs f1) dp) ⟨by simp [t0,hT],by simp [t1,hF],by simp [t5],by simp [p5],by simp,by simp,by simp,(have h:=hO1;OwnX.re h)⟩ ?_
  clear t0 t1 t5 p5 t10 t11 hT hF hf hn hsk hlt hat hatE hL e1 e2 e3 e4 e5 hO hO1 hT1 ht0' ht1' hX0 hU0
  rintro s ⟨t0,t1,t5,p5,t8,p8,t119,hO⟩
  have hT:=hO.top
  obtain⟨L,j,hL,hat,hlt,hF,hf,hn,hsk⟩:=hO.topF rfl
  obtain⟨_,hatE⟩:=gS hat
  simp only [jR,Mch.top] at hT
  have hsl2:f1.stack.length≤1000:=by omega
  simp only
  by_cases k3:u1=3
  case neg =>
   have kb:(u1 != 3)=true:=by simpa using k3
   rw [if_pos k3]
   have fx:=aI t0<|aI t1<|aI t5<|aI p5<|aI t8<|aI p8<|aI t119<|aI hT<|kb
   refine qB ?_
   repeat ((first|refine wSc (id:=3) qBW qA ?_|refine wSc (id:=9) qBV qA ?_|refine wSc (id:=11) qBU qA ?_|refine wSc (id:=12) qBT qA ?_|refine wSc (id:=14) qBS qA ?_|refine wSc (id:=19) qBR qA ?_|refine wSc (id:=21) qBQ qA ?_|refine wSc (id:=23) qBP qA ?_);refine qC ?_;refine qB ?_)
   clear fx
   refine zj [] .nil (by simp;rfl) ⟨_,.inl rfl,OwnX.out' (OwnX.fin (OwnX.ends hO rfl fun k hk=>?_) (.inr rfl))⟩
   simp [jR]
  subst k3
  rw [if_neg (by simp)]
  have hu2:=hv0.num
  have hu3:=hv0.cls rfl
  simp only at hu2 hu3
  obtain⟨z,rfl⟩:∃ z:Nat,u2=z:=⟨u2.toNat,by omega⟩
  have hzl:z<m.classes.length:=by omega
  obtain⟨cl,hcl⟩:∃ cl,m.classes[z]?=some cl:=⟨_,gE hzl⟩
  obtain⟨_,hclE⟩:=gS hcl
  have hcl8:=hcln cl (gM hcl)
  have hx7:=hatt rfl
  have hx8:x<cl.length:=by omega
  have hx8i:(x:Int)<8:=by omega
  obtain⟨s0,hs0⟩:∃ s0,cl[x]?=some s0:=⟨_,gE hx8⟩
  obtain⟨_,hs0E⟩:=gS hs0
  have hCl:=hO.clss
  simp only [qGz] at hCl
  have hsa:yn (m.classes.getD ((z:Int).toNat) []) x=s0:=by rw [Int.toNat_natCast,List.getD_eq_getElem?_getD,hcl];simp [yn,hs0]
  rw [hsa]
  cases s0 with
  | some u =>
   obtain⟨w1,w2⟩:=u
   have fx:=aI t0<|aI t1<|aI t5<|aI p5<|aI t8<|aI p8<|aI t119<|aI hT<|aI hCl<|aI hzl<|aI hcl<|aI hclE<|aI hcl8<|aI hx8<|aI hx8i<|aI hs0<|aI hs0E<|aI hF<|aI hat<|aI hatE<|aI hlt<|aI hsk<|hsl2
   refine qB ?_
   repeat ((first|refine wSc (id:=3) qBW qA ?_|refine wSc (id:=9) qBV qA ?_|refine wSc (id:=11) qBU qA ?_|refine wSc (id:=12) qBT qA ?_|refine wSc (id:=14) qBS qA ?_|refine wSc (id:=19) qBR qA ?_|refine wSc (id:=21) qBQ qA ?_|refine wSc (id:=23) qBP qA ?_);refine qC ?_;refine qB ?_)
   clear fx
   refine zj [] .nil (by simp;rfl) ⟨_,.inl rfl,OwnX.out' (OwnX.fin (have h:=hO;OwnX.reT h rfl hL rfl (by simp;exact zX hat) (by simp [hf,Frm.push]) (by simp [hn,Frm.push]) ⟨[],by simp [Frm.push,qt]⟩ (h0:=by simp [hT,jR])) (.inr rfl))⟩
  | none =>
   have fx:=aI t0<|aI t1<|aI t5<|aI p5<|aI t8<|aI p8<|aI t119<|aI hT<|aI hCl<|aI hzl<|aI hcl<|aI hclE<|aI hcl8<|aI hx8<|aI hx8i<|aI hs0<|hs0E
   refine qB ?_
   repeat ((first|refine wSc (id:=3) qBW qA ?_|refine wSc (id:=9) qBV qA ?_|refine wSc (id:=11) qBU qA ?_|refine wSc (id:=12) qBT qA ?_|refine wSc (id:=14) qBS qA ?_|refine wSc (id:=19) qBR qA ?_|refine wSc (id:=21) qBQ qA ?_|refine wSc (id:=23) qBP qA ?_);refine qC ?_;refine qB ?_)
   clear fx
   refine zj [] .nil (by simp;rfl) ⟨_,.inl rfl,OwnX.out' (OwnX.fin (OwnX.ends hO rfl fun k hk=>?_) (.inr rfl))⟩
   simp [jR]
 ·have hw:zI p m fs f (19,(x:Int))={ m.top fs f.pop with out:=m.out++[Hm.shown f.tos] }:=by simp [zI]
  rw [hw]
  have hOu:=hO.out
  simp only [qPu] at hOu
  have hol:m.out.length≤1000:=by omega
  have hsh:=qEE gl f.tos
  have fx:=aI t0<|aI t1<|aI t5<|aI p5<|aI t10<|aI t11<|aI hT<|aI hOu<|hol
  refine qB ?_
  repeat ((first|refine wSc (id:=3) qBW qA ?_|refine wSc (id:=9) qBV qA ?_|refine wSc (id:=11) qBU qA ?_|refine wSc (id:=12) qBT qA ?_|refine wSc (id:=14) qBS qA ?_|refine wSc (id:=19) qBR qA ?_|refine wSc (id:=21) qBQ qA ?_|refine wSc (id:=23) qBP qA ?_);refine qC ?_;refine qB ?_)
  clear fx
  intro K hK
  obtain⟨rows,rows',a0,a1,a2,a3,a4,a5,vs,e1,e2,e3,e4,e5,e6⟩:=hO.keep (N:=.c Xn 0 9) hk (by simp) (by simp)
  have fx:=aI t0 t1
  refine qHx D12 (.c Xn 0 9) (.u 9 0 0) (.u 2 0 0) (.row 7 (qa rows fs.length 6 [.hs (.c (.u 2 0 0) fs.length 6) 2 0 k])) (Val.av f.tos) (hV:=rfl) (hN:=rfl) (hVe:=by simp [un,h9]) (fun _=>zM) (by simp) (fun q hq=>by have:=Nm.under_trans (a:=.u 1 0 0) (b:=.c Xn 0 9) (by simp) hq;simp [this]) (fun _=>qVR) (by simp [hOu]) (fun k i j _=>qM2 hX0 hU0 k i j) (by simp) (by simp) (by simp) (hF:=by rw [e6];exact kY gl D9 (fun _=>qM1) _ rows' fs.length k a0 a1 a2 a3 a4 a5 vs f.tos e2 e3 e4 e5 (by omega)) (h:=?_)
  intro hp' hS
  clear fx
  have hOp:=(hO.popped e1 hk).same (.inr rfl) hS
  have hT1:=hOp.top
  have hOu1:=hOp.out
  simp only [jR] at hT1
  generalize hv:f.tos=v at *
  obtain⟨v1,v2⟩:=v
  have fx:=aI t0<|aI t1<|aI t5<|aI p5<|aI t10<|aI t11<|aI hT<|aI hT1<|aI hOu<|aI hOu1<|hol
  have c1:=hsh
  refine qB ?_
  repeat ((first|refine wSc (id:=3) qBW qA ?_|refine wSc (id:=9) qBV qA ?_|refine wSc (id:=11) qBU qA ?_|refine wSc (id:=12) qBT qA ?_|refine wSc (id:=14) qBS qA ?_|refine wSc (id:=19) qBR qA ?_|refine wSc (id:=21) qBQ qA ?_|refine wSc (id:=23) qBP qA ?_);refine qC ?_;refine qB ?_)
  clear fx c1
  refine zj [] .nil (by simp;rfl) ⟨_,.inl rfl,OwnX.out' (OwnX.fin (have h:=hOp;OwnX.re h (h0:=by simp [jR]) (h6:=by simp)) (.inr rfl))⟩
end Go.Proofs.YtbgmnmnoaamgkaaGreatDoor
end
