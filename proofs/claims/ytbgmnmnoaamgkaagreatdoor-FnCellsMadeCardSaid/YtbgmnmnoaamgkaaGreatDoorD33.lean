/-
  Own texts, joined by mkclaim.py: Zw, Zk, Zx, Zl, Qb, Qc, Qd, Qe, Qf, Qm, Qg, Qh, Qi, Qj, Qk, Ql, Qn, Zr, Gt, Gu.
-/
import Derived.Test.YtbgmnmnoaamgkaaGreatDoorD32
import Derived.Test.YtbgmnmnoaamgkaaGreatDoorD18
import Derived.Test.YtbgmnmnoaamgkaaGreatDoorD31
import Derived.Test.YtbgmnmnoaamgkaaGreatDoorD25
import Derived.Test.YtbgmnmnoaamgkaaGreatDoorD15
import Derived.Test.YtbgmnmnoaamgkaaGreatDoorD27
import Derived.Test.YtbgmnmnoaamgkaaGreatDoorD19
import Derived.Test.YtbgmnmnoaamgkaaGreatDoorD28
import Derived.Test.YtbgmnmnoaamgkaaGreatDoorD17
import Derived.Test.YtbgmnmnoaamgkaaGreatDoorD21
import Derived.Test.YtbgmnmnoaamgkaaGreatDoorD10
import Derived.Test.YtbgmnmnoaamgkaaGreatDoorD12
import Derived.Test.YtbgmnmnoaamgkaaGreatDoorD16
set_option linter.unusedSimpArgs false
set_option linter.unusedVariables false
set_option maxRecDepth 100000
set_option maxHeartbeats 4000000

section
namespace Go.Proofs.YtbgmnmnoaamgkaaGreatDoor
open Go Go.Hm Go.Proofs
abbrev qDH:Sch:=.q 0<|.q 1<|.q 2<|.q 3<|.q 4<|.q 5<|.q 6<|.q 7<|.q 8<|.q 9<|.q 10<|.l 11 []<|.done
theorem fM9:fM 9=false:=rfl
theorem qPf (gl) (H:Nm→Option AO) (p:Prg) (n:Nat) (hP:ValP p) (hn:n≤150) (h9:H (.u 9 0 0)=none) (hO:OwnY H p (qT n)) :
  FnE Tryz.prog gl 75 DM [.pt Yn 0] H (fun _ _ H'=>∃ fr,OwnY H' p { uJ p n with frames:=fr }) noE:=by
 have h0:=hO
 have hp7:=hP.sh.len
 obtain⟨N,n1,n2,n3⟩:=vg hP hn
 have hN0:0<N:=by
  refine Nat.pos_of_ne_zero fun e=>?_
  subst e
  exact qNi hP n2
 have hh0:(q8 p 0).params=[]:=qK5 hP
 refine FnE.of_sem Tryz.func75 rfl (by kernel_rfl) (rs:=[]) rfl Tryz.ntmps75 (lB rfl) (fun _=>qH) fun C w g root hroot=>?_
 refine qMj 0 rfl (fun k s=>∃ i:Nat,k=N - i∧i<N∧s.tm 0=.pt Yn 0∧s.hp (.u 9 0 0)=none∧OwnY s.hp p (zN p i (qL p n))) ?_ ?_
 ·obtain⟨J,hJ,hT⟩:=hO.top
  have fx:= hT
  refine qB ?_
  repeat ((first|refine wSc (id:=2) qDH qA ?_);refine qC ?_;refine qB ?_)
  clear fx
  intro K hK
  have fx:=hT
  refine qQ h0 (have h:=hO;OwnY.re h) (by simp [qT]) (hF:=fun hO=>(qBu gl _ p (qT n) 0 [] [] (by omega) (by omega) (by simp) (by simp) (by simp [qT]) (by simp [qT]) (by simp [qT]) (by simp [qT]) (.inl hh0) (by rw [hh0];rfl) (by simp [qT]) (by simp [qT]) hO).nil34) (h:=?_)
  rintro y H1 hO1
  clear fx
  replace hO1:OwnY H1 p (zN p 0 (qL p n)):=hO1
  have fx:= hT
  refine qB ?_
  repeat ((first|refine wSc (id:=2) qDH qA ?_);refine qC ?_;refine qB ?_)
  clear fx
  exact⟨N,0,by omega,hN0,by simp [hT],by simp [h9,fM9],(have h:=hO1;OwnY.re h)⟩
 rintro k s - - ⟨i,rfl,hi,t0,h9,hO⟩
 have hne:=n1 i hi
 obtain⟨fs,f,hfr,hM⟩:=(qCN hP hn i).resolve_left hne
 have hen:(zN p i (qL p n)).en=0:=by
  by_cases h:(zN p i (qL p n)).en=0
  ·exact h
  ·exact absurd (.inr h) hne
 have hsn:=qAQ i hne
 have hc0:∀ i,(qT n).cells.length≤i:=fun i=>by simp [qT]
 generalize hmm:zN p i (qL p n)=m at *
 have hmt:m=m.top fs f:=by cases m;simp only [Mch.top] at hfr ⊢;rw [hfr]
 have hol:=uh (p:=p) (b:=f.blk) hP.sh
 have hpc:=hM.top.pc
 have hdp:=hM.deep
 have hmd:=hM.made
 have hp:=hM.top.blk
 have hfl:fs.length≤150:=by omega
 obtain⟨kk,hk⟩:∃ k,p[f.blk]?=some k:=⟨_,gE hp⟩
 have hcd:(qX p p.length)[f.blk]?=some (q8 p f.blk):=by simp [qX,hp]
 obtain⟨hcdl,hcdE⟩:=gS hcd
 have hco:(q8 p f.blk).ops=jO p f.blk:=by simp [q8,hk]
 have hnx:(zN p (i+1) (qL p n)).en=0→(zN p (i+1) (qL p n)).frames≠[]→i+1<N:=fun h1 h2=>by
  rcases Nat.lt_or_ge (i+1) N with h|h
  ·exact h
  ·have e:i+1=N:=by omega
   rw [e] at h1 h2
   rcases n2 with h|h
   ·exact absurd h h2
   ·exact absurd h1 h
 obtain⟨R,j,hT,tr,-⟩:=hO.topT hfr (by omega)
 have fx:= t0
 refine qB ?_
 repeat ((first|refine wSc (id:=2) qDH qA ?_);refine qC ?_;refine qB ?_)
 clear fx
 intro K hK
 have fx:=t0
 refine qQ h0 (have h:=hO;OwnY.re h) (hc0 _) (hF:=fun _=>qDt gl DM (fun _=>qH) rfl _ R fs.length (by simp [hT]) tr.h (by omega)) (h:=?_)
 intro y H1 hw
 clear fx
 have hO1:=OwnY.smp hO hw
 obtain⟨rfl,-⟩:=hw
 have fx:=aI t0<|hT
 refine qB ?_
 clear fx
 refine yd (fun s=>s.tm 0=.pt Yn 0∧s.tm 2=.pt Yn (yo fs.length)∧s.hp (.u 9 0 0)=none∧OwnY s.hp p m) ⟨by simp [t0,hT],by simp [hT],by simp [h9,fM9],(have h:=hO1;OwnY.re h)⟩ ?_
 clear t0 h9 hO hT tr hO1
 rintro s ⟨t0,t2,h9,hO⟩
 obtain⟨R,j,hT,tr,h2,h3,h28⟩:=hO.topT hfr (by omega)
 have hRl:=tr.len
 have r0:=tr.r0
 have f0:=tr.f0
 have f1:=tr.f1
 have rh:=tr.h
 obtain⟨_,r0E⟩:=gS r0
 obtain⟨_,rhE⟩:=gS rh
 obtain⟨f0l,f0E⟩:=gS f0
 obtain⟨f1l,f1E⟩:=gS f1
 cases ho:(jO p f.blk)[f.pc]? with
 | none =>
  have hpe:f.pc=(jO p f.blk).length:=by have:=List.getElem?_eq_none_iff.1 ho;omega
  have hres:yC p m=qDk p m fs f:=Hm.step_end hfr ho
  by_cases hfs:fs=[]
  ·subst hfs
   have hb0:f.blk=0:=hM.b0 f (by simp)
   have hk0:qi p f.blk=0:=by
    have:=(hP.sh.kind0 hk).2 hb0
    simp [qi,hk,this]
   have hend:qDk p m [] f={ m with frames:=[] }:=by
    simp only [qDk,hk0]
    rfl
   simp only [List.length_nil] at t2 f0 f0E f0l f1 f1E f1l rh rhE
   have hlast:{ uJ p n with frames:=[f] }=m:=by
    have e1:(zN p (i+1) (qL p n)).ended:=.inl (by rw [hsn,hres,hend])
    rw [← qHU e1,hsn,hres,hend]
    cases m
    simp only at hfr
    simp [hfr]
   have fx:=aI t0<|aI t2<|aI hT<|aI hRl<|aI r0<|aI r0E<|aI f0<|aI f0E<|aI f0l<|aI f1<|aI f1E<|aI f1l<|aI rh<|aI rhE<|aI hcd<|aI hcdl<|aI hcdE<|aI hco<|hpe
   refine qB ?_
   repeat ((first|refine wSc (id:=2) qDH qA ?_);refine qC ?_;refine qB ?_)
   clear fx
   refine qJm (zj [] .nil (by simp;rfl) ⟨[f],?_⟩)
   rw [hlast]
   exact OwnY.fin (have h:=hO;OwnY.re h)
  ·obtain⟨gs,g0,rfl⟩:∃ gs g0,fs=gs++[g0]:=⟨fs.dropLast,fs.getLast hfs,(List.dropLast_concat_getLast hfs).symm⟩
   simp only [List.length_append,List.length_singleton] at t2 f0 f0E f0l f1 f1E f1l rh rhE hfl
   have hlow:=hM.low g0 (by simp)
   have hlo1:=hlow.sl
   have hlo2:=hlow.pc
   have hlo3:=uh (p:=p) (b:=g0.blk) hP.sh
   have hnk:=hM.nk
   have hyf:=fun H hO=>qDU gl H p m gs g0 f (0,0) hp (by omega) (by omega) (by omega) hO
   have hee:(if qi p f.blk=2 then zD { m with classes:=m.classes++[f.names] } (gs++[g0]) (3,m.classes.length) else zD m (gs++[g0]) (0,0))=zN p (i+1) (qL p n):=by rw [hsn,hres];rfl
   rw [hee] at hyf
   have hgt:((gs.length:Int)+1+1 > 1):=by omega
   have fx:=aI t0<|aI t2<|aI hT<|aI hRl<|aI r0<|aI r0E<|aI f0<|aI f0E<|aI f0l<|aI f1<|aI f1E<|aI f1l<|aI rh<|aI rhE<|aI hcd<|aI hcdl<|aI hcdE<|aI hco<|aI hpe<|hgt
   refine qB ?_
   repeat ((first|refine wSc (id:=2) qDH qA ?_);refine qC ?_;refine qB ?_)
   clear fx
   intro K hK
   have fx:=aI t0 t2
   refine qQ h0 (have h:=hO;OwnY.re h) (hc0 _) (hF:=fun hO=>hyf _ (by rw [← hmt];exact hO)) (h:=?_)
   intro y H1 hO1
   clear fx
   have hlt:=hnx (by rw [hsn,hres,← hen];simp only [qDk];split <;> exact qIc) (by rw [hsn,hres];simp only [qDk];split <;> exact qIb hfs)
   have fx:=aI t0<|aI t2<|hT
   refine qB ?_
   repeat ((first|refine wSc (id:=2) qDH qA ?_);refine qC ?_;refine qB ?_)
   clear fx
   refine qPP ?_
   repeat' (first|refine qF6 ?_|refine qId ?_)
   exact⟨N - (i+1),by omega,i+1,rfl,hlt,by simp [t0,hT],by simp [h9,fM9],(have h:=hO1;OwnY.re h)⟩
 | some o =>
  obtain⟨hol2,hoE⟩:=gS ho
  have hres:yC p m=yq p m fs f.next o:=Hm.step_ord hfr ho
  have hpl:(f.pc:Int)<((jO p f.blk).length:Int):=by omega
  have hwp:IntKind.i64.wrap ((f.pc:Int)+1)=((f.pc+1:Nat):Int):=wrp (by omega) (by omega)
  have fx:=aI t0<|aI t2<|aI hT<|aI hRl<|aI r0<|aI r0E<|aI f0<|aI f0E<|aI f0l<|aI f1<|aI f1E<|aI f1l<|aI hcd<|aI hcdl<|aI hcdE<|aI hco<|aI hpl<|aI hwp<|aI ho<|aI hoE<|hol2
  refine qB ?_
  repeat ((first|refine wSc (id:=2) qDH qA ?_);refine qC ?_;refine qB ?_)
  clear fx
  intro K hK
  have hpc1:(f.pc:Int)+1=((f.pc+1:Nat):Int):=by omega
  refine yr (fun s=>s.tm 0=.pt Yn 0∧s.tm 33=.pt Yn 0∧s.tm 34=.pt Yn (yo fs.length)∧s.tm 35=osl (jO p f.blk)∧s.tm 38=.pt Yn (yo fs.length+1)∧s.hp (.u 9 0 0)=none∧OwnY s.hp p (m.top fs f.next)) ⟨by simp [t0],by simp [t0],by simp [t2],by simp,by simp [t2],by simp [h9],?_⟩ ?_
  ·refine OwnY.wrR hO hfr (m':=m.top fs f.next) (g:=f.next) rfl hT (g3:=⟨[],by simp [Frm.next]⟩) (fun J hJ e=>?_)
   rw [qAL,e,hpc1]
   exact qHu (fs:=fs++[f]) (i:=fs.length) (f:=f) (g:=f.next) (j:=1) hJ (by simp) (by omega) (by simp) qSZ |>.trans (by simp;rfl)
  clear t0 t2 h9 hO hT tr h2 h3 h28 hRl r0 f0 f1 rh r0E rhE f0l f0E f1l f1E
  rintro s ⟨t0,t33,t34,t35,t38,h9,hO⟩
  obtain⟨R,j,hT,tr,-⟩:=hO.topT rfl (by omega)
  have f1:R[yo fs.length+1]?=some (iv ((f.pc:Int)+1)):=by rw [tr.f1];rfl
  have yoh:yo fs.length+29≤4415:=by simp only [yo];omega
  obtain⟨f1l,f1E⟩:=gS f1
  have hwq:IntKind.i64.wrap (f.pc:Int)=f.pc:=wrp (by omega) (by omega)
  rw [hres] at hsn
  have hOr:=qI1 hP.sh hk o (gM ho)
  have hne20:o.1=20→fs≠[]:=fun h e=>by
   subst e
   have h1:=hM.b0 f (by simp)
   have h2:=hOr.ret h
   have h3:=(hP.sh.kind0 hk).2 h1
   simp [qi,hk,h3] at h2
  have fx:=aI t0<|aI t33<|aI t34<|aI t35<|aI t38<|aI hT<|aI f1<|aI f1E<|aI f1l<|aI ho<|aI hoE<|aI hol2<|aI hwq<|yoh
  refine qB ?_
  repeat ((first|refine wSc (id:=2) qDH qA ?_);refine qC ?_;refine qB ?_)
  clear fx
  have fx:=aI t0 (aI t33 t34)
  refine qQ h0 (have h:=hO;OwnY.re h) (hc0 _) (hF:=fun hO=>qMd gl _ p m fs f o hP hM ho hen (by simp [h9,fM9]) hO) (h:=?_)
  rintro y H1 ⟨rfl,hO1⟩
  clear fx
  rw [← hsn] at hO1
  by_cases he:(yq p m fs f.next o).en=0
  ·have hlt:=hnx (by rw [hsn];exact he) (by rw [hsn];exact qUU hOr.code hne20)
   have fx:=aI t0<|aI hT<|he
   refine qB ?_
   repeat ((first|refine wSc (id:=2) qDH qA ?_);refine qC ?_;refine qB ?_)
   clear fx
   refine qPP ?_
   repeat' (first|refine qF6 ?_|refine qId ?_)
   exact⟨N - (i+1),by omega,i+1,rfl,hlt,by simp [t0,hT],by simp [h9,fM9],(have h:=hO1;OwnY.re h)⟩
  ·have e1:(zN p (i+1) (qL p n)).ended:=.inr (by rw [hsn];exact he)
   rw [qHU e1] at hO1
   have fx:=aI t0<|aI hT<|he
   refine qB ?_
   repeat ((first|refine wSc (id:=2) qDH qA ?_);refine qC ?_;refine qB ?_)
   clear fx
   refine qR3 (qF [] .nil (by simp;rfl) ⟨(uJ p n).frames,?_⟩)
   exact OwnY.fin (have h:=hO1;OwnY.re h)
theorem qDP (gl) (p:Prg) (b:Nat) (k:Blk) (hk:p[b]?=some k) (hP:ShapeP p):qV Tryz.prog gl 74 [pav p,qAD p,iv b] (fun r y H'=>y=.hs r 1 0 (zE p b).length∧H' r=some (.row 1 (qJ (zE p b)))):=by
 have hbl:=(gS hk).1
 obtain⟨_,hkE⟩:=gS hk
 have hlen:=hP.len
 have hf8:=jW (p:=p) (b:=b)
 have hcl:=u6 (p:=p) (b:=b)
 have hcl2:(zE p b).length=(qU p b).length:=by simp [zE]
 have hfr:=qBG gl p hP b hbl
 refine qV.of_sem Tryz.func74 rfl (by kernel_rfl) (rs:=[.tmp 6]) rfl Tryz.ntmps74 (lB rfl) fun C w g root=>?_
 have fx:=fx0
 have d1:=hfr
 refine qB ?_
 clear fx d1
 refine qY (fun n st=>∃ i:Nat,n=(qU p b).length - i∧i≤(qU p b).length∧st.tm 1=qAD p∧st.tm 2=iv b∧st.tm 3=.pt (.s 3) 0∧st.hp (.s 3)=some (.row 1 [[ksl p]])∧st.tm 7=.hs (.s 7) 1 0 i∧st.hp (.s 7)=some (.row 1 (qJ ((zE p b).take i)))∧st.tm 12=.hs (.s 12) 1 0 (qU p b).length∧st.hp (.s 12)=some (.row 1 (qJ (qU p b)))∧st.tm 13=iv (qU p b).length∧st.tm 14=iv i) (qU p b).length ?_ ?_
 ·exact⟨0,by omega,by omega,by simp,by simp,by simp,by simp,by simp,by simp,by simp,by simp,by simp,by simp⟩
 rintro n st - - ⟨i,rfl,hi,t1,t2,t3,p3,t7,p7,t12,p12,t13,t14⟩
 by_cases hil:i<(qU p b).length
 ·obtain⟨x,hx⟩:∃ x,(qU p b)[i]?=some x:=⟨_,gE hil⟩
  obtain⟨_,hxE⟩:=gS hx
  have hb0:=qA6 (gM hx)
  obtain⟨h1,h2,h3⟩:=hP.heads b k hk
  have h4:=h3 hb0
  obtain⟨c,hc⟩:∃ c:Nat,k.parent=c:=⟨k.parent.toNat,by omega⟩
  obtain⟨kc,hkc⟩:∃ kc,p[c]?=some kc:=⟨_,gE (by omega)⟩
  have hpa:vt p b=c:=by simp [vt,hk,hc]
  have hx8:∃ a:Nat,x=a∧a<8:=by
   have hm:=gM hx
   obtain⟨-,hm0,hm7⟩:=Hm.mem_sorted.1 (show x∈Hm.sorted (zi p b (p.length - b)) from hm)
   exact⟨x.toNat,by omega,by omega⟩
  obtain⟨a,rfl,ha8⟩:=hx8
  have hcp:=yu gl p hP c kc hkc a ha8
  have htl:((zE p b).take i).length=i:=by simp [zE];omega
  have hi8:i≤8:=by omega
  have fx:=aI t1<|aI t2<|aI t3<|aI p3<|aI t7<|aI p7<|aI t12<|aI p12<|aI t13<|aI t14<|aI hil<|aI hk<|aI hkE<|aI hbl<|aI hc<|aI hx<|aI hxE<|aI htl<|hi8
  have c1:=hcp
  refine qB ?_
  clear fx c1
  have e1:(zE p b).take (i+1)=(zE p b).take i++[vS p c a]:=by
   rw [List.take_add_one]
   simp [zE,hx,hpa]
  have e2:qJ ((zE p b).take i)++[[iv (vS p c a)]]=qJ ((zE p b).take (i+1)):=by rw [e1];simp [qJ]
  refine⟨(qU p b).length - (i+1),by omega,i+1,rfl,by omega,by simp [t1],by simp [t2],by simp [t3],by simp [p3],by simp,?_,by simp [t12],by simp [p12],by simp [t13],by simp [t14];exact wrp (by omega) (by omega)⟩
  simp [← e2]
  rw [List.take_of_length_le (by simp;omega)]
 ·obtain rfl:i=(qU p b).length:=by omega
  have htk:(zE p b).take (qU p b).length=zE p b:=List.take_of_length_le (by omega)
  rw [htk] at p7
  have fx:=aI t1<|aI t2<|aI t3<|aI p3<|aI t7<|aI p7<|aI t12<|aI p12<|aI t13<|t14
  refine qB ?_
  clear fx
  exact zY (t:=6) (by first|(simp [t7,p7,hcl2];done)|(simp [t7,p7,hcl2];rfl)) (by first|(simp [t7,p7,hcl2];done)|(simp [t7,p7,hcl2];rfl)) (by simp)
theorem qFG (gl) (p:Prg) (b:Nat) (k:Blk) (hk:p[b]?=some k) (hP:ShapeP p):qV Tryz.prog gl 74 [pav p,qAD p,iv b] (fun _ y _=>y=isl (zE p b)) :=
 (qDP gl p b k hk hP).settle fun r y H' hr=>⟨isl (zE p b),by rw [hr.1];exact yw hr.2 rfl,rfl⟩
end Go.Proofs.YtbgmnmnoaamgkaaGreatDoor
end
section
namespace Go.Proofs.YtbgmnmnoaamgkaaGreatDoor
open Go Go.Hm Go.Proofs
abbrev qKr:Sch:=.q 0<|.q 1<|.q 2<|.q 3<|.q 4<|.q 5<|.q 6<|.q 7<|.l 8 [4,3,2,1,0]<|.l 9 [4,3,2,1,0]<|.l 10 [0]<|.q 11<|.q 12<|.l 13 []<|.done
theorem qLZ:∃ l,ji Tryz.prog 86=some l∧l.length=4415∧(l.map AV.sc).take 32=[.sc (.slice none 0 0),.sc (.slice none 0 0),iv 0,iv 0,.sc (.slice none 0 0),.sc (.slice none 0 0)]++(vo qe++[.sc (.slice none 0 0),.sc (.slice none 0 0)])∧(l.map AV.sc).drop 4411=[iv 0,iv 0,iv 0,iv 0]∧l.all Value.oneCell'=true:=by
 have h:(ji Tryz.prog 86).isSome=true:=by kernel_rfl
 have h1:(ji Tryz.prog 86).map List.length=some 4415:=by kernel_rfl
 have h2:(ji Tryz.prog 86).map (fun l=>(l.map AV.sc).take 32)=some ([.sc (.slice none 0 0),.sc (.slice none 0 0),iv 0,iv 0,.sc (.slice none 0 0),.sc (.slice none 0 0)]++(vo qe++[.sc (.slice none 0 0),.sc (.slice none 0 0)])):=by kernel_rfl
 have h3:(ji Tryz.prog 86).map (fun l=>(l.map AV.sc).drop 4411)=some [iv 0,iv 0,iv 0,iv 0]:=by kernel_rfl
 have h4:(ji Tryz.prog 86).map (fun l=>l.all Value.oneCell')=some true:=by kernel_rfl
 obtain⟨l,hl⟩:=Option.isSome_iff_exists.1 h
 rw [hl] at h1 h2 h3 h4
 exact⟨l,hl,sI h1,sI h2,sI h3,sI h4⟩
theorem qRZ:∀ k,(k=1∨k=4)→(tce Tryz.prog 86).getD k 0=1:=by
 rintro k (rfl|rfl) <;> kernel_rfl
theorem qRY:∀ k,(k=5∨k=30)→(tce Tryz.prog 86).getD k 0=2:=by
 rintro k (rfl|rfl) <;> kernel_rfl
theorem qOU:(tce Tryz.prog 86).getD 31 0=24:=by kernel_rfl
theorem qRX:y6 Tryz.prog 86=true:=by kernel_rfl
theorem qKh (gl) (p:Prg) (hP:ShapeP p):qV Tryz.prog gl 50 [pav p] (fun _ y _=>y=qAD p) :=
 (w6 gl p hP.sml hP.heads hP.names).settle fun r y H' hr=>⟨qAD p,by rw [hr.1];exact qAc hr.2 hP.heads rfl,rfl⟩
theorem qFD (gl:Nat→Option (List AV)) (hgl:gl 0=some kn) (p:Prg) (hP:ShapeP p):qV Tryz.prog gl 73 [pav p,qAD p] (fun _ y _=>y=csl (qX p p.length)) :=
 (qA4 gl hgl p hP).settle fun r y H' hr=>⟨csl (qX p p.length),by rw [hr.1];exact yl hr.2 rfl,rfl⟩
theorem kg (gl:Nat→Option (List AV)) (hgl:gl 0=some kn) (H:Nm→Option AO) (p:Prg) (n:Nat) (hP:ValP p) (hn:n≤150) (hN:∀ k i j,H (.u k i j)=none) :
  FnE Tryz.prog gl 44 DM [pav p,iv n] H (fun _ y H'=>y=.pt Yn 0∧∃ fr,OwnY H' p { uJ p n with frames:=fr }) noE:=by
 have hp7:=hP.sh.len
 have hsc:=qKh gl p hP.sh
 have hca:=qFD gl hgl p hP.sh
 obtain⟨l,z1,z2,z3,z4,z5⟩:=qLZ
 have hbl:=qMR (a:=csl (qX p p.length)) (b:=iv n) (c:=iv 0) qRX z1 z2 qKZ qKY qKX qTB qWC qWC rfl rfl rfl
 have hzl:(l.map AV.sc).length=4415:=by simpa using z2
 refine FnE.of_sem Tryz.func44 rfl (by kernel_rfl) (rs:=[.tmp 4]) rfl Tryz.ntmps44 (lB rfl) (fun _=>qH) fun C w g root hroot=>?_
 have fx:=fx0
 have p1:=hsc
 have p2:=hca
 refine qBY ?_
 repeat ((first|refine wSc (id:=6) qKr qA ?_);refine qEp ?_;refine qBY ?_)
 clear fx p1 p2
 intro K hK
 obtain⟨Cs,hCs⟩:∃ Cs,Cs=spl (spl (spl (l.map AV.sc) 0 [csl (qX p p.length)]) 2 [iv n]) 3 [iv 0]:=⟨_,rfl⟩
 rw [← hCs] at hbl
 have hCl:Cs.length=4415:=by
  rw [hCs]
  simp [spl,hzl]
 have hCm:∀ y∈Cs,(∃ v,y=.sc v∧v.oneCell'=true)∨y=csl (qX p p.length):=by
  intro y hy
  rw [hCs] at hy
  have hz:∀ y∈l.map AV.sc,∃ v,y=.sc v∧v.oneCell'=true:=fun y hy=>by
   obtain⟨v,hv,rfl⟩:=List.mem_map.1 hy
   exact⟨v,rfl,List.all_eq_true.1 z5 v hv⟩
  have key:∀ (L:List AV) (k:Nat) (a y:AV),y∈spl L k [a]→y=a∨y∈L:=fun L k a y h=>by
   simp only [spl,List.append_assoc,List.mem_append,List.mem_singleton] at h
   rcases h with h|h|h
   ·exact .inr (List.mem_of_mem_take h)
   ·exact .inl h
   ·exact .inr (List.mem_of_mem_drop h)
  rcases key _ _ _ _ hy with rfl|hy
  ·exact .inl ⟨_,rfl,rfl⟩
  ·rcases key _ _ _ _ hy with rfl|hy
   ·exact .inl ⟨_,rfl,rfl⟩
   ·rcases key _ _ _ _ hy with rfl|hy
    ·exact .inr rfl
    ·exact .inl (hz y hy)
 have hCo:Cs.all AV.one=true:=List.all_eq_true.2 fun y hy=>by
  rcases hCm y hy with⟨v,rfl,hv⟩|rfl
  ·exact hv
  ·rfl
 have hCk:∀ y∈Cs,(∃ v,y=.sc v)∨∃ z rows,y=.sl z rows∧y.tr (kl (.s 15))=y:=fun y hy=>by
  rcases hCm y hy with⟨v,rfl,hv⟩|rfl
  ·exact .inl ⟨v,rfl⟩
  ·exact .inr ⟨_,_,rfl,by simp⟩
 have hns:∀ st:St,(St.setNils (qr (Nm.c (.s 15) 0) (tce Tryz.prog 86) 0 Cs) st).hp (.s 2)=st.hp (.s 2):=fun st=>by rw [w5,qC9 fun a e=>by cases e]
 refine x_q (z:=.agg Cs) (by simp) hbl ?_
 refine qO ?_
 refine yM (.s 15) Yn (.inl rfl) (.inr (by simp [un,hN])) ?_
 refine qSg (cs:=Cs) (by simp) (by simp [AV.cells,hCo]) 4415 hCl qTA hCk ?_
 refine qUK (fun s=>s.tm 2=.pt (.s 2) 0∧s.hp (.s 2)=some (.row 1 [[ksl p]])∧s.tm 5=qAD p∧s.tm 15=.pt Yn 0∧PreY s.hp p n 0) ⟨by simp [kx],by simp [hns],by simp [kx],by simp,?_⟩ ?_
 ·rw [hCs]
  exact qKz hzl z3 z4 qRZ qRY qOU fun k i j hk=>by simp [hN]
 rintro s ⟨t2,p2,t5,t15,hX⟩
 have fx:=aI t2<|aI p2<|aI t5<|t15
 refine qB ?_
 repeat ((first|refine wSc (id:=6) qKr qA ?_);refine qC ?_;refine qB ?_)
 clear fx
 refine qY (fun k s=>∃ b:Nat,k=p.length - b∧b≤p.length∧s.tm 2=.pt (.s 2) 0∧s.hp (.s 2)=some (.row 1 [[ksl p]])∧s.tm 5=qAD p∧s.tm 6=.pt Yn 0∧s.tm 18=iv p.length∧s.tm 19=iv b∧PreY s.hp p n b) p.length ?_ ?_
 ·exact⟨0,by omega,by omega,by simp [t2],by simp [p2],by simp [t5],by simp [t15],by simp,by simp,hX⟩
 clear t2 p2 t5 t15 hX
 rintro k s - - ⟨b,rfl,hb,t2,p2,t5,t6,t18,t19,hX⟩
 obtain⟨R,hT,hRl,r1⟩:=hX.row
 obtain⟨_,r1E⟩:=gS r1
 have hcp:=hX.caps
 by_cases hil:b<p.length
 ·obtain⟨kk,hk⟩:∃ k,p[b]?=some k:=⟨_,gE hil⟩
  have hcf:=qFG gl p b kk hk hP.sh
  have hb7:b≤7:=by omega
  have fx:=aI t2<|aI p2<|aI t5<|aI t6<|aI t18<|aI t19<|aI hil<|aI hT<|aI hRl<|aI r1<|aI r1E<|aI hcp<|hb7
  have p1:=hcf
  refine qBY ?_
  repeat ((first|refine wSc (id:=6) qKr qA ?_);refine qEp ?_;refine qBY ?_)
  clear fx p1
  have htk:(jc p b).take b=jc p b:=List.take_of_length_le (by simp)
  have hap:jc p b++[[isl (zE p b)]]=jc p (b+1):=qJx
  exact⟨p.length - (b+1),by omega,b+1,rfl,by omega,by simp [t2],by simp [p2],by simp [t5],by simp [t6],by simp [t18],by simp [t19];exact wrp (by omega) (by omega),(have h:=hX;PreY.step h hT (by simp;rfl) (by simp only [km];exact⟨_,fun j hj=>by simp [hj],rfl⟩) (by simp [← hap,htk]))⟩
 ·obtain rfl:b=p.length:=by omega
  have hO:=hX.own
  have fx:=aI t2<|aI p2<|aI t5<|aI t6<|aI t18<|t19
  refine qB ?_
  repeat ((first|refine wSc (id:=6) qKr qA ?_);refine qC ?_;refine qB ?_)
  clear fx
  intro K hK
  have fx:=t6
  refine qHw (fun k i j he=>by simp [un,hN] at he) (hF:=qPf gl _ p n hP hn (by simp [fM9]) hO.sub) (h:=?_)
  rintro y H1 ⟨fr,hO1⟩
  clear fx
  have fx:=aI t6<|hT
  refine qB ?_
  repeat ((first|refine wSc (id:=6) qKr qA ?_);refine qC ?_;refine qB ?_)
  clear fx
  refine qF [] .nil (by simp;rfl) ⟨by simp,fr,OwnY.fin (have h:=hO1;OwnY.re h)⟩
end Go.Proofs.YtbgmnmnoaamgkaaGreatDoor
end
section

end
section

end
section

end
section

end
section

end
section

end
section

end
section

end
section

end
section

end
section

end
section

end
section

end
section
namespace Go.Proofs.YtbgmnmnoaamgkaaGreatDoor
open Go Go.Hm Go.Proofs
theorem u0 (gl) (f:Int):qV Tryz.prog gl 43 [iv f] (fun _ y _=>y=bv (decide (0≤f)&&decide (f≤150))):=by
 refine qV.of_sem Tryz.func43 rfl (by kernel_rfl) (rs:=[.tmp 2]) rfl Tryz.ntmps43 (lB rfl) fun C w g root=>?_
 by_cases h1:0≤f
 ·by_cases h2:f≤150
  ·skip
   have fx:=aI h1<|h2
   refine qB ?_
   clear fx
   refine qF [] .nil (by simp;rfl) (by simp [h1,h2])
  ·skip
   have fx:=aI h1<|h2
   refine qB ?_
   clear fx
   refine qF [] .nil (by simp;rfl) (by simp [h1,h2])
 ·skip
  have fx:= h1
  refine qB ?_
  clear fx
  refine qF [] .nil (by simp;rfl) (by simp [h1])
abbrev qNu:Sch:=.q 0<|.q 1<|.q 2<|.q 3<|.q 4<|.q 5<|.q 6<|.q 7<|.l 8 [7,6,5,4]<|.l 9 []<|.done
theorem wk (gl:Nat→Option (List AV)) (hgl:gl 0=some kn) (p:Prg) (f:Int) (hs:Sml p):qV Tryz.prog gl 19 [pav p,iv f] (fun r y H'=>y=.hs r 2 0 (qPR p f).length∧H' r=some (.row 2 (jq (qPR p f)))):=by
 refine qV.of_sem Tryz.func19 rfl (by kernel_rfl) (rs:=[.tmp 4]) rfl Tryz.ntmps19 (lB rfl) fun C w g root=>?_
 cases hv0:jY p
 ·have hv:jC p f=false:=by simp [jC,hv0]
  have fx:= hv0
  have c1:=hv0 ▸ qd gl p hs
  refine qB ?_
  clear fx c1
  refine qF [(.s 4,root)] (.one rfl) (by simp;rfl) (by simp [qPR,hv])
 cases hv:jC p f
 ·have hf:(decide (0≤f)&&decide (f≤150))=false:=by simpa [jC,hv0] using hv
  have fx:=aI hv0<|hf
  have c1:=hv0 ▸ qd gl p hs
  have c2:=hf ▸ u0 gl f
  refine qB ?_
  clear fx c1 c2
  refine qF [(.s 4,root)] (.one rfl) (by simp;rfl) (by simp [qPR,hv])
 ·obtain⟨hpo,n,rfl,hn⟩:=vH hv
  have hP:=ValP.of hs hpo
  have hf:(decide (0≤(n:Int))&&decide ((n:Int)≤150))=true:=by simpa [jC,hv0] using hv
  obtain⟨hb1,hb2,hgl8⟩:=qCU (n:=n) hP hn
  have hol':(uJ p n).trace.length≤1000:=by omega
  have hG:qPR p n=(uJ p n).trace:=by simp [qPR,hv]
  rw [hG]
  have fx:=aI hv0<|hf
  have c1:=hv0 ▸ qd gl p hs
  have c2:=hf ▸ u0 gl n
  refine qB ?_
  clear fx c1 c2
  intro K hK
  have fx:=fx0
  refine yM (.c Yn 0 5) (.s 15) (.inl rfl) (.inl rfl) ?_
  refine qHw (fun k i j he=>by simp [un,noH] at he) (hF:=kg gl hgl _ p n hP hn (by simp [noH])) (h:=?_)
  rintro y H1 ⟨rfl,fr,hO1⟩
  clear fx
  obtain⟨R,hT,hRl,r5⟩:∃ R,H1 Yn=some (.row 4415 [R])∧R.length=4415∧R[5]?=some (.hs (.c Yn 0 5) 2 0 (uJ p n).trace.length):=by
   obtain⟨J,hJ,e⟩:=hO1.top
   exact⟨_,e,yx (jm hJ),qPL⟩
  obtain⟨_,r5E⟩:=gS r5
  have hTr:H1 (.c Yn 0 5)=some (.row 2 (jq (uJ p n).trace)):=hO1.trc
  have fx:=aI hT<|aI hRl<|aI r5<|aI r5E<|aI hTr<|hol'
  refine qB ?_
  clear fx
  refine qF [(.s 4,root)] (.one rfl) (by simp;rfl) ⟨by simp,by simp [hTr]⟩
theorem u4 (gl:Nat→Option (List AV)) (hgl:gl 0=some kn) (p:Prg) (f:Int) (hs:Sml p):qV Tryz.prog gl 14 [pav p,iv f] (fun _ y _=>y=iv (u5 p f)):=by
 refine qV.of_sem Tryz.func14 rfl (by kernel_rfl) (rs:=[.tmp 4]) rfl Tryz.ntmps14 (lB rfl) fun C w g root=>?_
 cases hv0:jY p
 ·have hv:jC p f=false:=by simp [jC,hv0]
  have fx:= hv0
  have c1:=hv0 ▸ qd gl p hs
  refine qB ?_
  clear fx c1
  refine qF [] .nil (by simp;rfl) (by simp [u5,hv])
 cases hv:jC p f
 ·have hf:(decide (0≤f)&&decide (f≤150))=false:=by simpa [jC,hv0] using hv
  have fx:=aI hv0<|hf
  have c1:=hv0 ▸ qd gl p hs
  have c2:=hf ▸ u0 gl f
  refine qB ?_
  clear fx c1 c2
  refine qF [] .nil (by simp;rfl) (by simp [u5,hv])
 ·obtain⟨hpo,n,rfl,hn⟩:=vH hv
  have hP:=ValP.of hs hpo
  have hf:(decide (0≤(n:Int))&&decide ((n:Int)≤150))=true:=by simpa [jC,hv0] using hv
  obtain⟨hb1,hb2,hgl8⟩:=qCU (n:=n) hP hn
  have fx:=aI hv0<|hf
  have c1:=hv0 ▸ qd gl p hs
  have c2:=hf ▸ u0 gl n
  refine qB ?_
  clear fx c1 c2
  intro K hK
  have fx:=fx0
  refine qHw (fun k i j he=>by simp [un,noH] at he) (hF:=kg gl hgl _ p n hP hn (by simp [noH])) (h:=?_)
  rintro y H1 ⟨rfl,fr,hO1⟩
  clear fx
  obtain⟨R,hT,hRl,r5⟩:∃ R,H1 Yn=some (.row 4415 [R])∧R.length=4415∧R[4414]?=some (iv (uJ p n).cells.length):=by
   obtain⟨J,hJ,e⟩:=hO1.top
   exact⟨_,e,yx (jm hJ),qF0 (jm hJ)⟩
  obtain⟨_,r5E⟩:=gS r5
  have fx:=aI hT<|aI hRl<|aI r5<|r5E
  refine qB ?_
  clear fx
  refine qF [] .nil (by simp;rfl) (by simp [u5,hv])
theorem uC (gl:Nat→Option (List AV)) (hgl:gl 0=some kn) (p:Prg) (f:Int) (hs:Sml p):qV Tryz.prog gl 17 [pav p,iv f] (fun _ y _=>y=.tup [iv (yU p f).1,iv (yU p f).2]):=by
 refine qV.of_sem Tryz.func17 rfl (by kernel_rfl) (rs:=[.tmp 4,.tmp 5]) rfl Tryz.ntmps17 (lB rfl) fun C w g root=>?_
 cases hv0:jY p
 ·have hv:jC p f=false:=by simp [jC,hv0]
  have fx:= hv0
  have c1:=hv0 ▸ qd gl p hs
  refine qB ?_
  repeat ((first|refine wSc (id:=4) qNu qA ?_);refine qC ?_;refine qB ?_)
  clear fx c1
  refine qF [] .nil (by simp;rfl) (by simp [yU,hv])
 cases hv:jC p f
 ·have hf:(decide (0≤f)&&decide (f≤150))=false:=by simpa [jC,hv0] using hv
  have fx:=aI hv0<|hf
  have c1:=hv0 ▸ qd gl p hs
  have c2:=hf ▸ u0 gl f
  refine qB ?_
  repeat ((first|refine wSc (id:=4) qNu qA ?_);refine qC ?_;refine qB ?_)
  clear fx c1 c2
  refine qF [] .nil (by simp;rfl) (by simp [yU,hv])
 ·obtain⟨hpo,n,rfl,hn⟩:=vH hv
  have hP:=ValP.of hs hpo
  have hf:(decide (0≤(n:Int))&&decide ((n:Int)≤150))=true:=by simpa [jC,hv0] using hv
  obtain⟨hb1,hb2,hgl8⟩:=qCU (n:=n) hP hn
  have fx:=aI hv0<|hf
  have c1:=hv0 ▸ qd gl p hs
  have c2:=hf ▸ u0 gl n
  refine qB ?_
  repeat ((first|refine wSc (id:=4) qNu qA ?_);refine qC ?_;refine qB ?_)
  clear fx c1 c2
  intro K hK
  have fx:=fx0
  refine qHw (fun k i j he=>by simp [un,noH] at he) (hF:=kg gl hgl _ p n hP hn (by simp [noH])) (h:=?_)
  rintro y H1 ⟨rfl,fr,hO1⟩
  clear fx
  obtain⟨R,hT,hRl,r5,r6⟩:∃ R,H1 Yn=some (.row 4415 [R])∧R.length=4415∧R[4413]?=some (iv (uJ p n).made)∧R[4412]?=some (iv (uJ p n).deep):=by
   obtain⟨J,hJ,e⟩:=hO1.top
   exact⟨_,e,yx (jm hJ),qF1 (jm hJ),qF2 (jm hJ)⟩
  obtain⟨_,r5E⟩:=gS r5
  obtain⟨_,r6E⟩:=gS r6
  have fx:=aI hT<|aI hRl<|aI r5<|aI r5E<|aI r6<|r6E
  refine qB ?_
  repeat ((first|refine wSc (id:=4) qNu qA ?_);refine qC ?_;refine qB ?_)
  clear fx
  refine qF [] .nil (by simp;rfl) (by simp [yU,hv])
end Go.Proofs.YtbgmnmnoaamgkaaGreatDoor
end
section
namespace Go.Proofs.YtbgmnmnoaamgkaaGreatDoor
open Go Go.Hm Go.Proofs
abbrev qNv:Sch:=.q 0<|.q 1<|.q 2<|.q 3<|.q 4<|.q 5<|.q 6<|.q 7<|.q 8<|.q 9<|.q 10<|.q 11<|.q 12<|.q 13<|.q 14<|.q 15<|.q 16<|.q 17<|.q 18<|.q 19<|.q 20<|.q 21<|.q 22<|.q 23<|.q 24<|.q 25<|.q 26<|.q 27<|.q 28<|.q 29<|.q 30<|.q 31<|.q 32<|.q 33<|.q 34<|.q 35<|.q 36<|.q 37<|.q 38<|.q 39<|.q 40<|.q 41<|.q 42<|.q 43<|.q 44<|.l 45 []<|.done
theorem qBm {v:Int} {n:Nat} (hv:0≤v) (hn:0<n):∃ k:Nat,v.tmod n=k∧k<n:=by
 have h1:=Int.tmod_nonneg n hv
 have h2:=Int.tmod_lt_of_pos v (show (0:Int)<n by omega)
 exact⟨(v.tmod n).toNat,by omega,by omega⟩
theorem qPo {x y:Int} (hx:0≤x∧x≤1000000000000) (hy:0≤y∧y≤1000000000000):∃ r:Nat,IntKind.i64.wrap (((x % 2 ^ IntKind.i64.bits).toNat ^^^ (y % 2 ^ IntKind.i64.bits).toNat:Nat):Int)=r:=by
 have e:∀ z:Int,0≤z∧z≤1000000000000→(z % 2 ^ IntKind.i64.bits).toNat<2 ^ 40:=by
  intro z hz
  simp only [show IntKind.i64.bits=64 from rfl]
  omega
 have h:=Nat.xor_lt_two_pow (e x hx) (e y hy)
 exact⟨_,wrp (by omega) (by omega)⟩
@[simp] theorem int_xorv {k:IntKind} {x y:Int}:wH k .xor x y=some (.sc (.int k (k.wrap ((BitVec.ofInt k.bits x ^^^ BitVec.ofInt k.bits y).toNat:Int)))):=rfl
theorem qLC (gl) (H:Nm→Option AO) (bs:List Int) (pos n:Nat) (hb:BytesOk bs) (hpos:pos≤1000000) (hn:n≤1000000) (hH:H (.u 1 0 0)=some (rdO bs pos)) :
  FnE Tryz.prog gl 79 (Nm.under (.u 1 0 0)) [.pt (.u 1 0 0) 0,iv n] H (fun _ z H'=>∃ k:Nat,z=iv k∧(k=0∨k<n)∧H' (.u 1 0 0)=some (rdO bs (pos+1))) noE:=by
 have w1:IntKind.i64.wrap ((pos:Int)+1)=pos+1:=wrp (by omega) (by omega)
 have w0:IntKind.i64.wrap (pos:Int)=pos:=wrp (by omega) (by omega)
 have hbl:=hb.len
 refine FnE.of_sem Tryz.func79 rfl (by kernel_rfl) (rs:=[.tmp 4]) rfl Tryz.ntmps79 (lB rfl) (fun _=>q9 rfl) fun C w g root hroot=>?_
 rcases Nat.eq_zero_or_pos n with rfl|hn0
 ·skip
  have fx:=aI hH<|w1
  refine qB ?_
  repeat ((first|refine wSc (id:=7) qNv qA ?_);refine qC ?_;refine qB ?_)
  clear fx
  refine qF [] .nil (by simp;rfl) ⟨0,by simp,.inl rfl,by simp [hH]⟩
 have hn1:¬ (n:Int)<1:=by omega
 rcases Nat.eq_zero_or_pos bs.length with hl0|hl
 ·skip
  have fx:=aI hH<|aI w1<|aI hn1<|hl0
  refine qB ?_
  repeat ((first|refine wSc (id:=7) qNv qA ?_);refine qC ?_;refine qB ?_)
  clear fx
  refine qF [] .nil (by simp;rfl) ⟨0,by simp,.inl rfl,by simp [hH]⟩
 have hl1:((bs.length:Int)==0)=false:=by rw [beq_eq_false_iff_ne];omega
 have hn2:¬ n=0:=by omega
 by_cases hpl:pos<bs.length
 ·obtain⟨v,hv⟩:∃ v,bs[pos]?=some v:=⟨_,gE hpl⟩
  obtain⟨_,hvE⟩:=gS hv
  have hvr:=hb.rng v (gM hv)
  obtain⟨k,hk,hkn⟩:=qBm hvr.1 hn0
  have wv:IntKind.i64.wrap v=v:=wrp (by omega) (by omega)
  have fx:=aI hH<|aI w1<|aI w0<|aI hn1<|aI hl1<|aI hpl<|aI hv<|aI hvE<|aI hn2<|aI hk<|wv
  refine qB ?_
  repeat ((first|refine wSc (id:=7) qNv qA ?_);refine qC ?_;refine qB ?_)
  clear fx
  refine qF [] .nil (by simp;rfl) ⟨k,by simp,.inr hkn,by simp [hH]⟩
 have hbl0:¬ bs.length=0:=by omega
 obtain⟨i1,hi1,hi1l⟩:=qBm (v:=(pos:Int)) (by omega) hl
 obtain⟨i2,hi2,hi2l⟩:=qBm (v:=(pos:Int) * 7+3) (by omega) hl
 obtain⟨b1,hb1⟩:∃ v,bs[i1]?=some v:=⟨_,gE hi1l⟩
 obtain⟨b2,hb2⟩:∃ v,bs[i2]?=some v:=⟨_,gE hi2l⟩
 obtain⟨_,hb1E⟩:=gS hb1
 obtain⟨_,hb2E⟩:=gS hb2
 have hr1:=hb.rng b1 (gM hb1)
 have hr2:=hb.rng b2 (gM hb2)
 have wb1:IntKind.i64.wrap b1=b1:=wrp (by omega) (by omega)
 have wb2:IntKind.i64.wrap b2=b2:=wrp (by omega) (by omega)
 have w7:IntKind.i64.wrap ((pos:Int) * 7)=pos * 7:=wrp (by omega) (by omega)
 have w73:IntKind.i64.wrap ((pos:Int) * 7+3)=pos * 7+3:=wrp (by omega) (by omega)
 obtain⟨q,hq,hql⟩:∃ q:Nat,(pos:Int) / (bs.length:Int)=q∧q≤pos:=⟨pos / bs.length,by simp,Nat.div_le_self _ _⟩
 have wq:IntKind.i64.wrap (q:Int)=q:=wrp (by omega) (by omega)
 have w131:IntKind.i64.wrap (b1 * 131)=b1 * 131:=wrp (by omega) (by omega)
 have w1117:IntKind.i64.wrap (b2 * 1117)=b2 * 1117:=wrp (by omega) (by omega)
 have wa:IntKind.i64.wrap (b1 * 131+b2 * 1117)=b1 * 131+b2 * 1117:=wrp (by omega) (by omega)
 have w29:IntKind.i64.wrap ((pos:Int) * 29)=pos * 29:=wrp (by omega) (by omega)
 have wb:IntKind.i64.wrap (b1 * 131+b2 * 1117+pos * 29)=b1 * 131+b2 * 1117+pos * 29:=wrp (by omega) (by omega)
 have w53:IntKind.i64.wrap ((q:Int) * 53)=q * 53:=wrp (by omega) (by omega)
 obtain⟨X,hX⟩:∃ X,X=b1 * 131+b2 * 1117+pos * 29+q * 53:=⟨_,rfl⟩
 have wX:IntKind.i64.wrap (b1 * 131+b2 * 1117+pos * 29+q * 53)=X:=by rw [hX];exact wrp (by omega) (by omega)
 obtain⟨Y,hY,hYr⟩:∃ Y,X.tdiv 64=Y∧0≤Y∧Y≤X:=by
  refine⟨_,rfl,Int.tdiv_nonneg (by omega) (by decide),?_⟩
  exact Int.tdiv_le_self _ (by omega)
 have wY:IntKind.i64.wrap Y=Y:=wrp (by omega) (by omega)
 obtain⟨r,hr⟩:=qPo (x:=X) (y:=Y) (by omega) (by omega)
 obtain⟨k,hk,hkn⟩:=qBm (v:=(r:Int)) (by omega) hn0
 have fx:=aI hH<|aI w1<|aI w0<|aI hn1<|aI hl1<|aI hpl<|aI hi1<|aI hi2<|aI hi1l<|aI hi2l<|aI hb1<|aI hb2<|aI hb1E<|aI hb2E<|aI wb1<|aI wb2<|aI w7<|aI w73<|aI hbl0<|aI hq<|aI wq<|aI w131<|aI w1117<|aI wa<|aI w29<|aI wb<|aI w53<|aI wX<|aI hY<|aI wY<|aI hr<|aI hn2<|hk
 refine qB ?_
 repeat ((first|refine wSc (id:=7) qNv qA ?_);refine qC ?_;refine qB ?_)
 clear fx
 refine qF [] .nil (by simp;rfl) ⟨k,by simp,.inr hkn,by simp [hH]⟩
theorem qUW (gl) (H:Nm→Option AO) (bs:List Int) (pos:Nat) (xs:List Int) (hb:BytesOk bs) (hpos:pos≤1000000) (hx:0<xs.length∧xs.length≤1000) (hH:H (.u 1 0 0)=some (rdO bs pos)) (hL:H (.u 2 0 0)=some (.row 1 (qJ xs))) :
  FnE Tryz.prog gl 78 D12 [.pt (.u 1 0 0) 0,.hs (.u 2 0 0) 1 0 xs.length] H (fun _ z H'=>∃ v,z=iv v∧v∈xs∧H' (.u 1 0 0)=some (rdO bs (pos+1))) noE:=by
 have hxl:=hx.2
 refine FnE.of_sem Tryz.func78 rfl (by kernel_rfl) (rs:=[.tmp 4]) rfl Tryz.ntmps78 (lB rfl) (fun _=>zM) fun C w g root hroot=>?_
 all_goals have fx:=fx0
 repeat' (first
  | refine qf ?_|refine qj fun K hK=>?_
  | ((with_reducible refine qc hK ?_);clear hK K)
  | (with_reducible first|refine qD ?_|refine qP ?_)
  | refine qw ?_
  | (with_reducible first|refine qO ?_|refine qG (h:=?_))
  | (with_reducible refine x_q (h:=?_))
  | fail)
 all_goals try clear fx
 have fx:=hxl
 refine qKS (.u 1 0 0) rfl (by simp [hH]) (hF:=qLC _ _ bs pos xs.length hb hpos (by omega) (by simp [hH])) (h:=?_)
 rintro z H1 ⟨k,rfl,hk,hk1⟩
 have hkl:k<xs.length:=by omega
 obtain⟨v,hv⟩:∃ v,xs[k]?=some v:=⟨_,gE hkl⟩
 obtain⟨_,hvE⟩:=gS hv
 clear fx
 have fx:=aI hL<|aI hkl<|aI hv<|hvE
 refine qB ?_
 clear fx
 refine qF [] .nil (by simp;rfl) ⟨v,by simp,gM hv,by simp [hk1]⟩
theorem uN (gl):qVN Tryz.prog gl 78:=fun H bs pos xs hb hp hx hH hL=>qUW gl H bs pos xs hb hp hx hH hL
theorem qPF (gl) (H:Nm→Option AO) (bs:List Int) (pos:Nat) (hb:BytesOk bs) (hpos:pos≤1000000) (hH:H (.u 1 0 0)=some (rdO bs pos)) (hV:H (.u 2 0 0)=none) :
  FnE Tryz.prog gl 179 (Nm.under (.u 1 0 0)) [.pt (.u 1 0 0) 0] H (fun _ z H'=>∃ v,z=iv v∧(0≤v∧v≤7)∧H' (.u 1 0 0)=some (rdO bs (pos+1))) noE:=by
 refine FnE.of_sem Tryz.func179 rfl (by kernel_rfl) (rs:=[.tmp 2]) rfl Tryz.ntmps179 (lB rfl) (fun _=>q9 rfl) fun C w g root hroot=>?_
 have fx:=fx0
 refine qB ?_
 clear fx
 first|show qK _ _ _ _ _|intro K hK
 refine uH (uN _) 4 [0,1,2,0,1,3,7] hb hpos (hV:=hV) (h0:=by simp) (h1:=by simp) (hH:=by simp [hH]) (hL:=by simp [qJ]) (h:=?_)
 intro v hv
 have hvR:0≤v∧v≤7:=by simp at hv;omega
 have fx:=fx0
 refine qB ?_
 clear fx
 refine qF [] .nil (by simp;rfl) ⟨v,by simp,hvR,by simp⟩
theorem yj (gl) (H:Nm→Option AO) (bs:List Int) (pos n:Nat) (hb:BytesOk bs) (hpos:pos≤1000000) (hn:n≤1000000) (hH:H (.u 1 0 0)=some (rdO bs pos)) :
  FnE Tryz.prog gl 79 (Nm.under (.u 1 0 0)) [.pt (.u 1 0 0) 0,iv n] H (qJB bs (fun k:Nat=>iv k) (fun k pos'=>(k=0∨k<n)∧pos'=pos+1)) noE :=
 FnE.mono (qLC gl H bs pos n hb hpos hn hH) (fun _ _ _ ⟨k,h1,h2,h3⟩=>⟨k,pos+1,h1,⟨h2,rfl⟩,h3⟩) (fun _ _ _ h=>h)
theorem yP (gl) (H:Nm→Option AO) (bs:List Int) (pos:Nat) (hb:BytesOk bs) (hpos:pos≤1000000) (hH:H (.u 1 0 0)=some (rdO bs pos)) (hV:H (.u 2 0 0)=none) :
  FnE Tryz.prog gl 179 (Nm.under (.u 1 0 0)) [.pt (.u 1 0 0) 0] H (qJB bs (fun v:Int=>iv v) (fun v pos'=>(0≤v∧v≤7)∧pos'=pos+1)) noE :=
 FnE.mono (qPF gl H bs pos hb hpos hH hV) (fun _ _ _ ⟨v,h1,h2,h3⟩=>⟨v,pos+1,h1,⟨h2,rfl⟩,h3⟩) (fun _ _ _ h=>h)
theorem qHG (gl) (H:Nm→Option AO) (bs:List Int) (pos:Nat) (kind:Int) (hb:BytesOk bs) (hpos:pos≤900000) (hH:H (.u 1 0 0)=some (rdO bs pos)) (hV:H (.u 2 0 0)=none) :
  FnE Tryz.prog gl 178 (Nm.under (.u 1 0 0)) [.pt (.u 1 0 0) 0,iv kind] H (qJB bs (fun s:Stm=>s.av) (fun s pos'=>(pos≤pos'∧pos'≤pos+8)∧TxtS s)) noE:=by
 refine FnE.of_sem Tryz.func178 rfl (by kernel_rfl) (rs:=[.cell 4 41]) rfl Tryz.ntmps178 (lB rfl) (fun _=>q9 rfl) fun C w g root hroot=>?_
 have fx:=fx0
 refine qB ?_
 clear fx
 first|show qK _ _ _ _ _|intro K hK
 refine uH (uN _) 7 [0,1,2,0,1,3] (bs:=bs) (pos:=pos) hb (by omega) (hV:=hV) (h0:=by simp) (h1:=by simp) (hH:=by simp [hH]) (hL:=by simp [qJ]) (h:=?_)
 intro to hto
 have htoR:0≤to∧to≤99:=by simp at hto;omega
 have fx:=fx0
 refine qB ?_
 clear fx
 first|show qK _ _ _ _ _|intro K hK
 refine qAj (hs:=by simp) (ha:=by first|(simp;done)|(simp;rfl)) (hF:=yj _ _ bs (pos+1) 12 hb (by omega) (by omega) (by simp)) (h:=?_)
 rintro k pk ⟨hk,rfl⟩
 have hk12:k<12:=by omega
 have hkc:k=0∨k=1∨k=2∨k=3∨k=4∨k=5∨k=6∨k=7∨k=8∨k=9∨k=10∨k=11:=by omega
 clear hk hk12
 rcases hkc with rfl|rfl|rfl|rfl|rfl|rfl|rfl|rfl|rfl|rfl|rfl|rfl
 ·skip
  have fx:=fx0
  refine qB ?_
  clear fx
  first|show qK _ _ _ _ _|intro K hK
  refine qAj (hs:=by simp) (ha:=by first|(simp;done)|(simp;rfl)) (hF:=yj _ _ bs (pos+1+1) 20 hb (by omega) (by omega) (by simp)) (h:=?_)
  rintro x px ⟨hx,rfl⟩
  have fx:=fx0
  refine qB ?_
  clear fx
  first|show qK _ _ _ _ _|intro K hK
  refine uH (uN _) 19 [(x:Int),99,5] (bs:=bs) (pos:=pos+1+1+1) hb (by omega) (hV:=hV) (h0:=by simp) (h1:=by simp) (hH:=by simp) (hL:=by simp [qJ]) (h:=?_)
  intro v hv
  have hvR:0≤v∧v≤99:=by simp at hv;omega
  have fx:=fx0
  refine qB ?_
  clear fx
  exact qF [] .nil (by simp;rfl) ⟨⟨0,to,v,0⟩,pos+1+1+1+1,by simp,⟨by omega,txS⟩,by simp⟩
 ·skip
  have fx:=fx0
  refine qB ?_
  clear fx
  first|show qK _ _ _ _ _|intro K hK
  refine qAj (hs:=by simp) (ha:=by first|(simp;done)|(simp;rfl)) (hF:=yj _ _ bs (pos+1+1) 20 hb (by omega) (by omega) (by simp)) (h:=?_)
  rintro x px ⟨hx,rfl⟩
  have fx:=fx0
  refine qB ?_
  clear fx
  first|show qK _ _ _ _ _|intro K hK
  refine uH (uN _) 19 [(x:Int),99,5] (bs:=bs) (pos:=pos+1+1+1) hb (by omega) (hV:=hV) (h0:=by simp) (h1:=by simp) (hH:=by simp) (hL:=by simp [qJ]) (h:=?_)
  intro v hv
  have hvR:0≤v∧v≤99:=by simp at hv;omega
  have fx:=fx0
  refine qB ?_
  clear fx
  exact qF [] .nil (by simp;rfl) ⟨⟨0,to,v,0⟩,pos+1+1+1+1,by simp,⟨by omega,txS⟩,by simp⟩
 ·skip
  have fx:=fx0
  refine qB ?_
  clear fx
  first|show qK _ _ _ _ _|intro K hK
  refine qAj (hs:=by simp) (ha:=by first|(simp;done)|(simp;rfl)) (hF:=yj _ _ bs (pos+1+1) 20 hb (by omega) (by omega) (by simp)) (h:=?_)
  rintro x px ⟨hx,rfl⟩
  have fx:=fx0
  refine qB ?_
  clear fx
  first|show qK _ _ _ _ _|intro K hK
  refine uH (uN _) 19 [(x:Int),99,5] (bs:=bs) (pos:=pos+1+1+1) hb (by omega) (hV:=hV) (h0:=by simp) (h1:=by simp) (hH:=by simp) (hL:=by simp [qJ]) (h:=?_)
  intro v hv
  have hvR:0≤v∧v≤99:=by simp at hv;omega
  have fx:=fx0
  refine qB ?_
  clear fx
  exact qF [] .nil (by simp;rfl) ⟨⟨0,to,v,0⟩,pos+1+1+1+1,by simp,⟨by omega,txS⟩,by simp⟩
 ·skip
  have fx:=fx0
  refine qB ?_
  clear fx
  first|show qK _ _ _ _ _|intro K hK
  refine qAj (hs:=by simp) (ha:=by first|(simp;done)|(simp;rfl)) (hF:=yP _ _ bs (pos+1+1) hb (by omega) (by simp) (by simp)) (h:=?_)
  rintro v pv ⟨hvR,rfl⟩
  have fx:=fx0
  refine qB ?_
  clear fx
  exact qF [] .nil (by simp;rfl) ⟨⟨1,to,v,0⟩,pos+1+1+1,by simp,⟨by omega,txS⟩,by simp⟩
 ·skip
  have fx:=fx0
  refine qB ?_
  clear fx
  first|show qK _ _ _ _ _|intro K hK
  refine qAj (hs:=by simp) (ha:=by first|(simp;done)|(simp;rfl)) (hF:=yP _ _ bs (pos+1+1) hb (by omega) (by simp) (by simp)) (h:=?_)
  rintro v pv ⟨hvR,rfl⟩
  have fx:=fx0
  refine qB ?_
  clear fx
  first|show qK _ _ _ _ _|intro K hK
  refine qAj (hs:=by simp) (ha:=by first|(simp;done)|(simp;rfl)) (hF:=yP _ _ bs (pos+1+1+1) hb (by omega) (by simp) (by simp)) (h:=?_)
  rintro w pw ⟨hwR,rfl⟩
  have fx:=fx0
  refine qB ?_
  clear fx
  exact qF [] .nil (by simp;rfl) ⟨⟨2,to,v,w⟩,pos+1+1+1+1,by simp,⟨by omega,txS⟩,by simp⟩
 ·skip
  have fx:=fx0
  refine qB ?_
  clear fx
  first|show qK _ _ _ _ _|intro K hK
  refine qAj (hs:=by simp) (ha:=by first|(simp;done)|(simp;rfl)) (hF:=yP _ _ bs (pos+1+1) hb (by omega) (by simp) (by simp)) (h:=?_)
  rintro v pv ⟨hvR,rfl⟩
  have fx:=fx0
  refine qB ?_
  clear fx
  exact qF [] .nil (by simp;rfl) ⟨⟨7,0,v,0⟩,pos+1+1+1,by simp,⟨by omega,txS⟩,by simp⟩
 ·skip
  have fx:=fx0
  refine qB ?_
  clear fx
  first|show qK _ _ _ _ _|intro K hK
  refine qAj (hs:=by simp) (ha:=by first|(simp;done)|(simp;rfl)) (hF:=yP _ _ bs (pos+1+1) hb (by omega) (by simp) (by simp)) (h:=?_)
  rintro v pv ⟨hvR,rfl⟩
  have fx:=fx0
  refine qB ?_
  clear fx
  exact qF [] .nil (by simp;rfl) ⟨⟨7,0,v,0⟩,pos+1+1+1,by simp,⟨by omega,txS⟩,by simp⟩
 ·skip
  have fx:=fx0
  refine qB ?_
  clear fx
  first|show qK _ _ _ _ _|intro K hK
  refine qAj (hs:=by simp) (ha:=by first|(simp;done)|(simp;rfl)) (hF:=yP _ _ bs (pos+1+1) hb (by omega) (by simp) (by simp)) (h:=?_)
  rintro v pv ⟨hvR,rfl⟩
  have fx:=fx0
  refine qB ?_
  clear fx
  first|show qK _ _ _ _ _|intro K hK
  refine uH (uN _) 48 [4,5,v] (bs:=bs) (pos:=pos+1+1+1) hb (by omega) (hV:=hV) (h0:=by simp) (h1:=by simp) (hH:=by simp) (hL:=by simp [qJ]) (h:=?_)
  intro x hx
  have hxR:0≤x∧x≤99:=by simp at hx;omega
  have fx:=fx0
  refine qB ?_
  clear fx
  first|show qK _ _ _ _ _|intro K hK
  refine qAj (hs:=by simp) (ha:=by first|(simp;done)|(simp;rfl)) (hF:=yP _ _ bs (pos+1+1+1+1) hb (by omega) (by simp) (by simp)) (h:=?_)
  rintro u pu ⟨huR,rfl⟩
  have fx:=fx0
  refine qB ?_
  clear fx
  first|show qK _ _ _ _ _|intro K hK
  refine uH (uN _) 53 [-1,-1,u] (bs:=bs) (pos:=pos+1+1+1+1+1) hb (by omega) (hV:=hV) (h0:=by simp) (h1:=by simp) (hH:=by simp) (hL:=by simp [qJ]) (h:=?_)
  intro y hy
  have hyR:(0≤y∧y≤99)∨y=-1:=by simp at hy;omega
  have fx:=fx0
  refine qB ?_
  clear fx
  exact qF [] .nil (by simp;rfl) ⟨⟨5,to,x,y⟩,pos+1+1+1+1+1+1,by simp,⟨by omega,txS⟩,by simp⟩
 ·skip
  have fx:=fx0
  refine qB ?_
  clear fx
  first|show qK _ _ _ _ _|intro K hK
  refine qAj (hs:=by simp) (ha:=by first|(simp;done)|(simp;rfl)) (hF:=yP _ _ bs (pos+1+1) hb (by omega) (by simp) (by simp)) (h:=?_)
  rintro v pv ⟨hvR,rfl⟩
  have fx:=fx0
  refine qB ?_
  clear fx
  exact qF [] .nil (by simp;rfl) ⟨⟨6,to,6,v⟩,pos+1+1+1,by simp,⟨by omega,txS⟩,by simp⟩
 ·by_cases hk0:kind=0
  ·subst hk0
   have fx:=fx0
   refine qB ?_
   clear fx
   first|show qK _ _ _ _ _|intro K hK
   refine qAj (hs:=by simp) (ha:=by first|(simp;done)|(simp;rfl)) (hF:=yP _ _ bs (pos+1+1) hb (by omega) (by simp) (by simp)) (h:=?_)
   rintro v pv ⟨hvR,rfl⟩
   have fx:=fx0
   refine qB ?_
   clear fx
   exact qF [] .nil (by simp;rfl) ⟨⟨7,0,v,0⟩,pos+1+1+1,by simp,⟨by omega,txS⟩,by simp⟩
  ·have hkn:(kind != 0)=true:=by simp [hk0]
   have fx:=aI hk0<|hkn
   refine qB ?_
   clear fx
   first|show qK _ _ _ _ _|intro K hK
   refine uH (uN _) 67 [9,10,10] (bs:=bs) (pos:=pos+1+1) hb (by omega) (hV:=hV) (h0:=by simp) (h1:=by simp) (hH:=by simp) (hL:=by simp [qJ]) (h:=?_)
   intro v hv
   have hvR:9≤v∧v≤10:=by simp at hv;omega
   have fx:=fx0
   refine qB ?_
   clear fx
   exact qF [] .nil (by simp;rfl) ⟨⟨v,to,0,0⟩,pos+1+1+1,by simp,⟨by omega,txS⟩,by simp⟩
 ·skip
  have fx:=fx0
  refine qB ?_
  clear fx
  first|show qK _ _ _ _ _|intro K hK
  refine qAj (hs:=by simp) (ha:=by first|(simp;done)|(simp;rfl)) (hF:=yj _ _ bs (pos+1+1) 3 hb (by omega) (by omega) (by simp)) (h:=?_)
  rintro x px ⟨hx,rfl⟩
  rcases Nat.eq_zero_or_pos x with rfl|hx0
  ·skip
   have fx:=fx0
   refine qB ?_
   clear fx
   exact qF [] .nil (by simp;rfl) ⟨⟨11,to,0,0⟩,pos+1+1+1,by simp,⟨by omega,txS⟩,by simp⟩
  ·have hxn:((x:Int)==0)=false:=by rw [beq_eq_false_iff_ne];omega
   have hxn2:¬ x=0:=by omega
   have fx:=aI hxn<|hxn2
   refine qB ?_
   clear fx
   first|show qK _ _ _ _ _|intro K hK
   refine qAj (hs:=by simp) (ha:=by first|(simp;done)|(simp;rfl)) (hF:=yP _ _ bs (pos+1+1+1) hb (by omega) (by simp) (by simp)) (h:=?_)
   rintro v pv ⟨hvR,rfl⟩
   have fx:=fx0
   refine qB ?_
   clear fx
   exact qF [] .nil (by simp;rfl) ⟨⟨7,0,v,0⟩,pos+1+1+1+1,by simp,⟨by omega,txS⟩,by simp⟩
 ·skip
  have fx:=fx0
  refine qB ?_
  clear fx
  first|show qK _ _ _ _ _|intro K hK
  refine qAj (hs:=by simp) (ha:=by first|(simp;done)|(simp;rfl)) (hF:=yP _ _ bs (pos+1+1) hb (by omega) (by simp) (by simp)) (h:=?_)
  rintro v pv ⟨hvR,rfl⟩
  have fx:=fx0
  refine qB ?_
  clear fx
  exact qF [] .nil (by simp;rfl) ⟨⟨7,0,v,0⟩,pos+1+1+1,by simp,⟨by omega,txS⟩,by simp⟩
end Go.Proofs.YtbgmnmnoaamgkaaGreatDoor
end
