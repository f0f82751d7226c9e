/-
  Own texts, joined by mkclaim.py: Zk, Zx, Zl, Qb, Qc, Qd, Qe, Qf, Qm, Qg, Qh, Qi, Qj, Qk, Ql, Qn, Zr, Hn, La.
-/
import Derived.Test.YtbgmnmnoaamgkaaGreatDoorC30
import Derived.Test.YtbgmnmnoaamgkaaGreatDoorC24
import Derived.Test.YtbgmnmnoaamgkaaGreatDoorC14
import Derived.Test.YtbgmnmnoaamgkaaGreatDoorC32
import Derived.Test.YtbgmnmnoaamgkaaGreatDoorC31
import Derived.Test.YtbgmnmnoaamgkaaGreatDoorC26
import Derived.Test.YtbgmnmnoaamgkaaGreatDoorC18
import Derived.Test.YtbgmnmnoaamgkaaGreatDoorC15
import Derived.Test.YtbgmnmnoaamgkaaGreatDoorC25
import Derived.Test.YtbgmnmnoaamgkaaGreatDoorC29
import Derived.Test.YtbgmnmnoaamgkaaGreatDoorC17
import Derived.Test.YtbgmnmnoaamgkaaGreatDoorC12
import Derived.Test.YtbgmnmnoaamgkaaGreatDoorC27
import Derived.Test.YtbgmnmnoaamgkaaGreatDoorC10
set_option linter.unusedSimpArgs false
set_option linter.unusedVariables false
set_option maxRecDepth 100000
set_option maxHeartbeats 4000000

section
namespace Go.Proofs.YtbgmnmnoaamgkaaGreatDoor
open Go Go.Hm Go.Proofs
theorem qDP (gl) (p:Prg) (b:Nat) (k:Blk) (hk:p[b]?=some k) (hP:ShapeP p):qW Tryz.prog gl 74 [pav p,qAC p,iv b] (fun r y H'=>y=.hs r 1 0 (zL p b).length∧H' r=some (.row 1 (qY (zL p b)))):=by
 have hbl:=(gS hk).1
 obtain⟨_,hkE⟩:=gS hk
 have hlen:=hP.len
 have hf8:=jS (p:=p) (b:=b)
 have hcl:=ug (p:=p) (b:=b)
 have hcl2:(zL p b).length=(q9 p b).length:=by simp [zL]
 have hfr:=qBC gl p hP b hbl
 refine qW.of_sem Tryz.func74 rfl (by kernel_rfl) (rs:=[.tmp 6]) rfl Tryz.ntmps74 (lB rfl) fun C w g root=>?_
 have fx:=fx0
 have d1:=hfr
 refine qB ?_
 clear fx d1
 refine q7 (fun n st=>∃ i:Nat,n=(q9 p b).length - i∧i≤(q9 p b).length∧st.tm 1=qAC p∧st.tm 2=iv b∧st.tm 3=.pt (.s 3) 0∧st.hp (.s 3)=some (.row 1 [[ksl p]])∧st.tm 7=.hs (.s 7) 1 0 i∧st.hp (.s 7)=some (.row 1 (qY ((zL p b).take i)))∧st.tm 12=.hs (.s 12) 1 0 (q9 p b).length∧st.hp (.s 12)=some (.row 1 (qY (q9 p b)))∧st.tm 13=iv (q9 p b).length∧st.tm 14=iv i) (q9 p b).length ?_ ?_
 ·exact⟨0,by omega,by omega,by simp,by simp,by simp,by simp,by simp,by simp,by simp,by simp,by simp,by simp⟩
 rintro n st - - ⟨i,rfl,hi,t1,t2,t3,p3,t7,p7,t12,p12,t13,t14⟩
 by_cases hil:i<(q9 p b).length
 ·obtain⟨x,hx⟩:∃ x,(q9 p b)[i]?=some x:=⟨_,gE hil⟩
  obtain⟨_,hxE⟩:=gS hx
  have hb0:=qA3 (gM hx)
  obtain⟨h1,h2,h3⟩:=hP.heads b k hk
  have h4:=h3 hb0
  obtain⟨c,hc⟩:∃ c:Nat,k.parent=c:=⟨k.parent.toNat,by omega⟩
  obtain⟨kc,hkc⟩:∃ kc,p[c]?=some kc:=⟨_,gE (by omega)⟩
  have hpa:uD p b=c:=by simp [uD,hk,hc]
  have hx8:∃ a:Nat,x=a∧a<8:=by
   have hm:=gM hx
   obtain⟨-,hm0,hm7⟩:=Hm.mem_sorted.1 (show x∈Hm.sorted (zo p b (p.length - b)) from hm)
   exact⟨x.toNat,by omega,by omega⟩
  obtain⟨a,rfl,ha8⟩:=hx8
  have hcp:=yx gl p hP c kc hkc a ha8
  have htl:((zL p b).take i).length=i:=by simp [zL];omega
  have hi8:i≤8:=by omega
  have fx:=aI t1<|aI t2<|aI t3<|aI p3<|aI t7<|aI p7<|aI t12<|aI p12<|aI t13<|aI t14<|aI hil<|aI hk<|aI hkE<|aI hbl<|aI hc<|aI hx<|aI hxE<|aI htl<|hi8
  have c1:=hcp
  refine qB ?_
  clear fx c1
  have e1:(zL p b).take (i+1)=(zL p b).take i++[vZ p c a]:=by
   rw [List.take_add_one]
   simp [zL,hx,hpa]
  have e2:qY ((zL p b).take i)++[[iv (vZ p c a)]]=qY ((zL p b).take (i+1)):=by rw [e1];simp [qY]
  refine⟨(q9 p b).length - (i+1),by omega,i+1,rfl,by omega,by simp [t1],by simp [t2],by simp [t3],by simp [p3],by simp,?_,by simp [t12],by simp [p12],by simp [t13],by simp [t14];exact wrp (by omega) (by omega)⟩
  simp [← e2]
  rw [List.take_of_length_le (by simp;omega)]
 ·obtain rfl:i=(q9 p b).length:=by omega
  have htk:(zL p b).take (q9 p b).length=zL p b:=List.take_of_length_le (by omega)
  rw [htk] at p7
  have fx:=aI t1<|aI t2<|aI t3<|aI p3<|aI t7<|aI p7<|aI t12<|aI p12<|aI t13<|t14
  refine qB ?_
  clear fx
  exact zZ (t:=6) (by first|(simp [t7,p7,hcl2];done)|(simp [t7,p7,hcl2];rfl)) (by first|(simp [t7,p7,hcl2];done)|(simp [t7,p7,hcl2];rfl)) (by simp)
theorem qFA (gl) (p:Prg) (b:Nat) (k:Blk) (hk:p[b]?=some k) (hP:ShapeP p):qW Tryz.prog gl 74 [pav p,qAC p,iv b] (fun _ y _=>y=isl (zL p b)) :=
 (qDP gl p b k hk hP).settle fun r y H' hr=>⟨isl (zL p b),by rw [hr.1];exact jF hr.2 rfl,rfl⟩
abbrev qKo:Sch:=.q 0<|.q 1<|.q 2<|.q 3<|.q 4<|.q 5<|.q 6<|.q 7<|.l 8 [4,3,2,1,0]<|.l 9 [4,3,2,1,0]<|.l 10 [0]<|.q 11<|.q 12<|.l 13 []<|.done
theorem qL3:∃ l,ju Tryz.prog 86=some l∧l.length=4415∧(l.map AV.sc).take 32=[.sc (.slice none 0 0),.sc (.slice none 0 0),iv 0,iv 0,.sc (.slice none 0 0),.sc (.slice none 0 0)]++(vR qm++[.sc (.slice none 0 0),.sc (.slice none 0 0)])∧(l.map AV.sc).drop 4411=[iv 0,iv 0,iv 0,iv 0]∧l.all Value.oneCell'=true:=by
 have h:(ju Tryz.prog 86).isSome=true:=by kernel_rfl
 have h1:(ju Tryz.prog 86).map List.length=some 4415:=by kernel_rfl
 have h2:(ju Tryz.prog 86).map (fun l=>(l.map AV.sc).take 32)=some ([.sc (.slice none 0 0),.sc (.slice none 0 0),iv 0,iv 0,.sc (.slice none 0 0),.sc (.slice none 0 0)]++(vR qm++[.sc (.slice none 0 0),.sc (.slice none 0 0)])):=by kernel_rfl
 have h3:(ju Tryz.prog 86).map (fun l=>(l.map AV.sc).drop 4411)=some [iv 0,iv 0,iv 0,iv 0]:=by kernel_rfl
 have h4:(ju Tryz.prog 86).map (fun l=>l.all Value.oneCell')=some true:=by kernel_rfl
 obtain⟨l,hl⟩:=Option.isSome_iff_exists.1 h
 rw [hl] at h1 h2 h3 h4
 exact⟨l,hl,sI h1,sI h2,sI h3,sI h4⟩
theorem qRT:∀ k,(k=1∨k=4)→(tce Tryz.prog 86).getD k 0=1:=by
 rintro k (rfl|rfl) <;> kernel_rfl
theorem qRS:∀ k,(k=5∨k=30)→(tce Tryz.prog 86).getD k 0=2:=by
 rintro k (rfl|rfl) <;> kernel_rfl
theorem qOY:(tce Tryz.prog 86).getD 31 0=24:=by kernel_rfl
theorem qRR:yr Tryz.prog 86=true:=by kernel_rfl
theorem qKg (gl) (p:Prg) (hP:ShapeP p):qW Tryz.prog gl 50 [pav p] (fun _ y _=>y=qAC p) :=
 (qCF gl p hP.sml hP.heads hP.names).settle fun r y H' hr=>⟨qAC p,by rw [hr.1];exact qAa hr.2 hP.heads rfl,rfl⟩
theorem qEw (gl:Nat→Option (List AV)) (hgl:gl 0=some uM) (p:Prg) (hP:ShapeP p):qW Tryz.prog gl 73 [pav p,qAC p] (fun _ y _=>y=csl (qf p p.length)) :=
 (qA1 gl hgl p hP).settle fun r y H' hr=>⟨csl (qf p p.length),by rw [hr.1];exact ym hr.2 rfl,rfl⟩
theorem uH (gl:Nat→Option (List AV)) (hgl:gl 0=some uM) (H:Nm→Option AO) (p:Prg) (n:Nat) (hP:ValP p) (hn:n≤150) (hN:∀ k i j,H (.u k i j)=none) :
  FnE Tryz.prog gl 44 DM [pav p,iv n] H (fun _ y H'=>y=.pt Yn 0∧∃ fr,OwnY H' p { uZ p n with frames:=fr }) noE:=by
 have hp7:=hP.sh.len
 have hsc:=qKg gl p hP.sh
 have hca:=qEw gl hgl p hP.sh
 obtain⟨l,z1,z2,z3,z4,z5⟩:=qL3
 have hbl:=qMP (a:=csl (qf p p.length)) (b:=iv n) (c:=iv 0) qRR z1 z2 qKX qKW qKV qSx qWF qWF rfl rfl rfl
 have hzl:(l.map AV.sc).length=4415:=by simpa using z2
 refine FnE.of_sem Tryz.func44 rfl (by kernel_rfl) (rs:=[.tmp 4]) rfl Tryz.ntmps44 (lB rfl) (fun _=>qQ) fun C w g root hroot=>?_
 have fx:=fx0
 have p1:=hsc
 have p2:=hca
 refine qBU ?_
 repeat ((first|refine wSc (id:=6) qKo qA ?_);refine qEk ?_;refine qBU ?_)
 clear fx p1 p2
 intro K hK
 obtain⟨Cs,hCs⟩:∃ Cs,Cs=spl (spl (spl (l.map AV.sc) 0 [csl (qf p p.length)]) 2 [iv n]) 3 [iv 0]:=⟨_,rfl⟩
 rw [← hCs] at hbl
 have hCl:Cs.length=4415:=by
  rw [hCs]
  simp [spl,hzl]
 have hCm:∀ y∈Cs,(∃ v,y=.sc v∧v.oneCell'=true)∨y=csl (qf p p.length):=by
  intro y hy
  rw [hCs] at hy
  have hz:∀ y∈l.map AV.sc,∃ v,y=.sc v∧v.oneCell'=true:=fun y hy=>by
   obtain⟨v,hv,rfl⟩:=List.mem_map.1 hy
   exact⟨v,rfl,List.all_eq_true.1 z5 v hv⟩
  have key:∀ (L:List AV) (k:Nat) (a y:AV),y∈spl L k [a]→y=a∨y∈L:=fun L k a y h=>by
   simp only [spl,List.append_assoc,List.mem_append,List.mem_singleton] at h
   rcases h with h|h|h
   ·exact .inr (List.mem_of_mem_take h)
   ·exact .inl h
   ·exact .inr (List.mem_of_mem_drop h)
  rcases key _ _ _ _ hy with rfl|hy
  ·exact .inl ⟨_,rfl,rfl⟩
  ·rcases key _ _ _ _ hy with rfl|hy
   ·exact .inl ⟨_,rfl,rfl⟩
   ·rcases key _ _ _ _ hy with rfl|hy
    ·exact .inr rfl
    ·exact .inl (hz y hy)
 have hCo:Cs.all AV.one=true:=List.all_eq_true.2 fun y hy=>by
  rcases hCm y hy with⟨v,rfl,hv⟩|rfl
  ·exact hv
  ·rfl
 have hCk:∀ y∈Cs,(∃ v,y=.sc v)∨∃ z rows,y=.sl z rows∧y.tr (kl (.s 15))=y:=fun y hy=>by
  rcases hCm y hy with⟨v,rfl,hv⟩|rfl
  ·exact .inl ⟨v,rfl⟩
  ·exact .inr ⟨_,_,rfl,by simp⟩
 have hns:∀ st:St,(St.setNils (zA (Nm.c (.s 15) 0) (tce Tryz.prog 86) 0 Cs) st).hp (.s 2)=st.hp (.s 2):=fun st=>by rw [wa,qC4 fun a e=>by cases e]
 refine x_q (z:=.agg Cs) (by simp) hbl ?_
 refine qG ?_
 refine j6 (.s 15) Yn (.inl rfl) (.inr (by simp [ue,hN])) ?_
 refine qSc (cs:=Cs) (by simp) (by simp [AV.cells,hCo]) 4415 hCl qSw hCk ?_
 refine qKh (fun s=>s.tm 2=.pt (.s 2) 0∧s.hp (.s 2)=some (.row 1 [[ksl p]])∧s.tm 5=qAC p∧s.tm 15=.pt Yn 0∧PreY s.hp p n 0) ⟨by simp [ky],by simp [hns],by simp [ky],by simp,?_⟩ ?_
 ·rw [hCs]
  exact qKz hzl z3 z4 qRT qRS qOY fun k i j hk=>by simp [hN]
 rintro s ⟨t2,p2,t5,t15,hX⟩
 have fx:=aI t2<|aI p2<|aI t5<|t15
 refine qB ?_
 repeat ((first|refine wSc (id:=6) qKo qA ?_);refine qD ?_;refine qB ?_)
 clear fx
 refine q7 (fun k s=>∃ b:Nat,k=p.length - b∧b≤p.length∧s.tm 2=.pt (.s 2) 0∧s.hp (.s 2)=some (.row 1 [[ksl p]])∧s.tm 5=qAC p∧s.tm 6=.pt Yn 0∧s.tm 18=iv p.length∧s.tm 19=iv b∧PreY s.hp p n b) p.length ?_ ?_
 ·exact⟨0,by omega,by omega,by simp [t2],by simp [p2],by simp [t5],by simp [t15],by simp,by simp,hX⟩
 clear t2 p2 t5 t15 hX
 rintro k s - - ⟨b,rfl,hb,t2,p2,t5,t6,t18,t19,hX⟩
 obtain⟨R,hT,hRl,r1⟩:=hX.row
 obtain⟨_,r1E⟩:=gS r1
 have hcp:=hX.caps
 by_cases hil:b<p.length
 ·obtain⟨kk,hk⟩:∃ k,p[b]?=some k:=⟨_,gE hil⟩
  have hcf:=qFA gl p b kk hk hP.sh
  have hb7:b≤7:=by omega
  have fx:=aI t2<|aI p2<|aI t5<|aI t6<|aI t18<|aI t19<|aI hil<|aI hT<|aI hRl<|aI r1<|aI r1E<|aI hcp<|hb7
  have p1:=hcf
  refine qBU ?_
  repeat ((first|refine wSc (id:=6) qKo qA ?_);refine qEk ?_;refine qBU ?_)
  clear fx p1
  have htk:(jd p b).take b=jd p b:=List.take_of_length_le (by simp)
  have hap:jd p b++[[isl (zL p b)]]=jd p (b+1):=qJv
  exact⟨p.length - (b+1),by omega,b+1,rfl,by omega,by simp [t2],by simp [p2],by simp [t5],by simp [t6],by simp [t18],by simp [t19];exact wrp (by omega) (by omega),(have h:=hX;PreY.step h hT (by simp;rfl) (by simp only [kD];exact⟨_,fun j hj=>by simp [hj],rfl⟩) (by simp [← hap,htk]))⟩
 ·obtain rfl:b=p.length:=by omega
  have hO:=hX.own
  have fx:=aI t2<|aI p2<|aI t5<|aI t6<|aI t18<|t19
  refine qB ?_
  repeat ((first|refine wSc (id:=6) qKo qA ?_);refine qD ?_;refine qB ?_)
  clear fx
  intro K hK
  have fx:=t6
  refine qDT (fun k i j he=>by simp [ue,hN] at he) (hF:=qP8 gl _ p n hP hn (by simp [fM9]) hO.sub) (h:=?_)
  rintro y H1 ⟨fr,hO1⟩
  clear fx
  have fx:=aI t6<|hT
  refine qB ?_
  repeat ((first|refine wSc (id:=6) qKo qA ?_);refine qD ?_;refine qB ?_)
  clear fx
  refine qH [] .nil (by simp;rfl) ⟨by simp,fr,OwnY.fin (have h:=hO1;OwnY.re h)⟩
end Go.Proofs.YtbgmnmnoaamgkaaGreatDoor
end
section
namespace Go.Proofs.YtbgmnmnoaamgkaaGreatDoor
open Go Go.Hm Go.Proofs
abbrev qOA:Sch:=.q 0<|.q 1<|.q 2<|.q 3<|.q 4<|.q 5<|.q 6<|.q 7<|.q 8<|.q 9<|.q 10<|.q 11<|.q 12<|.q 13<|.l 14 []<|.done
theorem qAH {xs:List Int} {i:Nat} {v:Int} (h:i<xs.length):(xs.set i v).take (i+1)=xs.take i++[v]:=by
 rw [List.take_add_one,List.take_set_of_le (Nat.le_refl _)]
 simp [h]
theorem qIt (gl) (H:Nm→Option AO) (p:Prg) (m:Mch) (hg8:m.globals.length=8) (hol:m.out.length≤1000) (hO:OwnY H p m) :
  FnE Tryz.prog gl 55 DM [.pt Yn 0] H (fun r y H'=>y=.agg ((⟨m.out,m.en,m.left,ye m.globals⟩:Rsl).own r)∧OwnR H' r ⟨m.out,m.en,m.left,ye m.globals⟩) noE:=by
 have hrow:∃ R:List AV,H Yn=some (.row 4415 [R])∧R.length=4415∧(R.drop 6).take 24=vR m.globals:=by
  obtain⟨J,hJ,e⟩:=hO.top
  exact⟨_,e,yN (j8 hJ),qPb⟩
 obtain⟨R,hT,hRl,rtb⟩:=hrow
 refine FnE.of_sem Tryz.func55 rfl (by kernel_rfl) (rs:=[.cell 2 53]) rfl Tryz.ntmps55 (lB rfl) (fun _=>qQ) fun C w g root hroot=>?_
 have hr0:DM root=false:=hroot root (Nm.under_self _)
 have fx:=aI hT<|aI hRl<|rtb
 refine qB ?_
 repeat ((first|refine wSc (id:=9) qOA qA ?_);refine qD ?_;refine qB ?_)
 clear fx
 have hmt:∀ F,((R.map (AV.tr F)).drop 6).take 24=vR m.globals:=fun F=>by rw [← List.map_drop,← List.map_take,rtb,kA]
 refine q7 (fun n st=>∃ (i:Nat) (xs:List Int),n=8 - i∧i≤8∧xs.length=8∧xs.take i=ye (m.globals.take i)∧st.tm 0=.pt Yn 0∧st.tm 2=.pt (.s 2) 0∧st.hp (.s 2)=some (.row 4 [[.hs (.c (.s 2) 0 0) 1 0 0,iv 0,iv 0,.hs (.c (.s 2) 0 3) 1 0 0]])∧st.tm 3=.hs (.s 3) 1 0 8∧st.hp (.s 3)=some (.row 1 (qY xs))∧st.tm 10=.agg (vR m.globals)∧st.tm 11=iv i∧OwnY st.hp p m) 8 ?_ ?_
 ·exact⟨0,List.replicate 8 0,by omega,by omega,by simp,by simp [ye],by simp,by simp,by simp,by simp,by simp [qY],by simp [kD,hmt],by simp,(by repeat (first|(with_reducible exact hO)|refine vE ?_|refine jl (by rfl) ?_|refine jn ?_|refine ya ?_|refine jm ?_|refine vF ?_|exact (have h:=hO;OwnY.re h)))⟩
 clear hT hRl rtb hmt hO
 rintro n st - - ⟨i,xs,rfl,hi,hxl,hxs,t0,t2,hp2,t3,hp3,t10,t11,hO⟩
 by_cases hil:i<8
 ·obtain⟨s,hs⟩:∃ s,m.globals[i]?=some s:=⟨_,gE (by omega)⟩
  have hsa:yt m.globals i=s:=by simp [yt,hs]
  have hfl:((vR m.globals).drop (i * 3)).take 3=zu s:=by rw [Nat.mul_comm,← hsa];exact qIe hil
  have htk:ye (m.globals.take (i+1))=ye (m.globals.take i)++[match s with|some v=>Hm.shown v|none=>-9]:=by
   rw [List.take_add_one,hs]
   cases s <;> simp [ye]
  have hi8:(i:Int)<8:=by omega
  have hi24:i * 3+3≤24:=by omega
  have hfn8:(vR m.globals).length=24:=qIc
  cases s with
  | none =>
   simp only [vf] at hfl
   have fx:=aI t0<|aI t2<|aI hp2<|aI t3<|aI hp3<|aI t10<|aI t11<|aI hi8<|aI hil<|aI hxl<|aI hfl<|aI hi24<|hfn8
   refine qB ?_
   repeat ((first|refine wSc (id:=9) qOA qA ?_);refine qD ?_;refine qB ?_)
   clear fx
   exact⟨8 - (i+1),by omega,i+1,xs.set i (-9),rfl,by omega,by simp [hxl],by rw [htk,← hxs,qAH (by omega)],by simp [t0],by simp [t2],by simp [hp2],by simp [t3],by simp [hp3],by simp [t10],by simp [t11];exact wrp (by omega) (by omega),(by repeat (first|(with_reducible exact hO)|refine vE ?_|refine jl (by rfl) ?_|refine jn ?_|refine ya ?_|refine jm ?_|refine vF ?_|exact (have h:=hO;OwnY.re h)))⟩
  | some v =>
   have hsh:=kj gl v
   obtain⟨v1,v2⟩:=v
   simp only [ve] at hfl
   have fx:=aI t0<|aI t2<|aI hp2<|aI t3<|aI hp3<|aI t10<|aI t11<|aI hi8<|aI hil<|aI hxl<|aI hfl<|aI hi24<|hfn8
   have c1:=hsh
   refine qB ?_
   repeat ((first|refine wSc (id:=9) qOA qA ?_);refine qD ?_;refine qB ?_)
   clear fx c1
   exact⟨8 - (i+1),by omega,i+1,xs.set i (Hm.shown (v1,v2)),rfl,by omega,by simp [hxl],by rw [htk,← hxs,qAH (by omega)],by simp [t0],by simp [t2],by simp [hp2],by simp [t3],by simp [hp3],by simp [t10],by simp [t11];exact wrp (by omega) (by omega),(by repeat (first|(with_reducible exact hO)|refine vE ?_|refine jl (by rfl) ?_|refine jn ?_|refine ya ?_|refine jm ?_|refine vF ?_|exact (have h:=hO;OwnY.re h)))⟩
 ·have hge:i=8:=by omega
  subst hge
  have hxe:xs=ye m.globals:=by
   rw [List.take_of_length_le (by omega),List.take_of_length_le (by omega)] at hxs
   exact hxs
  have hrow:∃ R:List AV,st.hp Yn=some (.row 4415 [R])∧R.length=4415∧R[2]?=some (iv m.left)∧R[3]?=some (iv m.en)∧R[4]?=some (.hs (.c Yn 0 4) 1 0 m.out.length):=by
   obtain⟨J,hJ,e⟩:=hO.top
   exact⟨_,e,yN (j8 hJ),qPH,qPG,qPF⟩
  obtain⟨R,hT,hRl,r2,r3,r4⟩:=hrow
  obtain⟨_,r2E⟩:=gS r2
  obtain⟨_,r3E⟩:=gS r3
  obtain⟨_,r4E⟩:=gS r4
  have hU:=hO.out
  have hsl:(ye m.globals).length=8:=by rw [← hxe];exact hxl
  have h88:¬ (8:Int)<8:=by omega
  refine qSd (.c Yn 0 4) (.s 1) (.inl rfl) (.inl rfl) ?_
  have fx:=aI t0<|aI t2<|aI hp2<|aI t3<|aI hp3<|aI t10<|aI t11<|aI h88<|aI hT<|aI hU<|aI hRl<|aI r2<|aI r3<|aI r4<|aI r2E<|aI r3E<|r4E
  refine qB ?_
  repeat ((first|refine wSc (id:=9) qOA qA ?_);refine qD ?_;refine qB ?_)
  clear fx
  refine qH [(.s 2,root)] (.one rfl) (by simp [t2];rfl) ⟨by simp [hsl],⟨by simp [hU,hr0],by simp [hp3,hxe,hr0]⟩⟩
end Go.Proofs.YtbgmnmnoaamgkaaGreatDoor
end
section

end
section

end
section

end
section

end
section

end
section

end
section

end
section

end
section

end
section

end
section

end
section

end
section
namespace Go.Proofs.YtbgmnmnoaamgkaaGreatDoor
open Go Go.Hm Go.Proofs
theorem vN (gl) (f:Int):qW Tryz.prog gl 43 [iv f] (fun _ y _=>y=bv (decide (0≤f)&&decide (f≤150))):=by
 refine qW.of_sem Tryz.func43 rfl (by kernel_rfl) (rs:=[.tmp 2]) rfl Tryz.ntmps43 (lB rfl) fun C w g root=>?_
 by_cases h1:0≤f
 ·by_cases h2:f≤150
  ·skip
   have fx:=aI h1<|h2
   refine qB ?_
   clear fx
   refine qH [] .nil (by simp;rfl) (by simp [h1,h2])
  ·skip
   have fx:=aI h1<|h2
   refine qB ?_
   clear fx
   refine qH [] .nil (by simp;rfl) (by simp [h1,h2])
 ·skip
  have fx:= h1
  refine qB ?_
  clear fx
  refine qH [] .nil (by simp;rfl) (by simp [h1])
abbrev qNz:Sch:=.q 0<|.q 1<|.q 2<|.q 3<|.q 4<|.q 5<|.q 6<|.q 7<|.l 8 [7,6,5,4]<|.l 9 []<|.done
theorem qCk (gl:Nat→Option (List AV)) (hgl:gl 0=some uM) (p:Prg) (f:Int) (hs:Sml p):qW Tryz.prog gl 28 [pav p,iv f] (fun r y H'=>y=.agg ((qFJ p f).own r)∧OwnR H' r (qFJ p f)):=by
 refine qW.of_sem Tryz.func28 rfl (by kernel_rfl) (rs:=[.cell 4 53]) rfl Tryz.ntmps28 (lB rfl) fun C w g root=>?_
 cases hv0:yq p
 ·have hv:zr p f=false:=by simp [zr,hv0]
  have hG:qFJ p f=⟨[],0,0,[]⟩:=by simp [qFJ,hv]
  rw [hG]
  have fx:= hv0
  have c1:=hv0 ▸ qe gl p hs
  refine qB ?_
  clear fx c1
  refine qH [(.s 4,root)] (.one rfl) (by simp;rfl) ⟨by simp,⟨by simp,by simp⟩⟩
 cases hv:zr p f
 ·have hf:(decide (0≤f)&&decide (f≤150))=false:=by simpa [zr,hv0] using hv
  have hG:qFJ p f=⟨[],0,0,[]⟩:=by simp [qFJ,hv]
  rw [hG]
  have fx:=aI hv0<|hf
  have c1:=hv0 ▸ qe gl p hs
  have c2:=hf ▸ vN gl f
  refine qB ?_
  clear fx c1 c2
  refine qH [(.s 4,root)] (.one rfl) (by simp;rfl) ⟨by simp,⟨by simp,by simp⟩⟩
 ·obtain⟨hpo,n,rfl,hn⟩:=yK hv
  have hP:=ValP.of hs hpo
  have hf:(decide (0≤(n:Int))&&decide ((n:Int)≤150))=true:=by simpa [zr,hv0] using hv
  obtain⟨hb1,hb2,hgl8⟩:=wS (n:=n) hP hn
  have hG:qFJ p n=qPO (uZ p n):=by simp [qFJ,hv]
  rw [hG]
  have hrs:(⟨(uZ p n).out,(uZ p n).en,(uZ p n).left,ye (uZ p n).globals⟩:Rsl)=qPO (uZ p n):=rfl
  have fx:=aI hv0<|hf
  have c1:=hv0 ▸ qe gl p hs
  have c2:=hf ▸ vN gl n
  refine qB ?_
  clear fx c1 c2
  intro K hK
  have fx:=fx0
  refine qDT (fun k i j he=>by simp [ue,noH] at he) (hF:=uH gl hgl _ p n hP hn (by simp [noH])) (h:=?_)
  rintro y H1 ⟨rfl,fr,hO1⟩
  clear fx
  have hrf:=fun H hO=>qIt gl H p { uZ p n with frames:=fr } hgl8 (by simp only;omega) hO
  simp only [hrs] at hrf
  have fx:=fx0
  refine qB ?_
  clear fx
  have fx:=fx0
  refine j6 (.c (.s 17) 0 0) (.s 1) (.inl rfl) (.inl rfl) ?_
  refine j6 (.c (.s 17) 0 3) (.s 3) (.inl rfl) (.inl rfl) ?_
  refine qDT (fun k i j he=>by simp [ue,noH] at he) (hF:=hrf _ (have h:=hO1;OwnY.re h)) (h:=?_)
  rintro y H2 ⟨rfl,hR2⟩
  clear fx
  have r1:=hR2.out
  have r2:=hR2.gl
  have fx:=aI r1<|r2
  refine qB ?_
  clear fx
  refine qH [(.s 4,root)] (.one rfl) (by simp;rfl) ⟨by simp,⟨by simp [r1],by simp [r2]⟩⟩
theorem wn (gl:Nat→Option (List AV)) (hgl:gl 0=some uM) (p:Prg) (f:Int) (hs:Sml p):qW Tryz.prog gl 19 [pav p,iv f] (fun r y H'=>y=.hs r 2 0 (qHr p f).length∧H' r=some (.row 2 (yI (qHr p f)))):=by
 refine qW.of_sem Tryz.func19 rfl (by kernel_rfl) (rs:=[.tmp 4]) rfl Tryz.ntmps19 (lB rfl) fun C w g root=>?_
 cases hv0:yq p
 ·have hv:zr p f=false:=by simp [zr,hv0]
  have fx:= hv0
  have c1:=hv0 ▸ qe gl p hs
  refine qB ?_
  clear fx c1
  refine qH [(.s 4,root)] (.one rfl) (by simp;rfl) (by simp [qHr,hv])
 cases hv:zr p f
 ·have hf:(decide (0≤f)&&decide (f≤150))=false:=by simpa [zr,hv0] using hv
  have fx:=aI hv0<|hf
  have c1:=hv0 ▸ qe gl p hs
  have c2:=hf ▸ vN gl f
  refine qB ?_
  clear fx c1 c2
  refine qH [(.s 4,root)] (.one rfl) (by simp;rfl) (by simp [qHr,hv])
 ·obtain⟨hpo,n,rfl,hn⟩:=yK hv
  have hP:=ValP.of hs hpo
  have hf:(decide (0≤(n:Int))&&decide ((n:Int)≤150))=true:=by simpa [zr,hv0] using hv
  obtain⟨hb1,hb2,hgl8⟩:=wS (n:=n) hP hn
  have hol':(uZ p n).trace.length≤1000:=by omega
  have hG:qHr p n=(uZ p n).trace:=by simp [qHr,hv]
  rw [hG]
  have fx:=aI hv0<|hf
  have c1:=hv0 ▸ qe gl p hs
  have c2:=hf ▸ vN gl n
  refine qB ?_
  clear fx c1 c2
  intro K hK
  have fx:=fx0
  refine j6 (.c Yn 0 5) (.s 15) (.inl rfl) (.inl rfl) ?_
  refine qDT (fun k i j he=>by simp [ue,noH] at he) (hF:=uH gl hgl _ p n hP hn (by simp [noH])) (h:=?_)
  rintro y H1 ⟨rfl,fr,hO1⟩
  clear fx
  obtain⟨R,hT,hRl,r5⟩:∃ R,H1 Yn=some (.row 4415 [R])∧R.length=4415∧R[5]?=some (.hs (.c Yn 0 5) 2 0 (uZ p n).trace.length):=by
   obtain⟨J,hJ,e⟩:=hO1.top
   exact⟨_,e,yN (j8 hJ),qPE⟩
  obtain⟨_,r5E⟩:=gS r5
  have hTr:H1 (.c Yn 0 5)=some (.row 2 (yI (uZ p n).trace)):=hO1.trc
  have fx:=aI hT<|aI hRl<|aI r5<|aI r5E<|aI hTr<|hol'
  refine qB ?_
  clear fx
  refine qH [(.s 4,root)] (.one rfl) (by simp;rfl) ⟨by simp,by simp [hTr]⟩
theorem qBB (gl:Nat→Option (List AV)) (hgl:gl 0=some uM) (p:Prg) (f:Int) (hs:Sml p):qW Tryz.prog gl 14 [pav p,iv f] (fun _ y _=>y=iv (qB1 p f)):=by
 refine qW.of_sem Tryz.func14 rfl (by kernel_rfl) (rs:=[.tmp 4]) rfl Tryz.ntmps14 (lB rfl) fun C w g root=>?_
 cases hv0:yq p
 ·have hv:zr p f=false:=by simp [zr,hv0]
  have fx:= hv0
  have c1:=hv0 ▸ qe gl p hs
  refine qB ?_
  clear fx c1
  refine qH [] .nil (by simp;rfl) (by simp [qB1,hv])
 cases hv:zr p f
 ·have hf:(decide (0≤f)&&decide (f≤150))=false:=by simpa [zr,hv0] using hv
  have fx:=aI hv0<|hf
  have c1:=hv0 ▸ qe gl p hs
  have c2:=hf ▸ vN gl f
  refine qB ?_
  clear fx c1 c2
  refine qH [] .nil (by simp;rfl) (by simp [qB1,hv])
 ·obtain⟨hpo,n,rfl,hn⟩:=yK hv
  have hP:=ValP.of hs hpo
  have hf:(decide (0≤(n:Int))&&decide ((n:Int)≤150))=true:=by simpa [zr,hv0] using hv
  obtain⟨hb1,hb2,hgl8⟩:=wS (n:=n) hP hn
  have fx:=aI hv0<|hf
  have c1:=hv0 ▸ qe gl p hs
  have c2:=hf ▸ vN gl n
  refine qB ?_
  clear fx c1 c2
  intro K hK
  have fx:=fx0
  refine qDT (fun k i j he=>by simp [ue,noH] at he) (hF:=uH gl hgl _ p n hP hn (by simp [noH])) (h:=?_)
  rintro y H1 ⟨rfl,fr,hO1⟩
  clear fx
  obtain⟨R,hT,hRl,r5⟩:∃ R,H1 Yn=some (.row 4415 [R])∧R.length=4415∧R[4414]?=some (iv (uZ p n).cells.length):=by
   obtain⟨J,hJ,e⟩:=hO1.top
   exact⟨_,e,yN (j8 hJ),qFQ (j8 hJ)⟩
  obtain⟨_,r5E⟩:=gS r5
  have fx:=aI hT<|aI hRl<|aI r5<|r5E
  refine qB ?_
  clear fx
  refine qH [] .nil (by simp;rfl) (by simp [qB1,hv])
theorem qA2 (gl:Nat→Option (List AV)) (hgl:gl 0=some uM) (p:Prg) (f:Int) (hs:Sml p):qW Tryz.prog gl 17 [pav p,iv f] (fun _ y _=>y=.tup [iv (uX p f).1,iv (uX p f).2]):=by
 refine qW.of_sem Tryz.func17 rfl (by kernel_rfl) (rs:=[.tmp 4,.tmp 5]) rfl Tryz.ntmps17 (lB rfl) fun C w g root=>?_
 cases hv0:yq p
 ·have hv:zr p f=false:=by simp [zr,hv0]
  have fx:= hv0
  have c1:=hv0 ▸ qe gl p hs
  refine qB ?_
  repeat ((first|refine wSc (id:=4) qNz qA ?_);refine qD ?_;refine qB ?_)
  clear fx c1
  refine qH [] .nil (by simp;rfl) (by simp [uX,hv])
 cases hv:zr p f
 ·have hf:(decide (0≤f)&&decide (f≤150))=false:=by simpa [zr,hv0] using hv
  have fx:=aI hv0<|hf
  have c1:=hv0 ▸ qe gl p hs
  have c2:=hf ▸ vN gl f
  refine qB ?_
  repeat ((first|refine wSc (id:=4) qNz qA ?_);refine qD ?_;refine qB ?_)
  clear fx c1 c2
  refine qH [] .nil (by simp;rfl) (by simp [uX,hv])
 ·obtain⟨hpo,n,rfl,hn⟩:=yK hv
  have hP:=ValP.of hs hpo
  have hf:(decide (0≤(n:Int))&&decide ((n:Int)≤150))=true:=by simpa [zr,hv0] using hv
  obtain⟨hb1,hb2,hgl8⟩:=wS (n:=n) hP hn
  have fx:=aI hv0<|hf
  have c1:=hv0 ▸ qe gl p hs
  have c2:=hf ▸ vN gl n
  refine qB ?_
  repeat ((first|refine wSc (id:=4) qNz qA ?_);refine qD ?_;refine qB ?_)
  clear fx c1 c2
  intro K hK
  have fx:=fx0
  refine qDT (fun k i j he=>by simp [ue,noH] at he) (hF:=uH gl hgl _ p n hP hn (by simp [noH])) (h:=?_)
  rintro y H1 ⟨rfl,fr,hO1⟩
  clear fx
  obtain⟨R,hT,hRl,r5,r6⟩:∃ R,H1 Yn=some (.row 4415 [R])∧R.length=4415∧R[4413]?=some (iv (uZ p n).made)∧R[4412]?=some (iv (uZ p n).deep):=by
   obtain⟨J,hJ,e⟩:=hO1.top
   exact⟨_,e,yN (j8 hJ),qFR (j8 hJ),qFS (j8 hJ)⟩
  obtain⟨_,r5E⟩:=gS r5
  obtain⟨_,r6E⟩:=gS r6
  have fx:=aI hT<|aI hRl<|aI r5<|aI r5E<|aI r6<|r6E
  refine qB ?_
  repeat ((first|refine wSc (id:=4) qNz qA ?_);refine qD ?_;refine qB ?_)
  clear fx
  refine qH [] .nil (by simp;rfl) (by simp [uX,hv])
end Go.Proofs.YtbgmnmnoaamgkaaGreatDoor
end
section

end
section
namespace Go.Proofs.YtbgmnmnoaamgkaaGreatDoor
open Go Go.Hm Go.Proofs
theorem qF3 (gl) (xs:List Int) (left:Int) (h0:0≤left) (h1:left≤1048576) (hx:xs.length≤1152921504606846976):qW Tryz.prog gl 89 [isl xs,iv left] (fun _ y _=>y=iv (if (xs.length:Int)≤left then left - xs.length else -1)):=by
 have hw:IntKind.i64.wrap (left - xs.length)=left - xs.length:=wrp (by omega) (by omega)
 refine qW.of_sem Tryz.func89 rfl (by kernel_rfl) (rs:=[.tmp 4]) rfl Tryz.ntmps89 (lB rfl) fun C w g root=>?_
 all_goals have fx:= hw
 repeat' (first
  | refine qN ?_|refine qR ?_|refine qM fun K hK=>?_
  | ((with_reducible refine qK hK ?_);clear hK K)
  | (with_reducible first|refine qC ?_|refine qI ?_)
  | refine qX ?_
  | (with_reducible first|refine qG ?_|refine qE (h:=?_))
  | (with_reducible refine x_q (h:=?_))
  | refine uk (h1:=fun ht=>?_) (h2:=fun ht=>?_)
  | fail)
 all_goals try clear fx
 all_goals refine qH [] .nil (by simp [hw];rfl) ?_
 all_goals simp at ht
 ·have:¬ (xs.length:Int)≤left:=by omega
  simp [this]
 ·have:(xs.length:Int)≤left:=by omega
  simp [this]
theorem qIy (gl) (xs:List Stm) (left:Int) (h0:0≤left) (h1:left≤1048576) (hx:xs.length≤1152921504606846976):qW Tryz.prog gl 90 [ssl xs,iv left] (fun _ y _=>y=iv (if (xs.length:Int)≤left then left - xs.length else -1)):=by
 have hw:IntKind.i64.wrap (left - xs.length)=left - xs.length:=wrp (by omega) (by omega)
 refine qW.of_sem Tryz.func90 rfl (by kernel_rfl) (rs:=[.tmp 4]) rfl Tryz.ntmps90 (lB rfl) fun C w g root=>?_
 all_goals have fx:= hw
 repeat' (first
  | refine qN ?_|refine qR ?_|refine qM fun K hK=>?_
  | ((with_reducible refine qK hK ?_);clear hK K)
  | (with_reducible first|refine qC ?_|refine qI ?_)
  | refine qX ?_
  | (with_reducible first|refine qG ?_|refine qE (h:=?_))
  | (with_reducible refine x_q (h:=?_))
  | refine uk (h1:=fun ht=>?_) (h2:=fun ht=>?_)
  | fail)
 all_goals try clear fx
 all_goals refine qH [] .nil (by simp [hw];rfl) ?_
 all_goals simp at ht
 ·have:¬ (xs.length:Int)≤left:=by omega
  simp [this]
 ·have:(xs.length:Int)≤left:=by omega
  simp [this]
theorem qIz (gl) (k:Blk) (left:Int) (h0:0≤left) (h1:left≤1048576) (hp:k.params.length≤1152921504606846976) (hb:k.body.length≤1152921504606846976):qW Tryz.prog gl 62 [k.av,iv left] (fun _ y _=>y=iv (if (qFZ k:Int)≤left then left - qFZ k else -1)):=by
 refine qW.of_sem Tryz.func62 rfl (by kernel_rfl) (rs:=[.tmp 4]) rfl Tryz.ntmps62 (lB rfl) fun C w g root=>?_
 by_cases hl:(k.params.length:Int)≤left
 ·have hs:=qIy gl k.body (left - k.params.length) (by omega) (by omega) hb
  all_goals have fx:= hl
  repeat' (first
   | refine qN ?_|refine qR ?_|refine qM fun K hK=>?_
   | ((with_reducible refine qK hK ?_);clear hK K)
   | (with_reducible first|refine qC ?_)
   | (with_reducible first|refine qG ?_|refine qE (h:=?_)|refine zG (h:=?_))
   | ((with_reducible refine qv 89 rfl ?_);refine qL (hF:=qF3 _ k.params left h0 h1 hp) (h:=?_))
   | (with_reducible refine x_q (h:=?_))
   | refine qS (h1:=?_)
   | fail)
  all_goals try clear fx
  have hge:¬ left - k.params.length<0:=by omega
  by_cases hl2:(k.body.length:Int)≤left - k.params.length
  ·have hge2:¬ left - k.params.length - k.body.length<0:=by omega
   all_goals have fx:=aI hl<|aI hge<|aI hl2<|hge2
   repeat' (first
    | refine qN ?_|refine qR ?_|refine qM fun K hK=>?_
    | ((with_reducible refine qK hK ?_);clear hK K)
    | (with_reducible first|refine qC ?_)
    | refine qX ?_
    | (with_reducible first|refine qG ?_|refine qE (h:=?_))
    | ((with_reducible refine qv 90 rfl ?_);refine qL (hF:=hs) (h:=?_))
    | (with_reducible refine x_q (h:=?_))
    | refine qS (h1:=?_)
    | fail)
   all_goals try clear fx
   refine qH [] .nil (by simp [hl,hl2];rfl) ?_
   have:(qFZ k:Int)≤left:=by simp only [qFZ];omega
   rw [if_pos this]
   simp [qFZ]
   omega
  ·skip
   all_goals have fx:=aI hl<|aI hge<|hl2
   repeat' (first
    | refine qN ?_|refine qM fun K hK=>?_
    | ((with_reducible refine qK hK ?_);clear hK K)
    | (with_reducible first|refine qC ?_|refine qI ?_)
    | refine qX ?_
    | (with_reducible first|refine qG ?_|refine qE (h:=?_))
    | ((with_reducible refine qv 90 rfl ?_);refine qL (hF:=hs) (h:=?_))
    | (with_reducible refine x_q (h:=?_))
    | refine qO (h1:=?_)
    | fail)
   all_goals try clear fx
   refine qH [] .nil (by simp;rfl) ?_
   have:¬ (qFZ k:Int)≤left:=by simp only [qFZ];omega
   rw [if_neg this]
   rfl
 ·skip
  all_goals have fx:= hl
  repeat' (first
   | refine qN ?_|refine qM fun K hK=>?_
   | ((with_reducible refine qK hK ?_);clear hK K)
   | (with_reducible first|refine qC ?_|refine qI ?_)
   | refine qX ?_
   | (with_reducible first|refine qG ?_|refine qE (h:=?_)|refine zG (h:=?_))
   | ((with_reducible refine qv 89 rfl ?_);refine qL (hF:=qF3 _ k.params left h0 h1 hp) (h:=?_))
   | (with_reducible refine x_q (h:=?_))
   | refine qO (h1:=?_)
   | fail)
  all_goals try clear fx
  refine qH [] .nil (by simp;rfl) ?_
  have:¬ (qFZ k:Int)≤left:=by simp only [qFZ];omega
  rw [if_neg this]
  rfl
theorem qGt (gl) (p:Prg) (left:Int) (h0:0≤left) (h1:left≤1048576) (hb:Big p):qW Tryz.prog gl 38 [ksl p,iv left] (fun _ y _=>y=iv (if (tot p:Int)≤left then left - tot p else -1)):=by
 have hbl:=hb.len
 have hw:IntKind.i64.wrap (left - p.length)=left - p.length:=wrp (by omega) (by omega)
 have htl:=ku (p:=p) (Nat.zero_le p.length)
 have ht0:wJ p 0=p.length:=rfl
 refine qW.of_sem Tryz.func38 rfl (by kernel_rfl) (rs:=[.tmp 4]) rfl Tryz.ntmps38 (lB rfl) fun C w g root=>?_
 all_goals have fx:= hw
 repeat' (first
  | refine qN ?_|refine qJ ?_|refine qR ?_|refine qM fun K hK=>?_
  | ((with_reducible refine qK hK ?_);clear hK K)
  | (with_reducible first|refine qC ?_|refine qI ?_)
  | refine qX ?_
  | (with_reducible first|refine qG ?_|refine qE (h:=?_))
  | (with_reducible refine x_q (h:=?_))
  | refine uk (h1:=fun ht=>?_) (h2:=fun ht=>?_)
  | fail)
 all_goals try clear fx
 ·refine qH [] .nil (by simp;rfl) ?_
  simp at ht
  have:¬ (tot p:Int)≤left:=by simp only [tot];omega
  rw [if_neg this]
  rfl
 have hge:(p.length:Int)≤left:=by simp at ht;omega
 clear ht
 refine q7 (fun n st=>∃ i:Nat,n=p.length - i∧i≤p.length∧st.tm 0=ksl p∧(wJ p i:Int)≤left∧st.tm 1=iv (left - wJ p i)∧st.tm 5=iv i) p.length ?_ ?_
 ·exact⟨0,by simp,by simp,by simp,by omega,by simp [hw,ht0],by simp⟩
 rintro n st - - ⟨i,rfl,hi,h0',hle,h1',h5⟩
 all_goals have fx:=aI h0'<|aI h1'<|h5
 repeat' (first
  | refine qN ?_|refine qM fun K hK=>?_
  | ((with_reducible refine qK hK ?_);clear hK K)
  | (with_reducible first|refine qC ?_)
  | (with_reducible first|refine qG ?_)
  | (with_reducible refine x_q (h:=?_))
  | fail)
 all_goals try clear fx
 refine vk (by simp [];first|done|rfl|exact (Bool.not_not _).symm) (fun ht=>?_) (fun hf=>?_)
 ·have hlt:i<p.length:=by simpa using ht
  obtain⟨k,hk⟩:∃ k,p[i]?=some k:=⟨_,gE hlt⟩
  obtain⟨_,hke⟩:=gS hk
  have hkm:=gM hk
  have htg:=qFY hk
  have htm:=ku (p:=p) (Nat.succ_le_of_lt hlt)
  clear ht
  all_goals have fx:=aI h0'<|aI h1'<|aI h5<|aI hk<|aI hke<|hlt
  repeat' (first
   | refine qN ?_|refine qJ ?_|refine qR ?_|refine qM fun K hK=>?_
   | ((with_reducible refine qK hK ?_);clear hK K)
   | (with_reducible first|refine qC ?_|refine qI ?_|refine qc ?_)
   | refine qX ?_
   | (with_reducible first|refine qG ?_|refine qE (h:=?_))
   | ((with_reducible refine qv 62 rfl ?_);refine qL (hF:=qIz _ k (left - wJ p i) (by omega) (by omega) (hb.params k hkm) (hb.body k hkm)) (h:=?_))
   | (with_reducible refine x_q (h:=?_))
   | refine uk (h1:=fun ht=>?_) (h2:=fun ht=>?_)
   | fail)
  all_goals try clear fx
  ·refine qH [] .nil (by simp;rfl) ?_
   have hno:¬ (qFZ k:Int)≤left - wJ p i:=fun h=>by
    rw [if_pos h] at ht
    simp at ht
    omega
   have:¬ (tot p:Int)≤left:=by simp only [tot];simp only [Nat.succ_eq_add_one] at htm;omega
   rw [if_neg this]
   rfl
  ·have hyes:(qFZ k:Int)≤left - wJ p i:=by
    rcases Int.lt_or_le (left - wJ p i) (qFZ k) with h|h
    ·rw [if_neg (by omega)] at ht
     simp at ht
    ·exact h
   refine⟨p.length - (i+1),by omega,i+1,rfl,by omega,by simp [h0'],by omega,?_,by simp;exact wrp (by omega) (by omega)⟩
   rw [htg]
   simp [hyes]
   omega
 ·have hge:i=p.length:=by
   have:¬ i<p.length:=by simpa using hf
   omega
  subst hge
  all_goals have fx:= h1'
  repeat' (first
   | refine qN ?_|refine qM fun K hK=>?_
   | ((with_reducible refine qK hK ?_);clear hK K)
   | (with_reducible first|refine qC ?_)
   | refine qn ?_
   | refine qX ?_
   | (with_reducible first|refine qG ?_|refine qE (h:=?_))
   | (with_reducible refine x_q (h:=?_))
   | fail)
  all_goals try clear fx
  refine qH [] .nil (by simp;rfl) ?_
  have:(tot p:Int)≤left:=hle
  rw [if_pos this]
  rfl
theorem jV (gl) (p:Prg) (hb:Big p):qW Tryz.prog gl 11 [pav p,iv 1048576] (fun _ y _=>y=iv (if tot p≤1048576 then 1048576 - tot p else -1)):=by
 have h:=qGt gl p 1048576 (by decide) (by decide) hb
 refine qW.of_sem Tryz.func11 rfl (by kernel_rfl) (rs:=[.tmp 4]) rfl Tryz.ntmps11 (lB rfl) fun C w g root=>?_
 by_cases ht:tot p≤1048576
 ·have h2:(tot p:Int)≤1048576:=by omega
  have hge:¬ (1048576 - (tot p:Int))<0:=by omega
  all_goals have fx:=aI h2<|hge
  repeat' (first
   | refine qN ?_|refine qR ?_|refine qM fun K hK=>?_
   | ((with_reducible refine qK hK ?_);clear hK K)
   | (with_reducible first|refine qC ?_)
   | refine qX ?_
   | (with_reducible first|refine qG ?_|refine qE (h:=?_)|refine zG (h:=?_))
   | ((with_reducible refine qv 38 rfl ?_);refine qL (hF:=h) (h:=?_))
   | (with_reducible refine x_q (h:=?_))
   | refine qS (h1:=?_)
   | fail)
  all_goals try clear fx
  refine qH [] .nil (by simp [h2];rfl) ?_
  simp [ht]
 ·have h2:¬ (tot p:Int)≤1048576:=by omega
  all_goals have fx:= h2
  repeat' (first
   | refine qN ?_|refine qM fun K hK=>?_
   | ((with_reducible refine qK hK ?_);clear hK K)
   | (with_reducible first|refine qC ?_|refine qI ?_)
   | refine qX ?_
   | (with_reducible first|refine qG ?_|refine qE (h:=?_)|refine zG (h:=?_))
   | ((with_reducible refine qv 38 rfl ?_);refine qL (hF:=h) (h:=?_))
   | (with_reducible refine x_q (h:=?_))
   | refine qO (h1:=?_)
   | fail)
  all_goals try clear fx
  refine qH [] .nil (by simp;rfl) ?_
  simp [ht]
theorem qKS (gl) (xs:List Int) (hx:xs.length≤1048576):qW Tryz.prog gl 104 [isl xs] (fun r y H'=>y=.hs r 1 0 xs.length∧H' r=some (.row 1 (qY xs))):=by
 refine qW.of_sem Tryz.func104 rfl (by kernel_rfl) (rs:=[.tmp 2]) rfl Tryz.ntmps104 (lB rfl) fun C w g root=>?_
 all_goals have fx:=fx0
 repeat' (first
  | refine qN ?_|refine qJ ?_|refine qM fun K hK=>?_
  | ((with_reducible refine qK hK ?_);clear hK K)
  | (with_reducible first|refine qG ?_|refine qE (h:=?_)|refine wO (h:=?_))
  | (with_reducible refine x_q (h:=?_))
  | fail)
 all_goals try clear fx
 refine q7 (fun n st=>∃ i:Nat,n=xs.length - i∧i≤xs.length∧st.tm 0=isl xs∧st.tm 3=.hs (.s 3) 1 0 xs.length∧st.hp (.s 3)=some (.row 1 (qY (pre 0 xs i)))∧st.tm 4=iv i) xs.length ?_ ?_
 ·exact⟨0,by simp,by simp,by simp,by simp,by simp [qIN,qL9],by simp⟩
 rintro n st - - ⟨i,rfl,hi,h0,h3,hp3,h4⟩
 all_goals have fx:=aI h0<|h4
 repeat' (first
  | refine qN ?_|refine qM fun K hK=>?_
  | ((with_reducible refine qK hK ?_);clear hK K)
  | (with_reducible first|refine qC ?_)
  | (with_reducible first|refine qG ?_)
  | (with_reducible refine x_q (h:=?_))
  | fail)
 all_goals try clear fx
 refine vk (by simp [];first|done|rfl|exact (Bool.not_not _).symm) (fun ht=>?_) (fun hf=>?_)
 ·have hlt:i<xs.length:=by simpa using ht
  obtain⟨x,hxi⟩:∃ x,xs[i]?=some x:=⟨_,gE hlt⟩
  obtain⟨_,hxe⟩:=gS hxi
  have vr:=qKx (z:=0) hxi
  have hpl:=qHV (z:=(0:Int)) hi
  clear ht
  all_goals have fx:=aI h0<|aI h4<|aI h3<|aI hp3<|aI hxi<|aI hxe<|aI hlt<|hpl
  repeat' (first
   | refine qN ?_|refine qJ ?_|refine qR ?_|refine qM fun K hK=>?_
   | ((with_reducible refine qK hK ?_);clear hK K)
   | (with_reducible first|refine qC ?_)
   | (with_reducible first|refine qG ?_|refine qE (h:=?_)|refine qU (h:=?_))
   | (with_reducible refine x_q (h:=?_))
   | fail)
  all_goals try clear fx
  refine⟨xs.length - (i+1),by omega,i+1,rfl,by omega,by simp [h0],by simp [h3],by simp [← vr],by simp;exact wrp (by omega) (by omega)⟩
 ·have hge:i=xs.length:=by
   have:¬ i<xs.length:=by simpa using hf
   omega
  subst hge
  rw [qKy] at hp3
  all_goals have fx:=aI h3<|hp3
  repeat' (first
   | refine qN ?_|refine qM fun K hK=>?_
   | ((with_reducible refine qK hK ?_);clear hK K)
   | (with_reducible first|refine qC ?_)
   | refine qn ?_
   | refine qX ?_
   | (with_reducible first|refine qG ?_|refine qE (h:=?_))
   | (with_reducible refine x_q (h:=?_))
   | fail)
  all_goals try clear fx
  exact zZ (t:=2) (by first|(simp [hp3];done)|(simp [hp3];rfl)) (by first|(simp [hp3];done)|(simp [hp3];rfl)) (by simp)
theorem qKR (gl) (s:Stm):qW Tryz.prog gl 142 [s.av] (fun _ y _=>y=s.av):=by
 refine qW.of_sem Tryz.func142 rfl (by kernel_rfl) (rs:=[.cell 2 41]) rfl Tryz.ntmps142 (lB rfl) fun C w g root=>?_
 all_goals have fx:=fx0
 repeat' (first
  | refine qN ?_|refine qM fun K hK=>?_
  | ((with_reducible refine qK hK ?_);clear hK K)
  | (with_reducible first|refine qC ?_)
  | refine qX ?_
  | (with_reducible first|refine qG ?_|refine zG (h:=?_)|refine qg (h:=?_)|refine qU (h:=?_))
  | (with_reducible refine x_q (h:=?_))
  | fail)
 all_goals try clear fx
 refine qH [] .nil (by simp;rfl) ?_
 simp
theorem qIv (gl) (xs:List Stm) (hx:xs.length≤1048576):qW Tryz.prog gl 105 [ssl xs] (fun r y H'=>y=.hs r 4 0 xs.length∧H' r=some (.row 4 (yE xs))):=by
 refine qW.of_sem Tryz.func105 rfl (by kernel_rfl) (rs:=[.tmp 2]) rfl Tryz.ntmps105 (lB rfl) fun C w g root=>?_
 all_goals have fx:=fx0
 repeat' (first
  | refine qN ?_|refine qJ ?_|refine qM fun K hK=>?_
  | ((with_reducible refine qK hK ?_);clear hK K)
  | (with_reducible first|refine qG ?_|refine qE (h:=?_)|refine wO (h:=?_))
  | (with_reducible refine x_q (h:=?_))
  | fail)
 all_goals try clear fx
 refine q7 (fun n st=>∃ i:Nat,n=xs.length - i∧i≤xs.length∧st.tm 0=ssl xs∧st.tm 3=.hs (.s 3) 4 0 xs.length∧st.hp (.s 3)=some (.row 4 (yE (pre ⟨0,0,0,0⟩ xs i)))∧st.tm 4=iv i) xs.length ?_ ?_
 ·exact⟨0,by simp,by simp,by simp,by simp,by simp [qIN,qK4],by simp⟩
 rintro n st - - ⟨i,rfl,hi,h0,h3,hp3,h4⟩
 all_goals have fx:=aI h0<|h4
 repeat' (first
  | refine qN ?_|refine qM fun K hK=>?_
  | ((with_reducible refine qK hK ?_);clear hK K)
  | (with_reducible first|refine qC ?_)
  | (with_reducible first|refine qG ?_)
  | (with_reducible refine x_q (h:=?_))
  | fail)
 all_goals try clear fx
 refine vk (by simp [];first|done|rfl|exact (Bool.not_not _).symm) (fun ht=>?_) (fun hf=>?_)
 ·have hlt:i<xs.length:=by simpa using ht
  obtain⟨x,hxi⟩:∃ x,xs[i]?=some x:=⟨_,gE hlt⟩
  obtain⟨_,hxe⟩:=gS hxi
  have vr:=qKx (z:=(⟨0,0,0,0⟩:Stm)) hxi
  have hpl:=qHV (z:=(⟨0,0,0,0⟩:Stm)) hi
  have hsr:=qK3 (ss:=pre ⟨0,0,0,0⟩ xs i) (i:=i) (s:=x)
  clear ht
  all_goals have fx:=aI h0<|aI h4<|aI h3<|aI hp3<|aI hxi<|aI hxe<|aI hlt<|hpl
  repeat' (first
   | refine qN ?_|refine qJ ?_|refine qR ?_|refine qM fun K hK=>?_
   | ((with_reducible refine qK hK ?_);clear hK K)
   | (with_reducible first|refine qC ?_)
   | (with_reducible first|refine qG ?_|refine qE (h:=?_)|refine qU (h:=?_))
   | ((with_reducible refine qv 142 rfl ?_);refine qL (hF:=qKR _ x) (h:=?_))
   | (with_reducible refine x_q (h:=?_))
   | fail)
  all_goals try clear fx
  refine⟨xs.length - (i+1),by omega,i+1,rfl,by omega,by simp [h0],by simp [h3],by simp [← vr,hsr],by simp;exact wrp (by omega) (by omega)⟩
 ·have hge:i=xs.length:=by
   have:¬ i<xs.length:=by simpa using hf
   omega
  subst hge
  rw [qKy] at hp3
  all_goals have fx:=aI h3<|hp3
  repeat' (first
   | refine qN ?_|refine qM fun K hK=>?_
   | ((with_reducible refine qK hK ?_);clear hK K)
   | (with_reducible first|refine qC ?_)
   | refine qn ?_
   | refine qX ?_
   | (with_reducible first|refine qG ?_|refine qE (h:=?_))
   | (with_reducible refine x_q (h:=?_))
   | fail)
  all_goals try clear fx
  exact zZ (t:=2) (by first|(simp [hp3];done)|(simp [hp3];rfl)) (by first|(simp [hp3];done)|(simp [hp3];rfl)) (by simp)
theorem qIw (gl) (k:Blk) (hp:k.params.length≤1048576) (hb:k.body.length≤1048576):qW Tryz.prog gl 70 [k.av] (fun r y H'=>y=.agg (qM9 r 0 k)∧H' (.c r 0 2)=some (.row 1 (qY k.params))∧H' (.c r 0 3)=some (.row 4 (yE k.body))):=by
 refine qW.of_sem Tryz.func70 rfl (by kernel_rfl) (rs:=[.cell 2 45]) rfl Tryz.ntmps70 (lB rfl) fun C w g root=>?_
 all_goals have fx:=fx0
 repeat' (first
  | refine qN ?_|refine qM fun K hK=>?_
  | ((with_reducible refine qK hK ?_);clear hK K)
  | (with_reducible first|refine qC ?_)
  | refine qX ?_
  | (with_reducible first|refine qG ?_|refine zG (h:=?_)|refine qg (h:=?_)|refine qU (h:=?_))
  | ((with_reducible refine qv 104 rfl ?_);refine zk (hF:=qKS _ k.params hp) (h:=?_))
  | ((with_reducible refine qv 105 rfl ?_);refine zk (hF:=qIv _ k.body hb) (h:=?_))
  | (with_reducible refine x_q (h:=?_))
  | fail)
 all_goals try clear fx
 refine qH [(.s 3,root)] (.one rfl) (by simp;rfl) ⟨by simp [qM9],by simp,by simp⟩
theorem qGr (gl) (p:Prg) (hs:Sml p):qW Tryz.prog gl 41 [ksl p] (fun r y H'=>y=.hs r 4 0 p.length∧OwnP H' r p):=by
 have hpl:=hs.len
 refine qW.of_sem Tryz.func41 rfl (by kernel_rfl) (rs:=[.tmp 2]) rfl Tryz.ntmps41 (lB rfl) fun C w g root=>?_
 all_goals have fx:=fx0
 repeat' (first
  | refine qN ?_|refine qJ ?_|refine qM fun K hK=>?_
  | ((with_reducible refine qK hK ?_);clear hK K)
  | (with_reducible first|refine qG ?_|refine qE (h:=?_)|refine wO (h:=?_))
  | (with_reducible refine x_q (h:=?_))
  | fail)
 all_goals try clear fx
 refine q7 (fun n st=>∃ i:Nat,n=p.length - i∧i≤p.length∧st.tm 0=ksl p∧st.tm 3=.hs (.s 3) 4 0 p.length∧CopP st.hp (.s 3) p i∧st.tm 4=iv i) p.length ?_ ?_
 ·refine⟨0,by simp,by simp,by simp,by simp,⟨?_,fun j k hj=>by omega,fun j k hj=>by omega⟩,by simp⟩
  rw [← qKB]
  simp [qRs,qVX]
 rintro n st - - ⟨i,rfl,hi,h0,h3,⟨ho1,ho2,ho3⟩,h4⟩
 all_goals have fx:=aI h0<|h4
 repeat' (first
  | refine qN ?_|refine qM fun K hK=>?_
  | ((with_reducible refine qK hK ?_);clear hK K)
  | (with_reducible first|refine qC ?_)
  | (with_reducible first|refine qG ?_)
  | (with_reducible refine x_q (h:=?_))
  | fail)
 all_goals try clear fx
 refine vk (by simp [];first|done|rfl|exact (Bool.not_not _).symm) (fun ht=>?_) (fun hf=>?_)
 ·have hlt:i<p.length:=by simpa using ht
  obtain⟨k,hk⟩:∃ k,p[i]?=some k:=⟨_,gE hlt⟩
  obtain⟨hkp,hkb⟩:=hs.bsm hk
  obtain⟨_,hke⟩:=gS hk
  have vr:=qKC (n:=.s 3) hk
  simp only [qM9] at vr
  clear ht
  all_goals have fx:=aI h0<|aI h4<|aI h3<|aI hk<|aI hke<|hlt
  repeat' (first
   | refine qN ?_|refine qJ ?_|refine qR ?_|refine qM fun K hK=>?_
   | (with_reducible first|refine qG ?_)
   | ((with_reducible refine qv 70 rfl ?_);refine qDt (hF:=qIw _ k hkp hkb) (h:=?_))
   | (with_reducible refine x_q (h:=?_))
   | fail)
  all_goals try clear fx
  rintro y H' ⟨rfl,hp2,hp3⟩
  have hp2:=jj hp2 (by simp)
  have hp3:=jj hp3 (by simp)
  refine⟨by simp [qM9],?_⟩
  refine qYU (.c (.s 20) 0 2) (.c (.s 3) i 2) (.inl rfl) (.inl rfl) ?_
  refine qYU (.c (.s 20) 0 3) (.c (.s 3) i 3) (.inl rfl) (.inl rfl) ?_
  simp only [qM9]
  all_goals have fx:=aI h0<|aI h4<|aI h3<|aI ho1<|aI hk<|aI hke<|hlt
  repeat' (first
   | refine qM fun K hK=>?_
   | ((with_reducible refine qK hK ?_);clear hK K)
   | (with_reducible first|refine qC ?_)
   | (with_reducible first|refine qG ?_|refine qE (h:=?_)|refine qU (h:=?_))
   | (with_reducible refine x_q (h:=?_))
   | fail)
  all_goals try clear fx
  refine⟨p.length - (i+1),by omega,i+1,rfl,by omega,by simp [h0],by simp [h3],⟨?_,fun j r hj hr=>?_,fun j r hj hr=>?_⟩,by simp [h4];exact wrp (by omega) (by omega)⟩
  ·simp [ho1,vr]
  ·rcases Nat.lt_succ_iff_lt_or_eq.1 hj with hlj|rfl
   ·have hne:¬ j=i:=by omega
    simp [ho2 j r hlj hr,hne]
   ·rw [hk] at hr
    obtain rfl:=sI hr
    simp [hp2]
  ·rcases Nat.lt_succ_iff_lt_or_eq.1 hj with hlj|rfl
   ·have hne:¬ j=i:=by omega
    simp [ho3 j r hlj hr,hne]
   ·rw [hk] at hr
    obtain rfl:=sI hr
    simp [hp3]
 ·have hge:i=p.length:=by
   have:¬ i<p.length:=by simpa using hf
   omega
  subst hge
  rw [qMI] at ho1
  all_goals have fx:= h3
  repeat' (first
   | refine qN ?_|refine qM fun K hK=>?_
   | ((with_reducible refine qK hK ?_);clear hK K)
   | (with_reducible first|refine qC ?_)
   | refine qn ?_
   | refine qX ?_
   | (with_reducible first|refine qG ?_|refine qE (h:=?_))
   | (with_reducible refine x_q (h:=?_))
   | fail)
  all_goals try clear fx
  refine qH [(.s 2,root)] (.one rfl) (by simp;rfl) ⟨by simp,⟨?_,fun j r hj=>?_,fun j r hj=>?_⟩⟩
  ·simp [ho1,vA (n:=.s 2) (m:=root) (f:=jO noD [(.s 2,root)]) (p:=p) (by simp)]
  ·simp [ho2 j r (gS hj).1 hj]
  ·simp [ho3 j r (gS hj).1 hj]
theorem zM (gl) (p:Prg) (hs:Sml p):qW Tryz.prog gl 13 [pav p] (fun r y H'=>y=.agg [.hs r 4 0 p.length]∧OwnP H' r p):=by
 refine qW.of_sem Tryz.func13 rfl (by kernel_rfl) (rs:=[.cell 2 29]) rfl Tryz.ntmps13 (lB rfl) fun C w g root=>?_
 all_goals have fx:=fx0
 repeat' (first
  | refine qN ?_|refine qM fun K hK=>?_
  | ((with_reducible refine qK hK ?_);clear hK K)
  | (with_reducible first|refine qG ?_|refine zG (h:=?_)|refine qg (h:=?_))
  | ((with_reducible refine qv 41 rfl ?_);refine qDt (hF:=qGr _ p hs) (h:=?_))
  | (with_reducible refine x_q (h:=?_))
  | fail)
 all_goals try clear fx
 rintro y H' ⟨rfl,hO⟩
 obtain⟨ho1,ho2,ho3⟩:=hO.hcln
 refine⟨by simp,?_⟩
 all_goals have fx:=fx0
 repeat' (first
  | refine qN ?_|refine qM fun K hK=>?_
  | ((with_reducible refine qK hK ?_);clear hK K)
  | (with_reducible first|refine qC ?_)
  | refine qX ?_
  | (with_reducible first|refine qG ?_|refine qU (h:=?_))
  | (with_reducible refine x_q (h:=?_))
  | fail)
 all_goals try clear fx
 refine qH [(.c (.s 3) 0 0,root)] (.one rfl) (by simp;rfl) ⟨by simp,⟨?_,fun j r hj=>?_,fun j r hj=>?_⟩⟩
 ·simp [ho1,vA (n:=.c (.s 3) 0 0) (m:=root) (f:=jO noD [(.c (.s 3) 0 0,root)]) (p:=p) (by simp)]
 ·simp [ho2 j r hj]
 ·simp [ho3 j r hj]
end Go.Proofs.YtbgmnmnoaamgkaaGreatDoor
end
