/-
  Own texts, joined by mkclaim.py: Zm, Zn, Zi.
-/
import Derived.Test.YtbgmnmnoaamgkaaGreatDoorD26
import Derived.Test.YtbgmnmnoaamgkaaGreatDoorD28
import Derived.Test.YtbgmnmnoaamgkaaGreatDoorD18
import Derived.Test.YtbgmnmnoaamgkaaGreatDoorD16
set_option linter.unusedSimpArgs false
set_option linter.unusedVariables false
set_option maxRecDepth 100000
set_option maxHeartbeats 4000000

section
namespace Go.Proofs.YtbgmnmnoaamgkaaGreatDoor
open Go Go.Hm Go.Proofs
abbrev qHZ:Sch:=.q 0<|.q 1<|.q 2<|.q 3<|.q 4<|.q 5<|.q 6<|.l 7 []<|.done
abbrev qHY:Sch:=.q 0<|.q 1<|.q 2<|.q 3<|.q 4<|.q 6<|.l 5 [6,1,0]<|.q 7<|.l 8 []<|.done
abbrev qHX:Sch:=.q 0<|.q 1<|.q 2<|.q 3<|.q 4<|.q 5<|.q 6<|.q 7<|.q 8<|.l 9 []<|.done
abbrev qHW:Sch:=.q 0<|.q 1<|.q 2<|.q 3<|.q 4<|.q 5<|.q 6<|.q 7<|.q 8<|.l 9 [0]<|.q 10<|.q 11<|.l 12 []<|.done
abbrev qHV:Sch:=.q 0<|.q 1<|.q 2<|.q 3<|.q 4<|.q 5<|.q 6<|.q 7<|.q 8<|.q 9<|.l 10 []<|.done
def qGo (p:Prg) (b:Nat) (vs:List Val):List Slt:=match (q8 p b).params,vs with
 | [x],[v]=>if x∈qI p b then (List.replicate (qI p b).length none).set (qm (qI p b) x).toNat (some v) else List.replicate (qI p b).length none
 | _,_=>List.replicate (qI p b).length none
def qP6 (p:Prg) (m:Mch) (b:Nat) (vs:List Val):List Slt:=match (q8 p b).params,vs with
 | [x],[v]=>if x∈qI p b then m.cells++List.replicate (qE p b).length none else (m.cells++List.replicate (qE p b).length none).set (m.cells.length+(qm (qE p b) x).toNat) (some v)
 | _,_=>m.cells++List.replicate (qE p b).length none
structure Beg (s:St) (p:Prg) (m:Mch) (b:Nat) (cs:List Nat) (vs:List Val) (n:Nat) (fa C:List Slt):Prop where
 t0:s.tm 0=.pt Yn 0
 t2:s.tm 2=.sl 1 (zA cs)
 t3:s.tm 3=.sl 2 (qt vs)
 t8:s.tm 8=.pt (.s 8) 0
 p8:s.hp (.s 8)=some (.row 6 [(q8 p b).row])
 t9:s.tm 9=.pt (.s 9) 0
 p9:s.hp (.s 9)=some (.row 29 [[iv b,iv 0,.hs (.c (.s 9) 0 2) 3 0 (qI p b).length,.hs (.c (.s 9) 0 3) 1 0 n,bv false,iv 0,iv 0,bv false,iv 0,iv 0,bv false,iv 0,iv 0,bv false,iv 0,iv 0,bv false,iv 0,iv 0,bv false,iv 0,iv 0,bv false,iv 0,iv 0,bv false,iv 0,iv 0,.hs (.c (.s 9) 0 28) 2 0 0]])
 p92:s.hp (.c (.s 9) 0 2)=some (.row 3 (qN fa))
 p93:s.hp (.c (.s 9) 0 3)=some (.row 1 (zA ((List.range n).map (m.cells.length+·))))
 p928:s.hp (.c (.s 9) 0 28)=some (.row 2 [])
 own:jE s.hp p m C
theorem qBu (gl) (H:Nm→Option AO) (p:Prg) (m:Mch) (b:Nat) (cs:List Nat) (vs:List Val) (hb:b<p.length) (hp7:p.length≤7) (hcs:cs.length≤8) (hcr:∀ c∈cs,c<m.cells.length) (hcl:m.cells.length≤2000) (hmd:m.made≤1000) (hdp:m.deep≤1000) (hfl:m.frames.length≤150) (hpar:(q8 p b).params=[]∨∃ x,(q8 p b).params=[x]∧((x∈qI p b∧x∉qE p b)∨(x∉qI p b∧x∈qE p b))) (hvs:vs.length=(q8 p b).params.length) (hfr:∀ f∈m.frames,∀ c∈f.cells,c<m.cells.length) (hfn:∀ g∈m.funs,∀ c∈g.2,c<m.cells.length) (hO:OwnY H p m) :
  FnE Tryz.prog gl 114 DM [.pt Yn 0,iv b,.sl 1 (zA cs),.sl 2 (qt vs)] H (fun _ _ H'=>OwnY H' p (qk p m b cs vs)) noE:=by
 have hOc:=hO.yc
 obtain⟨R,hT,hRl,r0⟩:∃ R,H Yn=some (.row 4415 [R])∧R.length=4415∧R[0]?=some (csl (qX p p.length)):=by
  obtain⟨J,hJ,e,_⟩:=hOc
  exact⟨_,e,yx (jm hJ),qPM⟩
 obtain⟨r0l,r0E⟩:=gS r0
 obtain⟨kk,hk⟩:∃ k,p[b]?=some k:=⟨_,gE hb⟩
 have hcd:(qX p p.length)[b]?=some (q8 p b):=by simp [qX,hb]
 obtain⟨hcdl,hcdE⟩:=gS hcd
 have hcf:(q8 p b).fasts=qI p b:=by simp [q8,hk]
 have hcc:(q8 p b).cells=qE p b:=by simp [q8,hk]
 have hf8:=yv (p:=p) (b:=b)
 have hc8:=zV (p:=p) (b:=b)
 refine FnE.of_sem Tryz.func114 rfl (by kernel_rfl) (rs:=[]) rfl Tryz.ntmps114 (lB rfl) (fun _=>qH) fun C w g root hroot=>?_
 have fx:=aI hT<|aI hRl<|aI r0<|aI r0E<|aI hcd<|aI hcdl<|aI hcdE<|aI hcf<|aI hcc<|aI hf8<|hc8
 refine qB ?_
 clear fx
 have hrp:List.replicate (qI p b).length [bv false,iv 0,iv 0]=qN (List.replicate (qI p b).length none):=by simp [qN]
 have hun:∀ k i j,DM k=true→Nm.under (.c (.s 9) i j) k=false:=fun k i j hk=>by
  cases h:Nm.under (.c (.s 9) i j) k with
  | false=>rfl
  | true=>have:=(Nm.under_not_c h).1;rw [(D_s (fun _=>qH) hk 9).2] at this;cases this
 refine qY (fun n s=>∃ i:Nat,n=(qE p b).length - i∧i≤(qE p b).length∧Beg s p m b cs vs i (List.replicate (qI p b).length none) (m.cells++List.replicate i none)∧s.tm 29=iv (qE p b).length∧s.tm 30=iv i) (qE p b).length ?_ ?_
 ·refine⟨0,by omega,by omega,⟨by simp,by simp,by simp,by simp,by simp [hcf,hcc],by simp,by simp,by simp [hrp],by simp [zA],by simp,?_⟩,by simp,by simp⟩
  rw [List.replicate_zero,List.append_nil]
  have hst:jE (st0 [.pt Yn 0,iv b,.sl 1 (zA cs),.sl 2 (qt vs)] H 125 gl).hp p m m.cells:=hOc.ren (F:=some) (fun _ _=>rfl) fun k hk=>by cases h:H k <;> simp [h,AO.tr_some]
  exact (by repeat (first|(with_reducible exact hst)|refine qBJ ?_|refine wV (by rfl) ?_|refine wZ (by rfl) ?_|refine wW (by rfl) (by rfl) ?_|refine qBt (by rfl) ?_|exact hst))
 clear hT hRl r0E r0l r0 R
 rintro n s - - ⟨i,rfl,hi,hB,t29,t30⟩
 have t0:=hB.t0
 have t2:=hB.t2
 have t3:=hB.t3
 have t8:=hB.t8
 have p8:=hB.p8
 have t9:=hB.t9
 have p9:=hB.p9
 have p92:=hB.p92
 have p93:=hB.p93
 have p928:=hB.p928
 by_cases hil:i<(qE p b).length
 ·have hil1:((List.range i).map (m.cells.length+·)).length=i:=by simp
  have hi8:i≤8:=by omega
  have hu:(un Tryz.prog C w g H 125 gl).ext (.u 7 (m.cells.length+i) 0)=false:=by simp [un,hO.free (c:=m.cells.length+i) (by omega)]
  have fx:=aI t0<|aI t2<|aI t3<|aI t8<|aI p8<|aI t9<|aI p9<|aI p92<|aI p928<|aI t29<|aI t30<|aI hil<|aI hil1<|hi8
  refine qB ?_
  repeat ((first|refine wSc (id:=12) qHZ qA ?_|refine wSc (id:=13) qHY qA ?_|refine wSc (id:=16) qHX qA ?_|refine wSc (id:=19) qHW qA ?_|refine wSc (id:=20) qHV qA ?_);refine qC ?_;refine qB ?_)
  clear fx
  intro K hK
  refine qOO (.c (.s 36) 0 0) (.u 7 (m.cells.length+i) 0) (.inl rfl) (.inr hu) ?_
  have hCl:(m.cells++List.replicate i none).length=m.cells.length+i:=by simp
  have hrl:∀ F:Nm→Option Nm,(∀ c,c<m.cells.length+i→F (En c)=some (En c))→(zA ((List.range i).map (m.cells.length+·))).map (fun r=>r.map (AV.tr F))=zA ((List.range i).map (m.cells.length+·)):=fun F hF=>qBp fun c hc=>by
   simp only [List.mem_map,List.mem_range] at hc
   obtain⟨a,ha,rfl⟩:=hc
   exact hF _ (by omega)
  have hmv:∀ c,c<m.cells.length+i→mv (.c (.s 36) 0 0) (.u 7 (m.cells.length+i) 0) (En c)=some (En c):=fun c hc=>by simp [mv,Nat.ne_of_lt hc]
  have hcsF:(zA cs).map (fun r=>r.map (AV.tr (mv (.c (.s 36) 0 0) (.u 7 (m.cells.length+i) 0))))=zA cs:=qBp fun c hc=>hmv c (by have:=hcr c hc;omega)
  have hOB:=hB.own
  refine yr (fun s=>s.tm 33=.hs (.c (.s 9) 0 3) 1 0 i∧s.tm 36=.hs (.s 36) 1 0 1∧s.hp (.s 36)=some (.row 1 [[.pt (.u 7 (m.cells.length+i) 0) 0]])∧Beg s p m b cs vs i (List.replicate (qI p b).length none) (m.cells++List.replicate (i+1) none)∧s.tm 29=iv (qE p b).length∧s.tm 30=iv i) ⟨by simp,by simp,by simp,⟨by simp [t0],by simp [t2,hcsF],by simp [t3],by simp [t8],by simp [p8],by simp [t9],by simp [p9],by simp [p92],by simp [p93,hrl _ hmv],by simp [p928],?_⟩,by simp [t29],by simp [t30]⟩ ?_
  ·rw [List.replicate_succ',← List.append_assoc]
   exact jE.add' (n0:=.c (.s 36) 0 0) (s:=none) (by simp) rfl (by repeat (first|(with_reducible exact hOB)|refine qBJ ?_|refine wV (by rfl) ?_|refine wZ (by rfl) ?_|refine wW (by rfl) (by rfl) ?_|refine qBt (by rfl) ?_|exact hOB)) (by simp) (fun f hf c hc=>by have:=hfr f hf c hc;simp;omega) (fun g hg c hc=>by have:=hfn g hg c hc;simp;omega)
  clear t0 t2 t3 t8 p8 t9 p9 p92 p93 p928 t29 t30 hB hOB
  rintro s ⟨t33,t36,p36,hB,t29,t30⟩
  have t0:=hB.t0
  have t2:=hB.t2
  have t3:=hB.t3
  have t8:=hB.t8
  have p8:=hB.p8
  have t9:=hB.t9
  have p9:=hB.p9
  have p92:=hB.p92
  have p93:=hB.p93
  have p928:=hB.p928
  have hOB:=hB.own
  have fx:=aI t0<|aI t2<|aI t3<|aI t8<|aI p8<|aI t9<|aI p9<|aI p92<|aI p93<|aI p928<|aI t29<|aI t30<|aI t33<|aI t36<|aI p36<|aI hil<|aI hil1<|hi8
  refine qB ?_
  repeat ((first|refine wSc (id:=12) qHZ qA ?_|refine wSc (id:=13) qHY qA ?_|refine wSc (id:=16) qHX qA ?_|refine wSc (id:=19) qHW qA ?_|refine wSc (id:=20) qHV qA ?_);refine qC ?_;refine qB ?_)
  clear fx
  have hap:zA ((List.range i).map (m.cells.length+·))++[[.pt (.u 7 (m.cells.length+i) 0) 0]]=zA ((List.range (i+1)).map (m.cells.length+·)):=by simp [zA,List.range_succ,ptE]
  have htt:((List.range i).map (m.cells.length+·)).take i=(List.range i).map (m.cells.length+·):=List.take_of_length_le (by simp)
  refine⟨(qE p b).length - (i+1),by omega,i+1,rfl,by omega,⟨by simp [t0],by simp [t2],by simp [t3],by simp [t8],by simp [p8],by simp [t9],by simp,by simp [p92],by simp [← hap,htt],by simp [p928],(by repeat (first|(with_reducible exact hOB)|refine qBJ ?_|refine wV (by rfl) ?_|refine wZ (by rfl) ?_|refine wW (by rfl) (by rfl) ?_|refine qBt (by rfl) ?_|exact hOB))⟩,by simp [t29],by simp [t30];exact wrp (by omega) (by omega)⟩
 ·obtain rfl:i=(qE p b).length:=by omega
  have hOB:=hB.own
  have fx:=aI t0<|aI t2<|aI t3<|aI t8<|aI p8<|aI t9<|aI p9<|aI p92<|aI p93<|aI p928<|aI t29<|t30
  refine qB ?_
  clear fx
  refine yd (fun s=>Beg s p m b cs vs (qE p b).length (List.replicate (qI p b).length none) (m.cells++List.replicate (qE p b).length none)∧s.tm 41=isl (q8 p b).params∧s.tm 42=iv (q8 p b).params.length∧s.tm 43=iv 0) ⟨⟨by simp [t0],by simp [t2],by simp [t3],by simp [t8],by simp [p8],by simp [t9],by simp [p9],by simp [p92],by simp [p93],by simp [p928],(by repeat (first|(with_reducible exact hOB)|refine qBJ ?_|refine wV (by rfl) ?_|refine wZ (by rfl) ?_|refine wW (by rfl) (by rfl) ?_|refine qBt (by rfl) ?_|exact hOB))⟩,by simp,by simp,by simp⟩ ?_
  clear t0 t2 t3 t8 p8 t9 p9 p92 p93 p928 t29 t30 hB hOB
  rintro s ⟨hB,t41,t42,t43⟩
  refine qY (fun n s=>∃ (i:Nat) (fa C:List Slt),n=(q8 p b).params.length - i∧i≤(q8 p b).params.length∧Beg s p m b cs vs (qE p b).length fa C∧fa.length=(qI p b).length∧C.length=m.cells.length+(qE p b).length∧(i=0→fa=List.replicate (qI p b).length none∧C=m.cells++List.replicate (qE p b).length none)∧(i=(q8 p b).params.length→fa=qGo p b vs∧C=qP6 p m b vs)∧s.tm 41=isl (q8 p b).params∧s.tm 42=iv (q8 p b).params.length∧s.tm 43=iv i) (q8 p b).params.length ?_ ?_
  ·exact⟨0,_,_,by omega,by omega,hB,by simp,by simp,fun _=>⟨rfl,rfl⟩,fun h=>by have h1:=List.eq_nil_of_length_eq_zero h.symm;simp [qGo,qP6,h1],t41,t42,t43⟩
  clear t41 t42 t43 hB
  rintro n s - - ⟨i,fa,C,rfl,hi,hB,hfa,hC,hi0,hi1,t41,t42,t43⟩
  have t0:=hB.t0
  have t2:=hB.t2
  have t3:=hB.t3
  have t8:=hB.t8
  have p8:=hB.p8
  have t9:=hB.t9
  have p9:=hB.p9
  have p92:=hB.p92
  have p93:=hB.p93
  have p928:=hB.p928
  have hOB:=hB.own
  by_cases hil:i<(q8 p b).params.length
  ·obtain⟨x,hx,hx2⟩:∃ x,(q8 p b).params=[x]∧((x∈qI p b∧x∉qE p b)∨(x∉qI p b∧x∈qE p b)):=by
    rcases hpar with h|h
    ·rw [h] at hil;simp at hil
    ·exact h
   have hl1:(q8 p b).params.length=1:=by rw [hx];rfl
   obtain rfl:i=0:=by omega
   obtain⟨rfl,rfl⟩:=hi0 rfl
   obtain⟨v,rfl⟩:∃ v,vs=[v]:=List.length_eq_one_iff.1 (by rw [hvs,hl1])
   obtain⟨v1,v2⟩:=v
   rw [hx] at t41 t42
   have hpc:=v9 gl (qE p b) x (by omega)
   have hpf:=v9 gl (qI p b) x (by omega)
   rcases hx2 with⟨hxf,hxc⟩|⟨hxf,hxc⟩
   ·obtain⟨q,hq,hql,-⟩:=ju hxf
    have hpn:qm (qE p b) x=-1:=by
     have h1:=wA (xs:=qE p b) (x:=x)
     have h2:¬ 0≤qm (qE p b) x:=fun h=>hxc (ze.1 h)
     omega
    rw [hpn] at hpc
    rw [hq] at hpf
    have hqi:(q:Int)<(qI p b).length:=by omega
    have fx:=aI t0<|aI t2<|aI t3<|aI t8<|aI p8<|aI t9<|aI p9<|aI p92<|aI p93<|aI p928<|aI t41<|aI t42<|aI t43<|aI hcc<|aI hcf<|aI hql<|hqi
    have c1:=hpc
    have c2:=hpf
    refine qB ?_
    repeat ((first|refine wSc (id:=12) qHZ qA ?_|refine wSc (id:=13) qHY qA ?_|refine wSc (id:=16) qHX qA ?_|refine wSc (id:=19) qHW qA ?_|refine wSc (id:=20) qHV qA ?_);refine qC ?_;refine qB ?_)
    clear fx c1 c2
    have hfF:qGo p b [(v1,v2)]=(List.replicate (qI p b).length none).set q (some (v1,v2)):=by simp [qGo,hx,hxf,hq]
    have hfC:qP6 p m b [(v1,v2)]=m.cells++List.replicate (qE p b).length none:=by simp [qP6,hx,hxf]
    exact⟨0,by omega,1,(List.replicate (qI p b).length none).set q (some (v1,v2)),m.cells++List.replicate (qE p b).length none,by omega,by omega,⟨by simp [t0],by simp [t2],by simp [t3],by simp [t8],by simp [p8],by simp [t9],by simp [p9],by simp [p92],by simp [p93],by simp [p928],(by repeat (first|(with_reducible exact hOB)|refine qBJ ?_|refine wV (by rfl) ?_|refine wZ (by rfl) ?_|refine wW (by rfl) (by rfl) ?_|refine qBt (by rfl) ?_|exact hOB))⟩,by simp,by simp,fun h=>by omega,fun _=>⟨hfF.symm,hfC.symm⟩,by simp [t41,hx],by simp [t42,hx],by simp [t43];rfl⟩
   ·obtain⟨q,hq,hql,-⟩:=ju hxc
    rw [hq] at hpc
    have hqi:(q:Int)<(qE p b).length:=by omega
    have hqn:((q:Int) == -1)=false:=by rw [beq_eq_false_iff_ne];omega
    have hcl2:m.cells.length+q<(m.cells++List.replicate (qE p b).length none).length:=by simp;omega
    have e9:m.cells.length+q - m.cells.length=q:=by omega
    have hcq:(m.cells++List.replicate (qE p b).length none)[m.cells.length+q]?=some (none:Slt):=by
     rw [List.getElem?_append_right (by omega),e9]
     simp [hql]
    have hE:s.hp (.u 7 (m.cells.length+q) 0)=some (.row 3 [[bv false,iv 0,iv 0]]):=by
     obtain⟨J,hJ,e,hOw⟩:=hOB
     have:=hOw.cell (m.cells.length+q) none hcq
     simpa [wrO] using this
    have her:(zA ((List.range (qE p b).length).map (m.cells.length+·)))[q]?=some [.pt (.u 7 (m.cells.length+q) 0) 0]:=by rw [qGd];simp [hql,ptE]
    obtain⟨herl,herE⟩:=gS her
    have fx:=aI t0<|aI t2<|aI t3<|aI t8<|aI p8<|aI t9<|aI p9<|aI p92<|aI p93<|aI p928<|aI t41<|aI t42<|aI t43<|aI hcc<|aI hcf<|aI hql<|aI hqi<|aI hqn<|aI @zU<|aI hE<|aI her<|aI herE<|herl
    have c1:=hpc
    refine qB ?_
    repeat ((first|refine wSc (id:=12) qHZ qA ?_|refine wSc (id:=13) qHY qA ?_|refine wSc (id:=16) qHX qA ?_|refine wSc (id:=19) qHW qA ?_|refine wSc (id:=20) qHV qA ?_);refine qC ?_;refine qB ?_)
    clear fx c1
    have hfF:qGo p b [(v1,v2)]=List.replicate (qI p b).length none:=by simp [qGo,hx,hxf]
    have hfC:qP6 p m b [(v1,v2)]=(m.cells++List.replicate (qE p b).length none).set (m.cells.length+q) (some (v1,v2)):=by simp [qP6,hx,hxf,hq]
    refine⟨0,by omega,1,List.replicate (qI p b).length none,(m.cells++List.replicate (qE p b).length none).set (m.cells.length+q) (some (v1,v2)),by omega,by omega,⟨by simp [t0],by simp [t2],by simp [t3],by simp [t8],by simp [p8],by simp [t9],by simp [p9],by simp [p92],by simp [p93],by simp [p928],?_⟩,by simp,by simp,fun h=>by omega,fun _=>⟨hfF.symm,hfC.symm⟩,by simp [t41,hx],by simp [t42,hx],by simp [t43];rfl⟩
    repeat (refine qBJ ?_)
    exact qPh (some (v1,v2)) hcl2 (by repeat (first|(with_reducible exact hOB)|refine qBJ ?_|refine wV (by rfl) ?_|refine wZ (by rfl) ?_|refine wW (by rfl) (by rfl) ?_|refine qBt (by rfl) ?_|exact hOB))
  ·obtain rfl:i=(q8 p b).params.length:=by omega
   have hil1:((List.range (qE p b).length).map (m.cells.length+·)).length=(qE p b).length:=by simp
   have hsum:(qE p b).length+cs.length≤16:=by omega
   have htt:((List.range (qE p b).length).map (m.cells.length+·)).take (qE p b).length=(List.range (qE p b).length).map (m.cells.length+·):=List.take_of_length_le (by simp)
   have fx:=aI t0<|aI t2<|aI t3<|aI t8<|aI p8<|aI t9<|aI p9<|aI p92<|aI p93<|aI p928<|aI t41<|aI t42<|aI t43<|aI hil1<|aI hsum<|hcs
   refine qB ?_
   clear fx
   refine yd (fun s=>s.tm 0=.pt Yn 0∧s.tm 8=.pt (.s 8) 0∧s.hp (.s 8)=some (.row 6 [(q8 p b).row])∧s.tm 9=.pt (.s 9) 0∧s.hp (.s 9)=some (.row 29 [[iv b,iv 0,.hs (.c (.s 9) 0 2) 3 0 (qI p b).length,.hs (.c (.s 9) 0 3) 1 0 ((qE p b).length+cs.length),bv false,iv 0,iv 0,bv false,iv 0,iv 0,bv false,iv 0,iv 0,bv false,iv 0,iv 0,bv false,iv 0,iv 0,bv false,iv 0,iv 0,bv false,iv 0,iv 0,bv false,iv 0,iv 0,.hs (.c (.s 9) 0 28) 2 0 0]])∧s.hp (.c (.s 9) 0 2)=some (.row 3 (qN fa))∧s.hp (.c (.s 9) 0 3)=some (.row 1 (zA ((List.range (qE p b).length).map (m.cells.length+·)++cs)))∧s.hp (.c (.s 9) 0 28)=some (.row 2 [])∧jE s.hp p m C) ⟨by simp [t0],by simp [t8],by simp [p8],by simp [t9],by simp,by simp [p92],by simp [htt,← qLw],by simp [p928],(by repeat (first|(with_reducible exact hOB)|refine qBJ ?_|refine wV (by rfl) ?_|refine wZ (by rfl) ?_|refine wW (by rfl) (by rfl) ?_|refine qBt (by rfl) ?_|exact hOB))⟩ ?_
   clear t0 t2 t3 t8 p8 t9 p9 p92 p93 p928 hOB t41 t42 t43 hB
   rintro s ⟨t0,t8,p8,t9,p9,p92,p93,p928,hOB⟩
   obtain⟨R,hT,hRl,r4⟩:∃ R,s.hp Yn=some (.row 4415 [R])∧R.length=4415∧R[4411]?=some (iv m.frames.length):=by
    obtain⟨J,hJ,e,_⟩:=hOB
    exact⟨_,e,yx (jm hJ),qAE (jm hJ)⟩
   obtain⟨_,r4E⟩:=gS r4
   have hfl2:(m.frames.length:Int)<151:=by omega
   have hfl3:(0:Int)≤(m.frames.length:Int):=by omega
   have hfl4:32+m.frames.length * 29+29≤4415:=by omega
   refine qM4 (.c (.s 9) 0 2) (.s 20) (.inl rfl) (.inl rfl) (qM4 (.c (.s 9) 0 3) (.s 21) (.inl rfl) (.inl rfl) (qM4 (.c (.s 9) 0 28) (.s 22) (.inl rfl) (.inl rfl) ?_))
   have fx:=aI t0<|aI t8<|aI p8<|aI t9<|aI p9<|aI p92<|aI p93<|aI p928<|aI hT<|aI hRl<|aI r4<|aI r4E<|aI hfl2<|aI hfl3<|hfl4
   refine qB ?_
   repeat ((first|refine wSc (id:=12) qHZ qA ?_|refine wSc (id:=13) qHY qA ?_|refine wSc (id:=16) qHX qA ?_|refine wSc (id:=19) qHW qA ?_|refine wSc (id:=20) qHV qA ?_);refine qC ?_;refine qB ?_)
   clear fx
   intro K hK
   have hmc:m.frames.length * 29=29 * m.frames.length:=Nat.mul_comm _ _
   obtain⟨M,hM⟩:∃ M:Mch,M={ m with cells:=C,made:=m.made+1,deep:=max m.deep (m.frames.length+1),frames:=m.frames++[⟨b,0,fa,(List.range (qE p b).length).map (m.cells.length+·)++cs,qe,[]⟩] }:=⟨_,rfl⟩
   refine yr (fun s=>s.tm 0=.pt Yn 0∧s.tm 89=.pt Yn 0∧s.tm 91=.pt Yn 4411∧s.tm 8=.pt (.s 8) 0∧s.hp (.s 8)=some (.row 6 [(q8 p b).row])∧qDR s.hp p m M m.frames.length) ⟨by simp [t0],by simp,by simp,by simp [t8],by simp [p8],?_⟩ ?_
   ·rw [hM]
    simp only [hmc]
    have h:=hOB
    refine jE.beg (g:=⟨b,0,fa,(List.range (qE p b).length).map (m.cells.length+·)++cs,qe,[]⟩) h (by omega) hT (F:=fun q=>(((((mv (.c (.s 9) 0 2) (.s 20) q).bind (mv (.c (.s 9) 0 3) (.s 21))).bind (mv (.c (.s 9) 0 28) (.s 22))).bind (mv (.s 20) (.c Yn 0 (yo m.frames.length+2)))).bind (mv (.s 21) (.c Yn 0 (yo m.frames.length+3)))).bind (mv (.s 22) (.c Yn 0 (yo m.frames.length+28)))) (fun j h1 h2 h3=>by simp [mv,h1,h2,h3]) (h0:=?_) (h6t:=?_) (h7t:=?_) (h8t:=?_)
    ·simp only [← km]
     simp [spl,yfr,qA7,hfa]
    ·simp [p92]
    ·simp [p93]
    ·simp [p928]
   have hbg:qk p m b cs vs=M:=by
    obtain⟨e1,e2⟩:=hi1 rfl
    rw [hM,e1,e2]
    rcases hpar with h|⟨x,hx,hx2⟩
    ·simp [qk,qGo,qP6,h]
    ·obtain⟨v,rfl⟩:∃ v,vs=[v]:=List.length_eq_one_iff.1 (by rw [hvs,hx];rfl)
     rcases hx2 with⟨h1,h2⟩|⟨h1,h2⟩ <;> simp [qk,qGo,qP6,hx,h1]
   have hMc:M.cells=C:=by rw [hM]
   have hMl:M.frames.length=m.frames.length+1:=by rw [hM];simp
   have hMr:∀ (h:Nat) (c:Nat→List AV),ql p { m with made:=m.made+1,deep:=max m.deep (m.frames.length+1),cells:=C } h c=ql p M h c:=fun h c=>by rw [hM];rfl
   clear hM
   have hw1:IntKind.i64.wrap ((m.frames.length:Int)+1)=((m.frames.length+1:Nat):Int):=wrp (by omega) (by omega)
   have hw2:IntKind.i64.wrap ((m.made:Int)+1)=((m.made+1:Nat):Int):=wrp (by omega) (by omega)
   have hw3:IntKind.i64.wrap ((m.cells.length:Int)+((qE p b).length:Int))=((C.length:Nat):Int):=by rw [hC,wrp (by omega) (by omega)];omega
   clear t0 t8 p8 t9 p9 p92 p93 p928 hOB hT r4 r4E hRl
   rintro s ⟨t0,t89,t91,t8,p8,hY⟩
   obtain⟨R,hT,hRl,r4,r2,r3,r1⟩:=hY.row
   obtain⟨_,r4E⟩:=gS r4
   obtain⟨_,r3E⟩:=gS r3
   obtain⟨_,r2E⟩:=gS r2
   obtain⟨_,r1E⟩:=gS r1
   have fx:=aI t0<|aI t89<|aI t91<|aI t8<|aI p8<|aI hT<|aI hRl<|aI r4<|aI r4E<|aI r3<|aI r3E<|aI r2<|aI r2E<|aI hw1<|hw2
   refine qB ?_
   repeat ((first|refine wSc (id:=12) qHZ qA ?_|refine wSc (id:=13) qHY qA ?_|refine wSc (id:=16) qHX qA ?_|refine wSc (id:=19) qHW qA ?_|refine wSc (id:=20) qHV qA ?_);refine qC ?_;refine qB ?_)
   clear fx
   intro K hK
   have fx:=aI t0 (aI t8 (aI p8 (aI hT (aI hRl (aI r4 (aI r4E (aI r2 r2E)))))))
   refine qPq (i:=(m.deep:Int)) (j:=(m.frames.length:Int)+1) ((max m.deep (m.frames.length+1):Nat):Int) (by omega) (h:=?_)
   clear fx
   have fx:=aI t0<|aI t8<|aI p8<|aI hT<|aI hRl<|aI r4<|aI r4E<|aI r3<|aI r3E<|aI r2<|aI r2E<|aI r1<|aI r1E<|aI hcc<|aI hw1<|aI hw2<|hw3
   refine qB ?_
   repeat ((first|refine wSc (id:=12) qHZ qA ?_|refine wSc (id:=13) qHY qA ?_|refine wSc (id:=16) qHX qA ?_|refine wSc (id:=19) qHW qA ?_|refine wSc (id:=20) qHV qA ?_);refine qC ?_;refine qB ?_)
   clear fx
   refine zj [] .nil (by simp;rfl) (OwnY.fin ?_)
   have h1:=hY.set (hp':=wrO Yn (.row 4415 [spl R 4411 [iv (m.frames.length+1:Nat)]]) s.hp) hT rfl (fun J hJ=>qPJ hJ) (fun q hq hn=>by simp [wrO,hn])
   have h2:=h1.set (hp':=wrO Yn (.row 4415 [spl (spl R 4411 [iv (m.frames.length+1:Nat)]) 4413 [iv (m.made+1:Nat)]]) s.hp) rfl rfl (fun J hJ=>qS1 hJ) (fun q hq hn=>by simp [wrO,hn])
   have h3:=h2.set (hp':=wrO Yn (.row 4415 [spl (spl (spl R 4411 [iv (m.frames.length+1:Nat)]) 4413 [iv (m.made+1:Nat)]) 4412 [iv (max m.deep (m.frames.length+1):Nat)]]) s.hp) rfl rfl (fun J hJ=>qS3 hJ) (fun q hq hn=>by simp [wrO,hn])
   rw [hbg]
   refine qDR.done (m:={ m with made:=m.made+1,deep:=max m.deep (m.frames.length+1),cells:=C }) (h:=m.frames.length+1) ?_ fun J=>by rw [hMr,hMl]
   refine h3.set rfl (k:=4414) (v:=iv (C.length:Nat)) ?_ (fun J hJ=>qS4 hJ) (fun q hq hn=>by simp [wrO,hn])
   simp [spl,hRl,List.take_append,List.drop_append]
abbrev qCW:Sch:=.q 0<|.q 1<|.q 2<|.q 3<|.q 4<|.q 5<|.q 6<|.q 7<|.l 8 [7,6,5,4,3,2,1,0]<|.l 9 []<|.done
abbrev qCV:Sch:=.q 0<|.q 1<|.q 2<|.q 3<|.q 4<|.q 5<|.q 6<|.q 7<|.q 8<|.q 9<|.q 10<|.q 11<|.done
theorem qMf (gl) (H:Nm→Option AO) (p:Prg) (m:Mch) (fs:List Frm) (f:Frm) (n pc0:Nat) (hP:ValP p) (h:MOk p m fs { f with pc:=pc0 }) (hn1:n≤1) (hst:n+1≤f.stack.length) (hsl:f.stack.length≤1000) (hfl:fs.length+1≤150) (hm0:m.en=0) (hO:OwnY H p (m.top fs f)) :
  FnE Tryz.prog gl 175 DM [.pt Yn 0,.pt Yn (yo fs.length),iv n] H (fun _ y H'=>y=bv (decide ((uo p m fs f (17,(n:Int))).en=0))∧OwnY H' p (uo p m fs f (17,(n:Int)))) noE:=by
 have h0:=hO
 have hcm:=qGl (p:=p) (m:=m) (fs:=fs) hst
 have hnw:IntKind.i64.wrap ((n:Int) - 1)=(n:Int) - 1:=wrp (by omega) (by omega)
 have yoh:yo fs.length+29≤4415:=by simp only [yo];omega
 have hrp:List.replicate n [iv 0,iv 0]=qt (List.replicate n (0,0)):=by simp [qt]
 refine FnE.of_sem Tryz.func175 rfl (by kernel_rfl) (rs:=[.tmp 6]) rfl Tryz.ntmps175 (lB rfl) (fun _=>qH) fun C w g root hroot=>?_
 have fx:=aI hnw<|hn1
 refine qB ?_
 repeat ((first|refine wSc (id:=9) qCW qA ?_|refine wSc (id:=10) qCV qA ?_);refine qC ?_;refine qB ?_)
 clear fx
 refine qY (fun k s=>∃ i:Nat,k=n - i∧i≤n∧s.tm 0=.pt Yn 0∧s.tm 1=.pt Yn (yo fs.length)∧s.tm 2=iv n∧s.tm 7=.hs (.s 7) 2 0 n∧s.hp (.s 7)=some (.row 2 (qt (List.replicate (n - i) (0,0)++f.stack.drop (f.stack.length - i))))∧s.tm 8=iv ((n:Int) - 1 - i)∧OwnY s.hp p (m.top fs (f.cut i))) n ?_ ?_
 ·exact⟨0,by omega,by omega,by simp,by simp,by simp,by simp,by simp [hrp],by simp,by rw [qIq];exact (by repeat (first|(with_reducible exact hO)|refine vu ?_|refine y9 (by rfl) ?_|refine yb ?_|refine vO ?_|refine ya ?_|refine vv ?_|exact (have h:=hO;OwnY.re h)))⟩
 clear hO
 rintro k s - - ⟨i,rfl,hi,t0,t1,t2,t7,p7,t8,hO⟩
 have hk:=qHe (f:=f) (i:=i) (by omega)
 obtain⟨R,j,hT,tr,h2,h3,h28⟩:=hO.topT rfl (by omega)
 have f28:=tr.f28
 rw [hk] at f28
 by_cases hil:i<n
 ·obtain rfl:n=1:=by omega
  obtain rfl:i=0:=by omega
  have fx:=aI t0<|aI t1<|aI t2<|aI t7<|aI p7<|t8
  refine qB ?_
  repeat ((first|refine wSc (id:=9) qCW qA ?_|refine wSc (id:=10) qCV qA ?_);refine qC ?_;refine qB ?_)
  clear fx
  intro K hK
  have fx:=aI t0 (aI t1 (aI t7 p7))
  refine qQ h0 (have h:=hO;OwnY.re h) (Nat.le_refl _) (hF:=fun _=>uG gl DM (fun _=>qH) _ R (yo fs.length) (f.stack.length - (0+1)) ((f.cut 0).stack++j) (f.cut 0).tos (by simp [hT]) f28 (by simp [h28]) (j8 hk) (by omega) yoh) (h:=?_)
  intro y H1 hw
  clear fx
  have hO1:=OwnY.wrp (OwnY.popped (m:=m.top fs (f.cut 0)) (have h:=hO;OwnY.re h) rfl (by omega) (by simp [hT]) hk) hw
  obtain⟨rfl,-⟩:=hw
  have hO2:OwnY H1 p (m.top fs (f.cut 1)):=by have e:=qFC (f:=f) (i:=0) (by omega);simpa [Mch.top,e] using hO1
  have hdv:=qIr (f:=f) (i:=0) (by omega)
  generalize (f.cut 0).tos=v at *
  obtain⟨v1,v2⟩:=v
  have fx:=aI t0<|aI t1<|aI t2<|aI t7<|aI p7<|aI t8<|hT
  refine qB ?_
  repeat ((first|refine wSc (id:=9) qCW qA ?_|refine wSc (id:=10) qCV qA ?_);refine qC ?_;refine qB ?_)
  clear fx
  have hap:f.stack.drop (f.stack.length - 1)=[(v1,v2)]:=by rw [hdv];simp
  exact⟨0,by omega,1,rfl,by omega,by simp [t0,hT],by simp [t1,hT],by simp [t2],by simp [t7],by simp [hap,qt],by simp;decide,(by repeat (first|(with_reducible exact hO2)|refine vu ?_|refine y9 (by rfl) ?_|refine yb ?_|refine vO ?_|refine ya ?_|refine vv ?_|exact (have h:=hO2;OwnY.re h)))⟩
 ·obtain rfl:i=n:=by omega
  have hdl:(f.stack.drop (f.stack.length - i)).length=i:=by simp;omega
  have htm:=h.top.sv _ (gM (qFB (f:=f) (i:=i) (by omega)))
  rw [hcm]
  have hil:(i:Int) - 1 - i=-1:=by omega
  rw [Nat.sub_self,List.replicate_zero,List.nil_append] at p7
  rw [hil] at t8
  have fx:=aI t0<|aI t1<|aI t2<|aI t7<|aI p7<|t8
  refine qB ?_
  repeat ((first|refine wSc (id:=9) qCW qA ?_|refine wSc (id:=10) qCV qA ?_);refine qC ?_;refine qB ?_)
  clear fx
  intro K hK
  have fx:=aI t0 t1
  refine qQ h0 (have h:=hO;OwnY.re h) (Nat.le_refl _) (hF:=fun _=>uG gl DM (fun _=>qH) _ R (yo fs.length) (f.stack.length - (i+1)) ((f.cut i).stack++j) (f.cut i).tos (by simp [hT]) f28 (by simp [h28]) (j8 hk) (by omega) yoh) (h:=?_)
  intro y H1 hw
  clear fx
  have hO1:=OwnY.wrp (OwnY.popped (m:=m.top fs (f.cut i)) (have h:=hO;OwnY.re h) rfl (by omega) (by simp [hT]) hk) hw
  obtain⟨rfl,-⟩:=hw
  have hO2:OwnY H1 p (m.top fs (f.cut (i+1))):=by have e:=qFC (f:=f) (i:=i) (by omega);simpa [Mch.top,e] using hO1
  generalize (f.cut i).tos=v at *
  obtain⟨v1,v2⟩:=v
  have fx:=aI t0<|aI t1<|aI t2<|aI t7<|aI p7<|hT
  refine qB ?_
  repeat ((first|refine wSc (id:=9) qCW qA ?_|refine wSc (id:=10) qCV qA ?_);refine qC ?_;refine qB ?_)
  clear fx
  refine yd (fun s=>s.tm 0=.pt Yn 0∧s.tm 1=.pt Yn (yo fs.length)∧s.tm 2=iv i∧s.tm 7=.hs (.s 7) 2 0 i∧s.hp (.s 7)=some (.row 2 (qt (f.stack.drop (f.stack.length - i))))∧s.tm 9=.pt (.s 9) 0∧s.hp (.s 9)=some (.row 2 [[iv v1,iv v2]])∧s.tm 28=bv (v1 != 2)∧OwnY s.hp p (m.top fs (f.cut (i+1)))) ⟨by simp [t0,hT],by simp [t1,hT],by simp [t2],by simp [t7],by simp [p7],by simp,by simp,by simp,(by repeat (first|(with_reducible exact hO2)|refine vu ?_|refine y9 (by rfl) ?_|refine yb ?_|refine vO ?_|refine ya ?_|refine vv ?_|exact (have h:=hO2;OwnY.re h)))⟩ ?_
  clear hT tr h2 h3 h28 f28 t0 t1 t2 t7 p7 t8 hO hO1 hO2 j R
  rintro s ⟨t0,t1,t2,t7,p7,t9,p9,t28,hO⟩
  obtain⟨R,j,hT,tr,h2,h3,h28⟩:=hO.topT rfl (by omega)
  have hRl:=tr.len
  have r0:=tr.r0
  have r30:=tr.r30
  obtain⟨_,r0E⟩:=gS r0
  obtain⟨_,r30E⟩:=gS r30
  simp only [ud] at r30 r30E
  by_cases h2:v1=2
  case neg =>
   have hb:(v1 != 2)=true:=by simpa using h2
   rw [if_pos h2]
   have fx:=aI t0<|aI t1<|aI t28<|aI hT<|hb
   refine qB ?_
   repeat ((first|refine wSc (id:=9) qCW qA ?_|refine wSc (id:=10) qCV qA ?_);refine qC ?_;refine qB ?_)
   clear fx
   intro K hK
   have fx:=aI t0 t1
   refine qQ h0 (have h:=hO;OwnY.re h) (Nat.le_refl _) (hF:=fun _=>yL gl DM (fun _=>qH) _ R 5 (by simp [hT]) hRl) (h:=?_)
   intro y H1 hw
   clear fx
   have hO1:=OwnY.wrp (OwnY.stopped (m:=m.top fs (f.cut (i+1))) (e:=5) (have h:=hO;OwnY.re h) rfl (by simp [hT])) hw
   obtain⟨rfl,-⟩:=hw
   have fx:=fx0
   refine qB ?_
   repeat ((first|refine wSc (id:=9) qCW qA ?_|refine wSc (id:=10) qCV qA ?_);refine qC ?_;refine qB ?_)
   clear fx
   refine qF [] .nil (by simp;rfl) ⟨by simp [Mch.stop],OwnY.fin (have h:=hO1;OwnY.re h)⟩
  subst h2
  rw [if_neg (by simp)]
  have hv2:=htm.num
  have hv3:=htm.fn rfl
  simp only at hv2 hv3
  obtain⟨jf,rfl⟩:∃ jf:Nat,v2=jf:=⟨v2.toNat,by omega⟩
  have hjl:jf<m.funs.length:=by omega
  obtain⟨q,hq⟩:∃ q,m.funs[jf]?=some q:=⟨_,gE hjl⟩
  obtain⟨_,hqE⟩:=gS hq
  obtain⟨kq,hk1,hk2,hk3,hk4⟩:=h.funs q (gM hq)
  obtain⟨b,cs⟩:=q
  simp only at hk1 hk2 hk3 hk4
  have hFn:=hO.funs
  simp only [ud] at hFn
  have hbl:=(gS hk1).1
  have hcd:(qX p p.length)[b]?=some (q8 p b):=by simp [qX,hbl]
  obtain⟨hcdl,hcdE⟩:=gS hcd
  have hpn:(q8 p b).params.length=qIZ p b:=by simp [q8,hk1,qIZ]
  simp only [Int.toNat_natCast,hq]
  by_cases hpi:qIZ p b=i
  case neg =>
   rw [if_pos hpi]
   have hb:(((qIZ p b:Nat):Int) != (i:Int))=true:=by rw [bne_iff_ne];omega
   have hb2:¬ ((qIZ p b:Nat):Int)=(i:Int):=by omega
   have fx:=aI t0<|aI t1<|aI t2<|aI t7<|aI p7<|aI t9<|aI p9<|aI t28<|aI hT<|aI hRl<|aI r0<|aI r0E<|aI r30<|aI r30E<|aI hFn<|aI hq<|aI hqE<|aI hjl<|aI hcd<|aI hcdl<|aI hcdE<|aI hpn<|aI hb<|hb2
   refine qB ?_
   repeat ((first|refine wSc (id:=9) qCW qA ?_|refine wSc (id:=10) qCV qA ?_);refine qC ?_;refine qB ?_)
   clear fx
   intro K hK
   refine yr (fun s=>s.tm 51=.pt Yn 0∧OwnY s.hp p (m.top fs (f.cut (i+1)))) ⟨by simp,(by repeat (first|(with_reducible exact hO)|refine vu ?_|refine y9 (by rfl) ?_|refine yb ?_|refine vO ?_|refine ya ?_|refine vv ?_|exact (have h:=hO;OwnY.re h)))⟩ ?_
   rintro s ⟨t51,hO⟩
   obtain⟨R,j,hT,tr,-⟩:=hO.topT rfl (by omega)
   have fx:=t51
   refine qQ h0 (have h:=hO;OwnY.re h) (Nat.le_refl _) (hF:=fun _=>yL gl DM (fun _=>qH) _ R 6 (by simp [hT]) tr.len) (h:=?_)
   intro y H1 hw
   clear fx
   have hO1:=OwnY.wrp (OwnY.stopped (m:=m.top fs (f.cut (i+1))) (e:=6) (have h:=hO;OwnY.re h) rfl (by simp [hT])) hw
   obtain⟨rfl,-⟩:=hw
   have fx:=fx0
   refine qB ?_
   repeat ((first|refine wSc (id:=9) qCW qA ?_|refine wSc (id:=10) qCV qA ?_);refine qC ?_;refine qB ?_)
   clear fx
   refine qF [] .nil (by simp;rfl) ⟨by simp [Mch.stop],OwnY.fin (have h:=hO1;OwnY.re h)⟩
  rw [if_neg (by simpa using hpi)]
  have hc8:=jW (p:=p) (b:=b)
  have hmd:=h.made
  have hdp:=h.deep
  have hnc:=h.nc
  have fx:=aI t0<|aI t1<|aI t2<|aI t7<|aI p7<|aI t9<|aI p9<|aI t28<|aI hT<|aI hRl<|aI r0<|aI r0E<|aI r30<|aI r30E<|aI hFn<|aI hq<|aI hqE<|aI hjl<|aI hcd<|aI hcdl<|aI hcdE<|aI hpn<|hpi
  refine qB ?_
  repeat ((first|refine wSc (id:=9) qCW qA ?_|refine wSc (id:=10) qCV qA ?_);refine qC ?_;refine qB ?_)
  clear fx
  intro K hK
  refine yr (fun s=>s.tm 53=.pt Yn 0∧s.tm 55=iv b∧s.tm 57=.sl 1 (zA cs)∧s.tm 58=.hs (.s 7) 2 0 i∧s.hp (.s 7)=some (.row 2 (qt (f.stack.drop (f.stack.length - i))))∧OwnY s.hp p (m.top fs (f.cut (i+1)))) ⟨by simp,by simp,by simp,by simp,by simp [p7],(by repeat (first|(with_reducible exact hO)|refine vu ?_|refine y9 (by rfl) ?_|refine yb ?_|refine vO ?_|refine ya ?_|refine vv ?_|exact (have h:=hO;OwnY.re h)))⟩ ?_
  rintro s ⟨t53,t55,t57,t58,p7,hO⟩
  refine qC7 58 (.s 7) 2 i (qt (f.stack.drop (f.stack.length - i))) t58 p7 (by simp [hdl]) qKU ?_
  have fx:=aI t53 (aI t55 t57)
  refine qQ h0 (vO hO) (Nat.le_refl _) (hF:=fun hO=>qBu gl _ p (m.top fs (f.cut (i+1))) b cs (f.stack.drop (f.stack.length - i)) hbl (by have:=hP.sh.len;omega) (by omega) hk4 (by simp only [kG];omega) (by simp only [qBl];omega) (by simp only [Mch.top];omega) (by simp [Mch.top];omega) (qUT hP hk1 (by omega)) (by rw [hpn,hdl,hpi]) (h.frc rfl) h.fnc hO) (h:=?_)
  rintro y H1 hO1
  clear fx
  have fx:=fx0
  refine qB ?_
  repeat ((first|refine wSc (id:=9) qCW qA ?_|refine wSc (id:=10) qCV qA ?_);refine qC ?_;refine qB ?_)
  clear fx
  refine qF [] .nil (by simp;rfl) ⟨by simp [qFM,Mch.top,hm0],OwnY.fin (have h:=hO1;OwnY.re h)⟩
end Go.Proofs.YtbgmnmnoaamgkaaGreatDoor
end
section
namespace Go.Proofs.YtbgmnmnoaamgkaaGreatDoor
open Go Go.Hm Go.Proofs
abbrev qGB:Sch:=.q 0<|.q 1<|.q 2<|.q 3<|.q 4<|.q 5<|.q 6<|.q 7<|.q 8<|.q 9<|.q 10<|.q 11<|.done
abbrev qGA:Sch:=.q 0<|.q 1<|.q 2<|.q 3<|.q 4<|.q 5<|.q 6<|.q 7<|.q 8<|.l 9 [4,3,2,1,0]<|.l 10 [0]<|.q 11<|.q 12<|.l 13 []<|.done
abbrev qFz:Sch:=.q 0<|.q 2<|.l 1 [2]<|.l 3 []<|.done
theorem qRc (l:List Slt):∃ (b:Nat→Bool) (x y:Nat→Int),vo l=[bv (b 0),iv (x 0),iv (y 0),bv (b 1),iv (x 1),iv (y 1),bv (b 2),iv (x 2),iv (y 2),bv (b 3),iv (x 3),iv (y 3),bv (b 4),iv (x 4),iv (y 4),bv (b 5),iv (x 5),iv (y 5),bv (b 6),iv (x 6),iv (y 6),bv (b 7),iv (x 7),iv (y 7)]:=by
 refine⟨fun i=>(yn l i).isSome,fun i=>((yn l i).getD (0,0)).1,fun i=>((yn l i).getD (0,0)).2,?_⟩
 have h:∀ i,zx (yn l i)=[bv (yn l i).isSome,iv ((yn l i).getD (0,0)).1,iv ((yn l i).getD (0,0)).2]:=fun i=>by cases yn l i <;> rfl
 simp [vo,cat,List.range_succ,h]
theorem qDU (gl) (H:Nm→Option AO) (p:Prg) (m:Mch) (gs:List Frm) (g0 f:Frm) (v:Val) (hb:f.blk<p.length) (hfl:gs.length+1≤150) (hgl:g0.stack.length≤1000) (hcl:m.classes.length≤1000) (hO:OwnY H p (m.top (gs++[g0]) f)) :
  FnE Tryz.prog gl 117 DM [.pt Yn 0,Val.av v] H (fun _ _ H'=>OwnY H' p (if qi p f.blk=2 then zD { m with classes:=m.classes++[f.names] } (gs++[g0]) (3,m.classes.length) else zD m (gs++[g0]) v)) noE:=by
 obtain⟨v1,v2⟩:=v
 have yh:(gs++[g0]).length=gs.length+1:=by simp
 have yoh:yo (gs.length+1)+29≤4411:=by simp only [yo];omega
 refine FnE.of_sem Tryz.func117 rfl (by kernel_rfl) (rs:=[]) rfl Tryz.ntmps117 (lB rfl) (fun _=>qH) fun C w g root hroot=>?_
 have fx:=fx0
 refine qB ?_
 clear fx
 intro K hK
 refine yr (fun s=>s.tm 5=.pt Yn 0∧s.tm 0=.pt Yn 0∧s.tm 3=.pt (.s 3) 0∧s.hp (.s 3)=some (.row 2 [[iv v1,iv v2]])∧OwnY s.hp p (m.top (gs++[g0]) f)) ⟨by simp,by simp,by simp,by simp,(OwnY.ren hO (f:=kl (.s 3)) (fun k hk=>by simp [kl,(D_s (fun _=>qH) hk 3).2]) (fun k hk=>by have:=D_s (fun _=>qH) hk 3;simp [this.1,this.2,hk]))⟩ ?_
 rintro s ⟨t5,t0,t3,p3,hO1⟩
 obtain⟨R,j,hT,tr,h2,h3,h28⟩:=hO1.topT rfl (by omega)
 have fx:=t5
 refine qQ hO (have h:=hO1;OwnY.re h) (Nat.le_refl _) (hF:=fun _=>qDt gl DM (fun _=>qH) rfl _ R (gs++[g0]).length (by simp [hT]) tr.h (by omega)) (h:=?_)
 intro y H1 hw
 clear fx
 have hO2:=OwnY.smp hO1 hw
 obtain⟨rfl,-⟩:=hw
 have fx:=aI t0<|aI t3<|aI p3<|hT
 refine qB ?_
 clear fx
 refine yd (fun s=>s.tm 0=.pt Yn 0∧s.tm 3=.pt (.s 3) 0∧s.hp (.s 3)=some (.row 2 [[iv v1,iv v2]])∧s.tm 4=.pt Yn (yo (gs.length+1))∧OwnY s.hp p (m.top (gs++[g0]) f)) ⟨by simp [t0,hT],by simp [t3],by simp [p3],by simp [hT],(have h:=hO2;OwnY.re h)⟩ ?_
 have h0:=hO
 clear hO hO1 hO2 hT tr h2 h3 h28 R j t5 t0 t3 p3
 rintro s ⟨t0,t3,p3,t4,hO⟩
 obtain⟨R,j,hT,tr,h2,h3,h28⟩:=hO.topT rfl (by omega)
 have hRl:=tr.len
 have r0:=tr.r0
 have f0:=tr.f0
 have r31:=tr.r31
 have tb:=tr.tb
 rw [yh] at f0 tb
 simp only [Mch.top] at r31
 obtain⟨_,r0E⟩:=gS r0
 obtain⟨_,r31E⟩:=gS r31
 obtain⟨f0l,f0E⟩:=gS f0
 have hcd:(qX p p.length)[f.blk]?=some (q8 p f.blk):=by simp [qX,hb]
 obtain⟨hcdl,hcdE⟩:=gS hcd
 obtain⟨k,hk⟩:∃ k,p[f.blk]?=some k:=⟨_,gE hb⟩
 have hki:(q8 p f.blk).kind=qi p f.blk:=by simp [q8,qi,hk]
 by_cases hc:qi p f.blk=2
 ·have hcb:(qi p f.blk==2)=true:=by simp [hc]
  have hcy:=hO.clss
  simp only [Mch.top] at hcy
  obtain⟨b,x,y,hfx⟩:=qRc f.names
  rw [hfx] at tb
  have yob:yo (gs.length+1)+4+24≤4415:=by omega
  have hcl2:m.classes.length+1≤4294967296:=by omega
  have hwc:IntKind.i64.wrap (m.classes.length:Int)=m.classes.length:=wrp (by omega) (by omega)
  have fx:=aI t0<|aI t3<|aI p3<|aI t4<|aI hT<|aI hRl<|aI yoh<|aI yh<|aI r0<|aI r0E<|aI f0<|aI f0E<|aI f0l<|aI hcd<|aI hcdl<|aI hcdE<|aI hki<|aI hc<|aI hcb<|aI r31<|aI r31E<|aI tb<|aI hcy<|aI hcl<|aI yob<|hwc
  refine qB ?_
  repeat ((first|refine wSc (id:=2) qGB qA ?_|refine wSc (id:=3) qGA qA ?_|refine wSc (id:=7) qFz qA ?_);refine qC ?_;refine qB ?_)
  clear fx
  intro K hK
  have hcap:jb m.classes++[[bv (b 0),iv (x 0),iv (y 0),bv (b 1),iv (x 1),iv (y 1),bv (b 2),iv (x 2),iv (y 2),bv (b 3),iv (x 3),iv (y 3),bv (b 4),iv (x 4),iv (y 4),bv (b 5),iv (x 5),iv (y 5),bv (b 6),iv (x 6),iv (y 6),bv (b 7),iv (x 7),iv (y 7)]]=jb (m.classes++[f.names]):=by rw [← hfx];exact qJw
  let R1:List AV:=(R.map (AV.tr (mv (.s 29) (.c Yn 0 31))∘AV.tr (kl (.s 29))∘AV.tr (kl (.s 28)))).take 31++.hs (.c Yn 0 31) 24 0 (m.classes.length+1)::(R.map (AV.tr (mv (.s 29) (.c Yn 0 31))∘AV.tr (kl (.s 29))∘AV.tr (kl (.s 28)))).drop 32
  have hO1:OwnY (wrO Yn (.row 4415 [R1]) (wrO (.c Yn 0 31) (.row 24 (jb (m.classes++[f.names]))) s.hp)) p (({ m with classes:=m.classes++[f.names] }:Mch).top (gs++[g0]) f):=by
   have h:=hO
   rw [yh] at h2 h3 h28
   exact OwnY.reT (f:=f) (g:=f) (fs:=gs++[g0]) h rfl rfl rfl (qET hT (R':=R1) (by simp [wrO]) (fun J hJ e=>by simp only [R1];rw [e];simp only [km];exact qUv (m.classes++[f.names]) hJ (by simp) (fun j hj=>by simp [hj]))) (h5:=by simp [wrO]) (h6t:=by simp [wrO,h2]) (h7t:=by simp [wrO,h3]) (h8t:=⟨j,by simp [wrO,h28]⟩)
  refine yr (fun s=>s.tm 0=.pt Yn 0∧s.tm 42=.pt Yn 0∧s.tm 44=.pt Yn 4411∧s.tm 3=.pt (.s 3) 0∧s.hp (.s 3)=some (.row 2 [[iv 3,iv m.classes.length]])∧qHr s.hp p { ({ m with classes:=m.classes++[f.names] }:Mch) with frames:=gs++[g0] } (gs.length+2)) ⟨by simp [t0],by simp [t0],by simp [t0],by simp [t3],by simp [p3,hwc],?_⟩ ?_
  ·have h:=hO1
   have hR1:(wrO Yn (.row 4415 [R1]) (wrO (.c Yn 0 31) (.row 24 (jb (m.classes++[f.names]))) s.hp)) Yn=some (.row 4415 [R1]):=by simp [wrO]
   rw [show gs.length+2=(gs++[g0]).length+1 by simp]
   refine OwnY.endF (m:=({ m with classes:=m.classes++[f.names] }:Mch).top (gs++[g0]) f) h rfl (by omega) hR1 (vals:=[iv 0,iv 0,.hs (.c Yn 0 (yo (gs.length+1)+2)) 3 0 0,.hs (.c Yn 0 (yo (gs.length+1)+3)) 1 0 0]++(vo qe++[.hs (.c Yn 0 (yo (gs.length+1)+28)) 2 0 0])) (F:=fun m=>((kl (.c Yn 0 (yo (gs.length+1)+2)) m).bind (kl (.c Yn 0 (yo (gs.length+1)+3)))).bind (kl (.c Yn 0 (yo (gs.length+1)+28)))) (by simp) (fun j h1 h2 h3=>by rw [yh] at h1 h2 h3;simp [kl,h1,h2,h3]) (h0:=?_) (h1:=by simp [hO.caps]) (h2:=by simp [hO.out]) (h3:=by simp [hO.trc]) (h4:=by simp [hO.funs]) (h5:=by simp [← hcap]) (h6:=by intro i x hi hx;rw [yh] at hi;have e:=wU hi;simp only [wrO] at hx;rw [if_neg (by simp),if_neg (by simp)] at hx;simp [hx,e.1,e.2.1,e.2.2.1,e.2.2.2]) (h7:=by intro i x hi hx;rw [yh] at hi;have e:=wU hi;simp only [wrO] at hx;rw [if_neg (by simp),if_neg (by simp)] at hx;simp [hx,e.1,e.2.1,e.2.2.1,e.2.2.2]) (h8:=by intro i x hi hx;rw [yh] at hi;have e:=wU hi;simp only [wrO] at hx;rw [if_neg (by simp),if_neg (by simp)] at hx;simp [hx,e.1,e.2.1,e.2.2.1,e.2.2.2]) (h9:=by intro c s hc;simp [hO.cell c s hc]) (hA:=by intro k i j hk e hn;simpa [wrO,hk,e] using hn)
   simp only [← km]
   simp [spl,yh,qA7,R1]
   rfl
  rintro s ⟨t0,t42,t44,t3,p3,hY⟩
  obtain⟨R,hT,hRl,r4⟩:=hY.ht
  obtain⟨_,r4E⟩:=gS r4
  have hw1:IntKind.i64.wrap ((gs.length:Int)+2 - 1)=(gs.length:Int)+1:=by rw [wrp (by omega) (by omega)];omega
  have fx:=aI t0<|aI t42<|aI t44<|aI t3<|aI p3<|aI hT<|aI hRl<|aI r4<|aI r4E<|hw1
  refine qB ?_
  clear fx
  refine yd (fun s=>s.tm 0=.pt Yn 0∧s.tm 3=.pt (.s 3) 0∧s.hp (.s 3)=some (.row 2 [[iv ((3,(m.classes.length:Int))).1,iv ((3,(m.classes.length:Int))).2]])∧OwnY s.hp p { ({ m with classes:=m.classes++[f.names] }:Mch) with frames:=gs++[g0] }) ⟨by simp [t0],by simp [t3],by simp [p3],hY.done hT (by simp [spl,hw1]) (fun q hq hn=>by simp [hn])⟩ ?_
  clear hT hRl r4 r4E hY t0 t42 t44 t3 p3 s
  rintro s ⟨t0,t3,p3,hO⟩
  obtain⟨R,j,hT,tr,h2,h3,h28⟩:=OwnY.topT (f:=g0) hO rfl (by omega)
  have fx:=aI t0<|aI t3<|aI p3<|hT
  refine qB ?_
  repeat ((first|refine wSc (id:=2) qGB qA ?_|refine wSc (id:=3) qGA qA ?_|refine wSc (id:=7) qFz qA ?_);refine qC ?_;refine qB ?_)
  clear fx
  intro K hK
  have fx:=aI t0 (aI t3 p3)
  refine qQ h0 (have h:=hO;OwnY.re h) (Nat.le_refl _) (hF:=fun _=>qDt gl DM (fun _=>qH) rfl _ R gs.length (by simp [hT]) tr.h (by omega)) (h:=?_)
  intro y H1 hw
  clear fx
  have hO1:=OwnY.smp (by exact (have h:=hO;OwnY.re h)) hw
  obtain⟨rfl,-⟩:=hw
  have fx:=aI t0<|aI t3<|aI p3<|hT
  refine qB ?_
  repeat ((first|refine wSc (id:=2) qGB qA ?_|refine wSc (id:=3) qGA qA ?_|refine wSc (id:=7) qFz qA ?_);refine qC ?_;refine qB ?_)
  clear fx
  obtain⟨R1,j1,hT1,tr1,h21,h31,h281⟩:=OwnY.topT (f:=g0) hO1 rfl (by omega)
  have yog:yo gs.length+29≤4415:=by simp only [yo];omega
  have fx:=aI t0 (aI t3 (aI p3 hT))
  refine qQ h0 (have h:=hO1;OwnY.re h) (Nat.le_refl _) (hF:=fun _=>jj gl DM (fun _=>qH) _ R1 (yo gs.length) g0.stack j1 (3,(m.classes.length:Int)) rfl rfl (by simp [hT1]) tr1.f28 (by simp [h281]) hgl yog) (h:=?_)
  intro y2 H2 hw2
  clear fx
  have hO2:=OwnY.pushed (f:=g0) (by exact (have h:=hO1;OwnY.re h)) rfl (by omega) rfl (by simp [hT1]) hw2
  have fx:=aI t0<|aI t3<|aI p3<|aI hT<|hT1
  refine qB ?_
  repeat ((first|refine wSc (id:=2) qGB qA ?_|refine wSc (id:=3) qGA qA ?_|refine wSc (id:=7) qFz qA ?_);refine qC ?_;refine qB ?_)
  clear fx
  refine zj [] .nil (by simp;rfl) ?_
  rw [if_pos hc]
  exact OwnY.fin (by unfold zD;simp only [List.getLast?_append,List.getLast?_singleton,List.dropLast_concat,Option.some_or];exact (have h:=hO2;OwnY.re h))
 ·have hc':(qi p f.blk==2)=false:=by simpa using hc
  have fx:=aI t0<|aI t3<|aI p3<|aI t4<|aI hT<|aI hRl<|aI yoh<|aI yh<|aI r0<|aI r0E<|aI f0<|aI f0E<|aI f0l<|aI hcd<|aI hcdl<|aI hcdE<|aI hki<|hc'
  refine qB ?_
  repeat ((first|refine wSc (id:=2) qGB qA ?_|refine wSc (id:=3) qGA qA ?_|refine wSc (id:=7) qFz qA ?_);refine qC ?_;refine qB ?_)
  clear fx
  intro K hK
  refine yr (fun s=>s.tm 0=.pt Yn 0∧s.tm 42=.pt Yn 0∧s.tm 44=.pt Yn 4411∧s.tm 3=.pt (.s 3) 0∧s.hp (.s 3)=some (.row 2 [[iv ((v1,v2)).1,iv ((v1,v2)).2]])∧qHr s.hp p { m with frames:=gs++[g0] } (gs.length+2)) ⟨by simp [t0],by simp [t0],by simp [t0],by simp [t3],by simp [p3],?_⟩ ?_
  ·have hm':(m.top (gs++[g0]) f).frames=(gs++[g0])++[f]:=rfl
   have h:=hO
   rw [show gs.length+2=(gs++[g0]).length+1 by simp]
   refine OwnY.endF (m:=m.top (gs++[g0]) f) h hm' (by omega) hT (vals:=[iv 0,iv 0,.hs (.c Yn 0 (yo (gs.length+1)+2)) 3 0 0,.hs (.c Yn 0 (yo (gs.length+1)+3)) 1 0 0]++(vo qe++[.hs (.c Yn 0 (yo (gs.length+1)+28)) 2 0 0])) (F:=fun m=>((kl (.c Yn 0 (yo (gs.length+1)+2)) m).bind (kl (.c Yn 0 (yo (gs.length+1)+3)))).bind (kl (.c Yn 0 (yo (gs.length+1)+28)))) (by simp) (fun j h1 h2 h3=>by rw [yh] at h1 h2 h3;simp [kl,h1,h2,h3]) (h0:=?_) (h6:=by intro i x hi hx;rw [yh] at hi;have e:=wU hi;simp [hx,e.1,e.2.1,e.2.2.1,e.2.2.2]) (h7:=by intro i x hi hx;rw [yh] at hi;have e:=wU hi;simp [hx,e.1,e.2.1,e.2.2.1,e.2.2.2]) (h8:=by intro i x hi hx;rw [yh] at hi;have e:=wU hi;simp [hx,e.1,e.2.1,e.2.2.1,e.2.2.2])
   simp only [← km]
   simp [spl,yh,qA7]
  rintro s ⟨t0,t42,t44,t3,p3,hY⟩
  obtain⟨R,hT,hRl,r4⟩:=hY.ht
  obtain⟨_,r4E⟩:=gS r4
  have hw1:IntKind.i64.wrap ((gs.length:Int)+2 - 1)=(gs.length:Int)+1:=by rw [wrp (by omega) (by omega)];omega
  have fx:=aI t0<|aI t42<|aI t44<|aI t3<|aI p3<|aI hT<|aI hRl<|aI r4<|aI r4E<|hw1
  refine qB ?_
  clear fx
  refine yd (fun s=>s.tm 0=.pt Yn 0∧s.tm 3=.pt (.s 3) 0∧s.hp (.s 3)=some (.row 2 [[iv ((v1,v2)).1,iv ((v1,v2)).2]])∧OwnY s.hp p { m with frames:=gs++[g0] }) ⟨by simp [t0],by simp [t3],by simp [p3],hY.done hT (by simp [spl,hw1]) (fun q hq hn=>by simp [hn])⟩ ?_
  clear hT hRl r4 r4E hY t0 t42 t44 t3 p3 s
  rintro s ⟨t0,t3,p3,hO⟩
  obtain⟨R,j,hT,tr,h2,h3,h28⟩:=OwnY.topT (f:=g0) hO rfl (by omega)
  have fx:=aI t0<|aI t3<|aI p3<|hT
  refine qB ?_
  repeat ((first|refine wSc (id:=2) qGB qA ?_|refine wSc (id:=3) qGA qA ?_|refine wSc (id:=7) qFz qA ?_);refine qC ?_;refine qB ?_)
  clear fx
  intro K hK
  have fx:=aI t0 (aI t3 p3)
  refine qQ h0 (have h:=hO;OwnY.re h) (Nat.le_refl _) (hF:=fun _=>qDt gl DM (fun _=>qH) rfl _ R gs.length (by simp [hT]) tr.h (by omega)) (h:=?_)
  intro y H1 hw
  clear fx
  have hO1:=OwnY.smp (by exact (have h:=hO;OwnY.re h)) hw
  obtain⟨rfl,-⟩:=hw
  have fx:=aI t0<|aI t3<|aI p3<|hT
  refine qB ?_
  repeat ((first|refine wSc (id:=2) qGB qA ?_|refine wSc (id:=3) qGA qA ?_|refine wSc (id:=7) qFz qA ?_);refine qC ?_;refine qB ?_)
  clear fx
  obtain⟨R1,j1,hT1,tr1,h21,h31,h281⟩:=OwnY.topT (f:=g0) hO1 rfl (by omega)
  have yog:yo gs.length+29≤4415:=by simp only [yo];omega
  have fx:=aI t0 (aI t3 (aI p3 hT))
  refine qQ h0 (have h:=hO1;OwnY.re h) (Nat.le_refl _) (hF:=fun _=>jj gl DM (fun _=>qH) _ R1 (yo gs.length) g0.stack j1 (v1,v2) rfl rfl (by simp [hT1]) tr1.f28 (by simp [h281]) hgl yog) (h:=?_)
  intro y2 H2 hw2
  clear fx
  have hO2:=OwnY.pushed (f:=g0) (by exact (have h:=hO1;OwnY.re h)) rfl (by omega) rfl (by simp [hT1]) hw2
  have fx:=aI t0<|aI t3<|aI p3<|aI hT<|hT1
  refine qB ?_
  repeat ((first|refine wSc (id:=2) qGB qA ?_|refine wSc (id:=3) qGA qA ?_|refine wSc (id:=7) qFz qA ?_);refine qC ?_;refine qB ?_)
  clear fx
  refine zj [] .nil (by simp;rfl) ?_
  rw [if_neg hc]
  exact OwnY.fin (by unfold zD;simp only [List.getLast?_append,List.getLast?_singleton,List.dropLast_concat,Option.some_or];exact (have h:=hO2;OwnY.re h))
end Go.Proofs.YtbgmnmnoaamgkaaGreatDoor
end
