import Derived.Test.YtjgpejikjhojcaaGreatDoorT32
import Derived.Test.YtjgpejikjhojcaaGreatDoorT20
set_option linter.unusedSimpArgs false
set_option linter.unusedVariables false
set_option maxRecDepth 100000
set_option maxHeartbeats 4000000

section
namespace Go.Proofs.YtjgpejikjhojcaaGreatDoor
open Go Go.Hm Go.Proofs Tryz
abbrev Vx:qb:=da<|.l 7 []<|.done
abbrev Vy:qb:=.q 0<|.q 1<|.q 2<|.q 3<|.q 4<|.q 6<|.l 5 [6,1,0]<|.q 7<|.l 8 []<|.done
abbrev Vz:qb:=eX<|.l 9 []<|.done
abbrev WA:qb:=eX<|.l 9 [0]<|.q 10<|.q 11<|.l 12 []<|.done
abbrev WB:qb:=CN<|.l 10 []<|.done
def mK (p:qC) (b:Nat) (vs:List qR):List qu:=match (zr p b).params,vs with
 | [x],[v]=>if x∈zK p b then (List.replicate (zK p b).length none).set (vg (zK p b) x).toNat (some v) else List.replicate (zK p b).length none
 | _,_=>List.replicate (zK p b).length none
def mJ (p:qC) (m:qU) (b:Nat) (vs:List qR):List qu:=match (zr p b).params,vs with
 | [x],[v]=>if x∈zK p b then m.cells++List.replicate (qh p b).length none else (m.cells++List.replicate (qh p b).length none).set (m.cells.length+(vg (qh p b) x).toNat) (some v)
 | _,_=>m.cells++List.replicate (qh p b).length none
structure A2 (s:St) (p:qC) (m:qU) (b:Nat) (cs:List Nat) (vs:List qR) (n:Nat) (fa C:List qu):Prop where
 t0:s.tm 0=.pt Yn 0
 t2:s.tm 2=.sl 1 (zV cs)
 t3:s.tm 3=.sl 2 (jZ vs)
 t8:s.tm 8=.pt (.s 8) 0
 p8:s.hp (.s 8)=some (.row 6 [(zr p b).row])
 t9:s.tm 9=.pt (.s 9) 0
 p9:s.hp (.s 9)=some (.row 29 [[iv b,iv 0,.hs (.c (.s 9) 0 2) 3 0 (zK p b).length,.hs (.c (.s 9) 0 3) 1 0 n,bv false,iv 0,iv 0,bv false,iv 0,iv 0,bv false,iv 0,iv 0,bv false,iv 0,iv 0,bv false,iv 0,iv 0,bv false,iv 0,iv 0,bv false,iv 0,iv 0,bv false,iv 0,iv 0,.hs (.c (.s 9) 0 28) 2 0 0]])
 wN:s.hp (.c (.s 9) 0 2)=some (.row 3 (j4 fa))
 kT:s.hp (.c (.s 9) 0 3)=some (.row 1 (zV ((List.range n).map (m.cells.length+·))))
 wO:s.hp (.c (.s 9) 0 28)=some (.row 2 [])
 own:j8 s.hp p m C
theorem ol {A G G2:Prop} (k:G2) (x:A) (h:A->jP G2->G:=by
 intro fx kk;refine qQ ?_
 repeat ((first|refine qf (id:=12) Vx mixed ?_|refine qf (id:=13) Vy mixed ?_|refine qf (id:=16) Vz mixed ?_|refine qf (id:=19) WA mixed ?_|refine qf (id:=20) WB mixed ?_);refine zQ ?_;refine qQ ?_)
 exact kk.h):G:=h x ⟨k⟩
theorem Gm (gl) (H:Nm->Option AO) (p:qC) (m:qU) (b:Nat) (cs:List Nat) (vs:List qR) (hb:b<p.length) (hp7:p.length<=7) (hcs:cs.length<=8) (hcr:∀ c∈cs,c<m.cells.length) (hcl:m.cells.length<=2000) (hmd:m.made<=1000) (hdp:m.deep<=1000) (hfl:m.qW.length<=150) (hpar:(zr p b).params=[]\/∃ x,(zr p b).params=[x]/\((x∈zK p b/\x∉qh p b)\/(x∉zK p b/\x∈qh p b))) (hvs:vs.length=(zr p b).params.length) (hfr:∀ f∈m.qW,∀ c∈f.cells,c<m.cells.length) (hfn:∀ g∈m.qJ,∀ c∈g.2,c<m.cells.length) (hO:qE H p m) :
  qV prog gl 116 DM [.pt Yn 0,iv b,.sl 1 (zV cs),.sl 2 (jZ vs)] H (λ_ _ H'=>qE H' p (vP p m b cs vs)) qy:=by
 have hOc:=hO.yc
 obtain⟨R,hT,hRl,r0⟩:∃ R,H Yn=some (.row 4415 [R])/\R.length=4415/\R[0]?=some (bL (yl p p.length)):=by
  obtain⟨J,hJ,e,_⟩:=hOc;exact⟨_,e,nW (cJ hJ),N0⟩
 obtain⟨r0l,r0E⟩:=gS r0;obtain⟨kk,hk⟩:=gX hb;have hcd:(yl p p.length)[b]?=some (zr p b):=by simp [yl,hb]
 obtain⟨hcdl,hcdE⟩:=gS hcd;have hcf:(zr p b).qw=zK p b:=mS;have hcc:(zr p b).cells=qh p b:=mS;have hf8:=BO (p:=p) (b:=b);have hc8:=xH (p:=p) (b:=b);refine qV.qa func116 [] ntmps116 (λ_=>qv) λC w g root hroot=>?_;refine qI ?_<|yD hT hRl r0 r0E hcd hcdl hcdE hcf hcc hf8<|hc8;have hrp:List.replicate (zK p b).length [bv false,iv 0,iv 0]=j4 (List.replicate (zK p b).length none):=rT
 have hun:∀ k i j,DM k=true->Nm.under (.c (.s 9) i j) k=false:=λk i j hk=>by
  cases h:Nm.under (.c (.s 9) i j) k with
  | false=>rfl
  | true=>have:=(Nm.G3 h).1;rw [(yC (λ_=>qv) hk 9).2] at this;cases this
 refine zU (λn s=>∃ i:Nat,n=(qh p b).length - i/\i<=(qh p b).length/\A2 s p m b cs vs i (List.replicate (zK p b).length none) (m.cells++List.replicate i none)/\s.tm 29=iv (qh p b).length/\s.tm 30=iv i) (qh p b).length ?_ ?_
 .refine⟨0,qA,qA,⟨qB,qB,qB,qB,by simp [hcf,hcc],qB,qB,by simp [hrp],oP,qB,?_⟩,qB,qB⟩;rw [List.replicate_zero,pf];have hst:j8 (ky [.pt Yn 0,iv b,.sl 1 (zV cs),.sl 2 (jZ vs)] H 125 gl).hp p m m.cells:=hOc.qz (F:=some) (λ_ _=>rfl) λk hk=>by cases h:H k <;> simp [h,AO.ud]
  exact (by repeat (first|(with_reducible exact hst)|refine Gn ?_|refine N9 bf ?_|refine N7 bf ?_|refine N8 bf bf ?_|refine N6 bf ?_|exact hst))
 clear hT hRl r0E r0l r0 R;rintro n s - - ⟨i,rfl,hi,hB,t29,t30⟩;have t0:=hB.t0;have t2:=hB.t2;have t3:=hB.t3;have t8:=hB.t8;have p8:=hB.p8;have t9:=hB.t9;have p9:=hB.p9;have wN:=hB.wN;have kT:=hB.kT;have wO:=hB.wO;by_cases hil:i<(qh p b).length
 .have hil1:((List.range i).map (m.cells.length+·)).length=i:=qB;have hi8:i<=8:=qA;have hu:(jb prog C w g H 125 gl).ext (.u 7 (m.cells.length+i) 0)=false:=by simp [jb,hO.free (c:=m.cells.length+i) qA]
  refine ol ?_<|qr t0 t2 t3 t8 p8 t9 p9 wN wO t29 t30 hil<|aI hil1<|hi8;intro K hK;refine kH (.c (.s 36) 0 0) (.u 7 (m.cells.length+i) 0) (.inl rfl) (.inr hu) ?_;have hCl:(m.cells++List.replicate i none).length=m.cells.length+i:=qB
  have hrl:∀ F:Nm->Option Nm,(∀ c,c<m.cells.length+i->F (En c)=some (En c))->(zV ((List.range i).map (m.cells.length+·))).map (λr=>r.map (AV.tr F))=zV ((List.range i).map (m.cells.length+·)):=λF hF=>rr λc hc=>by
   simp only [wU,gN] at hc;obtain⟨a,ha,rfl⟩:=hc;exact hF _ qA
  have jt:∀ c,c<m.cells.length+i->mv (.c (.s 36) 0 0) (.u 7 (m.cells.length+i) 0) (En c)=some (En c):=λc hc=>by simp [mv,Nat.ne_of_lt hc]
  have hcsF:(zV cs).map (λr=>r.map (AV.tr (mv (.c (.s 36) 0 0) (.u 7 (m.cells.length+i) 0))))=zV cs:=rr λc hc=>jt c (by have:=hcr c hc;omega);have hOB:=hB.own;refine ua (λs=>s.tm 33=.hs (.c (.s 9) 0 3) 1 0 i/\s.tm 36=.hs (.s 36) 1 0 1/\s.hp (.s 36)=some (.row 1 [[.pt (.u 7 (m.cells.length+i) 0) 0]])/\A2 s p m b cs vs i (List.replicate (zK p b).length none) (m.cells++List.replicate (i+1) none)/\s.tm 29=iv (qh p b).length/\s.tm 30=iv i) ⟨qB,qB,qB,⟨kg,by simp [t2,hcsF],bG,gW,oT,mX,by simp [p9],pq,by simp [kT,hrl _ jt],pj,?_⟩,by simp [t29],by simp [t30]⟩ ?_
  .rw [List.replicate_succ',<- ig];exact j8.OL (n0:=.c (.s 36) 0 0) (s:=none) qB rfl pn qB (λf hf c hc=>by have:=hfr f hf c hc;simp;omega) (λg hg c hc=>by have:=hfn g hg c hc;simp;omega)
  clear t0 t2 t3 t8 p8 t9 p9 wN kT wO t29 t30 hB hOB;rintro s ⟨t33,t36,p36,hB,t29,t30⟩;have t0:=hB.t0;have t2:=hB.t2;have t3:=hB.t3;have t8:=hB.t8;have p8:=hB.p8;have t9:=hB.t9;have p9:=hB.p9;have wN:=hB.wN;have kT:=hB.kT;have wO:=hB.wO;have hOB:=hB.own;refine ol ?_<|qr t0 t2 t3 t8 p8 t9 p9 wN kT wO t29 t30<|j2 t33 t36 p36 hil hil1<|hi8;have hap:zV ((List.range i).map (m.cells.length+·))++[[.pt (.u 7 (m.cells.length+i) 0) 0]]=zV ((List.range (i+1)).map (m.cells.length+·)):=by simp [zV,tM,vh]
  have htt:((List.range i).map (m.cells.length+·)).take i=(List.range i).map (m.cells.length+·):=yU qB;refine⟨(qh p b).length - (i+1),qA,i+1,rfl,qA,⟨kg,bh,bG,gW,oT,mX,qB,pq,by simp [<- hap,htt],pj,pn⟩,by simp [t29],by simp [t30];exact qi qA qA⟩
 .obtain rfl:i=(qh p b).length:=qA;have hOB:=hB.own;refine qI ?_<|yD t0 t2 t3 t8 p8 t9 p9 wN kT wO<|aI t29<|t30;refine aS (λs=>A2 s p m b cs vs (qh p b).length (List.replicate (zK p b).length none) (m.cells++List.replicate (qh p b).length none)/\s.tm 41=vJ (zr p b).params/\s.tm 42=iv (zr p b).params.length/\s.tm 43=iv 0) ⟨⟨kg,bh,bG,gW,oT,mX,by simp [p9],pq,by simp [kT],pj,pn⟩,qB,qB,qB⟩ ?_;clear t0 t2 t3 t8 p8 t9 p9 wN kT wO t29 t30 hB hOB;rintro s ⟨hB,t41,t42,t43⟩;refine zU (λn s=>∃ (i:Nat) (fa C:List qu),n=(zr p b).params.length - i/\i<=(zr p b).params.length/\A2 s p m b cs vs (qh p b).length fa C/\fa.length=(zK p b).length/\C.length=m.cells.length+(qh p b).length/\(i=0->fa=List.replicate (zK p b).length none/\C=m.cells++List.replicate (qh p b).length none)/\(i=(zr p b).params.length->fa=mK p b vs/\C=mJ p m b vs)/\s.tm 41=vJ (zr p b).params/\s.tm 42=iv (zr p b).params.length/\s.tm 43=iv i) (zr p b).params.length ?_ ?_
  .exact⟨0,_,_,qA,qA,hB,qB,qB,λ_=>⟨rfl,rfl⟩,λh=>by have h1:=aX h.symm;simp [mK,mJ,h1],t41,t42,t43⟩
  clear t41 t42 t43 hB;rintro n s - - ⟨i,fa,C,rfl,hi,hB,hfa,hC,hi0,hi1,t41,t42,t43⟩;have t0:=hB.t0;have t2:=hB.t2;have t3:=hB.t3;have t8:=hB.t8;have p8:=hB.p8;have t9:=hB.t9;have p9:=hB.p9;have wN:=hB.wN;have kT:=hB.kT;have wO:=hB.wO;have hOB:=hB.own;by_cases hil:i<(zr p b).params.length
  .obtain⟨x,hx,hx2⟩:∃ x,(zr p b).params=[x]/\((x∈zK p b/\x∉qh p b)\/(x∉zK p b/\x∈qh p b)):=by
    rcases hpar with h|h
    .rw [h] at hil;simp at hil
    .exact h
   have hl1:(zr p b).params.length=1:=by rw [hx];rfl
   obtain rfl:i=0:=qA;obtain⟨rfl,rfl⟩:=hi0 rfl;obtain⟨v,rfl⟩:∃ v,vs=[v]:=pX.1 (by rw [hvs,hl1]);obtain⟨v1,v2⟩:=v;rw [hx] at t41 t42;have hpc:=sX gl (qh p b) x qA;have hpf:=sX gl (zK p b) x qA;rcases hx2 with⟨hxf,hxc⟩|⟨hxf,hxc⟩
   .obtain⟨q,hq,hql,-⟩:=fg hxf
    have hpn:vg (qh p b) x=-1:=by
     have h1:=FX (xs:=qh p b) (x:=x);have h2:¬ 0<=vg (qh p b) x:=λh=>hxc (sW.1 h);omega
    rw [hpn] at hpc;rw [hq] at hpf;have hqi:(q:Int)<(zK p b).length:=qA;have fx:=qr t0 t2 t3 t8 p8 t9 p9 wN kT wO t41 t42<|zM t43 hcc hcf hql<|hqi;have c1:=hpc;have c2:=hpf;refine ol ?_<|@fx;clear fx c1 c2;have hfF:mK p b [(v1,v2)]=(List.replicate (zK p b).length none).set q (some (v1,v2)):=by simp [mK,hx,hxf,hq]
    have hfC:mJ p m b [(v1,v2)]=m.cells++List.replicate (qh p b).length none:=by simp [mJ,hx,hxf]
    exact⟨0,qA,1,(List.replicate (zK p b).length none).set q (some (v1,v2)),m.cells++List.replicate (qh p b).length none,qA,qA,⟨kg,bh,bG,gW,oT,mX,by simp [p9],pq,by simp [kT],pj,pn⟩,qB,qB,λh=>qA,λ_=>⟨hfF.symm,hfC.symm⟩,by simp [t41,hx],by simp [t42,hx],by simp [t43];rfl⟩
   .obtain⟨q,hq,hql,-⟩:=fg hxc;rw [hq] at hpc;have hqi:(q:Int)<(qh p b).length:=qA;have hqn:((q:Int) == -1)=false:=wW;have hcl2:m.cells.length+q<(m.cells++List.replicate (qh p b).length none).length:=qn;have e9:m.cells.length+q - m.cells.length=q:=qA
    have hcq:(m.cells++List.replicate (qh p b).length none)[m.cells.length+q]?=some (none:qu):=by
     rw [kD qA,e9];simp [hql]
    have hE:s.hp (.u 7 (m.cells.length+q) 0)=some (.row 3 [[bv false,iv 0,iv 0]]):=by
     obtain⟨J,hJ,e,hOw⟩:=hOB;have:=hOw.cell (m.cells.length+q) none hcq
     simpa [zH] using this
    have her:(zV ((List.range (qh p b).length).map (m.cells.length+·)))[q]?=some [.pt (.u 7 (m.cells.length+q) 0) 0]:=by rw [If];simp [hql,vh]
    obtain⟨herl,herE⟩:=gS her;have fx:=qr t0 t2 t3 t8 p8 t9 p9 wN kT wO t41 t42<|yD t43 hcc hcf hql hqi hqn @qx hE her herE<|herl;have c1:=hpc;refine ol ?_<|@fx;clear fx c1;have hfF:mK p b [(v1,v2)]=List.replicate (zK p b).length none:=by simp [mK,hx,hxf]
    have hfC:mJ p m b [(v1,v2)]=(m.cells++List.replicate (qh p b).length none).set (m.cells.length+q) (some (v1,v2)):=by simp [mJ,hx,hxf,hq]
    refine⟨0,qA,1,List.replicate (zK p b).length none,(m.cells++List.replicate (qh p b).length none).set (m.cells.length+q) (some (v1,v2)),qA,qA,⟨kg,bh,bG,gW,oT,mX,by simp [p9],pq,by simp [kT],pj,?_⟩,qB,qB,λh=>qA,λ_=>⟨hfF.symm,hfC.symm⟩,by simp [t41,hx],by simp [t42,hx],by simp [t43];rfl⟩
    repeat (refine Gn ?_)
    exact qAy (some (v1,v2)) hcl2 pn
  .obtain rfl:i=(zr p b).params.length:=qA;have hil1:((List.range (qh p b).length).map (m.cells.length+·)).length=(qh p b).length:=qB;have hsum:(qh p b).length+cs.length<=16:=qA;have htt:((List.range (qh p b).length).map (m.cells.length+·)).take (qh p b).length=(List.range (qh p b).length).map (m.cells.length+·):=yU qB;refine qI ?_<|qr t0 t2 t3 t8 p8 t9 p9 wN kT wO t41 t42<|zC t43 hil1 hsum<|hcs;refine aS (λs=>s.tm 0=.pt Yn 0/\s.tm 8=.pt (.s 8) 0/\s.hp (.s 8)=some (.row 6 [(zr p b).row])/\s.tm 9=.pt (.s 9) 0/\s.hp (.s 9)=some (.row 29 [[iv b,iv 0,.hs (.c (.s 9) 0 2) 3 0 (zK p b).length,.hs (.c (.s 9) 0 3) 1 0 ((qh p b).length+cs.length),bv false,iv 0,iv 0,bv false,iv 0,iv 0,bv false,iv 0,iv 0,bv false,iv 0,iv 0,bv false,iv 0,iv 0,bv false,iv 0,iv 0,bv false,iv 0,iv 0,bv false,iv 0,iv 0,.hs (.c (.s 9) 0 28) 2 0 0]])/\s.hp (.c (.s 9) 0 2)=some (.row 3 (j4 fa))/\s.hp (.c (.s 9) 0 3)=some (.row 1 (zV ((List.range (qh p b).length).map (m.cells.length+·)++cs)))/\s.hp (.c (.s 9) 0 28)=some (.row 2 [])/\j8 s.hp p m C) ⟨kg,gW,oT,mX,qB,pq,by simp [htt,<- QT],pj,pn⟩ ?_;clear t0 t2 t3 t8 p8 t9 p9 wN kT wO hOB t41 t42 t43 hB;rintro s ⟨t0,t8,p8,t9,p9,wN,kT,wO,hOB⟩
   obtain⟨R,hT,hRl,r4⟩:∃ R,s.hp Yn=some (.row 4415 [R])/\R.length=4415/\R[4411]?=some (iv m.qW.length):=by
    obtain⟨J,hJ,e,_⟩:=hOB;exact⟨_,e,nW (cJ hJ),Cf (cJ hJ)⟩
   obtain⟨_,r4E⟩:=gS r4;have hfl2:(m.qW.length:Int)<151:=qA;have hfl3:(0:Int)<=(m.qW.length:Int):=qA;have hfl4:32+m.qW.length * 29+29<=4415:=qA;refine G8 (.c (.s 9) 0 2) (.s 20) (.inl rfl) (.inl rfl) (G8 (.c (.s 9) 0 3) (.s 21) (.inl rfl) (.inl rfl) (G8 (.c (.s 9) 0 28) (.s 22) (.inl rfl) (.inl rfl) ?_));refine ol ?_<|qr t0 t8 p8 t9 p9 wN kT wO hT hRl r4 r4E<|qk hfl2 hfl3<|hfl4;intro K hK;have hmc:m.qW.length * 29=29 * m.qW.length:=mC _ _;obtain⟨M,hM⟩:∃ M:qU,M={ m with cells:=C,made:=m.made+1,deep:=max m.deep (m.qW.length+1),qW:=m.qW++[⟨b,0,fa,(List.range (qh p b).length).map (m.cells.length+·)++cs,j3,[]⟩] }:=⟨_,rfl⟩;refine ua (λs=>s.tm 0=.pt Yn 0/\s.tm 89=.pt Yn 0/\s.tm 91=.pt Yn 4411/\s.tm 8=.pt (.s 8) 0/\s.hp (.s 8)=some (.row 6 [(zr p b).row])/\gF s.hp p m M m.qW.length) ⟨kg,qB,qB,gW,oT,?_⟩ ?_
   .rw [hM];simp only [hmc];have h:=hOB;refine j8.Oj (g:=⟨b,0,fa,(List.range (qh p b).length).map (m.cells.length+·)++cs,j3,[]⟩) h qA hT (F:=λq=>(((((mv (.c (.s 9) 0 2) (.s 20) q).bind (mv (.c (.s 9) 0 3) (.s 21))).bind (mv (.c (.s 9) 0 28) (.s 22))).bind (mv (.s 20) (.c Yn 0 (yo m.qW.length+2)))).bind (mv (.s 21) (.c Yn 0 (yo m.qW.length+3)))).bind (mv (.s 22) (.c Yn 0 (yo m.qW.length+28)))) (λj h1 h2 h3=>by simp [mv,h1,h2,h3]) (h0:=?_) (h6t:=?_) (h7t:=?_) (h8t:=?_)
    .simp only [<- ix];simp [ql,yR,BP,hfa]
    .simp [wN]
    .simp [kT]
    .simp [wO]
   have hbg:vP p m b cs vs=M:=by
    obtain⟨e1,e2⟩:=hi1 rfl;rw [hM,e1,e2];rcases hpar with h|⟨x,hx,hx2⟩
    .simp [vP,mK,mJ,h]
    .obtain⟨v,rfl⟩:∃ v,vs=[v]:=pX.1 (by rw [hvs,hx];rfl);rcases hx2 with⟨h1,h2⟩|⟨h1,h2⟩ <;> simp [vP,mK,mJ,hx,h1]
   have hMc:M.cells=C:=by rw [hM]
   have hMl:M.qW.length=m.qW.length+1:=by rw [hM];simp
   have hMr:∀ (h:Nat) (c:Nat->List AV),qe p { m with made:=m.made+1,deep:=max m.deep (m.qW.length+1),cells:=C } h c=qe p M h c:=λh c=>by rw [hM];rfl
   clear hM;have hw1:IntKind.i64.wrap ((m.qW.length:Int)+1)=((m.qW.length+1:Nat):Int):=qi qA qA;have hw2:IntKind.i64.wrap ((m.made:Int)+1)=((m.made+1:Nat):Int):=qi qA qA;have hw3:IntKind.i64.wrap ((m.cells.length:Int)+((qh p b).length:Int))=((C.length:Nat):Int):=by rw [hC,qi qA qA];omega
   clear t0 t8 p8 t9 p9 wN kT wO hOB hT r4 r4E hRl;rintro s ⟨t0,t89,t91,t8,p8,hY⟩;obtain⟨R,hT,hRl,r4,r2,r3,r1⟩:=hY.row;obtain⟨_,r4E⟩:=gS r4;obtain⟨_,r3E⟩:=gS r3;obtain⟨_,r2E⟩:=gS r2;obtain⟨_,r1E⟩:=gS r1;refine ol ?_<|qr t0 t89 t91 t8 p8 hT hRl r4 r4E r3 r3E r2<|qk r2E hw1<|hw2;intro K hK;have fx:=aI t0 (aI t8 (aI p8 (aI hT (aI hRl (aI r4 (aI r4E (aI r2 r2E)))))));refine qA0 (i:=(m.deep:Int)) (j:=(m.qW.length:Int)+1) ((max m.deep (m.qW.length+1):Nat):Int) qA (h:=?_);clear fx;refine ol ?_<|qr t0 t8 p8 hT hRl r4 r4E r3 r3E r2 r2E r1<|zM r1E hcc hw1 hw2<|hw3;refine iy [] .nil qH (qE.fin ?_);have h1:=hY.set (hp':=zH Yn (.row 4415 [ql R 4411 [iv (m.qW.length+1:Nat)]]) s.hp) hT rfl (λJ hJ=>N5 hJ) (λq hq hn=>by simp [zH,hn]);have h2:=h1.set (hp':=zH Yn (.row 4415 [ql (ql R 4411 [iv (m.qW.length+1:Nat)]) 4413 [iv (m.made+1:Nat)]]) s.hp) rfl rfl (λJ hJ=>qAu hJ) (λq hq hn=>by simp [zH,hn]);have h3:=h2.set (hp':=zH Yn (.row 4415 [ql (ql (ql R 4411 [iv (m.qW.length+1:Nat)]) 4413 [iv (m.made+1:Nat)]) 4412 [iv (max m.deep (m.qW.length+1):Nat)]]) s.hp) rfl rfl (λJ hJ=>qAs hJ) (λq hq hn=>by simp [zH,hn]);rw [hbg];refine gF.done (m:={ m with made:=m.made+1,deep:=max m.deep (m.qW.length+1),cells:=C }) (h:=m.qW.length+1) ?_ λJ=>by rw [hMr,hMl]
   refine h3.set rfl (k:=4414) (v:=iv (C.length:Nat)) ?_ (λJ hJ=>qAr hJ) (λq hq hn=>by simp [zH,hn]);simp [ql,hRl,pZ,List.drop_append]
abbrev WC:qb:=iI<|.l 8 [7,6,5,4,3,2,1,0]<|.l 9 []<|.done
abbrev WD:qb:=Ft<|.done
theorem fb {A G G2:Prop} (k:G2) (x:A) (h:A->jP G2->G:=by
 intro fx kk;refine qQ ?_
 repeat ((first|refine qf (id:=9) WC mixed ?_|refine qf (id:=10) WD mixed ?_);refine zQ ?_;refine qQ ?_)
 exact kk.h):G:=h x ⟨k⟩
theorem qAz (gl) (H:Nm->Option AO) (p:qC) (m:qU) (fs:List qN) (f:qN) (n pc0:Nat) (hP:zq p) (h:yy p m fs { f with pc:=pc0 }) (hn1:n<=1) (hst:n+1<=f.stack.length) (hsl:f.stack.length<=1000) (hfl:fs.length+1<=150) (hm0:m.en=0) (hO:qE H p (m.top fs f)) :
  qV prog gl 213 DM [.pt Yn 0,.pt Yn (yo fs.length),iv n] H (λ_ y H'=>y=bv (decide ((eE p m fs f (17,(n:Int))).en=0))/\qE H' p (eE p m fs f (17,(n:Int)))) qy:=by
 have h0:=hO;have hcm:=PL (p:=p) (m:=m) (fs:=fs) hst;have hnw:IntKind.i64.wrap ((n:Int) - 1)=(n:Int) - 1:=qi qA qA;have yoh:yo fs.length+29<=4415:=uv;have hrp:List.replicate n [iv 0,iv 0]=jZ (List.replicate n (0,0)):=oM;refine qV.qa func213 [.tmp 6] ntmps213 (λ_=>qv) λC w g root hroot=>?_;refine fb ?_<|aI hnw<|hn1;refine zU (λk s=>∃ i:Nat,k=n - i/\i<=n/\s.tm 0=.pt Yn 0/\s.tm 1=.pt Yn (yo fs.length)/\s.tm 2=iv n/\s.tm 7=.hs (.s 7) 2 0 n/\s.hp (.s 7)=some (.row 2 (jZ (List.replicate (n - i) (0,0)++f.stack.drop (f.stack.length - i))))/\s.tm 8=iv ((n:Int) - 1 - i)/\qE s.hp p (m.top fs (f.cut i))) n ?_ ?_
 .exact⟨0,qA,qA,qB,qB,qB,qB,by simp [hrp],qB,by rw [Pu];exact fK⟩
 clear hO;rintro k s - - ⟨i,rfl,hi,t0,t1,t2,t7,p7,t8,hO⟩;have hk:=Pt (f:=f) (i:=i) qA;obtain⟨R,j,hT,tr,h2,h3,h28⟩:=hO.jz rfl qA;have f28:=tr.f28;rw [hk] at f28;by_cases hil:i<n
 .obtain rfl:n=1:=qA;obtain rfl:i=0:=qA;refine fb ?_<|j2 t0 t1 t2 t7 p7<|t8;intro K hK;have fx:=aI t0 (aI t1 (aI t7 p7));refine zk h0 (have h:=hO;qE.re h) (qX _) (hF:=λ_=>lp gl DM (λ_=>qv) _ R (yo fs.length) (f.stack.length - (0+1)) ((f.cut 0).stack++j) (f.cut 0).zN zG f28 kE (la hk) qA yoh) (h:=?_);intro y H1 hw;clear fx;have hO1:=qE.qi (qE.gx (m:=m.top fs (f.cut 0)) (have h:=hO;qE.re h) rfl qA zG hk) hw;obtain⟨rfl,-⟩:=hw;have hO2:qE H1 p (m.top fs (f.cut 1)):=by have e:=I3 (f:=f) (i:=0) qA;simpa [qU.top,e] using hO1
  have hdv:=Ps (f:=f) (i:=0) qA;generalize (f.cut 0).zN=v at *;obtain⟨v1,v2⟩:=v;refine fb ?_<|jQ t0 t1 t2 t7 p7 t8<|hT;have hap:f.stack.drop (f.stack.length - 1)=[(v1,v2)]:=by rw [hdv];simp
  exact⟨0,qA,1,rfl,qA,eC,by simp [t1,hT],bh,by simp [t7],by simp [hap,jZ],by simp;decide,tw⟩
 .obtain rfl:i=n:=qA;have hdl:(f.stack.drop (f.stack.length - i)).length=i:=qn;have htm:=h.top.sv _ (gM (EK (f:=f) (i:=i) qA));rw [hcm];have hil:(i:Int) - 1 - i=-1:=qA;rw [gI,List.replicate_zero,List.nil_append] at p7;rw [hil] at t8;refine fb ?_<|j2 t0 t1 t2 t7 p7<|t8;intro K hK;have fx:=aI t0 t1;refine zk h0 (have h:=hO;qE.re h) (qX _) (hF:=λ_=>lp gl DM (λ_=>qv) _ R (yo fs.length) (f.stack.length - (i+1)) ((f.cut i).stack++j) (f.cut i).zN zG f28 kE (la hk) qA yoh) (h:=?_);intro y H1 hw;clear fx;have hO1:=qE.qi (qE.gx (m:=m.top fs (f.cut i)) (have h:=hO;qE.re h) rfl qA zG hk) hw;obtain⟨rfl,-⟩:=hw;have hO2:qE H1 p (m.top fs (f.cut (i+1))):=by have e:=I3 (f:=f) (i:=i) qA;simpa [qU.top,e] using hO1
  generalize (f.cut i).zN=v at *;obtain⟨v1,v2⟩:=v;refine fb ?_<|j2 t0 t1 t2 t7 p7<|hT;refine aS (λs=>s.tm 0=.pt Yn 0/\s.tm 1=.pt Yn (yo fs.length)/\s.tm 2=iv i/\s.tm 7=.hs (.s 7) 2 0 i/\s.hp (.s 7)=some (.row 2 (jZ (f.stack.drop (f.stack.length - i))))/\s.tm 9=.pt (.s 9) 0/\s.hp (.s 9)=some (.row 2 [[iv v1,iv v2]])/\s.tm 28=bv (v1 != 2)/\qE s.hp p (m.top fs (f.cut (i+1)))) ⟨eC,by simp [t1,hT],bh,by simp [t7],by simp [p7],qB,qB,qB,tw⟩ ?_;clear hT tr h2 h3 h28 f28 t0 t1 t2 t7 p7 t8 hO hO1 hO2 j R;rintro s ⟨t0,t1,t2,t7,p7,t9,p9,t28,hO⟩;obtain⟨R,j,hT,tr,h2,h3,h28⟩:=hO.jz rfl qA;have hRl:=tr.len;have r0:=tr.r0;have dX:=tr.dX;obtain⟨_,r0E⟩:=gS r0;obtain⟨_,r30E⟩:=gS dX;simp only [AS] at dX r30E;by_cases h2:v1=2
  case neg =>
   have hb:(v1 != 2)=true:=oQ;rw [if_pos h2];refine fb ?_<|zM t0 t1 t28 hT<|hb;intro K hK;have fx:=aI t0 t1;refine zk h0 (have h:=hO;qE.re h) (qX _) (hF:=λ_=>ef gl DM (λ_=>qv) _ R 5 zG hRl) (h:=?_);intro y H1 hw;clear fx;have hO1:=qE.qi (qE.ea (m:=m.top fs (f.cut (i+1))) (e:=5) (have h:=hO;qE.re h) rfl zG) hw;obtain⟨rfl,-⟩:=hw;refine fb ?_<|qS;refine qG [] .nil qH ⟨rY,qE.fin (have h:=hO1;qE.re h)⟩
  subst h2;rw [if_neg qB];have hv2:=htm.num;have hv3:=htm.fn rfl;simp only at hv2 hv3;obtain⟨jf,rfl⟩:∃ jf:Nat,v2=jf:=⟨v2.toNat,qA⟩;have hjl:jf<m.qJ.length:=qA;obtain⟨q,hq⟩:=gX hjl;obtain⟨_,hqE⟩:=gS hq;obtain⟨kq,hk1,hk2,hk3,hk4⟩:=h.qJ q (gM hq);obtain⟨b,cs⟩:=q;simp only at hk1 hk2 hk3 hk4;have hFn:=hO.qJ;simp only [AS] at hFn;have zF:=(gS hk1).1;have hcd:(yl p p.length)[b]?=some (zr p b):=by simp [yl,zF]
  obtain⟨hcdl,hcdE⟩:=gS hcd;have hpn:(zr p b).params.length=vT p b:=by simp [zr,hk1,vT]
  simp only [vN,hq];by_cases hpi:vT p b=i
  case neg =>
   rw [if_pos hpi];have hb:(((vT p b:Nat):Int) != (i:Int))=true:=by rw [bne_iff_ne];omega
   have hb2:¬ ((vT p b:Nat):Int)=(i:Int):=qA;refine fb ?_<|qr t0 t1 t2 t7 p7 t9 p9 t28 hT hRl r0 r0E<|yD dX r30E hFn hq hqE hjl hcd hcdl hcdE hpn<|aI hb<|hb2;intro K hK;refine ua (λs=>s.tm 51=.pt Yn 0/\qE s.hp p (m.top fs (f.cut (i+1)))) ⟨qB,fK⟩ ?_;rintro s ⟨t51,hO⟩;obtain⟨R,j,hT,tr,-⟩:=hO.jz rfl qA;have fx:=t51;refine zk h0 (have h:=hO;qE.re h) (qX _) (hF:=λ_=>ef gl DM (λ_=>qv) _ R 6 zG tr.len) (h:=?_);intro y H1 hw;clear fx;have hO1:=qE.qi (qE.ea (m:=m.top fs (f.cut (i+1))) (e:=6) (have h:=hO;qE.re h) rfl zG) hw;obtain⟨rfl,-⟩:=hw;refine fb ?_<|qS;refine qG [] .nil qH ⟨rY,qE.fin (have h:=hO1;qE.re h)⟩
  rw [if_neg (by simpa using hpi)];have hc8:=oh (p:=p) (b:=b);have hmd:=h.made;have hdp:=h.deep;have hnc:=h.nc;refine fb ?_<|qr t0 t1 t2 t7 p7 t9 p9 t28 hT hRl r0 r0E<|yD dX r30E hFn hq hqE hjl hcd hcdl hcdE hpn<|hpi;intro K hK;refine ua (λs=>s.tm 53=.pt Yn 0/\s.tm 55=iv b/\s.tm 57=.sl 1 (zV cs)/\s.tm 58=.hs (.s 7) 2 0 i/\s.hp (.s 7)=some (.row 2 (jZ (f.stack.drop (f.stack.length - i))))/\qE s.hp p (m.top fs (f.cut (i+1)))) ⟨qB,qB,qB,qB,by simp [p7],fK⟩ ?_;rintro s ⟨t53,t55,t57,t58,p7,hO⟩;refine Ka 58 (.s 7) 2 i (jZ (f.stack.drop (f.stack.length - i))) t58 p7 (by simp [hdl]) Θ ?_;have fx:=aI t53 (aI t55 t57);refine zk h0 (A1 hO) (qX _) (hF:=λhO=>Gm gl _ p (m.top fs (f.cut (i+1))) b cs (f.stack.drop (f.stack.length - i)) zF (by have:=hP.sh.len;omega) qA hk4 (by simp only [NC];omega) (by simp only [ND];omega) (by simp only [qU.top];omega) (by simp [qU.top];omega) (Uh hP hk1 qA) (by rw [hpn,hdl,hpi]) (h.JB rfl) h.Ix hO) (h:=?_);rintro y H1 hO1;clear fx;refine fb ?_<|qS;refine qG [] .nil qH ⟨by simp [DB,qU.top,hm0],qE.fin (have h:=hO1;qE.re h)⟩
abbrev Vt:qb:=Ft<|.done
abbrev Vu:qb:=eX<|.l 9 [4,3,2,1,0]<|.l 10 [0]<|.q 11<|.q 12<|.l 13 []<|.done
abbrev Vv:qb:=.q 0<|.q 2<|.l 1 [2]<|.l 3 []<|.done
theorem Qb (l:List qu):∃ (b:Nat->Bool) (x y:Nat->Int),jN l=[bv (b 0),iv (x 0),iv (y 0),bv (b 1),iv (x 1),iv (y 1),bv (b 2),iv (x 2),iv (y 2),bv (b 3),iv (x 3),iv (y 3),bv (b 4),iv (x 4),iv (y 4),bv (b 5),iv (x 5),iv (y 5),bv (b 6),iv (x 6),iv (y 6),bv (b 7),iv (x 7),iv (y 7)]:=by
 refine⟨λi=>(zn l i).isSome,λi=>((zn l i).getD (0,0)).1,λi=>((zn l i).getD (0,0)).2,?_⟩;have h:∀ i,j6 (zn l i)=[bv (zn l i).isSome,iv ((zn l i).getD (0,0)).1,iv ((zn l i).getD (0,0)).2]:=λi=>by cases zn l i <;> rfl
 simp [jN,yk,tM,h]
theorem mn {A G G2:Prop} (k:G2) (x:A) (h:A->jP G2->G:=by
 intro fx kk;refine qQ ?_
 repeat ((first|refine qf (id:=2) Vt mixed ?_|refine qf (id:=3) Vu mixed ?_|refine qf (id:=7) Vv mixed ?_);refine zQ ?_;refine qQ ?_)
 exact kk.h):G:=h x ⟨k⟩
theorem Nc (gl) (H:Nm->Option AO) (p:qC) (m:qU) (gs:List qN) (g0 f:qN) (v:qR) (hb:f.qD<p.length) (hfl:gs.length+1<=150) (hgl:g0.stack.length<=1000) (hcl:m.qO.length<=1000) (hO:qE H p (m.top (gs++[g0]) f)) :
  qV prog gl 119 DM [.pt Yn 0,qR.av v] H (λ_ _ H'=>qE H' p (if zt p f.qD=2 then vr { m with qO:=m.qO++[f.names] } (gs++[g0]) (3,m.qO.length) else vr m (gs++[g0]) v)) qy:=by
 obtain⟨v1,v2⟩:=v;have yh:(gs++[g0]).length=gs.length+1:=qB;have yoh:yo (gs.length+1)+29<=4411:=uv;refine qV.qa func119 [] ntmps119 (λ_=>qv) λC w g root hroot=>?_;refine qI ?_<|qS;intro K hK;refine ua (λs=>s.tm 5=.pt Yn 0/\s.tm 0=.pt Yn 0/\s.tm 3=.pt (.s 3) 0/\s.hp (.s 3)=some (.row 2 [[iv v1,iv v2]])/\qE s.hp p (m.top (gs++[g0]) f)) ⟨qB,qB,qB,qB,(qE.qz hO (f:=kl (.s 3)) (λk hk=>by simp [kl,(yC (λ_=>qv) hk 3).2]) (λk hk=>by have:=yC (λ_=>qv) hk 3;simp [this.1,this.2,hk]))⟩ ?_;rintro s ⟨t5,t0,t3,p3,hO1⟩;obtain⟨R,j,hT,tr,h2,h3,h28⟩:=hO1.jz rfl qA;have fx:=t5;refine zk hO (have h:=hO1;qE.re h) (qX _) (hF:=λ_=>Cj gl DM (λ_=>qv) rfl _ R (gs++[g0]).length zG tr.h qA) (h:=?_);intro y H1 hw;clear fx;have hO2:=qE.CR hO1 hw;obtain⟨rfl,-⟩:=hw;refine qI ?_<|zC t0 t3 p3<|hT;refine aS (λs=>s.tm 0=.pt Yn 0/\s.tm 3=.pt (.s 3) 0/\s.hp (.s 3)=some (.row 2 [[iv v1,iv v2]])/\s.tm 4=.pt Yn (yo (gs.length+1))/\qE s.hp p (m.top (gs++[g0]) f)) ⟨eC,bG,by simp [p3],zG,(have h:=hO2;qE.re h)⟩ ?_;have h0:=hO;clear hO hO1 hO2 hT tr h2 h3 h28 R j t5 t0 t3 p3;rintro s ⟨t0,t3,p3,t4,hO⟩;obtain⟨R,j,hT,tr,h2,h3,h28⟩:=hO.jz rfl qA;have hRl:=tr.len;have r0:=tr.r0;have f0:=tr.f0;have fj:=tr.fj;have tb:=tr.tb;rw [yh] at f0 tb;simp only [qU.top] at fj;obtain⟨_,r0E⟩:=gS r0;obtain⟨_,r31E⟩:=gS fj;obtain⟨f0l,f0E⟩:=gS f0
 have hcd:(yl p p.length)[f.qD]?=some (zr p f.qD):=by simp [yl,hb]
 obtain⟨hcdl,hcdE⟩:=gS hcd;obtain⟨k,hk⟩:=gX hb;have hki:(zr p f.qD).kind=zt p f.qD:=by simp [zr,zt,hk]
 by_cases hc:zt p f.qD=2
 .have hcb:(zt p f.qD==2)=true:=by simp [hc]
  have hcy:=hO.jk;simp only [qU.top] at hcy;obtain⟨b,x,y,hfx⟩:=Qb f.names;rw [hfx] at tb;have yob:yo (gs.length+1)+4+24<=4415:=qA;have hcl2:m.qO.length+1<=4294967296:=qA;have hwc:IntKind.i64.wrap (m.qO.length:Int)=m.qO.length:=qi qA qA;refine mn ?_<|qr t0 t3 p3 t4 hT hRl yoh yh r0 r0E f0 f0E<|qr f0l hcd hcdl hcdE hki hc hcb fj r31E tb hcy hcl<|aI yob<|hwc;intro K hK;have hcap:ki m.qO++[[bv (b 0),iv (x 0),iv (y 0),bv (b 1),iv (x 1),iv (y 1),bv (b 2),iv (x 2),iv (y 2),bv (b 3),iv (x 3),iv (y 3),bv (b 4),iv (x 4),iv (y 4),bv (b 5),iv (x 5),iv (y 5),bv (b 6),iv (x 6),iv (y 6),bv (b 7),iv (x 7),iv (y 7)]]=ki (m.qO++[f.names]):=by rw [<- hfx];exact Pv
  let R1:List AV:=(R.map (AV.tr (mv (.s 29) (.c Yn 0 31))∘AV.tr (kl (.s 29))∘AV.tr (kl (.s 28)))).take 31++.hs (.c Yn 0 31) 24 0 (m.qO.length+1)::(R.map (AV.tr (mv (.s 29) (.c Yn 0 31))∘AV.tr (kl (.s 29))∘AV.tr (kl (.s 28)))).drop 32
  have hO1:qE (zH Yn (.row 4415 [R1]) (zH (.c Yn 0 31) (.row 24 (ki (m.qO++[f.names]))) s.hp)) p (({ m with qO:=m.qO++[f.names] }:qU).top (gs++[g0]) f):=by
   have h:=hO;rw [yh] at h2 h3 h28;exact qE.eU (f:=f) (g:=f) (fs:=gs++[g0]) h rfl rfl rfl (CF hT (R':=R1) rG (λJ hJ e=>by simp only [R1];rw [e];simp only [ix];exact RX (m.qO++[f.names]) hJ qB (λj hj=>by simp [hj]))) (h5:=rG) (h6t:=by simp [zH,h2]) (h7t:=by simp [zH,h3]) (h8t:=⟨j,by simp [zH,h28]⟩)
  refine ua (λs=>s.tm 0=.pt Yn 0/\s.tm 42=.pt Yn 0/\s.tm 44=.pt Yn 4411/\s.tm 3=.pt (.s 3) 0/\s.hp (.s 3)=some (.row 2 [[iv 3,iv m.qO.length]])/\ng s.hp p { ({ m with qO:=m.qO++[f.names] }:qU) with qW:=gs++[g0] } (gs.length+2)) ⟨kg,kg,kg,bG,by simp [p3,hwc],?_⟩ ?_
  .have h:=hO1;have hR1:(zH Yn (.row 4415 [R1]) (zH (.c Yn 0 31) (.row 24 (ki (m.qO++[f.names]))) s.hp)) Yn=some (.row 4415 [R1]):=rG;rw [show gs.length+2=(gs++[g0]).length+1 by simp];refine qE.I8 (m:=({ m with qO:=m.qO++[f.names] }:qU).top (gs++[g0]) f) h rfl qA hR1 (vals:=[iv 0,iv 0,.hs (.c Yn 0 (yo (gs.length+1)+2)) 3 0 0,.hs (.c Yn 0 (yo (gs.length+1)+3)) 1 0 0]++(jN j3++[.hs (.c Yn 0 (yo (gs.length+1)+28)) 2 0 0])) (F:=λm=>((kl (.c Yn 0 (yo (gs.length+1)+2)) m).bind (kl (.c Yn 0 (yo (gs.length+1)+3)))).bind (kl (.c Yn 0 (yo (gs.length+1)+28)))) qB (λj h1 h2 h3=>by rw [yh] at h1 h2 h3;simp [kl,h1,h2,h3]) (h0:=?_) (h1:=by simp [hO.aK]) (h2:=rF) (h3:=ti) (h4:=rX) (h5:=by simp [<- hcap]) (h6:=Do) (h7:=Do) (h8:=Do) (h9:=by intro c s hc;simp [hO.cell c s hc]) (hA:=by intro k i j hk e hn;simpa [zH,hk,e] using hn);simp only [<- ix];simp [ql,yh,BP,R1]
   rfl
  rintro s ⟨t0,t42,t44,t3,p3,hY⟩;obtain⟨R,hT,hRl,r4⟩:=hY.ht;obtain⟨_,r4E⟩:=gS r4;have hw1:IntKind.i64.wrap ((gs.length:Int)+2 - 1)=(gs.length:Int)+1:=ga;refine qI ?_<|vA t0 t42 t44 t3 p3 hT hRl r4 r4E<|hw1;refine aS (λs=>s.tm 0=.pt Yn 0/\s.tm 3=.pt (.s 3) 0/\s.hp (.s 3)=some (.row 2 [[iv ((3,(m.qO.length:Int))).1,iv ((3,(m.qO.length:Int))).2]])/\qE s.hp p { ({ m with qO:=m.qO++[f.names] }:qU) with qW:=gs++[g0] }) ⟨kg,bG,by simp [p3],hY.done hT (by simp [ql,hw1]) (λq hq hn=>by simp [hn])⟩ ?_;clear hT hRl r4 r4E hY t0 t42 t44 t3 p3 s;rintro s ⟨t0,t3,p3,hO⟩;obtain⟨R,j,hT,tr,h2,h3,h28⟩:=qE.jz (f:=g0) hO rfl qA;refine mn ?_<|zC t0 t3 p3<|hT;intro K hK;have fx:=aI t0 (aI t3 p3);refine zk h0 (have h:=hO;qE.re h) (qX _) (hF:=λ_=>Cj gl DM (λ_=>qv) rfl _ R gs.length zG tr.h qA) (h:=?_);intro y H1 hw;clear fx;have hO1:=qE.CR dN hw;obtain⟨rfl,-⟩:=hw;refine mn ?_<|zC t0 t3 p3<|hT;obtain⟨R1,j1,hT1,tr1,h21,h31,h281⟩:=qE.jz (f:=g0) hO1 rfl qA;have yog:yo gs.length+29<=4415:=uv;have fx:=aI t0 (aI t3 (aI p3 hT));refine zk h0 (have h:=hO1;qE.re h) (qX _) (hF:=λ_=>dE gl DM (λ_=>qv) _ R1 (yo gs.length) g0.stack j1 (3,(m.qO.length:Int)) rfl rfl dP tr1.f28 rf hgl yog) (h:=?_);intro y2 H2 hw2;clear fx;have hO2:=qE.cm (f:=g0) (by exact (have h:=hO1;qE.re h)) rfl qA rfl dP hw2;refine mn ?_<|zM t0 t3 p3 hT<|hT1
  refine iy [] .nil qH ?_;rw [if_pos hc];exact qE.fin ID
 .have hc':(zt p f.qD==2)=false:=by simpa using hc
  refine mn ?_<|qr t0 t3 p3 t4 hT hRl yoh yh r0 r0E f0 f0E<|j2 f0l hcd hcdl hcdE hki<|hc';intro K hK;refine ua (λs=>s.tm 0=.pt Yn 0/\s.tm 42=.pt Yn 0/\s.tm 44=.pt Yn 4411/\s.tm 3=.pt (.s 3) 0/\s.hp (.s 3)=some (.row 2 [[iv ((v1,v2)).1,iv ((v1,v2)).2]])/\ng s.hp p { m with qW:=gs++[g0] } (gs.length+2)) ⟨kg,kg,kg,bG,by simp [p3],?_⟩ ?_
  .have hm':(m.top (gs++[g0]) f).qW=(gs++[g0])++[f]:=rfl;have h:=hO;rw [show gs.length+2=(gs++[g0]).length+1 by simp];refine qE.I8 (m:=m.top (gs++[g0]) f) h hm' qA hT (vals:=[iv 0,iv 0,.hs (.c Yn 0 (yo (gs.length+1)+2)) 3 0 0,.hs (.c Yn 0 (yo (gs.length+1)+3)) 1 0 0]++(jN j3++[.hs (.c Yn 0 (yo (gs.length+1)+28)) 2 0 0])) (F:=λm=>((kl (.c Yn 0 (yo (gs.length+1)+2)) m).bind (kl (.c Yn 0 (yo (gs.length+1)+3)))).bind (kl (.c Yn 0 (yo (gs.length+1)+28)))) qB (λj h1 h2 h3=>by rw [yh] at h1 h2 h3;simp [kl,h1,h2,h3]) (h0:=?_) (h6:=Ds) (h7:=Ds) (h8:=Ds);simp only [<- ix];simp [ql,yh,BP]
  rintro s ⟨t0,t42,t44,t3,p3,hY⟩;obtain⟨R,hT,hRl,r4⟩:=hY.ht;obtain⟨_,r4E⟩:=gS r4;have hw1:IntKind.i64.wrap ((gs.length:Int)+2 - 1)=(gs.length:Int)+1:=ga;refine qI ?_<|vA t0 t42 t44 t3 p3 hT hRl r4 r4E<|hw1;refine aS (λs=>s.tm 0=.pt Yn 0/\s.tm 3=.pt (.s 3) 0/\s.hp (.s 3)=some (.row 2 [[iv ((v1,v2)).1,iv ((v1,v2)).2]])/\qE s.hp p { m with qW:=gs++[g0] }) ⟨kg,bG,by simp [p3],hY.done hT (by simp [ql,hw1]) (λq hq hn=>by simp [hn])⟩ ?_;clear hT hRl r4 r4E hY t0 t42 t44 t3 p3 s;rintro s ⟨t0,t3,p3,hO⟩;obtain⟨R,j,hT,tr,h2,h3,h28⟩:=qE.jz (f:=g0) hO rfl qA;refine mn ?_<|zC t0 t3 p3<|hT;intro K hK;have fx:=aI t0 (aI t3 p3);refine zk h0 (have h:=hO;qE.re h) (qX _) (hF:=λ_=>Cj gl DM (λ_=>qv) rfl _ R gs.length zG tr.h qA) (h:=?_);intro y H1 hw;clear fx;have hO1:=qE.CR dN hw;obtain⟨rfl,-⟩:=hw;refine mn ?_<|zC t0 t3 p3<|hT;obtain⟨R1,j1,hT1,tr1,h21,h31,h281⟩:=qE.jz (f:=g0) hO1 rfl qA;have yog:yo gs.length+29<=4415:=uv;have fx:=aI t0 (aI t3 (aI p3 hT));refine zk h0 (have h:=hO1;qE.re h) (qX _) (hF:=λ_=>dE gl DM (λ_=>qv) _ R1 (yo gs.length) g0.stack j1 (v1,v2) rfl rfl dP tr1.f28 rf hgl yog) (h:=?_);intro y2 H2 hw2;clear fx;have hO2:=qE.cm (f:=g0) (by exact (have h:=hO1;qE.re h)) rfl qA rfl dP hw2;refine mn ?_<|zM t0 t3 p3 hT<|hT1;refine iy [] .nil qH ?_;rw [if_neg hc];exact qE.fin ID
end Go.Proofs.YtjgpejikjhojcaaGreatDoor
end
