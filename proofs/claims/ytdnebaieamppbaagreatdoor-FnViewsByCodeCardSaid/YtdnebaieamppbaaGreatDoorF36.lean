import Derived.Test.YtdnebaieamppbaaGreatDoorF29
import Derived.Test.YtdnebaieamppbaaGreatDoorF33
set_option linter.unusedSimpArgs false
set_option linter.unusedVariables false
set_option maxRecDepth 100000
set_option maxHeartbeats 4000000

section
namespace Go.Proofs.YtdnebaieamppbaaGreatDoor
open Go Go.Hm Go.Proofs Tryz
abbrev WN:Y8:=ai<|.l 7 []<|.done
abbrev WM:Y8:=.q 0<|.q 1<|.q 2<|.q 3<|.q 4<|.q 6<|.l 5 [6,1,0]<|.q 7<|.l 8 []<|.done
abbrev WK:Y8:=aB<|.l 9 []<|.done
abbrev WJ:Y8:=aB<|.l 9 [0]<|.q 10<|.q 11<|.l 12 []<|.done
abbrev WI:Y8:=gV<|.l 10 []<|.done
def Dk (p:YU) (b:Nat) (vs:List Y6):List Yj:=match (qd p b).params,vs with
 | [x],[v]=>if x∈qG p b then (List.replicate (qG p b).length none).set (qq (qG p b) x).toNat (some v) else List.replicate (qG p b).length none
 | _,_=>List.replicate (qG p b).length none
def Qj (p:YU) (m:Y2) (b:Nat) (vs:List Y6):List Yj:=match (qd p b).params,vs with
 | [x],[v]=>if x∈qG p b then m.cells++List.replicate (qC p b).length none else (m.cells++List.replicate (qC p b).length none).set (m.cells.length+(qq (qC p b) x).toNat) (some v)
 | _,_=>m.cells++List.replicate (qC p b).length none
structure Beg (s:St) (p:YU) (m:Y2) (b:Nat) (cs:List Nat) (vs:List Y6) (n:Nat) (fa C:List Yj):Prop where
 t0:s.tm 0=.pt Yn 0
 t2:s.tm 2=.sl 1 (zC cs)
 t3:s.tm 3=.sl 2 (zf vs)
 t8:s.tm 8=.pt (.s 8) 0
 p8:s.hp (.s 8)=some (.row 6 [(qd p b).row])
 t9:s.tm 9=.pt (.s 9) 0
 p9:s.hp (.s 9)=some (.row 29 [[iv b,iv 0,.hs (.c (.s 9) 0 2) 3 0 (qG p b).length,.hs (.c (.s 9) 0 3) 1 0 n,bv false,iv 0,iv 0,bv false,iv 0,iv 0,bv false,iv 0,iv 0,bv false,iv 0,iv 0,bv false,iv 0,iv 0,bv false,iv 0,iv 0,bv false,iv 0,iv 0,bv false,iv 0,iv 0,.hs (.c (.s 9) 0 28) 2 0 0]])
 p92:s.hp (.c (.s 9) 0 2)=some (.row 3 (qU fa))
 p93:s.hp (.c (.s 9) 0 3)=some (.row 1 (zC ((List.range n).map (m.cells.length+·))))
 qAB:s.hp (.c (.s 9) 0 28)=some (.row 2 [])
 own:jl s.hp p m C
theorem aG {A G G2:Prop} (k:G2) (x:A) (h:A->Yr G2->G:=by
 intro fx kk;refine qI ?_
 repeat ((first|refine Y7 (id:=12) WN mixed ?_|refine Y7 (id:=13) WM mixed ?_|refine Y7 (id:=16) WK mixed ?_|refine Y7 (id:=19) WJ mixed ?_|refine Y7 (id:=20) WI mixed ?_);refine qW ?_;refine qI ?_)
 exact kk.h):G:=h x ⟨k⟩
theorem oH (gl) (H:Nm->Option AO) (p:YU) (m:Y2) (b:Nat) (cs:List Nat) (vs:List Y6) (hb:b<p.length) (hp7:p.length<=7) (hcs:cs.length<=8) (hcr:∀ c∈cs,c<m.cells.length) (hcl:m.cells.length<=2000) (hmd:m.made<=1000) (hdp:m.deep<=1000) (hfl:m.YO.length<=150) (hpar:(qd p b).params=[]\/∃ x,(qd p b).params=[x]/\((x∈qG p b/\x∉qC p b)\/(x∉qG p b/\x∈qC p b))) (hvs:vs.length=(qd p b).params.length) (hfr:∀ f∈m.YO,∀ c∈f.cells,c<m.cells.length) (hfn:∀ g∈m.YT,∀ c∈g.2,c<m.cells.length) (hO:YQ H p m) :
  Yc prog gl 144 DM [.pt Yn 0,iv b,.sl 1 (zC cs),.sl 2 (zf vs)] H (λ_ _ H'=>YQ H' p (ze p m b cs vs)) Yz:=by
 have hOc:=hO.yc
 obtain⟨R,hT,hRl,r0⟩:∃ R,H Yn=some (.row 4415 [R])/\R.length=4415/\R[0]?=some (csl (qg p p.length)):=by
  obtain⟨J,hJ,e,_⟩:=hOc;exact⟨_,e,ae (wP hJ),Gc⟩
 obtain⟨r0l,r0E⟩:=gS r0;obtain⟨kk,hk⟩:=gX hb;have hcd:(qg p p.length)[b]?=some (qd p b):=Ak;obtain⟨hcdl,hcdE⟩:=gS hcd;have hcf:(qd p b).YV=qG p b:=kR;have hcc:(qd p b).cells=qC p b:=kR;have hf8:=vF (p:=p) (b:=b);have hc8:=zn (p:=p) (b:=b);refine Yc.Yb func144 [] ntmps144 (λ_=>qJ) λC w g root hroot=>?_;refine qD ?_<|jP hT hRl r0 r0E hcd hcdl hcdE hcf hcc hf8<|hc8;have hrp:List.replicate (qG p b).length [bv false,iv 0,iv 0]=qU (List.replicate (qG p b).length none):=ck
 have hun:∀ k i j,DM k=true->Nm.under (.c (.s 9) i j) k=false:=λk i j hk=>by
  cases h:Nm.under (.c (.s 9) i j) k with
  | false=>rfl
  | true=>have:=(Nm.ZB h).1;rw [(Zq (λ_=>qJ) hk 9).2] at this;cases this
 refine qR (λn s=>∃ i:Nat,n=(qC p b).length - i/\i<=(qC p b).length/\Beg s p m b cs vs i (List.replicate (qG p b).length none) (m.cells++List.replicate i none)/\s.tm 29=iv (qC p b).length/\s.tm 30=iv i) (qC p b).length ?_ ?_
 .refine⟨0,qA,qA,⟨qB,qB,qB,qB,by simp [hcf,hcc],qB,qB,by simp [hrp],iL,qB,?_⟩,qB,qB⟩;rw [List.replicate_zero,sj];have hst:jl (st0 [.pt Yn 0,iv b,.sl 1 (zC cs),.sl 2 (zf vs)] H 125 gl).hp p m m.cells:=hOc.Yq (F:=some) (λ_ _=>rfl) λk hk=>by cases h:H k <;> simp [h,AO.Yg]
  exact (by repeat (first|(with_reducible exact hst)|refine KA ?_|refine Jz dD ?_|refine KC dD ?_|refine KB dD dD ?_|refine QX dD ?_|exact hst))
 clear hT hRl r0E r0l r0 R;rintro n s - - ⟨i,rfl,hi,hB,t29,t30⟩;have t0:=hB.t0;have t2:=hB.t2;have t3:=hB.t3;have t8:=hB.t8;have p8:=hB.p8;have t9:=hB.t9;have p9:=hB.p9;have p92:=hB.p92;have p93:=hB.p93;have qAB:=hB.qAB;by_cases hil:i<(qC p b).length
 .have hil1:((List.range i).map (m.cells.length+·)).length=i:=qB;have hi8:i<=8:=qA;have hu:(bz prog C w g H 125 gl).ext (.u 7 (m.cells.length+i) 0)=false:=by simp [bz,hO.free (c:=m.cells.length+i) qA]
  refine aG ?_<|qQ t0 t2 t3 t8 p8 t9 p9 p92 qAB t29 t30 hil<|aI hil1<|hi8;intro K hK;refine Ba (.c (.s 36) 0 0) (.u 7 (m.cells.length+i) 0) (.inl rfl) (.inr hu) ?_;have hCl:(m.cells++List.replicate i none).length=m.cells.length+i:=qB
  have hrl:∀ F:Nm->Option Nm,(∀ c,c<m.cells.length+i->F (En c)=some (En c))->(zC ((List.range i).map (m.cells.length+·))).map (λr=>r.map (AV.tr F))=zC ((List.range i).map (m.cells.length+·)):=λF hF=>fO λc hc=>by
   simp only [eg,BW] at hc;obtain⟨a,ha,rfl⟩:=hc;exact hF _ qA
  have Z6:∀ c,c<m.cells.length+i->mv (.c (.s 36) 0 0) (.u 7 (m.cells.length+i) 0) (En c)=some (En c):=λc hc=>by simp [mv,Jf hc]
  have hcsF:(zC cs).map (λr=>r.map (AV.tr (mv (.c (.s 36) 0 0) (.u 7 (m.cells.length+i) 0))))=zC cs:=fO λc hc=>Z6 c (by have:=hcr c hc;omega);have hOB:=hB.own;refine uD (λs=>s.tm 33=.hs (.c (.s 9) 0 3) 1 0 i/\s.tm 36=.hs (.s 36) 1 0 1/\s.hp (.s 36)=some (.row 1 [[.pt (.u 7 (m.cells.length+i) 0) 0]])/\Beg s p m b cs vs i (List.replicate (qG p b).length none) (m.cells++List.replicate (i+1) none)/\s.tm 29=iv (qC p b).length/\s.tm 30=iv i) ⟨qB,qB,qB,⟨vr,by simp [t2,hcsF],eO,gG,iA,iJ,by simp [p9],mQ,by simp [p93,hrl _ Z6],mR,?_⟩,by simp [t29],by simp [t30]⟩ ?_
  .rw [List.replicate_succ',<- nS];exact jl.qDU (n0:=.c (.s 36) 0 0) (s:=none) qB rfl mP qB (λf hf c hc=>by have:=hfr f hf c hc;simp;omega) (λg hg c hc=>by have:=hfn g hg c hc;simp;omega)
  clear t0 t2 t3 t8 p8 t9 p9 p92 p93 qAB t29 t30 hB hOB;rintro s ⟨t33,t36,p36,hB,t29,t30⟩;have t0:=hB.t0;have t2:=hB.t2;have t3:=hB.t3;have t8:=hB.t8;have p8:=hB.p8;have t9:=hB.t9;have p9:=hB.p9;have p92:=hB.p92;have p93:=hB.p93;have qAB:=hB.qAB;have hOB:=hB.own;refine aG ?_<|qQ t0 t2 t3 t8 p8 t9 p9 p92 p93 qAB t29 t30<|kH t33 t36 p36 hil hil1<|hi8;have hap:zC ((List.range i).map (m.cells.length+·))++[[.pt (.u 7 (m.cells.length+i) 0) 0]]=zC ((List.range (i+1)).map (m.cells.length+·)):=by simp [zC,BU,ptE]
  have htt:((List.range i).map (m.cells.length+·)).take i=(List.range i).map (m.cells.length+·):=bC qB;refine⟨(qC p b).length - (i+1),qA,i+1,rfl,qA,⟨vr,uQ,eO,gG,iA,iJ,qB,mQ,by simp [<- hap,htt],mR,mP⟩,by simp [t29],by simp [t30];exact Yi qA qA⟩
 .obtain rfl:i=(qC p b).length:=qA;have hOB:=hB.own;refine qD ?_<|jP t0 t2 t3 t8 p8 t9 p9 p92 p93 qAB<|aI t29<|t30;refine uk (λs=>Beg s p m b cs vs (qC p b).length (List.replicate (qG p b).length none) (m.cells++List.replicate (qC p b).length none)/\s.tm 41=ZD (qd p b).params/\s.tm 42=iv (qd p b).params.length/\s.tm 43=iv 0) ⟨⟨vr,uQ,eO,gG,iA,iJ,by simp [p9],mQ,by simp [p93],mR,mP⟩,qB,qB,qB⟩ ?_;clear t0 t2 t3 t8 p8 t9 p9 p92 p93 qAB t29 t30 hB hOB;rintro s ⟨hB,t41,t42,t43⟩;refine qR (λn s=>∃ (i:Nat) (fa C:List Yj),n=(qd p b).params.length - i/\i<=(qd p b).params.length/\Beg s p m b cs vs (qC p b).length fa C/\fa.length=(qG p b).length/\C.length=m.cells.length+(qC p b).length/\(i=0->fa=List.replicate (qG p b).length none/\C=m.cells++List.replicate (qC p b).length none)/\(i=(qd p b).params.length->fa=Dk p b vs/\C=Qj p m b vs)/\s.tm 41=ZD (qd p b).params/\s.tm 42=iv (qd p b).params.length/\s.tm 43=iv i) (qd p b).params.length ?_ ?_
  .exact⟨0,_,_,qA,qA,hB,qB,qB,λ_=>⟨rfl,rfl⟩,λh=>by have h1:=eh h.symm;simp [Dk,Qj,h1],t41,t42,t43⟩
  clear t41 t42 t43 hB;rintro n s - - ⟨i,fa,C,rfl,hi,hB,hfa,hC,hi0,hi1,t41,t42,t43⟩;have t0:=hB.t0;have t2:=hB.t2;have t3:=hB.t3;have t8:=hB.t8;have p8:=hB.p8;have t9:=hB.t9;have p9:=hB.p9;have p92:=hB.p92;have p93:=hB.p93;have qAB:=hB.qAB;have hOB:=hB.own;by_cases hil:i<(qd p b).params.length
  .obtain⟨x,hx,hx2⟩:∃ x,(qd p b).params=[x]/\((x∈qG p b/\x∉qC p b)\/(x∉qG p b/\x∈qC p b)):=by
    rcases hpar with h|h
    .rw [h] at hil;simp at hil
    .exact h
   have hl1:(qd p b).params.length=1:=by rw [hx];rfl
   obtain rfl:i=0:=qA;obtain⟨rfl,rfl⟩:=hi0 rfl;obtain⟨v,rfl⟩:∃ v,vs=[v]:=GX.1 (by rw [hvs,hl1]);obtain⟨v1,v2⟩:=v;rw [hx] at t41 t42;have hpc:=kY gl (qC p b) x qA;have hpf:=kY gl (qG p b) x qA;rcases hx2 with⟨hxf,hxc⟩|⟨hxf,hxc⟩
   .obtain⟨q,hq,hql,-⟩:=zQ hxf
    have hpn:qq (qC p b) x=-1:=by
     have h1:=fG (xs:=qC p b) (x:=x);have h2:¬ 0<=qq (qC p b) x:=λh=>hxc (zr.1 h);omega
    rw [hpn] at hpc;rw [hq] at hpf;have hqi:(q:Int)<(qG p b).length:=qA;have fx:=qQ t0 t2 t3 t8 p8 t9 p9 p92 p93 qAB t41 t42<|yl t43 hcc hcf hql<|hqi;have c1:=hpc;have c2:=hpf;refine aG ?_<|fx;clear fx c1 c2;have hfF:Dk p b [(v1,v2)]=(List.replicate (qG p b).length none).set q (some (v1,v2)):=by simp [Dk,hx,hxf,hq]
    have hfC:Qj p m b [(v1,v2)]=m.cells++List.replicate (qC p b).length none:=by simp [Qj,hx,hxf]
    exact⟨0,qA,1,(List.replicate (qG p b).length none).set q (some (v1,v2)),m.cells++List.replicate (qC p b).length none,qA,qA,⟨vr,uQ,eO,gG,iA,iJ,by simp [p9],mQ,by simp [p93],mR,mP⟩,qB,qB,λh=>qA,λ_=>⟨hfF.symm,hfC.symm⟩,by simp [t41,hx],by simp [t42,hx],by simp [t43];rfl⟩
   .obtain⟨q,hq,hql,-⟩:=zQ hxc;rw [hq] at hpc;have hqi:(q:Int)<(qC p b).length:=qA;have hqn:((q:Int) == -1)=false:=yY;have hcl2:m.cells.length+q<(m.cells++List.replicate (qC p b).length none).length:=qv;have e9:m.cells.length+q - m.cells.length=q:=qA
    have hcq:(m.cells++List.replicate (qC p b).length none)[m.cells.length+q]?=some (none:Yj):=by
     rw [kh qA,e9];simp [hql]
    have hE:s.hp (.u 7 (m.cells.length+q) 0)=some (.row 3 [[bv false,iv 0,iv 0]]):=by
     obtain⟨J,hJ,e,hOw⟩:=hOB;have:=hOw.cell (m.cells.length+q) none hcq
     simpa [ZG] using this
    have her:(zC ((List.range (qC p b).length).map (m.cells.length+·)))[q]?=some [.pt (.u 7 (m.cells.length+q) 0) 0]:=by rw [DZ];simp [hql,ptE]
    obtain⟨herl,herE⟩:=gS her;have fx:=qQ t0 t2 t3 t8 p8 t9 p9 p92 p93 qAB t41 t42<|jP t43 hcc hcf hql hqi hqn @qT hE her herE<|herl;have c1:=hpc;refine aG ?_<|fx;clear fx c1;have hfF:Dk p b [(v1,v2)]=List.replicate (qG p b).length none:=by simp [Dk,hx,hxf]
    have hfC:Qj p m b [(v1,v2)]=(m.cells++List.replicate (qC p b).length none).set (m.cells.length+q) (some (v1,v2)):=by simp [Qj,hx,hxf,hq]
    refine⟨0,qA,1,List.replicate (qG p b).length none,(m.cells++List.replicate (qC p b).length none).set (m.cells.length+q) (some (v1,v2)),qA,qA,⟨vr,uQ,eO,gG,iA,iJ,by simp [p9],mQ,by simp [p93],mR,?_⟩,qB,qB,λh=>qA,λ_=>⟨hfF.symm,hfC.symm⟩,by simp [t41,hx],by simp [t42,hx],by simp [t43];rfl⟩
    repeat (refine KA ?_)
    exact Qv (some (v1,v2)) hcl2 mP
  .obtain rfl:i=(qd p b).params.length:=qA;have hil1:((List.range (qC p b).length).map (m.cells.length+·)).length=(qC p b).length:=qB;have hsum:(qC p b).length+cs.length<=16:=qA;have htt:((List.range (qC p b).length).map (m.cells.length+·)).take (qC p b).length=(List.range (qC p b).length).map (m.cells.length+·):=bC qB;refine qD ?_<|qQ t0 t2 t3 t8 p8 t9 p9 p92 p93 qAB t41 t42<|j4 t43 hil1 hsum<|hcs;refine uk (λs=>s.tm 0=.pt Yn 0/\s.tm 8=.pt (.s 8) 0/\s.hp (.s 8)=some (.row 6 [(qd p b).row])/\s.tm 9=.pt (.s 9) 0/\s.hp (.s 9)=some (.row 29 [[iv b,iv 0,.hs (.c (.s 9) 0 2) 3 0 (qG p b).length,.hs (.c (.s 9) 0 3) 1 0 ((qC p b).length+cs.length),bv false,iv 0,iv 0,bv false,iv 0,iv 0,bv false,iv 0,iv 0,bv false,iv 0,iv 0,bv false,iv 0,iv 0,bv false,iv 0,iv 0,bv false,iv 0,iv 0,bv false,iv 0,iv 0,.hs (.c (.s 9) 0 28) 2 0 0]])/\s.hp (.c (.s 9) 0 2)=some (.row 3 (qU fa))/\s.hp (.c (.s 9) 0 3)=some (.row 1 (zC ((List.range (qC p b).length).map (m.cells.length+·)++cs)))/\s.hp (.c (.s 9) 0 28)=some (.row 2 [])/\jl s.hp p m C) ⟨vr,gG,iA,iJ,qB,mQ,by simp [htt,<- Mb],mR,mP⟩ ?_;clear t0 t2 t3 t8 p8 t9 p9 p92 p93 qAB hOB t41 t42 t43 hB;rintro s ⟨t0,t8,p8,t9,p9,p92,p93,qAB,hOB⟩
   obtain⟨R,hT,hRl,r4⟩:∃ R,s.hp Yn=some (.row 4415 [R])/\R.length=4415/\R[4411]?=some (iv m.YO.length):=by
    obtain⟨J,hJ,e,_⟩:=hOB;exact⟨_,e,ae (wP hJ),dY (wP hJ)⟩
   obtain⟨_,r4E⟩:=gS r4;have hfl2:(m.YO.length:Int)<151:=qA;have hfl3:(0:Int)<=(m.YO.length:Int):=qA;have hfl4:32+m.YO.length * 29+29<=4415:=qA;refine Np (.c (.s 9) 0 2) (.s 20) (.inl rfl) (.inl rfl) (Np (.c (.s 9) 0 3) (.s 21) (.inl rfl) (.inl rfl) (Np (.c (.s 9) 0 28) (.s 22) (.inl rfl) (.inl rfl) ?_));refine aG ?_<|qQ t0 t8 p8 t9 p9 p92 p93 qAB hT hRl r4 r4E<|jD hfl2 hfl3<|hfl4;intro K hK;have hmc:m.YO.length * 29=29 * m.YO.length:=B4 _ _;obtain⟨M,hM⟩:∃ M:Y2,M={ m with cells:=C,made:=m.made+1,deep:=max m.deep (m.YO.length+1),YO:=m.YO++[⟨b,0,fa,(List.range (qC p b).length).map (m.cells.length+·)++cs,qc,[]⟩] }:=⟨_,rfl⟩;refine uD (λs=>s.tm 0=.pt Yn 0/\s.tm 89=.pt Yn 0/\s.tm 91=.pt Yn 4411/\s.tm 8=.pt (.s 8) 0/\s.hp (.s 8)=some (.row 6 [(qd p b).row])/\sp s.hp p m M m.YO.length) ⟨vr,qB,qB,gG,iA,?_⟩ ?_
   .rw [hM];simp only [hmc];have h:=hOB;refine jl.beg (g:=⟨b,0,fa,(List.range (qC p b).length).map (m.cells.length+·)++cs,qc,[]⟩) h qA hT (F:=λq=>(((((mv (.c (.s 9) 0 2) (.s 20) q).bind (mv (.c (.s 9) 0 3) (.s 21))).bind (mv (.c (.s 9) 0 28) (.s 22))).bind (mv (.s 20) (.c Yn 0 (yo m.YO.length+2)))).bind (mv (.s 21) (.c Yn 0 (yo m.YO.length+3)))).bind (mv (.s 22) (.c Yn 0 (yo m.YO.length+28)))) (λj h1 h2 h3=>by simp [mv,h1,h2,h3]) (h0:=?_) (h6t:=?_) (h7t:=?_) (h8t:=?_)
    .simp only [<- bR];simp [Yo,Zy,nw,hfa]
    .simp [p92]
    .simp [p93]
    .simp [qAB]
   have hbg:ze p m b cs vs=M:=by
    obtain⟨e1,e2⟩:=hi1 rfl;rw [hM,e1,e2];rcases hpar with h|⟨x,hx,hx2⟩
    .simp [ze,Dk,Qj,h]
    .obtain⟨v,rfl⟩:∃ v,vs=[v]:=GX.1 (by rw [hvs,hx];rfl);rcases hx2 with⟨h1,h2⟩|⟨h1,h2⟩ <;> simp [ze,Dk,Qj,hx,h1]
   have hMc:M.cells=C:=by rw [hM]
   have hMl:M.YO.length=m.YO.length+1:=by rw [hM];simp
   have hMr:∀ (h:Nat) (c:Nat->List AV),zJ p { m with made:=m.made+1,deep:=max m.deep (m.YO.length+1),cells:=C } h c=zJ p M h c:=λh c=>by rw [hM];rfl
   clear hM;have hw1:IntKind.i64.wrap ((m.YO.length:Int)+1)=((m.YO.length+1:Nat):Int):=Yi qA qA;have hw2:IntKind.i64.wrap ((m.made:Int)+1)=((m.made+1:Nat):Int):=Yi qA qA;have hw3:IntKind.i64.wrap ((m.cells.length:Int)+((qC p b).length:Int))=((C.length:Nat):Int):=by rw [hC,Yi qA qA];omega
   clear t0 t8 p8 t9 p9 p92 p93 qAB hOB hT r4 r4E hRl;rintro s ⟨t0,t89,t91,t8,p8,hY⟩;obtain⟨R,hT,hRl,r4,r2,r3,r1⟩:=hY.row;obtain⟨_,r4E⟩:=gS r4;obtain⟨_,r3E⟩:=gS r3;obtain⟨_,r2E⟩:=gS r2;obtain⟨_,r1E⟩:=gS r1;refine aG ?_<|qQ t0 t89 t91 t8 p8 hT hRl r4 r4E r3 r3E r2<|jD r2E hw1<|hw2;intro K hK;have fx:=aI t0 (aI t8 (aI p8 (aI hT (aI hRl (aI r4 (aI r4E (aI r2 r2E)))))));refine Tc (i:=(m.deep:Int)) (j:=(m.YO.length:Int)+1) ((max m.deep (m.YO.length+1):Nat):Int) qA (h:=?_);clear fx;refine aG ?_<|qQ t0 t8 p8 hT hRl r4 r4E r3 r3E r2 r2E r1<|yl r1E hcc hw1 hw2<|hw3;refine jS [] .nil qF (YQ.fin ?_);have h1:=hY.set (hp':=ZG Yn (.row 4415 [Yo R 4411 [iv (m.YO.length+1:Nat)]]) s.hp) hT rfl (λJ hJ=>QZ hJ) (λq hq hn=>by simp [ZG,hn]);have h2:=h1.set (hp':=ZG Yn (.row 4415 [Yo (Yo R 4411 [iv (m.YO.length+1:Nat)]) 4413 [iv (m.made+1:Nat)]]) s.hp) rfl rfl (λJ hJ=>TT hJ) (λq hq hn=>by simp [ZG,hn]);have h3:=h2.set (hp':=ZG Yn (.row 4415 [Yo (Yo (Yo R 4411 [iv (m.YO.length+1:Nat)]) 4413 [iv (m.made+1:Nat)]) 4412 [iv (max m.deep (m.YO.length+1):Nat)]]) s.hp) rfl rfl (λJ hJ=>TV hJ) (λq hq hn=>by simp [ZG,hn]);rw [hbg];refine sp.done (m:={ m with made:=m.made+1,deep:=max m.deep (m.YO.length+1),cells:=C }) (h:=m.YO.length+1) ?_ λJ=>by rw [hMr,hMl]
   refine h3.set rfl (k:=4414) (v:=iv (C.length:Nat)) ?_ (λJ hJ=>TW hJ) (λq hq hn=>by simp [ZG,hn]);simp [Yo,hRl,BT,List.drop_append]
abbrev WH:Y8:=kr<|.l 8 [7,6,5,4,3,2,1,0]<|.l 9 []<|.done
abbrev WG:Y8:=vH<|.done
theorem vZ {A G G2:Prop} (k:G2) (x:A) (h:A->Yr G2->G:=by
 intro fx kk;refine qI ?_
 repeat ((first|refine Y7 (id:=9) WH mixed ?_|refine Y7 (id:=10) WG mixed ?_);refine qW ?_;refine qI ?_)
 exact kk.h):G:=h x ⟨k⟩
theorem OD (gl) (H:Nm->Option AO) (p:YU) (m:Y2) (fs:List YZ) (f:YZ) (n pc0:Nat) (hP:Yl p) (h:MOk p m fs { f with pc:=pc0 }) (hn1:n<=1) (hst:n+1<=f.stack.length) (hsl:f.stack.length<=1000) (hfl:fs.length+1<=150) (hm0:m.en=0) (hO:YQ H p (m.top fs f)) :
  Yc prog gl 216 DM [.pt Yn 0,.pt Yn (yo fs.length),iv n] H (λ_ y H'=>y=bv (decide ((fj p m fs f (17,(n:Int))).en=0))/\YQ H' p (fj p m fs f (17,(n:Int)))) Yz:=by
 have h0:=hO;have hcm:=Dh (p:=p) (m:=m) (fs:=fs) hst;have hnw:IntKind.i64.wrap ((n:Int) - 1)=(n:Int) - 1:=Yi qA qA;have yoh:yo fs.length+29<=4415:=yX;have hrp:List.replicate n [iv 0,iv 0]=zf (List.replicate n (0,0)):=iM;refine Yc.Yb func216 [.tmp 6] ntmps216 (λ_=>qJ) λC w g root hroot=>?_;refine vZ ?_<|aI hnw<|hn1;refine qR (λk s=>∃ i:Nat,k=n - i/\i<=n/\s.tm 0=.pt Yn 0/\s.tm 1=.pt Yn (yo fs.length)/\s.tm 2=iv n/\s.tm 7=.hs (.s 7) 2 0 n/\s.hp (.s 7)=some (.row 2 (zf (List.replicate (n - i) (0,0)++f.stack.drop (f.stack.length - i))))/\s.tm 8=iv ((n:Int) - 1 - i)/\YQ s.hp p (m.top fs (f.cut i))) n ?_ ?_
 .exact⟨0,qA,qA,qB,qB,qB,qB,by simp [hrp],qB,by rw [Hg];exact vt⟩
 clear hO;rintro k s - - ⟨i,rfl,hi,t0,t1,t2,t7,p7,t8,hO⟩;have hk:=Mg (f:=f) (i:=i) qA;obtain⟨R,j,hT,tr,h2,h3,h28⟩:=hO.ZH rfl qA;have f28:=tr.f28;rw [hk] at f28;by_cases hil:i<n
 .obtain rfl:n=1:=qA;obtain rfl:i=0:=qA;refine vZ ?_<|kH t0 t1 t2 t7 p7<|t8;intro K hK;have fx:=aI t0 (aI t1 (aI t7 p7));refine q7 h0 (have h:=hO;YQ.re h) (qp _) (hF:=λ_=>cL gl DM (λ_=>qJ) _ R (yo fs.length) (f.stack.length - (0+1)) ((f.cut 0).stack++j) (f.cut 0).Yw zB f28 vO (vU hk) qA yoh) (h:=?_);intro y H1 hw;clear fx;have hO1:=YQ.Yi (YQ.Z9 (m:=m.top fs (f.cut 0)) (have h:=hO;YQ.re h) rfl qA zB hk) hw;obtain⟨rfl,-⟩:=hw;have hO2:YQ H1 p (m.top fs (f.cut 1)):=by have e:=Ab (f:=f) (i:=0) qA;simpa [Y2.top,e] using hO1
  have hdv:=Hh (f:=f) (i:=0) qA;generalize (f.cut 0).Yw=v at *;obtain⟨v1,v2⟩:=v;refine vZ ?_<|kG t0 t1 t2 t7 p7 t8<|hT;have hap:f.stack.drop (f.stack.length - 1)=[(v1,v2)]:=by rw [hdv];simp
  exact⟨0,qA,1,rfl,qA,wF,by simp [t1,hT],uQ,by simp [t7],by simp [hap,zf],by simp;decide,ro⟩
 .obtain rfl:i=n:=qA;have hdl:(f.stack.drop (f.stack.length - i)).length=i:=qv;have htm:=h.top.sv _ (gM (Aa (f:=f) (i:=i) qA));rw [hcm];have hil:(i:Int) - 1 - i=-1:=qA;rw [Dx,List.replicate_zero,List.nil_append] at p7;rw [hil] at t8;refine vZ ?_<|kH t0 t1 t2 t7 p7<|t8;intro K hK;have fx:=aI t0 t1;refine q7 h0 (have h:=hO;YQ.re h) (qp _) (hF:=λ_=>cL gl DM (λ_=>qJ) _ R (yo fs.length) (f.stack.length - (i+1)) ((f.cut i).stack++j) (f.cut i).Yw zB f28 vO (vU hk) qA yoh) (h:=?_);intro y H1 hw;clear fx;have hO1:=YQ.Yi (YQ.Z9 (m:=m.top fs (f.cut i)) (have h:=hO;YQ.re h) rfl qA zB hk) hw;obtain⟨rfl,-⟩:=hw;have hO2:YQ H1 p (m.top fs (f.cut (i+1))):=by have e:=Ab (f:=f) (i:=i) qA;simpa [Y2.top,e] using hO1
  generalize (f.cut i).Yw=v at *;obtain⟨v1,v2⟩:=v;refine vZ ?_<|kH t0 t1 t2 t7 p7<|hT;refine uk (λs=>s.tm 0=.pt Yn 0/\s.tm 1=.pt Yn (yo fs.length)/\s.tm 2=iv i/\s.tm 7=.hs (.s 7) 2 0 i/\s.hp (.s 7)=some (.row 2 (zf (f.stack.drop (f.stack.length - i))))/\s.tm 9=.pt (.s 9) 0/\s.hp (.s 9)=some (.row 2 [[iv v1,iv v2]])/\s.tm 28=bv (v1 != 2)/\YQ s.hp p (m.top fs (f.cut (i+1)))) ⟨wF,by simp [t1,hT],uQ,by simp [t7],by simp [p7],qB,qB,qB,ro⟩ ?_;clear hT tr h2 h3 h28 f28 t0 t1 t2 t7 p7 t8 hO hO1 hO2 j R;rintro s ⟨t0,t1,t2,t7,p7,t9,p9,t28,hO⟩;obtain⟨R,j,hT,tr,h2,h3,h28⟩:=hO.ZH rfl qA;have hRl:=tr.len;have r0:=tr.r0;have r30:=tr.r30;obtain⟨_,r0E⟩:=gS r0;obtain⟨_,r30E⟩:=gS r30;simp only [cO] at r30 r30E;by_cases h2:v1=2
  case neg =>
   have hb:(v1 != 2)=true:=mJ;rw [if_pos h2];refine vZ ?_<|yl t0 t1 t28 hT<|hb;intro K hK;have fx:=aI t0 t1;refine q7 h0 (have h:=hO;YQ.re h) (qp _) (hF:=λ_=>uT gl DM (λ_=>qJ) _ R 5 zB hRl) (h:=?_);intro y H1 hw;clear fx;have hO1:=YQ.Yi (YQ.Z1 (m:=m.top fs (f.cut (i+1))) (e:=5) (have h:=hO;YQ.re h) rfl zB) hw;obtain⟨rfl,-⟩:=hw;refine vZ ?_<|Ya;refine qE [] .nil qF ⟨mc,YQ.fin (have h:=hO1;YQ.re h)⟩
  subst h2;rw [if_neg qB];have hv2:=htm.num;have hv3:=htm.fn rfl;simp only at hv2 hv3;obtain⟨jf,rfl⟩:∃ jf:Nat,v2=jf:=⟨v2.toNat,qA⟩;have hjl:jf<m.YT.length:=qA;obtain⟨q,hq⟩:=gX hjl;obtain⟨_,hqE⟩:=gS hq;obtain⟨kq,hk1,hk2,hk3,hk4⟩:=h.YT q (gM hq);obtain⟨b,cs⟩:=q;simp only at hk1 hk2 hk3 hk4;have hFn:=hO.YT;simp only [cO] at hFn;have Ym:=(gS hk1).1;have hcd:(qg p p.length)[b]?=some (qd p b):=by simp [qg,Ym]
  obtain⟨hcdl,hcdE⟩:=gS hcd;have hpn:(qd p b).params.length=fH p b:=by simp [qd,hk1,fH]
  simp only [a6,hq];by_cases hpi:fH p b=i
  case neg =>
   rw [if_pos hpi];have hb:(((fH p b:Nat):Int) != (i:Int))=true:=by rw [bne_iff_ne];omega
   have hb2:¬ ((fH p b:Nat):Int)=(i:Int):=qA;refine vZ ?_<|qQ t0 t1 t2 t7 p7 t9 p9 t28 hT hRl r0 r0E<|jP r30 r30E hFn hq hqE hjl hcd hcdl hcdE hpn<|aI hb<|hb2;intro K hK;refine uD (λs=>s.tm 51=.pt Yn 0/\YQ s.hp p (m.top fs (f.cut (i+1)))) ⟨qB,vt⟩ ?_;rintro s ⟨t51,hO⟩;obtain⟨R,j,hT,tr,-⟩:=hO.ZH rfl qA;have fx:=t51;refine q7 h0 (have h:=hO;YQ.re h) (qp _) (hF:=λ_=>uT gl DM (λ_=>qJ) _ R 6 zB tr.len) (h:=?_);intro y H1 hw;clear fx;have hO1:=YQ.Yi (YQ.Z1 (m:=m.top fs (f.cut (i+1))) (e:=6) (have h:=hO;YQ.re h) rfl zB) hw;obtain⟨rfl,-⟩:=hw;refine vZ ?_<|Ya;refine qE [] .nil qF ⟨mc,YQ.fin (have h:=hO1;YQ.re h)⟩
  rw [if_neg (by simpa using hpi)];have hc8:=j7 (p:=p) (b:=b);have hmd:=h.made;have hdp:=h.deep;have hnc:=h.nc;refine vZ ?_<|qQ t0 t1 t2 t7 p7 t9 p9 t28 hT hRl r0 r0E<|jP r30 r30E hFn hq hqE hjl hcd hcdl hcdE hpn<|hpi;intro K hK;refine uD (λs=>s.tm 53=.pt Yn 0/\s.tm 55=iv b/\s.tm 57=.sl 1 (zC cs)/\s.tm 58=.hs (.s 7) 2 0 i/\s.hp (.s 7)=some (.row 2 (zf (f.stack.drop (f.stack.length - i))))/\YQ s.hp p (m.top fs (f.cut (i+1)))) ⟨qB,qB,qB,qB,by simp [p7],vt⟩ ?_;rintro s ⟨t53,t55,t57,t58,p7,hO⟩;refine oz 58 (.s 7) 2 i (zf (f.stack.drop (f.stack.length - i))) t58 p7 (by simp [hdl]) KN ?_;have fx:=aI t53 (aI t55 t57);refine q7 h0 (oC hO) (qp _) (hF:=λhO=>oH gl _ p (m.top fs (f.cut (i+1))) b cs (f.stack.drop (f.stack.length - i)) Ym (by have:=hP.sh.len;omega) qA hk4 Av As (by simp only [Y2.top];omega) (by simp [Y2.top];omega) (Un hP hk1 qA) (by rw [hpn,hdl,hpi]) (h.frc rfl) h.fnc hO) (h:=?_);rintro y H1 hO1;clear fx;refine vZ ?_<|Ya;refine qE [] .nil qF ⟨by simp [BQ,Y2.top,hm0],YQ.fin (have h:=hO1;YQ.re h)⟩
abbrev WQ:Y8:=vH<|.done
abbrev WP:Y8:=aB<|.l 9 [4,3,2,1,0]<|.l 10 [0]<|.q 11<|.q 12<|.l 13 []<|.done
abbrev WO:Y8:=.q 0<|.q 2<|.l 1 [2]<|.l 3 []<|.done
theorem Sl (l:List Yj):∃ (b:Nat->Bool) (x y:Nat->Int),kI l=[bv (b 0),iv (x 0),iv (y 0),bv (b 1),iv (x 1),iv (y 1),bv (b 2),iv (x 2),iv (y 2),bv (b 3),iv (x 3),iv (y 3),bv (b 4),iv (x 4),iv (y 4),bv (b 5),iv (x 5),iv (y 5),bv (b 6),iv (x 6),iv (y 6),bv (b 7),iv (x 7),iv (y 7)]:=by
 refine⟨λi=>(ju l i).isSome,λi=>((ju l i).getD (0,0)).1,λi=>((ju l i).getD (0,0)).2,?_⟩;have h:∀ i,jJ (ju l i)=[bv (ju l i).isSome,iv ((ju l i).getD (0,0)).1,iv ((ju l i).getD (0,0)).2]:=λi=>by cases ju l i <;> rfl
 simp [kI,cat,BU,h]
theorem kz {A G G2:Prop} (k:G2) (x:A) (h:A->Yr G2->G:=by
 intro fx kk;refine qI ?_
 repeat ((first|refine Y7 (id:=2) WQ mixed ?_|refine Y7 (id:=3) WP mixed ?_|refine Y7 (id:=7) WO mixed ?_);refine qW ?_;refine qI ?_)
 exact kk.h):G:=h x ⟨k⟩
theorem sr (gl) (H:Nm->Option AO) (p:YU) (m:Y2) (gs:List YZ) (g0 f:YZ) (v:Y6) (hb:f.YS<p.length) (hfl:gs.length+1<=150) (hgl:g0.stack.length<=1000) (hcl:m.YP.length<=1000) (hO:YQ H p (m.top (gs++[g0]) f)) :
  Yc prog gl 147 DM [.pt Yn 0,Y6.av v] H (λ_ _ H'=>YQ H' p (if qV p f.YS=2 then zd { m with YP:=m.YP++[f.names] } (gs++[g0]) (3,m.YP.length) else zd m (gs++[g0]) v)) Yz:=by
 obtain⟨v1,v2⟩:=v;have yh:(gs++[g0]).length=gs.length+1:=qB;have yoh:yo (gs.length+1)+29<=4411:=yX;refine Yc.Yb func147 [] ntmps147 (λ_=>qJ) λC w g root hroot=>?_;refine qD ?_<|Ya;intro K hK;refine uD (λs=>s.tm 5=.pt Yn 0/\s.tm 0=.pt Yn 0/\s.tm 3=.pt (.s 3) 0/\s.hp (.s 3)=some (.row 2 [[iv v1,iv v2]])/\YQ s.hp p (m.top (gs++[g0]) f)) ⟨qB,qB,qB,qB,(YQ.Yq hO (f:=kl (.s 3)) (λk hk=>by simp [kl,(Zq (λ_=>qJ) hk 3).2]) (λk hk=>by have:=Zq (λ_=>qJ) hk 3;simp [this.1,this.2,hk]))⟩ ?_;rintro s ⟨t5,t0,t3,p3,hO1⟩;obtain⟨R,j,hT,tr,h2,h3,h28⟩:=hO1.ZH rfl qA;have fx:=t5;refine q7 hO (have h:=hO1;YQ.re h) (qp _) (hF:=λ_=>xM gl DM (λ_=>qJ) rfl _ R (gs++[g0]).length zB tr.h qA) (h:=?_);intro y H1 hw;clear fx;have hO2:=YQ.smp hO1 hw;obtain⟨rfl,-⟩:=hw;refine qD ?_<|j4 t0 t3 p3<|hT;refine uk (λs=>s.tm 0=.pt Yn 0/\s.tm 3=.pt (.s 3) 0/\s.hp (.s 3)=some (.row 2 [[iv v1,iv v2]])/\s.tm 4=.pt Yn (yo (gs.length+1))/\YQ s.hp p (m.top (gs++[g0]) f)) ⟨wF,eO,by simp [p3],zB,(have h:=hO2;YQ.re h)⟩ ?_;have h0:=hO;clear hO hO1 hO2 hT tr h2 h3 h28 R j t5 t0 t3 p3;rintro s ⟨t0,t3,p3,t4,hO⟩;obtain⟨R,j,hT,tr,h2,h3,h28⟩:=hO.ZH rfl qA;have hRl:=tr.len;have r0:=tr.r0;have f0:=tr.f0;have r31:=tr.r31;have tb:=tr.tb;rw [yh] at f0 tb;simp only [Y2.top] at r31;obtain⟨_,r0E⟩:=gS r0;obtain⟨_,r31E⟩:=gS r31;obtain⟨f0l,f0E⟩:=gS f0
 have hcd:(qg p p.length)[f.YS]?=some (qd p f.YS):=Ak;obtain⟨hcdl,hcdE⟩:=gS hcd;obtain⟨k,hk⟩:=gX hb;have hki:(qd p f.YS).kind=qV p f.YS:=by simp [qd,qV,hk]
 by_cases hc:qV p f.YS=2
 .have hcb:(qV p f.YS==2)=true:=by simp [hc]
  have hcy:=hO.Yt;simp only [Y2.top] at hcy;obtain⟨b,x,y,hfx⟩:=Sl f.names;rw [hfx] at tb;have yob:yo (gs.length+1)+4+24<=4415:=qA;have hcl2:m.YP.length+1<=4294967296:=qA;have hwc:IntKind.i64.wrap (m.YP.length:Int)=m.YP.length:=Yi qA qA;refine kz ?_<|qQ t0 t3 p3 t4 hT hRl yoh yh r0 r0E f0 f0E<|qQ f0l hcd hcdl hcdE hki hc hcb r31 r31E tb hcy hcl<|aI yob<|hwc;intro K hK;have hcap:uL m.YP++[[bv (b 0),iv (x 0),iv (y 0),bv (b 1),iv (x 1),iv (y 1),bv (b 2),iv (x 2),iv (y 2),bv (b 3),iv (x 3),iv (y 3),bv (b 4),iv (x 4),iv (y 4),bv (b 5),iv (x 5),iv (y 5),bv (b 6),iv (x 6),iv (y 6),bv (b 7),iv (x 7),iv (y 7)]]=uL (m.YP++[f.names]):=by rw [<- hfx];exact J0
  let R1:List AV:=(R.map (AV.tr (mv (.s 29) (.c Yn 0 31))∘AV.tr (kl (.s 29))∘AV.tr (kl (.s 28)))).take 31++.hs (.c Yn 0 31) 24 0 (m.YP.length+1)::(R.map (AV.tr (mv (.s 29) (.c Yn 0 31))∘AV.tr (kl (.s 29))∘AV.tr (kl (.s 28)))).drop 32
  have hO1:YQ (ZG Yn (.row 4415 [R1]) (ZG (.c Yn 0 31) (.row 24 (uL (m.YP++[f.names]))) s.hp)) p (({ m with YP:=m.YP++[f.names] }:Y2).top (gs++[g0]) f):=by
   have h:=hO;rw [yh] at h2 h3 h28;exact YQ.reT (f:=f) (g:=f) (fs:=gs++[g0]) h rfl rfl rfl (xu hT (R':=R1) mV (λJ hJ e=>by simp only [R1];rw [e];simp only [bR];exact VG (m.YP++[f.names]) hJ qB (λj hj=>by simp [hj]))) (h5:=mV) (h6t:=by simp [ZG,h2]) (h7t:=by simp [ZG,h3]) (h8t:=⟨j,by simp [ZG,h28]⟩)
  refine uD (λs=>s.tm 0=.pt Yn 0/\s.tm 42=.pt Yn 0/\s.tm 44=.pt Yn 4411/\s.tm 3=.pt (.s 3) 0/\s.hp (.s 3)=some (.row 2 [[iv 3,iv m.YP.length]])/\G6 s.hp p { ({ m with YP:=m.YP++[f.names] }:Y2) with YO:=gs++[g0] } (gs.length+2)) ⟨vr,vr,vr,eO,by simp [p3,hwc],?_⟩ ?_
  .have h:=hO1;have hR1:(ZG Yn (.row 4415 [R1]) (ZG (.c Yn 0 31) (.row 24 (uL (m.YP++[f.names]))) s.hp)) Yn=some (.row 4415 [R1]):=mV;rw [show gs.length+2=(gs++[g0]).length+1 by simp];refine YQ.qCv (m:=({ m with YP:=m.YP++[f.names] }:Y2).top (gs++[g0]) f) h rfl qA hR1 (vals:=[iv 0,iv 0,.hs (.c Yn 0 (yo (gs.length+1)+2)) 3 0 0,.hs (.c Yn 0 (yo (gs.length+1)+3)) 1 0 0]++(kI qc++[.hs (.c Yn 0 (yo (gs.length+1)+28)) 2 0 0])) (F:=λm=>((kl (.c Yn 0 (yo (gs.length+1)+2)) m).bind (kl (.c Yn 0 (yo (gs.length+1)+3)))).bind (kl (.c Yn 0 (yo (gs.length+1)+28)))) qB (λj h1 h2 h3=>by rw [yh] at h1 h2 h3;simp [kl,h1,h2,h3]) (h0:=?_) (h1:=by simp [hO.ZP]) (h2:=ma) (h3:=rR) (h4:=r7) (h5:=by simp [<- hcap]) (h6:=Fz) (h7:=Fz) (h8:=Fz) (h9:=by intro c s hc;simp [hO.cell c s hc]) (hA:=by intro k i j hk e hn;simpa [ZG,hk,e] using hn);simp only [<- bR];simp [Yo,yh,nw,R1]
   rfl
  rintro s ⟨t0,t42,t44,t3,p3,hY⟩;obtain⟨R,hT,hRl,r4⟩:=hY.ht;obtain⟨_,r4E⟩:=gS r4;have hw1:IntKind.i64.wrap ((gs.length:Int)+2 - 1)=(gs.length:Int)+1:=iK;refine qD ?_<|gJ t0 t42 t44 t3 p3 hT hRl r4 r4E<|hw1;refine uk (λs=>s.tm 0=.pt Yn 0/\s.tm 3=.pt (.s 3) 0/\s.hp (.s 3)=some (.row 2 [[iv ((3,(m.YP.length:Int))).1,iv ((3,(m.YP.length:Int))).2]])/\YQ s.hp p { ({ m with YP:=m.YP++[f.names] }:Y2) with YO:=gs++[g0] }) ⟨vr,eO,by simp [p3],hY.done hT (by simp [Yo,hw1]) (λq hq hn=>by simp [hn])⟩ ?_;clear hT hRl r4 r4E hY t0 t42 t44 t3 p3 s;rintro s ⟨t0,t3,p3,hO⟩;obtain⟨R,j,hT,tr,h2,h3,h28⟩:=YQ.ZH (f:=g0) hO rfl qA;refine kz ?_<|j4 t0 t3 p3<|hT;intro K hK;have fx:=aI t0 (aI t3 p3);refine q7 h0 (have h:=hO;YQ.re h) (qp _) (hF:=λ_=>xM gl DM (λ_=>qJ) rfl _ R gs.length zB tr.h qA) (h:=?_);intro y H1 hw;clear fx;have hO1:=YQ.smp cD hw;obtain⟨rfl,-⟩:=hw;refine kz ?_<|j4 t0 t3 p3<|hT;obtain⟨R1,j1,hT1,tr1,h21,h31,h281⟩:=YQ.ZH (f:=g0) hO1 rfl qA;have yog:yo gs.length+29<=4415:=yX;have fx:=aI t0 (aI t3 (aI p3 hT));refine q7 h0 (have h:=hO1;YQ.re h) (qp _) (hF:=λ_=>vK gl DM (λ_=>qJ) _ R1 (yo gs.length) g0.stack j1 (3,(m.YP.length:Int)) rfl rfl iE tr1.f28 mU hgl yog) (h:=?_);intro y2 H2 hw2;clear fx;have hO2:=YQ.Z8 (f:=g0) (by exact (have h:=hO1;YQ.re h)) rfl qA rfl iE hw2;refine kz ?_<|yl t0 t3 p3 hT<|hT1
  refine jS [] .nil qF ?_;rw [if_pos hc];exact YQ.fin NC
 .have hc':(qV p f.YS==2)=false:=by simpa using hc
  refine kz ?_<|qQ t0 t3 p3 t4 hT hRl yoh yh r0 r0E f0 f0E<|kH f0l hcd hcdl hcdE hki<|hc';intro K hK;refine uD (λs=>s.tm 0=.pt Yn 0/\s.tm 42=.pt Yn 0/\s.tm 44=.pt Yn 4411/\s.tm 3=.pt (.s 3) 0/\s.hp (.s 3)=some (.row 2 [[iv ((v1,v2)).1,iv ((v1,v2)).2]])/\G6 s.hp p { m with YO:=gs++[g0] } (gs.length+2)) ⟨vr,vr,vr,eO,by simp [p3],?_⟩ ?_
  .have hm':(m.top (gs++[g0]) f).YO=(gs++[g0])++[f]:=rfl;have h:=hO;rw [show gs.length+2=(gs++[g0]).length+1 by simp];refine YQ.qCv (m:=m.top (gs++[g0]) f) h hm' qA hT (vals:=[iv 0,iv 0,.hs (.c Yn 0 (yo (gs.length+1)+2)) 3 0 0,.hs (.c Yn 0 (yo (gs.length+1)+3)) 1 0 0]++(kI qc++[.hs (.c Yn 0 (yo (gs.length+1)+28)) 2 0 0])) (F:=λm=>((kl (.c Yn 0 (yo (gs.length+1)+2)) m).bind (kl (.c Yn 0 (yo (gs.length+1)+3)))).bind (kl (.c Yn 0 (yo (gs.length+1)+28)))) qB (λj h1 h2 h3=>by rw [yh] at h1 h2 h3;simp [kl,h1,h2,h3]) (h0:=?_) (h6:=Fl) (h7:=Fl) (h8:=Fl);simp only [<- bR];simp [Yo,yh,nw]
  rintro s ⟨t0,t42,t44,t3,p3,hY⟩;obtain⟨R,hT,hRl,r4⟩:=hY.ht;obtain⟨_,r4E⟩:=gS r4;have hw1:IntKind.i64.wrap ((gs.length:Int)+2 - 1)=(gs.length:Int)+1:=iK;refine qD ?_<|gJ t0 t42 t44 t3 p3 hT hRl r4 r4E<|hw1;refine uk (λs=>s.tm 0=.pt Yn 0/\s.tm 3=.pt (.s 3) 0/\s.hp (.s 3)=some (.row 2 [[iv ((v1,v2)).1,iv ((v1,v2)).2]])/\YQ s.hp p { m with YO:=gs++[g0] }) ⟨vr,eO,by simp [p3],hY.done hT (by simp [Yo,hw1]) (λq hq hn=>by simp [hn])⟩ ?_;clear hT hRl r4 r4E hY t0 t42 t44 t3 p3 s;rintro s ⟨t0,t3,p3,hO⟩;obtain⟨R,j,hT,tr,h2,h3,h28⟩:=YQ.ZH (f:=g0) hO rfl qA;refine kz ?_<|j4 t0 t3 p3<|hT;intro K hK;have fx:=aI t0 (aI t3 p3);refine q7 h0 (have h:=hO;YQ.re h) (qp _) (hF:=λ_=>xM gl DM (λ_=>qJ) rfl _ R gs.length zB tr.h qA) (h:=?_);intro y H1 hw;clear fx;have hO1:=YQ.smp cD hw;obtain⟨rfl,-⟩:=hw;refine kz ?_<|j4 t0 t3 p3<|hT;obtain⟨R1,j1,hT1,tr1,h21,h31,h281⟩:=YQ.ZH (f:=g0) hO1 rfl qA;have yog:yo gs.length+29<=4415:=yX;have fx:=aI t0 (aI t3 (aI p3 hT));refine q7 h0 (have h:=hO1;YQ.re h) (qp _) (hF:=λ_=>vK gl DM (λ_=>qJ) _ R1 (yo gs.length) g0.stack j1 (v1,v2) rfl rfl iE tr1.f28 mU hgl yog) (h:=?_);intro y2 H2 hw2;clear fx;have hO2:=YQ.Z8 (f:=g0) (by exact (have h:=hO1;YQ.re h)) rfl qA rfl iE hw2;refine kz ?_<|yl t0 t3 p3 hT<|hT1;refine jS [] .nil qF ?_;rw [if_neg hc];exact YQ.fin NC
end Go.Proofs.YtdnebaieamppbaaGreatDoor
end
