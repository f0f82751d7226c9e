import Derived.Test.YtdnebaieamppbaaGreatDoorE35
import Derived.Test.YtdnebaieamppbaaGreatDoorE20
set_option linter.unusedSimpArgs false
set_option linter.unusedVariables false
set_option maxRecDepth 100000
set_option maxHeartbeats 4000000

section
namespace Go.Proofs.YtdnebaieamppbaaGreatDoor
open Go Go.Hm Go.Proofs Tryz
abbrev XO:Zh:=bI<|.l 7 []<|.done
abbrev XN:Zh:=Hw<|.q 6<|.l 5 [6,1,0]<|.q 7<|.l 8 []<|.done
abbrev XM:Zh:=wo<|.l 9 []<|.done
abbrev XL:Zh:=wo<|.l 9 [0]<|.q 10<|.q 11<|.l 12 []<|.done
abbrev XK:Zh:=ir<|.l 10 []<|.done
def EY (p:Z0) (b:Nat) (vs:List Zd):List Zt:=match (zC p b).params,vs with
 | [x],[v]=>if x∈qP p b then (List.replicate (qP p b).length none).set (zI (qP p b) x).toNat (some v) else List.replicate (qP p b).length none
 | _,_=>List.replicate (qP p b).length none
def SA (p:Z0) (m:Zb) (b:Nat) (vs:List Zd):List Zt:=match (zC p b).params,vs with
 | [x],[v]=>if x∈qP p b then m.cells++List.replicate (qF p b).length none else (m.cells++List.replicate (qF p b).length none).set (m.cells.length+(zI (qF p b) x).toNat) (some v)
 | _,_=>m.cells++List.replicate (qF p b).length none
structure Beg (s:St) (p:Z0) (m:Zb) (b:Nat) (cs:List Nat) (vs:List Zd) (n:Nat) (fa C:List Zt):Prop where
 t0:s.tm 0=.pt Yn 0
 t2:s.tm 2=.sl 1 (zQ cs)
 t3:s.tm 3=.sl 2 (zn vs)
 t8:s.tm 8=.pt (.s 8) 0
 p8:s.hp (.s 8)=some (.row 6 [(zC p b).row])
 t9:s.tm 9=.pt (.s 9) 0
 p9:s.hp (.s 9)=some (.row 29 [[iv b,iv 0,.hs (.c (.s 9) 0 2) 3 0 (qP p b).length,.hs (.c (.s 9) 0 3) 1 0 n,bv false,iv 0,iv 0,bv false,iv 0,iv 0,bv false,iv 0,iv 0,bv false,iv 0,iv 0,bv false,iv 0,iv 0,bv false,iv 0,iv 0,bv false,iv 0,iv 0,bv false,iv 0,iv 0,.hs (.c (.s 9) 0 28) 2 0 0]])
 p92:s.hp (.c (.s 9) 0 2)=some (.row 3 (qW fa))
 p93:s.hp (.c (.s 9) 0 3)=some (.row 1 (zQ ((List.range n).map (m.cells.length+·))))
 qBP:s.hp (.c (.s 9) 0 28)=some (.row 2 [])
 own:yO s.hp p m C
theorem bQ {A G G2:Prop} (k:G2) (x:A) (h:A->Zx G2->G:=by
 intro fx kk;refine qG ?_
 repeat ((first|refine Ze (id:=12) XO mixed ?_|refine Ze (id:=13) XN mixed ?_|refine Ze (id:=16) XM mixed ?_|refine Ze (id:=19) XL mixed ?_|refine Ze (id:=20) XK mixed ?_);refine qZ ?_;refine qG ?_)
 exact kk.h):G:=h x ⟨k⟩
theorem ph (gl) (H:Nm->Option AO) (p:Z0) (m:Zb) (b:Nat) (cs:List Nat) (vs:List Zd) (hb:b<p.length) (hp7:p.length<=7) (hcs:cs.length<=8) (hcr:∀ c∈cs,c<m.cells.length) (hcl:m.cells.length<=2000) (hmd:m.made<=1000) (hdp:m.deep<=1000) (hfl:m.ZW.length<=150) (hpar:(zC p b).params=[]\/∃ x,(zC p b).params=[x]/\((x∈qP p b/\x∉qF p b)\/(x∉qP p b/\x∈qF p b))) (hvs:vs.length=(zC p b).params.length) (hfr:∀ f∈m.ZW,∀ c∈f.cells,c<m.cells.length) (hfn:∀ g∈m.ZZ,∀ c∈g.2,c<m.cells.length) (hO:ZY H p m) :
  Zj prog gl 144 DM [.pt Yn 0,iv b,.sl 1 (zQ cs),.sl 2 (zn vs)] H (λ_ _ H'=>ZY H' p (z8 p m b cs vs)) noE:=by
 have hOc:=hO.yc
 obtain⟨R,hT,hRl,r0⟩:∃ R,H Yn=some (.row 4415 [R])/\R.length=4415/\R[0]?=some (csl (qw p p.length)):=by
  obtain⟨J,hJ,e,_⟩:=hOc;exact⟨_,e,w8 (kQ hJ),R9⟩
 obtain⟨r0l,r0E⟩:=gS r0;obtain⟨kk,hk⟩:=gX hb;have hcd:(qw p p.length)[b]?=some (zC p b):=CA;obtain⟨hcdl,hcdE⟩:=gS hcd;have hcf:(zC p b).Z3=qP p b:=em;have hcc:(zC p b).cells=qF p b:=em;have hf8:=w5 (p:=p) (b:=b);have hc8:=jo (p:=p) (b:=b);refine Zj.Zl func144 [] ntmps144 (λ_=>qN) λC w g root hroot=>?_;refine qC ?_<|jJ hT hRl r0 r0E hcd hcdl hcdE hcf hcc hf8<|hc8;have hrp:List.replicate (qP p b).length [bv false,iv 0,iv 0]=qW (List.replicate (qP p b).length none):=gO
 have hun:∀ k i j,DM k=true->Nm.under (.c (.s 9) i j) k=false:=λk i j hk=>by
  cases h:Nm.under (.c (.s 9) i j) k with
  | false=>rfl
  | true=>have:=(Nm.qAS h).1;rw [(D_s (λ_=>qN) hk 9).2] at this;cases this
 refine qX (λn s=>∃ i:Nat,n=(qF p b).length - i/\i<=(qF p b).length/\Beg s p m b cs vs i (List.replicate (qP p b).length none) (m.cells++List.replicate i none)/\s.tm 29=iv (qF p b).length/\s.tm 30=iv i) (qF p b).length ?_ ?_
 .refine⟨0,qA,qA,⟨qB,qB,qB,qB,by simp [hcf,hcc],qB,qB,by simp [hrp],l9,qB,?_⟩,qB,qB⟩;rw [List.replicate_zero,Kd];have hst:yO (st0 [.pt Yn 0,iv b,.sl 1 (zQ cs),.sl 2 (zn vs)] H 125 gl).hp p m m.cells:=hOc.Zn (F:=some) (λ_ _=>rfl) λk hk=>by cases h:H k <;> simp [h,AO.Zr]
  exact (by repeat (first|(with_reducible exact hst)|refine LA ?_|refine Kz eh ?_|refine LC eh ?_|refine LB eh eh ?_|refine RY eh ?_|exact hst))
 clear hT hRl r0E r0l r0 R;rintro n s - - ⟨i,rfl,hi,hB,t29,t30⟩;have t0:=hB.t0;have t2:=hB.t2;have t3:=hB.t3;have t8:=hB.t8;have p8:=hB.p8;have t9:=hB.t9;have p9:=hB.p9;have p92:=hB.p92;have p93:=hB.p93;have qBP:=hB.qBP;by_cases hil:i<(qF p b).length
 .have hil1:((List.range i).map (m.cells.length+·)).length=i:=qB;have hi8:i<=8:=qA;have hu:(dz prog C w g H 125 gl).ext (.u 7 (m.cells.length+i) 0)=false:=by simp [dz,hO.free (c:=m.cells.length+i) qA]
  refine bQ ?_<|qU t0 t2 t3 t8 p8 t9 p9 p92 qBP t29 t30 hil<|aI hil1<|hi8;intro K hK;refine pI (.c (.s 36) 0 0) (.u 7 (m.cells.length+i) 0) (.inl rfl) (.inr hu) ?_;have hCl:(m.cells++List.replicate i none).length=m.cells.length+i:=qB
  have hrl:∀ F:Nm->Option Nm,(∀ c,c<m.cells.length+i->F (En c)=some (En c))->(zQ ((List.range i).map (m.cells.length+·))).map (λr=>r.map (AV.tr F))=zQ ((List.range i).map (m.cells.length+·)):=λF hF=>iK λc hc=>by
   simp only [fG,gh] at hc;obtain⟨a,ha,rfl⟩:=hc;exact hF _ qA
  have hmv:∀ c,c<m.cells.length+i->mv (.c (.s 36) 0 0) (.u 7 (m.cells.length+i) 0) (En c)=some (En c):=λc hc=>by simp [mv,Ke hc]
  have hcsF:(zQ cs).map (λr=>r.map (AV.tr (mv (.c (.s 36) 0 0) (.u 7 (m.cells.length+i) 0))))=zQ cs:=iK λc hc=>hmv c (by have:=hcr c hc;omega);have hOB:=hB.own;refine uJ (λs=>s.tm 33=.hs (.c (.s 9) 0 3) 1 0 i/\s.tm 36=.hs (.s 36) 1 0 1/\s.hp (.s 36)=some (.row 1 [[.pt (.u 7 (m.cells.length+i) 0) 0]])/\Beg s p m b cs vs i (List.replicate (qP p b).length none) (m.cells++List.replicate (i+1) none)/\s.tm 29=iv (qF p b).length/\s.tm 30=iv i) ⟨qB,qB,qB,⟨vv,by simp [t2,hcsF],aY,fz,lW,eH,by simp [p9],oB,by simp [p93,hrl _ hmv],oW,?_⟩,by simp [t29],by simp [t30]⟩ ?_
  .rw [List.replicate_succ',<- xW];exact yO.qEh (n0:=.c (.s 36) 0 0) (s:=none) qB rfl nu qB (λf hf c hc=>by have:=hfr f hf c hc;simp;omega) (λg hg c hc=>by have:=hfn g hg c hc;simp;omega)
  clear t0 t2 t3 t8 p8 t9 p9 p92 p93 qBP t29 t30 hB hOB;rintro s ⟨t33,t36,p36,hB,t29,t30⟩;have t0:=hB.t0;have t2:=hB.t2;have t3:=hB.t3;have t8:=hB.t8;have p8:=hB.p8;have t9:=hB.t9;have p9:=hB.p9;have p92:=hB.p92;have p93:=hB.p93;have qBP:=hB.qBP;have hOB:=hB.own;refine bQ ?_<|qU t0 t2 t3 t8 p8 t9 p9 p92 p93 qBP t29 t30<|uD t33 t36 p36 hil hil1<|hi8;have hap:zQ ((List.range i).map (m.cells.length+·))++[[.pt (.u 7 (m.cells.length+i) 0) 0]]=zQ ((List.range (i+1)).map (m.cells.length+·)):=by simp [zQ,HT,ptE]
  have htt:((List.range i).map (m.cells.length+·)).take i=(List.range i).map (m.cells.length+·):=b9 qB;refine⟨(qF p b).length - (i+1),qA,i+1,rfl,qA,⟨vv,yt,aY,fz,lW,eH,qB,oB,by simp [<- hap,htt],oW,nu⟩,by simp [t29],by simp [t30];exact Zv qA qA⟩
 .obtain rfl:i=(qF p b).length:=qA;have hOB:=hB.own;refine qC ?_<|jJ t0 t2 t3 t8 p8 t9 p9 p92 p93 qBP<|aI t29<|t30;refine uu (λs=>Beg s p m b cs vs (qF p b).length (List.replicate (qP p b).length none) (m.cells++List.replicate (qF p b).length none)/\s.tm 41=isl (zC p b).params/\s.tm 42=iv (zC p b).params.length/\s.tm 43=iv 0) ⟨⟨vv,yt,aY,fz,lW,eH,by simp [p9],oB,by simp [p93],oW,nu⟩,qB,qB,qB⟩ ?_;clear t0 t2 t3 t8 p8 t9 p9 p92 p93 qBP t29 t30 hB hOB;rintro s ⟨hB,t41,t42,t43⟩;refine qX (λn s=>∃ (i:Nat) (fa C:List Zt),n=(zC p b).params.length - i/\i<=(zC p b).params.length/\Beg s p m b cs vs (qF p b).length fa C/\fa.length=(qP p b).length/\C.length=m.cells.length+(qF p b).length/\(i=0->fa=List.replicate (qP p b).length none/\C=m.cells++List.replicate (qF p b).length none)/\(i=(zC p b).params.length->fa=EY p b vs/\C=SA p m b vs)/\s.tm 41=isl (zC p b).params/\s.tm 42=iv (zC p b).params.length/\s.tm 43=iv i) (zC p b).params.length ?_ ?_
  .exact⟨0,_,_,qA,qA,hB,qB,qB,λ_=>⟨rfl,rfl⟩,λh=>by have h1:=gj h.symm;simp [EY,SA,h1],t41,t42,t43⟩
  clear t41 t42 t43 hB;rintro n s - - ⟨i,fa,C,rfl,hi,hB,hfa,hC,hi0,hi1,t41,t42,t43⟩;have t0:=hB.t0;have t2:=hB.t2;have t3:=hB.t3;have t8:=hB.t8;have p8:=hB.p8;have t9:=hB.t9;have p9:=hB.p9;have p92:=hB.p92;have p93:=hB.p93;have qBP:=hB.qBP;have hOB:=hB.own;by_cases hil:i<(zC p b).params.length
  .obtain⟨x,hx,hx2⟩:∃ x,(zC p b).params=[x]/\((x∈qP p b/\x∉qF p b)\/(x∉qP p b/\x∈qF p b)):=by
    rcases hpar with h|h
    .rw [h] at hil;simp at hil
    .exact h
   have hl1:(zC p b).params.length=1:=by rw [hx];rfl
   obtain rfl:i=0:=qA;obtain⟨rfl,rfl⟩:=hi0 rfl;obtain⟨v,rfl⟩:∃ v,vs=[v]:=E9.1 (by rw [hvs,hl1]);obtain⟨v1,v2⟩:=v;rw [hx] at t41 t42;have hpc:=wR gl (qF p b) x qA;have hpf:=wR gl (qP p b) x qA;rcases hx2 with⟨hxf,hxc⟩|⟨hxf,hxc⟩
   .obtain⟨q,hq,hql,-⟩:=yC hxf
    have hpn:zI (qF p b) x=-1:=by
     have h1:=iC (xs:=qF p b) (x:=x);have h2:¬ 0<=zI (qF p b) x:=λh=>hxc (j9.1 h);omega
    rw [hpn] at hpc;rw [hq] at hpf;have hqi:(q:Int)<(qP p b).length:=qA;have fx:=qU t0 t2 t3 t8 p8 t9 p9 p92 p93 qBP t41 t42<|yS t43 hcc hcf hql<|hqi;have c1:=hpc;have c2:=hpf;refine bQ ?_<|fx;clear fx c1 c2;have hfF:EY p b [(v1,v2)]=(List.replicate (qP p b).length none).set q (some (v1,v2)):=by simp [EY,hx,hxf,hq]
    have hfC:SA p m b [(v1,v2)]=m.cells++List.replicate (qF p b).length none:=by simp [SA,hx,hxf]
    exact⟨0,qA,1,(List.replicate (qP p b).length none).set q (some (v1,v2)),m.cells++List.replicate (qF p b).length none,qA,qA,⟨vv,yt,aY,fz,lW,eH,by simp [p9],oB,by simp [p93],oW,nu⟩,qB,qB,λh=>qA,λ_=>⟨hfF.symm,hfC.symm⟩,by simp [t41,hx],by simp [t42,hx],by simp [t43];rfl⟩
   .obtain⟨q,hq,hql,-⟩:=yC hxc;rw [hq] at hpc;have hqi:(q:Int)<(qF p b).length:=qA;have hqn:((q:Int) == -1)=false:=vP;have hcl2:m.cells.length+q<(m.cells++List.replicate (qF p b).length none).length:=qc;have e9:m.cells.length+q - m.cells.length=q:=qA
    have hcq:(m.cells++List.replicate (qF p b).length none)[m.cells.length+q]?=some (none:Zt):=by
     rw [b7 qA,e9];simp [hql]
    have hE:s.hp (.u 7 (m.cells.length+q) 0)=some (.row 3 [[bv false,iv 0,iv 0]]):=by
     obtain⟨J,hJ,e,hOw⟩:=hOB;have:=hOw.cell (m.cells.length+q) none hcq
     simpa [wrO] using this
    have her:(zQ ((List.range (qF p b).length).map (m.cells.length+·)))[q]?=some [.pt (.u 7 (m.cells.length+q) 0) 0]:=by rw [EJ];simp [hql,ptE]
    obtain⟨herl,herE⟩:=gS her;have fx:=qU t0 t2 t3 t8 p8 t9 p9 p92 p93 qBP t41 t42<|jJ t43 hcc hcf hql hqi hqn @qL hE her herE<|herl;have c1:=hpc;refine bQ ?_<|fx;clear fx c1;have hfF:EY p b [(v1,v2)]=List.replicate (qP p b).length none:=by simp [EY,hx,hxf]
    have hfC:SA p m b [(v1,v2)]=(m.cells++List.replicate (qF p b).length none).set (m.cells.length+q) (some (v1,v2)):=by simp [SA,hx,hxf,hq]
    refine⟨0,qA,1,List.replicate (qP p b).length none,(m.cells++List.replicate (qF p b).length none).set (m.cells.length+q) (some (v1,v2)),qA,qA,⟨vv,yt,aY,fz,lW,eH,by simp [p9],oB,by simp [p93],oW,?_⟩,qB,qB,λh=>qA,λ_=>⟨hfF.symm,hfC.symm⟩,by simp [t41,hx],by simp [t42,hx],by simp [t43];rfl⟩
    repeat (refine LA ?_)
    exact SN (some (v1,v2)) hcl2 nu
  .obtain rfl:i=(zC p b).params.length:=qA;have hil1:((List.range (qF p b).length).map (m.cells.length+·)).length=(qF p b).length:=qB;have hsum:(qF p b).length+cs.length<=16:=qA;have htt:((List.range (qF p b).length).map (m.cells.length+·)).take (qF p b).length=(List.range (qF p b).length).map (m.cells.length+·):=b9 qB;refine qC ?_<|qU t0 t2 t3 t8 p8 t9 p9 p92 p93 qBP t41 t42<|yE t43 hil1 hsum<|hcs;refine uu (λs=>s.tm 0=.pt Yn 0/\s.tm 8=.pt (.s 8) 0/\s.hp (.s 8)=some (.row 6 [(zC p b).row])/\s.tm 9=.pt (.s 9) 0/\s.hp (.s 9)=some (.row 29 [[iv b,iv 0,.hs (.c (.s 9) 0 2) 3 0 (qP p b).length,.hs (.c (.s 9) 0 3) 1 0 ((qF p b).length+cs.length),bv false,iv 0,iv 0,bv false,iv 0,iv 0,bv false,iv 0,iv 0,bv false,iv 0,iv 0,bv false,iv 0,iv 0,bv false,iv 0,iv 0,bv false,iv 0,iv 0,bv false,iv 0,iv 0,.hs (.c (.s 9) 0 28) 2 0 0]])/\s.hp (.c (.s 9) 0 2)=some (.row 3 (qW fa))/\s.hp (.c (.s 9) 0 3)=some (.row 1 (zQ ((List.range (qF p b).length).map (m.cells.length+·)++cs)))/\s.hp (.c (.s 9) 0 28)=some (.row 2 [])/\yO s.hp p m C) ⟨vv,fz,lW,eH,qB,oB,by simp [htt,<- N3],oW,nu⟩ ?_;clear t0 t2 t3 t8 p8 t9 p9 p92 p93 qBP hOB t41 t42 t43 hB;rintro s ⟨t0,t8,p8,t9,p9,p92,p93,qBP,hOB⟩
   obtain⟨R,hT,hRl,r4⟩:∃ R,s.hp Yn=some (.row 4415 [R])/\R.length=4415/\R[4411]?=some (iv m.ZW.length):=by
    obtain⟨J,hJ,e,_⟩:=hOB;exact⟨_,e,w8 (kQ hJ),lp (kQ hJ)⟩
   obtain⟨_,r4E⟩:=gS r4;have hfl2:(m.ZW.length:Int)<151:=qA;have hfl3:(0:Int)<=(m.ZW.length:Int):=qA;have hfl4:32+m.ZW.length * 29+29<=4415:=qA;refine Oi (.c (.s 9) 0 2) (.s 20) (.inl rfl) (.inl rfl) (Oi (.c (.s 9) 0 3) (.s 21) (.inl rfl) (.inl rfl) (Oi (.c (.s 9) 0 28) (.s 22) (.inl rfl) (.inl rfl) ?_));refine bQ ?_<|qU t0 t8 p8 t9 p9 p92 p93 qBP hT hRl r4 r4E<|jI hfl2 hfl3<|hfl4;intro K hK;have hmc:m.ZW.length * 29=29 * m.ZW.length:=Eh _ _;obtain⟨M,hM⟩:∃ M:Zb,M={ m with cells:=C,made:=m.made+1,deep:=max m.deep (m.ZW.length+1),ZW:=m.ZW++[⟨b,0,fa,(List.range (qF p b).length).map (m.cells.length+·)++cs,q9,[]⟩] }:=⟨_,rfl⟩;refine uJ (λs=>s.tm 0=.pt Yn 0/\s.tm 89=.pt Yn 0/\s.tm 91=.pt Yn 4411/\s.tm 8=.pt (.s 8) 0/\s.hp (.s 8)=some (.row 6 [(zC p b).row])/\xY s.hp p m M m.ZW.length) ⟨vv,qB,qB,fz,lW,?_⟩ ?_
   .rw [hM];simp only [hmc];have h:=hOB;refine yO.beg (g:=⟨b,0,fa,(List.range (qF p b).length).map (m.cells.length+·)++cs,q9,[]⟩) h qA hT (F:=λq=>(((((mv (.c (.s 9) 0 2) (.s 20) q).bind (mv (.c (.s 9) 0 3) (.s 21))).bind (mv (.c (.s 9) 0 28) (.s 22))).bind (mv (.s 20) (.c Yn 0 (yo m.ZW.length+2)))).bind (mv (.s 21) (.c Yn 0 (yo m.ZW.length+3)))).bind (mv (.s 22) (.c Yn 0 (yo m.ZW.length+28)))) (λj h1 h2 h3=>by simp [mv,h1,h2,h3]) (h0:=?_) (h6t:=?_) (h7t:=?_) (h8t:=?_)
    .simp only [<- eC];simp [Zz,yfr,pa,hfa]
    .simp [p92]
    .simp [p93]
    .simp [qBP]
   have hbg:z8 p m b cs vs=M:=by
    obtain⟨e1,e2⟩:=hi1 rfl;rw [hM,e1,e2];rcases hpar with h|⟨x,hx,hx2⟩
    .simp [z8,EY,SA,h]
    .obtain⟨v,rfl⟩:∃ v,vs=[v]:=E9.1 (by rw [hvs,hx];rfl);rcases hx2 with⟨h1,h2⟩|⟨h1,h2⟩ <;> simp [z8,EY,SA,hx,h1]
   have hMc:M.cells=C:=by rw [hM]
   have hMl:M.ZW.length=m.ZW.length+1:=by rw [hM];simp
   have hMr:∀ (h:Nat) (c:Nat->List AV),zV p { m with made:=m.made+1,deep:=max m.deep (m.ZW.length+1),cells:=C } h c=zV p M h c:=λh c=>by rw [hM];rfl
   clear hM;have hw1:IntKind.i64.wrap ((m.ZW.length:Int)+1)=((m.ZW.length+1:Nat):Int):=Zv qA qA;have hw2:IntKind.i64.wrap ((m.made:Int)+1)=((m.made+1:Nat):Int):=Zv qA qA;have hw3:IntKind.i64.wrap ((m.cells.length:Int)+((qF p b).length:Int))=((C.length:Nat):Int):=by rw [hC,Zv qA qA];omega
   clear t0 t8 p8 t9 p9 p92 p93 qBP hOB hT r4 r4E hRl;rintro s ⟨t0,t89,t91,t8,p8,hY⟩;obtain⟨R,hT,hRl,r4,r2,r3,r1⟩:=hY.row;obtain⟨_,r4E⟩:=gS r4;obtain⟨_,r3E⟩:=gS r3;obtain⟨_,r2E⟩:=gS r2;obtain⟨_,r1E⟩:=gS r1;refine bQ ?_<|qU t0 t89 t91 t8 p8 hT hRl r4 r4E r3 r3E r2<|jI r2E hw1<|hw2;intro K hK;have fx:=aI t0 (aI t8 (aI p8 (aI hT (aI hRl (aI r4 (aI r4E (aI r2 r2E)))))));refine PA (i:=(m.deep:Int)) (j:=(m.ZW.length:Int)+1) ((max m.deep (m.ZW.length+1):Nat):Int) qA (h:=?_);clear fx;refine bQ ?_<|qU t0 t8 p8 hT hRl r4 r4E r3 r3E r2 r2E r1<|yS r1E hcc hw1 hw2<|hw3;refine zy [] .nil qE (ZY.fin ?_);have h1:=hY.set (hp':=wrO Yn (.row 4415 [Zz R 4411 [iv (m.ZW.length+1:Nat)]]) s.hp) hT rfl (λJ hJ=>R3 hJ) (λq hq hn=>by simp [wrO,hn]);have h2:=h1.set (hp':=wrO Yn (.row 4415 [Zz (Zz R 4411 [iv (m.ZW.length+1:Nat)]) 4413 [iv (m.made+1:Nat)]]) s.hp) rfl rfl (λJ hJ=>UZ hJ) (λq hq hn=>by simp [wrO,hn]);have h3:=h2.set (hp':=wrO Yn (.row 4415 [Zz (Zz (Zz R 4411 [iv (m.ZW.length+1:Nat)]) 4413 [iv (m.made+1:Nat)]) 4412 [iv (max m.deep (m.ZW.length+1):Nat)]]) s.hp) rfl rfl (λJ hJ=>U1 hJ) (λq hq hn=>by simp [wrO,hn]);rw [hbg];refine xY.done (m:={ m with made:=m.made+1,deep:=max m.deep (m.ZW.length+1),cells:=C }) (h:=m.ZW.length+1) ?_ λJ=>by rw [hMr,hMl]
   refine h3.set rfl (k:=4414) (v:=iv (C.length:Nat)) ?_ (λJ hJ=>U2 hJ) (λq hq hn=>by simp [wrO,hn]);simp [Zz,hRl,CY,List.drop_append]
abbrev XJ:Zh:=aS<|.l 8 [7,6,5,4,3,2,1,0]<|.l 9 []<|.done
abbrev XI:Zh:=vi<|.done
theorem uL {A G G2:Prop} (k:G2) (x:A) (h:A->Zx G2->G:=by
 intro fx kk;refine qG ?_
 repeat ((first|refine Ze (id:=9) XJ mixed ?_|refine Ze (id:=10) XI mixed ?_);refine qZ ?_;refine qG ?_)
 exact kk.h):G:=h x ⟨k⟩
theorem Ow (gl) (H:Nm->Option AO) (p:Z0) (m:Zb) (fs:List Z8) (f:Z8) (n pc0:Nat) (hP:Zm p) (h:MOk p m fs { f with pc:=pc0 }) (hn1:n<=1) (hst:n+1<=f.stack.length) (hsl:f.stack.length<=1000) (hfl:fs.length+1<=150) (hm0:m.en=0) (hO:ZY H p (m.top fs f)) :
  Zj prog gl 216 DM [.pt Yn 0,.pt Yn (yo fs.length),iv n] H (λ_ y H'=>y=bv (decide ((dK p m fs f (17,(n:Int))).en=0))/\ZY H' p (dK p m fs f (17,(n:Int)))) noE:=by
 have h0:=hO;have hcm:=EV (p:=p) (m:=m) (fs:=fs) hst;have hnw:IntKind.i64.wrap ((n:Int) - 1)=(n:Int) - 1:=Zv qA qA;have yoh:yo fs.length+29<=4415:=vq;have hrp:List.replicate n [iv 0,iv 0]=zn (List.replicate n (0,0)):=gc;refine Zj.Zl func216 [.tmp 6] ntmps216 (λ_=>qN) λC w g root hroot=>?_;refine uL ?_<|aI hnw<|hn1;refine qX (λk s=>∃ i:Nat,k=n - i/\i<=n/\s.tm 0=.pt Yn 0/\s.tm 1=.pt Yn (yo fs.length)/\s.tm 2=iv n/\s.tm 7=.hs (.s 7) 2 0 n/\s.hp (.s 7)=some (.row 2 (zn (List.replicate (n - i) (0,0)++f.stack.drop (f.stack.length - i))))/\s.tm 8=iv ((n:Int) - 1 - i)/\ZY s.hp p (m.top fs (f.cut i))) n ?_ ?_
 .exact⟨0,qA,qA,qB,qB,qB,qB,by simp [hrp],qB,by rw [Ii];exact gB⟩
 clear hO;rintro k s - - ⟨i,rfl,hi,t0,t1,t2,t7,p7,t8,hO⟩;have hk:=N8 (f:=f) (i:=i) qA;obtain⟨R,j,hT,tr,h2,h3,h28⟩:=hO.qAO rfl qA;have f28:=tr.f28;rw [hk] at f28;by_cases hil:i<n
 .obtain rfl:n=1:=qA;obtain rfl:i=0:=qA;refine uL ?_<|uD t0 t1 t2 t7 p7<|t8;intro K hK;have fx:=aI t0 (aI t1 (aI t7 p7));refine qe h0 (have h:=hO;ZY.re h) (qf _) (hF:=λ_=>da gl DM (λ_=>qN) _ R (yo fs.length) (f.stack.length - (0+1)) ((f.cut 0).stack++j) (f.cut 0).tos qu f28 vo (uG hk) qA yoh) (h:=?_);intro y H1 hw;clear fx;have hO1:=ZY.Zv (ZY.qAp (m:=m.top fs (f.cut 0)) (have h:=hO;ZY.re h) rfl qA qu hk) hw;obtain⟨rfl,-⟩:=hw;have hO2:ZY H1 p (m.top fs (f.cut 1)):=by have e:=Be (f:=f) (i:=0) qA;simpa [Zb.top,e] using hO1
  have hdv:=Ij (f:=f) (i:=0) qA;generalize (f.cut 0).tos=v at *;obtain⟨v1,v2⟩:=v;refine uL ?_<|u4 t0 t1 t2 t7 p7 t8<|hT;have hap:f.stack.drop (f.stack.length - 1)=[(v1,v2)]:=by rw [hdv];simp
  exact⟨0,qA,1,rfl,qA,un,by simp [t1,hT],yt,by simp [t7],by simp [hap,zn],by simp;decide,sy⟩
 .obtain rfl:i=n:=qA;have hdl:(f.stack.drop (f.stack.length - i)).length=i:=qc;have htm:=h.top.sv _ (gM (Bd (f:=f) (i:=i) qA));rw [hcm];have hil:(i:Int) - 1 - i=-1:=qA;rw [Ej,List.replicate_zero,List.nil_append] at p7;rw [hil] at t8;refine uL ?_<|uD t0 t1 t2 t7 p7<|t8;intro K hK;have fx:=aI t0 t1;refine qe h0 (have h:=hO;ZY.re h) (qf _) (hF:=λ_=>da gl DM (λ_=>qN) _ R (yo fs.length) (f.stack.length - (i+1)) ((f.cut i).stack++j) (f.cut i).tos qu f28 vo (uG hk) qA yoh) (h:=?_);intro y H1 hw;clear fx;have hO1:=ZY.Zv (ZY.qAp (m:=m.top fs (f.cut i)) (have h:=hO;ZY.re h) rfl qA qu hk) hw;obtain⟨rfl,-⟩:=hw;have hO2:ZY H1 p (m.top fs (f.cut (i+1))):=by have e:=Be (f:=f) (i:=i) qA;simpa [Zb.top,e] using hO1
  generalize (f.cut i).tos=v at *;obtain⟨v1,v2⟩:=v;refine uL ?_<|uD t0 t1 t2 t7 p7<|hT;refine uu (λs=>s.tm 0=.pt Yn 0/\s.tm 1=.pt Yn (yo fs.length)/\s.tm 2=iv i/\s.tm 7=.hs (.s 7) 2 0 i/\s.hp (.s 7)=some (.row 2 (zn (f.stack.drop (f.stack.length - i))))/\s.tm 9=.pt (.s 9) 0/\s.hp (.s 9)=some (.row 2 [[iv v1,iv v2]])/\s.tm 28=bv (v1 != 2)/\ZY s.hp p (m.top fs (f.cut (i+1)))) ⟨un,by simp [t1,hT],yt,by simp [t7],by simp [p7],qB,qB,qB,sy⟩ ?_;clear hT tr h2 h3 h28 f28 t0 t1 t2 t7 p7 t8 hO hO1 hO2 j R;rintro s ⟨t0,t1,t2,t7,p7,t9,p9,t28,hO⟩;obtain⟨R,j,hT,tr,h2,h3,h28⟩:=hO.qAO rfl qA;have hRl:=tr.len;have r0:=tr.r0;have r30:=tr.r30;obtain⟨_,r0E⟩:=gS r0;obtain⟨_,r30E⟩:=gS r30;simp only [dd] at r30 r30E;by_cases h2:v1=2
  case neg =>
   have hb:(v1 != 2)=true:=ga;rw [if_pos h2];refine uL ?_<|yS t0 t1 t28 hT<|hb;intro K hK;have fx:=aI t0 t1;refine qe h0 (have h:=hO;ZY.re h) (qf _) (hF:=λ_=>uo gl DM (λ_=>qN) _ R 5 qu hRl) (h:=?_);intro y H1 hw;clear fx;have hO1:=ZY.Zv (ZY.qAg (m:=m.top fs (f.cut (i+1))) (e:=5) (have h:=hO;ZY.re h) rfl qu) hw;obtain⟨rfl,-⟩:=hw;refine uL ?_<|Zk;refine qD [] .nil qE ⟨oQ,ZY.fin (have h:=hO1;ZY.re h)⟩
  subst h2;rw [if_neg qB];have hv2:=htm.num;have hv3:=htm.fn rfl;simp only at hv2 hv3;obtain⟨jf,rfl⟩:∃ jf:Nat,v2=jf:=⟨v2.toNat,qA⟩;have hjl:jf<m.ZZ.length:=qA;obtain⟨q,hq⟩:=gX hjl;obtain⟨_,hqE⟩:=gS hq;obtain⟨kq,hk1,hk2,hk3,hk4⟩:=h.ZZ q (gM hq);obtain⟨b,cs⟩:=q;simp only at hk1 hk2 hk3 hk4;have hFn:=hO.ZZ;simp only [dd] at hFn;have Zs:=(gS hk1).1;have hcd:(qw p p.length)[b]?=some (zC p b):=by simp [qw,Zs]
  obtain⟨hcdl,hcdE⟩:=gS hcd;have hpn:(zC p b).params.length=cp p b:=by simp [zC,hk1,cp]
  simp only [b6,hq];by_cases hpi:cp p b=i
  case neg =>
   rw [if_pos hpi];have hb:(((cp p b:Nat):Int) != (i:Int))=true:=by rw [bne_iff_ne];omega
   have hb2:¬ ((cp p b:Nat):Int)=(i:Int):=qA;refine uL ?_<|qU t0 t1 t2 t7 p7 t9 p9 t28 hT hRl r0 r0E<|jJ r30 r30E hFn hq hqE hjl hcd hcdl hcdE hpn<|aI hb<|hb2;intro K hK;refine uJ (λs=>s.tm 51=.pt Yn 0/\ZY s.hp p (m.top fs (f.cut (i+1)))) ⟨qB,gB⟩ ?_;rintro s ⟨t51,hO⟩;obtain⟨R,j,hT,tr,-⟩:=hO.qAO rfl qA;have fx:=t51;refine qe h0 (have h:=hO;ZY.re h) (qf _) (hF:=λ_=>uo gl DM (λ_=>qN) _ R 6 qu tr.len) (h:=?_);intro y H1 hw;clear fx;have hO1:=ZY.Zv (ZY.qAg (m:=m.top fs (f.cut (i+1))) (e:=6) (have h:=hO;ZY.re h) rfl qu) hw;obtain⟨rfl,-⟩:=hw;refine uL ?_<|Zk;refine qD [] .nil qE ⟨oQ,ZY.fin (have h:=hO1;ZY.re h)⟩
  rw [if_neg (by simpa using hpi)];have hc8:=yY (p:=p) (b:=b);have hmd:=h.made;have hdp:=h.deep;have hnc:=h.nc;refine uL ?_<|qU t0 t1 t2 t7 p7 t9 p9 t28 hT hRl r0 r0E<|jJ r30 r30E hFn hq hqE hjl hcd hcdl hcdE hpn<|hpi;intro K hK;refine uJ (λs=>s.tm 53=.pt Yn 0/\s.tm 55=iv b/\s.tm 57=.sl 1 (zQ cs)/\s.tm 58=.hs (.s 7) 2 0 i/\s.hp (.s 7)=some (.row 2 (zn (f.stack.drop (f.stack.length - i))))/\ZY s.hp p (m.top fs (f.cut (i+1)))) ⟨qB,qB,qB,qB,by simp [p7],gB⟩ ?_;rintro s ⟨t53,t55,t57,t58,p7,hO⟩;refine rp 58 (.s 7) 2 i (zn (f.stack.drop (f.stack.length - i))) t58 p7 (by simp [hdl]) LI ?_;have fx:=aI t53 (aI t55 t57);refine qe h0 (Cd hO) (qf _) (hF:=λhO=>ph gl _ p (m.top fs (f.cut (i+1))) b cs (f.stack.drop (f.stack.length - i)) Zs (by have:=hP.sh.len;omega) qA hk4 CI Bz (by simp only [Zb.top];omega) (by simp [Zb.top];omega) (Vo hP hk1 qA) (by rw [hpn,hdl,hpi]) (h.frc rfl) h.fnc hO) (h:=?_);rintro y H1 hO1;clear fx;refine uL ?_<|Zk;refine qD [] .nil qE ⟨by simp [CX,Zb.top,hm0],ZY.fin (have h:=hO1;ZY.re h)⟩
abbrev XS:Zh:=vi<|.done
abbrev XR:Zh:=wo<|.l 9 [4,3,2,1,0]<|.l 10 [0]<|.q 11<|.q 12<|.l 13 []<|.done
abbrev XQ:Zh:=.q 0<|.q 2<|.l 1 [2]<|.l 3 []<|.done
theorem Tp (l:List Zt):∃ (b:Nat->Bool) (x y:Nat->Int),aK l=[bv (b 0),iv (x 0),iv (y 0),bv (b 1),iv (x 1),iv (y 1),bv (b 2),iv (x 2),iv (y 2),bv (b 3),iv (x 3),iv (y 3),bv (b 4),iv (x 4),iv (y 4),bv (b 5),iv (x 5),iv (y 5),bv (b 6),iv (x 6),iv (y 6),bv (b 7),iv (x 7),iv (y 7)]:=by
 refine⟨λi=>(uE l i).isSome,λi=>((uE l i).getD (0,0)).1,λi=>((uE l i).getD (0,0)).2,?_⟩;have h:∀ i,jm (uE l i)=[bv (uE l i).isSome,iv ((uE l i).getD (0,0)).1,iv ((uE l i).getD (0,0)).2]:=λi=>by cases uE l i <;> rfl
 simp [aK,cat,HT,h]
theorem aC {A G G2:Prop} (k:G2) (x:A) (h:A->Zx G2->G:=by
 intro fx kk;refine qG ?_
 repeat ((first|refine Ze (id:=2) XS mixed ?_|refine Ze (id:=3) XR mixed ?_|refine Ze (id:=7) XQ mixed ?_);refine qZ ?_;refine qG ?_)
 exact kk.h):G:=h x ⟨k⟩
theorem xb (gl) (H:Nm->Option AO) (p:Z0) (m:Zb) (gs:List Z8) (g0 f:Z8) (v:Zd) (hb:f.Z1<p.length) (hfl:gs.length+1<=150) (hgl:g0.stack.length<=1000) (hcl:m.ZV.length<=1000) (hO:ZY H p (m.top (gs++[g0]) f)) :
  Zj prog gl 147 DM [.pt Yn 0,Zd.av v] H (λ_ _ H'=>ZY H' p (if qg p f.Z1=2 then zW { m with ZV:=m.ZV++[f.names] } (gs++[g0]) (3,m.ZV.length) else zW m (gs++[g0]) v)) noE:=by
 obtain⟨v1,v2⟩:=v;have yh:(gs++[g0]).length=gs.length+1:=qB;have yoh:yo (gs.length+1)+29<=4411:=vq;refine Zj.Zl func147 [] ntmps147 (λ_=>qN) λC w g root hroot=>?_;refine qC ?_<|Zk;intro K hK;refine uJ (λs=>s.tm 5=.pt Yn 0/\s.tm 0=.pt Yn 0/\s.tm 3=.pt (.s 3) 0/\s.hp (.s 3)=some (.row 2 [[iv v1,iv v2]])/\ZY s.hp p (m.top (gs++[g0]) f)) ⟨qB,qB,qB,qB,(ZY.Zn hO (f:=kl (.s 3)) (λk hk=>by simp [kl,(D_s (λ_=>qN) hk 3).2]) (λk hk=>by have:=D_s (λ_=>qN) hk 3;simp [this.1,this.2,hk]))⟩ ?_;rintro s ⟨t5,t0,t3,p3,hO1⟩;obtain⟨R,j,hT,tr,h2,h3,h28⟩:=hO1.qAO rfl qA;have fx:=t5;refine qe hO (have h:=hO1;ZY.re h) (qf _) (hF:=λ_=>A3 gl DM (λ_=>qN) rfl _ R (gs++[g0]).length qu tr.h qA) (h:=?_);intro y H1 hw;clear fx;have hO2:=ZY.smp hO1 hw;obtain⟨rfl,-⟩:=hw;refine qC ?_<|yE t0 t3 p3<|hT;refine uu (λs=>s.tm 0=.pt Yn 0/\s.tm 3=.pt (.s 3) 0/\s.hp (.s 3)=some (.row 2 [[iv v1,iv v2]])/\s.tm 4=.pt Yn (yo (gs.length+1))/\ZY s.hp p (m.top (gs++[g0]) f)) ⟨un,aY,by simp [p3],qu,(have h:=hO2;ZY.re h)⟩ ?_;have h0:=hO;clear hO hO1 hO2 hT tr h2 h3 h28 R j t5 t0 t3 p3;rintro s ⟨t0,t3,p3,t4,hO⟩;obtain⟨R,j,hT,tr,h2,h3,h28⟩:=hO.qAO rfl qA;have hRl:=tr.len;have r0:=tr.r0;have f0:=tr.f0;have r31:=tr.r31;have tb:=tr.tb;rw [yh] at f0 tb;simp only [Zb.top] at r31;obtain⟨_,r0E⟩:=gS r0;obtain⟨_,r31E⟩:=gS r31;obtain⟨f0l,f0E⟩:=gS f0
 have hcd:(qw p p.length)[f.Z1]?=some (zC p f.Z1):=CA;obtain⟨hcdl,hcdE⟩:=gS hcd;obtain⟨k,hk⟩:=gX hb;have hki:(zC p f.Z1).kind=qg p f.Z1:=by simp [zC,qg,hk]
 by_cases hc:qg p f.Z1=2
 .have hcb:(qg p f.Z1==2)=true:=by simp [hc]
  have hcy:=hO.Zw;simp only [Zb.top] at hcy;obtain⟨b,x,y,hfx⟩:=Tp f.names;rw [hfx] at tb;have yob:yo (gs.length+1)+4+24<=4415:=qA;have hcl2:m.ZV.length+1<=4294967296:=qA;have hwc:IntKind.i64.wrap (m.ZV.length:Int)=m.ZV.length:=Zv qA qA;refine aC ?_<|qU t0 t3 p3 t4 hT hRl yoh yh r0 r0E f0 f0E<|qU f0l hcd hcdl hcdE hki hc hcb r31 r31E tb hcy hcl<|aI yob<|hwc;intro K hK;have hcap:uj m.ZV++[[bv (b 0),iv (x 0),iv (y 0),bv (b 1),iv (x 1),iv (y 1),bv (b 2),iv (x 2),iv (y 2),bv (b 3),iv (x 3),iv (y 3),bv (b 4),iv (x 4),iv (y 4),bv (b 5),iv (x 5),iv (y 5),bv (b 6),iv (x 6),iv (y 6),bv (b 7),iv (x 7),iv (y 7)]]=uj (m.ZV++[f.names]):=by rw [<- hfx];exact KX
  let R1:List AV:=(R.map (AV.tr (mv (.s 29) (.c Yn 0 31))∘AV.tr (kl (.s 29))∘AV.tr (kl (.s 28)))).take 31++.hs (.c Yn 0 31) 24 0 (m.ZV.length+1)::(R.map (AV.tr (mv (.s 29) (.c Yn 0 31))∘AV.tr (kl (.s 29))∘AV.tr (kl (.s 28)))).drop 32
  have hO1:ZY (wrO Yn (.row 4415 [R1]) (wrO (.c Yn 0 31) (.row 24 (uj (m.ZV++[f.names]))) s.hp)) p (({ m with ZV:=m.ZV++[f.names] }:Zb).top (gs++[g0]) f):=by
   have h:=hO;rw [yh] at h2 h3 h28;exact ZY.reT (f:=f) (g:=f) (fs:=gs++[g0]) h rfl rfl rfl (Ax hT (R':=R1) oR (λJ hJ e=>by simp only [R1];rw [e];simp only [eC];exact WG (m.ZV++[f.names]) hJ qB (λj hj=>by simp [hj]))) (h5:=oR) (h6t:=by simp [wrO,h2]) (h7t:=by simp [wrO,h3]) (h8t:=⟨j,by simp [wrO,h28]⟩)
  refine uJ (λs=>s.tm 0=.pt Yn 0/\s.tm 42=.pt Yn 0/\s.tm 44=.pt Yn 4411/\s.tm 3=.pt (.s 3) 0/\s.hp (.s 3)=some (.row 2 [[iv 3,iv m.ZV.length]])/\H7 s.hp p { ({ m with ZV:=m.ZV++[f.names] }:Zb) with ZW:=gs++[g0] } (gs.length+2)) ⟨vv,vv,vv,aY,by simp [p3,hwc],?_⟩ ?_
  .have h:=hO1;have hR1:(wrO Yn (.row 4415 [R1]) (wrO (.c Yn 0 31) (.row 24 (uj (m.ZV++[f.names]))) s.hp)) Yn=some (.row 4415 [R1]):=oR;rw [show gs.length+2=(gs++[g0]).length+1 by simp];refine ZY.qEY (m:=({ m with ZV:=m.ZV++[f.names] }:Zb).top (gs++[g0]) f) h rfl qA hR1 (vals:=[iv 0,iv 0,.hs (.c Yn 0 (yo (gs.length+1)+2)) 3 0 0,.hs (.c Yn 0 (yo (gs.length+1)+3)) 1 0 0]++(aK q9++[.hs (.c Yn 0 (yo (gs.length+1)+28)) 2 0 0])) (F:=λm=>((kl (.c Yn 0 (yo (gs.length+1)+2)) m).bind (kl (.c Yn 0 (yo (gs.length+1)+3)))).bind (kl (.c Yn 0 (yo (gs.length+1)+28)))) qB (λj h1 h2 h3=>by rw [yh] at h1 h2 h3;simp [kl,h1,h2,h3]) (h0:=?_) (h1:=by simp [hO.qAZ]) (h2:=lc) (h3:=oO) (h4:=oN) (h5:=by simp [<- hcap]) (h6:=G7) (h7:=G7) (h8:=G7) (h9:=by intro c s hc;simp [hO.cell c s hc]) (hA:=by intro k i j hk e hn;simpa [wrO,hk,e] using hn);simp only [<- eC];simp [Zz,yh,pa,R1]
   rfl
  rintro s ⟨t0,t42,t44,t3,p3,hY⟩;obtain⟨R,hT,hRl,r4⟩:=hY.ht;obtain⟨_,r4E⟩:=gS r4;have hw1:IntKind.i64.wrap ((gs.length:Int)+2 - 1)=(gs.length:Int)+1:=eM;refine qC ?_<|aJ t0 t42 t44 t3 p3 hT hRl r4 r4E<|hw1;refine uu (λs=>s.tm 0=.pt Yn 0/\s.tm 3=.pt (.s 3) 0/\s.hp (.s 3)=some (.row 2 [[iv ((3,(m.ZV.length:Int))).1,iv ((3,(m.ZV.length:Int))).2]])/\ZY s.hp p { ({ m with ZV:=m.ZV++[f.names] }:Zb) with ZW:=gs++[g0] }) ⟨vv,aY,by simp [p3],hY.done hT (by simp [Zz,hw1]) (λq hq hn=>by simp [hn])⟩ ?_;clear hT hRl r4 r4E hY t0 t42 t44 t3 p3 s;rintro s ⟨t0,t3,p3,hO⟩;obtain⟨R,j,hT,tr,h2,h3,h28⟩:=ZY.qAO (f:=g0) hO rfl qA;refine aC ?_<|yE t0 t3 p3<|hT;intro K hK;have fx:=aI t0 (aI t3 p3);refine qe h0 (have h:=hO;ZY.re h) (qf _) (hF:=λ_=>A3 gl DM (λ_=>qN) rfl _ R gs.length qu tr.h qA) (h:=?_);intro y H1 hw;clear fx;have hO1:=ZY.smp dP hw;obtain⟨rfl,-⟩:=hw;refine aC ?_<|yE t0 t3 p3<|hT;obtain⟨R1,j1,hT1,tr1,h21,h31,h281⟩:=ZY.qAO (f:=g0) hO1 rfl qA;have yog:yo gs.length+29<=4415:=vq;have fx:=aI t0 (aI t3 (aI p3 hT));refine qe h0 (have h:=hO1;ZY.re h) (qf _) (hF:=λ_=>vl gl DM (λ_=>qN) _ R1 (yo gs.length) g0.stack j1 (3,(m.ZV.length:Int)) rfl rfl bt tr1.f28 oS hgl yog) (h:=?_);intro y2 H2 hw2;clear fx;have hO2:=ZY.qAo (f:=g0) (by exact (have h:=hO1;ZY.re h)) rfl qA rfl bt hw2;refine aC ?_<|yS t0 t3 p3 hT<|hT1
  refine zy [] .nil qE ?_;rw [if_pos hc];exact ZY.fin OC
 .have hc':(qg p f.Z1==2)=false:=by simpa using hc
  refine aC ?_<|qU t0 t3 p3 t4 hT hRl yoh yh r0 r0E f0 f0E<|uD f0l hcd hcdl hcdE hki<|hc';intro K hK;refine uJ (λs=>s.tm 0=.pt Yn 0/\s.tm 42=.pt Yn 0/\s.tm 44=.pt Yn 4411/\s.tm 3=.pt (.s 3) 0/\s.hp (.s 3)=some (.row 2 [[iv ((v1,v2)).1,iv ((v1,v2)).2]])/\H7 s.hp p { m with ZW:=gs++[g0] } (gs.length+2)) ⟨vv,vv,vv,aY,by simp [p3],?_⟩ ?_
  .have hm':(m.top (gs++[g0]) f).ZW=(gs++[g0])++[f]:=rfl;have h:=hO;rw [show gs.length+2=(gs++[g0]).length+1 by simp];refine ZY.qEY (m:=m.top (gs++[g0]) f) h hm' qA hT (vals:=[iv 0,iv 0,.hs (.c Yn 0 (yo (gs.length+1)+2)) 3 0 0,.hs (.c Yn 0 (yo (gs.length+1)+3)) 1 0 0]++(aK q9++[.hs (.c Yn 0 (yo (gs.length+1)+28)) 2 0 0])) (F:=λm=>((kl (.c Yn 0 (yo (gs.length+1)+2)) m).bind (kl (.c Yn 0 (yo (gs.length+1)+3)))).bind (kl (.c Yn 0 (yo (gs.length+1)+28)))) qB (λj h1 h2 h3=>by rw [yh] at h1 h2 h3;simp [kl,h1,h2,h3]) (h0:=?_) (h6:=GR) (h7:=GR) (h8:=GR);simp only [<- eC];simp [Zz,yh,pa]
  rintro s ⟨t0,t42,t44,t3,p3,hY⟩;obtain⟨R,hT,hRl,r4⟩:=hY.ht;obtain⟨_,r4E⟩:=gS r4;have hw1:IntKind.i64.wrap ((gs.length:Int)+2 - 1)=(gs.length:Int)+1:=eM;refine qC ?_<|aJ t0 t42 t44 t3 p3 hT hRl r4 r4E<|hw1;refine uu (λs=>s.tm 0=.pt Yn 0/\s.tm 3=.pt (.s 3) 0/\s.hp (.s 3)=some (.row 2 [[iv ((v1,v2)).1,iv ((v1,v2)).2]])/\ZY s.hp p { m with ZW:=gs++[g0] }) ⟨vv,aY,by simp [p3],hY.done hT (by simp [Zz,hw1]) (λq hq hn=>by simp [hn])⟩ ?_;clear hT hRl r4 r4E hY t0 t42 t44 t3 p3 s;rintro s ⟨t0,t3,p3,hO⟩;obtain⟨R,j,hT,tr,h2,h3,h28⟩:=ZY.qAO (f:=g0) hO rfl qA;refine aC ?_<|yE t0 t3 p3<|hT;intro K hK;have fx:=aI t0 (aI t3 p3);refine qe h0 (have h:=hO;ZY.re h) (qf _) (hF:=λ_=>A3 gl DM (λ_=>qN) rfl _ R gs.length qu tr.h qA) (h:=?_);intro y H1 hw;clear fx;have hO1:=ZY.smp dP hw;obtain⟨rfl,-⟩:=hw;refine aC ?_<|yE t0 t3 p3<|hT;obtain⟨R1,j1,hT1,tr1,h21,h31,h281⟩:=ZY.qAO (f:=g0) hO1 rfl qA;have yog:yo gs.length+29<=4415:=vq;have fx:=aI t0 (aI t3 (aI p3 hT));refine qe h0 (have h:=hO1;ZY.re h) (qf _) (hF:=λ_=>vl gl DM (λ_=>qN) _ R1 (yo gs.length) g0.stack j1 (v1,v2) rfl rfl bt tr1.f28 oS hgl yog) (h:=?_);intro y2 H2 hw2;clear fx;have hO2:=ZY.qAo (f:=g0) (by exact (have h:=hO1;ZY.re h)) rfl qA rfl bt hw2;refine aC ?_<|yS t0 t3 p3 hT<|hT1;refine zy [] .nil qE ?_;rw [if_neg hc];exact ZY.fin OC
end Go.Proofs.YtdnebaieamppbaaGreatDoor
end
