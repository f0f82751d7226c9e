import Derived.Test.YtjgpejikjhojcaaGreatDoorR34
import Derived.Test.YtjgpejikjhojcaaGreatDoorR19
set_option linter.unusedSimpArgs false
set_option linter.unusedVariables false
set_option maxRecDepth 100000
set_option maxHeartbeats 4000000

section
namespace Go.Proofs.YtjgpejikjhojcaaGreatDoor
open Go Go.Hm Go.Proofs Tryz
abbrev Wv:qV:=a7<|.l 7 []<|.done
abbrev Ww:qV:=.q 0<|.q 1<|.q 2<|.q 3<|.q 4<|.q 6<|.l 5 [6,1,0]<|.q 7<|.l 8 []<|.done
abbrev Wx:qV:=ct<|.l 9 []<|.done
abbrev Wy:qV:=ct<|.l 9 [0]<|.q 10<|.q 11<|.l 12 []<|.done
abbrev Wz:qV:=A5<|.l 10 []<|.done
def mN (p:qC) (b:Nat) (vs:List qW):List qr:=match (zO p b).params,vs with
 | [x],[v]=>if x∈qx p b then (List.replicate (qx p b).length none).set (yj (qx p b) x).toNat (some v) else List.replicate (qx p b).length none
 | _,_=>List.replicate (qx p b).length none
def mM (p:qC) (m:qR) (b:Nat) (vs:List qW):List qr:=match (zO p b).params,vs with
 | [x],[v]=>if x∈qx p b then m.cells++List.replicate (qY p b).length none else (m.cells++List.replicate (qY p b).length none).set (m.cells.length+(yj (qY p b) x).toNat) (some v)
 | _,_=>m.cells++List.replicate (qY p b).length none
structure As (s:St) (p:qC) (m:qR) (b:Nat) (cs:List Nat) (vs:List qW) (n:Nat) (fa C:List qr):Prop where
 t0:s.tm 0=.pt Yn 0
 t2:s.tm 2=.sl 1 (za cs)
 t3:s.tm 3=.sl 2 (zh vs)
 t8:s.tm 8=.pt (.s 8) 0
 p8:s.hp (.s 8)=some (.row 6 [(zO p b).row])
 t9:s.tm 9=.pt (.s 9) 0
 p9:s.hp (.s 9)=some (.row 29 [[iv b,iv 0,.hs (.c (.s 9) 0 2) 3 0 (qx p b).length,.hs (.c (.s 9) 0 3) 1 0 n,bv false,iv 0,iv 0,bv false,iv 0,iv 0,bv false,iv 0,iv 0,bv false,iv 0,iv 0,bv false,iv 0,iv 0,bv false,iv 0,iv 0,bv false,iv 0,iv 0,bv false,iv 0,iv 0,.hs (.c (.s 9) 0 28) 2 0 0]])
 wR:s.hp (.c (.s 9) 0 2)=some (.row 3 (zA fa))
 kY:s.hp (.c (.s 9) 0 3)=some (.row 1 (za ((List.range n).map (m.cells.length+·))))
 wS:s.hp (.c (.s 9) 0 28)=some (.row 2 [])
 own:jh s.hp p m C
theorem pN {A G G2:Prop} (k:G2) (x:A) (h:A->jL G2->G:=by
 intro fx kk;refine qK ?_
 repeat ((first|refine qQ (id:=12) Wv mixed ?_|refine qQ (id:=13) Ww mixed ?_|refine qQ (id:=16) Wx mixed ?_|refine qQ (id:=19) Wy mixed ?_|refine qQ (id:=20) Wz mixed ?_);refine zK ?_;refine qK ?_)
 exact kk.h):G:=h x ⟨k⟩
theorem Gz (gl) (H:Nm->Option AO) (p:qC) (m:qR) (b:Nat) (cs:List Nat) (vs:List qW) (hb:b<p.length) (hp7:p.length<=7) (hcs:cs.length<=8) (hcr:∀ c∈cs,c<m.cells.length) (hcl:m.cells.length<=2000) (hmd:m.made<=1000) (hdp:m.deep<=1000) (hfl:m.qN.length<=150) (hpar:(zO p b).params=[]\/∃ x,(zO p b).params=[x]/\((x∈qx p b/\x∉qY p b)\/(x∉qx p b/\x∈qY p b))) (hvs:vs.length=(zO p b).params.length) (hfr:∀ f∈m.qN,∀ c∈f.cells,c<m.cells.length) (hfn:∀ g∈m.qH,∀ c∈g.2,c<m.cells.length) (hO:qD H p m) :
  qZ prog gl 116 DM [.pt Yn 0,iv b,.sl 1 (za cs),.sl 2 (zh vs)] H (λ_ _ H'=>qD H' p (jv p m b cs vs)) zG:=by
 have hOc:=hO.yc
 obtain⟨R,hT,hRl,r0⟩:∃ R,H Yn=some (.row 4415 [R])/\R.length=4415/\R[0]?=some (uw (jb p p.length)):=by
  obtain⟨J,hJ,e,_⟩:=hOc;exact⟨_,e,oA (aO hJ),No⟩
 obtain⟨r0l,r0E⟩:=gS r0;obtain⟨kk,hk⟩:=gX hb;have hcd:(jb p p.length)[b]?=some (zO p b):=B2;obtain⟨hcdl,hcdE⟩:=gS hcd;have hcf:(zO p b).qq=qx p b:=fT;have hcc:(zO p b).cells=qY p b:=fT;have hf8:=pD (p:=p) (b:=b);have hc8:=cT (p:=p) (b:=b);refine qZ.q9 func116 [] ntmps116 (λ_=>zC) λC w g root hroot=>?_;refine qJ ?_<|jS hT hRl r0 r0E hcd hcdl hcdE hcf hcc hf8<|hc8;have hrp:List.replicate (qx p b).length [bv false,iv 0,iv 0]=zA (List.replicate (qx p b).length none):=mi
 have hun:∀ k i j,DM k=true->Nm.under (.c (.s 9) i j) k=false:=λk i j hk=>by
  cases h:Nm.under (.c (.s 9) i j) k with
  | false=>rfl
  | true=>have:=(Nm.Cq h).1;rw [(jg (λ_=>zC) hk 9).2] at this;cases this
 refine zQ (λn s=>∃ i:Nat,n=(qY p b).length - i/\i<=(qY p b).length/\As s p m b cs vs i (List.replicate (qx p b).length none) (m.cells++List.replicate i none)/\s.tm 29=iv (qY p b).length/\s.tm 30=iv i) (qY p b).length ?_ ?_
 .refine⟨0,qA,qA,⟨qB,qB,qB,qB,by simp [hcf,hcc],qB,qB,by simp [hrp],ot,qB,?_⟩,qB,qB⟩;rw [List.replicate_zero,ir];have hst:jh (wD [.pt Yn 0,iv b,.sl 1 (za cs),.sl 2 (zh vs)] H 125 gl).hp p m m.cells:=hOc.qv (F:=some) (λ_ _=>rfl) λk hk=>by cases h:H k <;> simp [h,AO.vv]
  exact (by repeat (first|(with_reducible exact hst)|refine HA ?_|refine Nx b8 ?_|refine Nv b8 ?_|refine Nw b8 b8 ?_|refine Nu b8 ?_|exact hst))
 clear hT hRl r0E r0l r0 R;rintro n s - - ⟨i,rfl,hi,hB,t29,t30⟩;have t0:=hB.t0;have t2:=hB.t2;have t3:=hB.t3;have t8:=hB.t8;have p8:=hB.p8;have t9:=hB.t9;have p9:=hB.p9;have wR:=hB.wR;have kY:=hB.kY;have wS:=hB.wS;by_cases hil:i<(qY p b).length
 .have hil1:((List.range i).map (m.cells.length+·)).length=i:=qB;have hi8:i<=8:=qA;have hu:(yR prog C w g H 125 gl).ext (.u 7 (m.cells.length+i) 0)=false:=by simp [yR,hO.free (c:=m.cells.length+i) qA]
  refine pN ?_<|qh t0 t2 t3 t8 p8 t9 p9 wR wS t29 t30 hil<|aI hil1<|hi8;intro K hK;refine wa (.c (.s 36) 0 0) (.u 7 (m.cells.length+i) 0) (.inl rfl) (.inr hu) ?_;have hCl:(m.cells++List.replicate i none).length=m.cells.length+i:=qB
  have hrl:∀ F:Nm->Option Nm,(∀ c,c<m.cells.length+i->F (En c)=some (En c))->(za ((List.range i).map (m.cells.length+·))).map (λr=>r.map (AV.tr F))=za ((List.range i).map (m.cells.length+·)):=λF hF=>sO λc hc=>by
   simp only [bV,gT] at hc;obtain⟨a,ha,rfl⟩:=hc;exact hF _ qA
  have jJ:∀ c,c<m.cells.length+i->mv (.c (.s 36) 0 0) (.u 7 (m.cells.length+i) 0) (En c)=some (En c):=λc hc=>by simp [mv,rJ hc]
  have hcsF:(za cs).map (λr=>r.map (AV.tr (mv (.c (.s 36) 0 0) (.u 7 (m.cells.length+i) 0))))=za cs:=sO λc hc=>jJ c (by have:=hcr c hc;omega);have hOB:=hB.own;refine kJ (λs=>s.tm 33=.hs (.c (.s 9) 0 3) 1 0 i/\s.tm 36=.hs (.s 36) 1 0 1/\s.hp (.s 36)=some (.row 1 [[.pt (.u 7 (m.cells.length+i) 0) 0]])/\As s p m b cs vs i (List.replicate (qx p b).length none) (m.cells++List.replicate (i+1) none)/\s.tm 29=iv (qY p b).length/\s.tm 30=iv i) ⟨qB,qB,qB,⟨uv,by simp [t2,hcsF],cS,fQ,og,mh,by simp [p9],rl,by simp [kY,hrl _ jJ],ri,?_⟩,by simp [t29],by simp [t30]⟩ ?_
  .rw [List.replicate_succ',<- iq];exact jh.O6 (n0:=.c (.s 36) 0 0) (s:=none) qB rfl sC qB (λf hf c hc=>by have:=hfr f hf c hc;simp;omega) (λg hg c hc=>by have:=hfn g hg c hc;simp;omega)
  clear t0 t2 t3 t8 p8 t9 p9 wR kY wS t29 t30 hB hOB;rintro s ⟨t33,t36,p36,hB,t29,t30⟩;have t0:=hB.t0;have t2:=hB.t2;have t3:=hB.t3;have t8:=hB.t8;have p8:=hB.p8;have t9:=hB.t9;have p9:=hB.p9;have wR:=hB.wR;have kY:=hB.kY;have wS:=hB.wS;have hOB:=hB.own;refine pN ?_<|qh t0 t2 t3 t8 p8 t9 p9 wR kY wS t29 t30<|jH t33 t36 p36 hil hil1<|hi8;have hap:za ((List.range i).map (m.cells.length+·))++[[.pt (.u 7 (m.cells.length+i) 0) 0]]=za ((List.range (i+1)).map (m.cells.length+·)):=by simp [za,oU,vo]
  have htt:((List.range i).map (m.cells.length+·)).take i=(List.range i).map (m.cells.length+·):=yG qB;refine⟨(qY p b).length - (i+1),qA,i+1,rfl,qA,⟨uv,kS,cS,fQ,og,mh,qB,rl,by simp [<- hap,htt],ri,sC⟩,by simp [t29],by simp [t30];exact qm qA qA⟩
 .obtain rfl:i=(qY p b).length:=qA;have hOB:=hB.own;refine qJ ?_<|jS t0 t2 t3 t8 p8 t9 p9 wR kY wS<|aI t29<|t30;refine uZ (λs=>As s p m b cs vs (qY p b).length (List.replicate (qx p b).length none) (m.cells++List.replicate (qY p b).length none)/\s.tm 41=jG (zO p b).params/\s.tm 42=iv (zO p b).params.length/\s.tm 43=iv 0) ⟨⟨uv,kS,cS,fQ,og,mh,by simp [p9],rl,by simp [kY],ri,sC⟩,qB,qB,qB⟩ ?_;clear t0 t2 t3 t8 p8 t9 p9 wR kY wS t29 t30 hB hOB;rintro s ⟨hB,t41,t42,t43⟩;refine zQ (λn s=>∃ (i:Nat) (fa C:List qr),n=(zO p b).params.length - i/\i<=(zO p b).params.length/\As s p m b cs vs (qY p b).length fa C/\fa.length=(qx p b).length/\C.length=m.cells.length+(qY p b).length/\(i=0->fa=List.replicate (qx p b).length none/\C=m.cells++List.replicate (qY p b).length none)/\(i=(zO p b).params.length->fa=mN p b vs/\C=mM p m b vs)/\s.tm 41=jG (zO p b).params/\s.tm 42=iv (zO p b).params.length/\s.tm 43=iv i) (zO p b).params.length ?_ ?_
  .exact⟨0,_,_,qA,qA,hB,qB,qB,λ_=>⟨rfl,rfl⟩,λh=>by have h1:=ai h.symm;simp [mN,mM,h1],t41,t42,t43⟩
  clear t41 t42 t43 hB;rintro n s - - ⟨i,fa,C,rfl,hi,hB,hfa,hC,hi0,hi1,t41,t42,t43⟩;have t0:=hB.t0;have t2:=hB.t2;have t3:=hB.t3;have t8:=hB.t8;have p8:=hB.p8;have t9:=hB.t9;have p9:=hB.p9;have wR:=hB.wR;have kY:=hB.kY;have wS:=hB.wS;have hOB:=hB.own;by_cases hil:i<(zO p b).params.length
  .obtain⟨x,hx,hx2⟩:∃ x,(zO p b).params=[x]/\((x∈qx p b/\x∉qY p b)\/(x∉qx p b/\x∈qY p b)):=by
    rcases hpar with h|h
    .rw [h] at hil;simp at hil
    .exact h
   have hl1:(zO p b).params.length=1:=by rw [hx];rfl
   obtain rfl:i=0:=qA;obtain⟨rfl,rfl⟩:=hi0 rfl;obtain⟨v,rfl⟩:∃ v,vs=[v]:=BB.1 (by rw [hvs,hl1]);obtain⟨v1,v2⟩:=v;rw [hx] at t41 t42;have hpc:=sy gl (qY p b) x qA;have hpf:=sy gl (qx p b) x qA;rcases hx2 with⟨hxf,hxc⟩|⟨hxf,hxc⟩
   .obtain⟨q,hq,hql,-⟩:=nO hxf
    have hpn:yj (qY p b) x=-1:=by
     have h1:=CX (xs:=qY p b) (x:=x);have h2:¬ 0<=yj (qY p b) x:=λh=>hxc (l9.1 h);omega
    rw [hpn] at hpc;rw [hq] at hpf;have hqi:(q:Int)<(qx p b).length:=qA;have fx:=qh t0 t2 t3 t8 p8 t9 p9 wR kY wS t41 t42<|zN t43 hcc hcf hql<|hqi;have c1:=hpc;have c2:=hpf;refine pN ?_<|@fx;clear fx c1 c2;have hfF:mN p b [(v1,v2)]=(List.replicate (qx p b).length none).set q (some (v1,v2)):=by simp [mN,hx,hxf,hq]
    have hfC:mM p m b [(v1,v2)]=m.cells++List.replicate (qY p b).length none:=by simp [mM,hx,hxf]
    exact⟨0,qA,1,(List.replicate (qx p b).length none).set q (some (v1,v2)),m.cells++List.replicate (qY p b).length none,qA,qA,⟨uv,kS,cS,fQ,og,mh,by simp [p9],rl,by simp [kY],ri,sC⟩,qB,qB,λh=>qA,λ_=>⟨hfF.symm,hfC.symm⟩,by simp [t41,hx],by simp [t42,hx],by simp [t43];rfl⟩
   .obtain⟨q,hq,hql,-⟩:=nO hxc;rw [hq] at hpc;have hqi:(q:Int)<(qY p b).length:=qA;have hqn:((q:Int) == -1)=false:=ku;have hcl2:m.cells.length+q<(m.cells++List.replicate (qY p b).length none).length:=qu;have e9:m.cells.length+q - m.cells.length=q:=qA
    have hcq:(m.cells++List.replicate (qY p b).length none)[m.cells.length+q]?=some (none:qr):=by
     rw [cG qA,e9];simp [hql]
    have hE:s.hp (.u 7 (m.cells.length+q) 0)=some (.row 3 [[bv false,iv 0,iv 0]]):=by
     obtain⟨J,hJ,e,hOw⟩:=hOB;have:=hOw.cell (m.cells.length+q) none hcq
     simpa [zP] using this
    have her:(za ((List.range (qY p b).length).map (m.cells.length+·)))[q]?=some [.pt (.u 7 (m.cells.length+q) 0) 0]:=by rw [JD];simp [hql,vo]
    obtain⟨herl,herE⟩:=gS her;have fx:=qh t0 t2 t3 t8 p8 t9 p9 wR kY wS t41 t42<|jS t43 hcc hcf hql hqi hqn @qz hE her herE<|herl;have c1:=hpc;refine pN ?_<|@fx;clear fx c1;have hfF:mN p b [(v1,v2)]=List.replicate (qx p b).length none:=by simp [mN,hx,hxf]
    have hfC:mM p m b [(v1,v2)]=(m.cells++List.replicate (qY p b).length none).set (m.cells.length+q) (some (v1,v2)):=by simp [mM,hx,hxf,hq]
    refine⟨0,qA,1,List.replicate (qx p b).length none,(m.cells++List.replicate (qY p b).length none).set (m.cells.length+q) (some (v1,v2)),qA,qA,⟨uv,kS,cS,fQ,og,mh,by simp [p9],rl,by simp [kY],ri,?_⟩,qB,qB,λh=>qA,λ_=>⟨hfF.symm,hfC.symm⟩,by simp [t41,hx],by simp [t42,hx],by simp [t43];rfl⟩
    repeat (refine HA ?_)
    exact qCG (some (v1,v2)) hcl2 sC
  .obtain rfl:i=(zO p b).params.length:=qA;have hil1:((List.range (qY p b).length).map (m.cells.length+·)).length=(qY p b).length:=qB;have hsum:(qY p b).length+cs.length<=16:=qA;have htt:((List.range (qY p b).length).map (m.cells.length+·)).take (qY p b).length=(List.range (qY p b).length).map (m.cells.length+·):=yG qB;refine qJ ?_<|qh t0 t2 t3 t8 p8 t9 p9 wR kY wS t41 t42<|zD t43 hil1 hsum<|hcs;refine uZ (λs=>s.tm 0=.pt Yn 0/\s.tm 8=.pt (.s 8) 0/\s.hp (.s 8)=some (.row 6 [(zO p b).row])/\s.tm 9=.pt (.s 9) 0/\s.hp (.s 9)=some (.row 29 [[iv b,iv 0,.hs (.c (.s 9) 0 2) 3 0 (qx p b).length,.hs (.c (.s 9) 0 3) 1 0 ((qY p b).length+cs.length),bv false,iv 0,iv 0,bv false,iv 0,iv 0,bv false,iv 0,iv 0,bv false,iv 0,iv 0,bv false,iv 0,iv 0,bv false,iv 0,iv 0,bv false,iv 0,iv 0,bv false,iv 0,iv 0,.hs (.c (.s 9) 0 28) 2 0 0]])/\s.hp (.c (.s 9) 0 2)=some (.row 3 (zA fa))/\s.hp (.c (.s 9) 0 3)=some (.row 1 (za ((List.range (qY p b).length).map (m.cells.length+·)++cs)))/\s.hp (.c (.s 9) 0 28)=some (.row 2 [])/\jh s.hp p m C) ⟨uv,fQ,og,mh,qB,rl,by simp [htt,<- Qb],ri,sC⟩ ?_;clear t0 t2 t3 t8 p8 t9 p9 wR kY wS hOB t41 t42 t43 hB;rintro s ⟨t0,t8,p8,t9,p9,wR,kY,wS,hOB⟩
   obtain⟨R,hT,hRl,r4⟩:∃ R,s.hp Yn=some (.row 4415 [R])/\R.length=4415/\R[4411]?=some (iv m.qN.length):=by
    obtain⟨J,hJ,e,_⟩:=hOB;exact⟨_,e,oA (aO hJ),DC (aO hJ)⟩
   obtain⟨_,r4E⟩:=gS r4;have hfl2:(m.qN.length:Int)<151:=qA;have hfl3:(0:Int)<=(m.qN.length:Int):=qA;have hfl4:32+m.qN.length * 29+29<=4415:=qA;refine iW (.c (.s 9) 0 2) (.s 20) (.inl rfl) (.inl rfl) (iW (.c (.s 9) 0 3) (.s 21) (.inl rfl) (.inl rfl) (iW (.c (.s 9) 0 28) (.s 22) (.inl rfl) (.inl rfl) ?_));refine pN ?_<|qh t0 t8 p8 t9 p9 wR kY wS hT hRl r4 r4E<|qk hfl2 hfl3<|hfl4;intro K hK;have hmc:m.qN.length * 29=29 * m.qN.length:=oR _ _;obtain⟨M,hM⟩:∃ M:qR,M={ m with cells:=C,made:=m.made+1,deep:=max m.deep (m.qN.length+1),qN:=m.qN++[⟨b,0,fa,(List.range (qY p b).length).map (m.cells.length+·)++cs,jR,[]⟩] }:=⟨_,rfl⟩;refine kJ (λs=>s.tm 0=.pt Yn 0/\s.tm 89=.pt Yn 0/\s.tm 91=.pt Yn 4411/\s.tm 8=.pt (.s 8) 0/\s.hp (.s 8)=some (.row 6 [(zO p b).row])/\gQ s.hp p m M m.qN.length) ⟨uv,qB,qB,fQ,og,?_⟩ ?_
   .rw [hM];simp only [hmc];have h:=hOB;refine jh.PD (g:=⟨b,0,fa,(List.range (qY p b).length).map (m.cells.length+·)++cs,jR,[]⟩) h qA hT (F:=λq=>(((((mv (.c (.s 9) 0 2) (.s 20) q).bind (mv (.c (.s 9) 0 3) (.s 21))).bind (mv (.c (.s 9) 0 28) (.s 22))).bind (mv (.s 20) (.c Yn 0 (yo m.qN.length+2)))).bind (mv (.s 21) (.c Yn 0 (yo m.qN.length+3)))).bind (mv (.s 22) (.c Yn 0 (yo m.qN.length+28)))) (λj h1 h2 h3=>by simp [mv,h1,h2,h3]) (h0:=?_) (h6t:=?_) (h7t:=?_) (h8t:=?_)
    .simp only [<- mn];simp [qp,y4,Bt,hfa]
    .simp [wR]
    .simp [kY]
    .simp [wS]
   have hbg:jv p m b cs vs=M:=by
    obtain⟨e1,e2⟩:=hi1 rfl;rw [hM,e1,e2];rcases hpar with h|⟨x,hx,hx2⟩
    .simp [jv,mN,mM,h]
    .obtain⟨v,rfl⟩:∃ v,vs=[v]:=BB.1 (by rw [hvs,hx];rfl);rcases hx2 with⟨h1,h2⟩|⟨h1,h2⟩ <;> simp [jv,mN,mM,hx,h1]
   have hMc:M.cells=C:=by rw [hM]
   have hMl:M.qN.length=m.qN.length+1:=by rw [hM];simp
   have hMr:∀ (h:Nat) (c:Nat->List AV),qg p { m with made:=m.made+1,deep:=max m.deep (m.qN.length+1),cells:=C } h c=qg p M h c:=λh c=>by rw [hM];rfl
   clear hM;have hw1:IntKind.i64.wrap ((m.qN.length:Int)+1)=((m.qN.length+1:Nat):Int):=qm qA qA;have hw2:IntKind.i64.wrap ((m.made:Int)+1)=((m.made+1:Nat):Int):=qm qA qA;have hw3:IntKind.i64.wrap ((m.cells.length:Int)+((qY p b).length:Int))=((C.length:Nat):Int):=by rw [hC,qm qA qA];omega
   clear t0 t8 p8 t9 p9 wR kY wS hOB hT r4 r4E hRl;rintro s ⟨t0,t89,t91,t8,p8,hY⟩;obtain⟨R,hT,hRl,r4,r2,r3,r1⟩:=hY.row;obtain⟨_,r4E⟩:=gS r4;obtain⟨_,r3E⟩:=gS r3;obtain⟨_,r2E⟩:=gS r2;obtain⟨_,r1E⟩:=gS r1;refine pN ?_<|qh t0 t89 t91 t8 p8 hT hRl r4 r4E r3 r3E r2<|qk r2E hw1<|hw2;intro K hK;have fx:=aI t0 (aI t8 (aI p8 (aI hT (aI hRl (aI r4 (aI r4E (aI r2 r2E)))))));refine Ni (i:=(m.deep:Int)) (j:=(m.qN.length:Int)+1) ((max m.deep (m.qN.length+1):Nat):Int) qA (h:=?_);clear fx;refine pN ?_<|qh t0 t8 p8 hT hRl r4 r4E r3 r3E r2 r2E r1<|zN r1E hcc hw1 hw2<|hw3;refine yb [] .nil qE (qD.fin ?_);have h1:=hY.set (hp':=zP Yn (.row 4415 [qp R 4411 [iv (m.qN.length+1:Nat)]]) s.hp) hT rfl (λJ hJ=>Nt hJ) (λq hq hn=>by simp [zP,hn]);have h2:=h1.set (hp':=zP Yn (.row 4415 [qp (qp R 4411 [iv (m.qN.length+1:Nat)]) 4413 [iv (m.made+1:Nat)]]) s.hp) rfl rfl (λJ hJ=>qCD hJ) (λq hq hn=>by simp [zP,hn]);have h3:=h2.set (hp':=zP Yn (.row 4415 [qp (qp (qp R 4411 [iv (m.qN.length+1:Nat)]) 4413 [iv (m.made+1:Nat)]) 4412 [iv (max m.deep (m.qN.length+1):Nat)]]) s.hp) rfl rfl (λJ hJ=>qCB hJ) (λq hq hn=>by simp [zP,hn]);rw [hbg];refine gQ.done (m:={ m with made:=m.made+1,deep:=max m.deep (m.qN.length+1),cells:=C }) (h:=m.qN.length+1) ?_ λJ=>by rw [hMr,hMl]
   refine h3.set rfl (k:=4414) (v:=iv (C.length:Nat)) ?_ (λJ hJ=>qCA hJ) (λq hq hn=>by simp [zP,hn]);simp [qp,hRl,gW,th]
abbrev XA:qV:=bF<|.l 8 [7,6,5,4,3,2,1,0]<|.l 9 []<|.done
abbrev XB:qV:=aK<|.done
theorem fj {A G G2:Prop} (k:G2) (x:A) (h:A->jL G2->G:=by
 intro fx kk;refine qK ?_
 repeat ((first|refine qQ (id:=9) XA mixed ?_|refine qQ (id:=10) XB mixed ?_);refine zK ?_;refine qK ?_)
 exact kk.h):G:=h x ⟨k⟩
theorem qCH (gl) (H:Nm->Option AO) (p:qC) (m:qR) (fs:List qO) (f:qO) (n pc0:Nat) (hP:zk p) (h:yV p m fs { f with pc:=pc0 }) (hn1:n<=1) (hst:n+1<=f.stack.length) (hsl:f.stack.length<=1000) (hfl:fs.length+1<=150) (hm0:m.en=0) (hO:qD H p (m.top fs f)) :
  qZ prog gl 213 DM [.pt Yn 0,.pt Yn (yo fs.length),iv n] H (λ_ y H'=>y=bv (decide ((b9 p m fs f (17,(n:Int))).en=0))/\qD H' p (b9 p m fs f (17,(n:Int)))) zG:=by
 have h0:=hO;have hcm:=I1 (p:=p) (m:=m) (fs:=fs) hst;have hnw:IntKind.i64.wrap ((n:Int) - 1)=(n:Int) - 1:=qm qA qA;have yoh:yo fs.length+29<=4415:=uu;have hrp:List.replicate n [iv 0,iv 0]=zh (List.replicate n (0,0)):=mT;refine qZ.q9 func213 [.tmp 6] ntmps213 (λ_=>zC) λC w g root hroot=>?_;refine fj ?_<|aI hnw<|hn1;refine zQ (λk s=>∃ i:Nat,k=n - i/\i<=n/\s.tm 0=.pt Yn 0/\s.tm 1=.pt Yn (yo fs.length)/\s.tm 2=iv n/\s.tm 7=.hs (.s 7) 2 0 n/\s.hp (.s 7)=some (.row 2 (zh (List.replicate (n - i) (0,0)++f.stack.drop (f.stack.length - i))))/\s.tm 8=iv ((n:Int) - 1 - i)/\qD s.hp p (m.top fs (f.cut i))) n ?_ ?_
 .exact⟨0,qA,qA,qB,qB,qB,qB,by simp [hrp],qB,by rw [Iq];exact mW⟩
 clear hO;rintro k s - - ⟨i,rfl,hi,t0,t1,t2,t7,p7,t8,hO⟩;have hk:=Ip (f:=f) (i:=i) qA;obtain⟨R,j,hT,tr,h2,h3,h28⟩:=hO.yM rfl qA;have f28:=tr.f28;rw [hk] at f28;by_cases hil:i<n
 .obtain rfl:n=1:=qA;obtain rfl:i=0:=qA;refine fj ?_<|jH t0 t1 t2 t7 p7<|t8;intro K hK;have fx:=aI t0 (aI t1 (aI t7 p7));refine jC h0 (have h:=hO;qD.re h) (qa _) (hF:=λ_=>lw gl DM (λ_=>zC) _ R (yo fs.length) (f.stack.length - (0+1)) ((f.cut 0).stack++j) (f.cut 0).zB zE f28 kD (gD hk) qA yoh) (h:=?_);intro y H1 hw;clear fx;have hO1:=qD.qm (qD.cn (m:=m.top fs (f.cut 0)) (have h:=hO;qD.re h) rfl qA zE hk) hw;obtain⟨rfl,-⟩:=hw;have hO2:qD H1 p (m.top fs (f.cut 1)):=by have e:=Bm (f:=f) (i:=0) qA;simpa [qR.top,e] using hO1
  have hdv:=Io (f:=f) (i:=0) qA;generalize (f.cut 0).zB=v at *;obtain⟨v1,v2⟩:=v;refine fj ?_<|jI t0 t1 t2 t7 p7 t8<|hT;have hap:f.stack.drop (f.stack.length - 1)=[(v1,v2)]:=by rw [hdv];simp
  exact⟨0,qA,1,rfl,qA,kr,by simp [t1,hT],kS,by simp [t7],by simp [hap,zh],by simp;decide,xZ⟩
 .obtain rfl:i=n:=qA;have hdl:(f.stack.drop (f.stack.length - i)).length=i:=qu;have htm:=h.top.sv _ (gM (Bo (f:=f) (i:=i) qA));rw [hcm];have hil:(i:Int) - 1 - i=-1:=qA;rw [Nat.sub_self,List.replicate_zero,rG] at p7;rw [hil] at t8;refine fj ?_<|jH t0 t1 t2 t7 p7<|t8;intro K hK;have fx:=aI t0 t1;refine jC h0 (have h:=hO;qD.re h) (qa _) (hF:=λ_=>lw gl DM (λ_=>zC) _ R (yo fs.length) (f.stack.length - (i+1)) ((f.cut i).stack++j) (f.cut i).zB zE f28 kD (gD hk) qA yoh) (h:=?_);intro y H1 hw;clear fx;have hO1:=qD.qm (qD.cn (m:=m.top fs (f.cut i)) (have h:=hO;qD.re h) rfl qA zE hk) hw;obtain⟨rfl,-⟩:=hw;have hO2:qD H1 p (m.top fs (f.cut (i+1))):=by have e:=Bm (f:=f) (i:=i) qA;simpa [qR.top,e] using hO1
  generalize (f.cut i).zB=v at *;obtain⟨v1,v2⟩:=v;refine fj ?_<|jH t0 t1 t2 t7 p7<|hT;refine uZ (λs=>s.tm 0=.pt Yn 0/\s.tm 1=.pt Yn (yo fs.length)/\s.tm 2=iv i/\s.tm 7=.hs (.s 7) 2 0 i/\s.hp (.s 7)=some (.row 2 (zh (f.stack.drop (f.stack.length - i))))/\s.tm 9=.pt (.s 9) 0/\s.hp (.s 9)=some (.row 2 [[iv v1,iv v2]])/\s.tm 28=bv (v1 != 2)/\qD s.hp p (m.top fs (f.cut (i+1)))) ⟨kr,by simp [t1,hT],kS,by simp [t7],by simp [p7],qB,qB,qB,xZ⟩ ?_;clear hT tr h2 h3 h28 f28 t0 t1 t2 t7 p7 t8 hO hO1 hO2 j R;rintro s ⟨t0,t1,t2,t7,p7,t9,p9,t28,hO⟩;obtain⟨R,j,hT,tr,h2,h3,h28⟩:=hO.yM rfl qA;have hRl:=tr.len;have r0:=tr.r0;have de:=tr.de;obtain⟨_,r0E⟩:=gS r0;obtain⟨_,r30E⟩:=gS de;simp only [pi] at de r30E;by_cases h2:v1=2
  case neg =>
   have hb:(v1 != 2)=true:=mb;rw [if_pos h2];refine fj ?_<|zN t0 t1 t28 hT<|hb;intro K hK;have fx:=aI t0 t1;refine jC h0 (have h:=hO;qD.re h) (qa _) (hF:=λ_=>em gl DM (λ_=>zC) _ R 5 zE hRl) (h:=?_);intro y H1 hw;clear fx;have hO1:=qD.qm (qD.ee (m:=m.top fs (f.cut (i+1))) (e:=5) (have h:=hO;qD.re h) rfl zE) hw;obtain⟨rfl,-⟩:=hw;refine fj ?_<|qd;refine qF [] .nil qE ⟨rT,qD.fin (have h:=hO1;qD.re h)⟩
  subst h2;rw [if_neg qB];have hv2:=htm.num;have hv3:=htm.fn rfl;simp only at hv2 hv3;obtain⟨jf,rfl⟩:∃ jf:Nat,v2=jf:=⟨v2.toNat,qA⟩;have hjl:jf<m.qH.length:=qA;obtain⟨q,hq⟩:=gX hjl;obtain⟨_,hqE⟩:=gS hq;obtain⟨kq,hk1,hk2,hk3,hk4⟩:=h.qH q (gM hq);obtain⟨b,cs⟩:=q;simp only at hk1 hk2 hk3 hk4;have hFn:=hO.qH;simp only [pi] at hFn;have qy:=(gS hk1).1;have hcd:(jb p p.length)[b]?=some (zO p b):=by simp [jb,qy]
  obtain⟨hcdl,hcdE⟩:=gS hcd;have hpn:(zO p b).params.length=vl p b:=by simp [zO,hk1,vl]
  simp only [uR,hq];by_cases hpi:vl p b=i
  case neg =>
   rw [if_pos hpi];have hb:(((vl p b:Nat):Int) != (i:Int))=true:=by rw [bne_iff_ne];omega
   have hb2:¬ ((vl p b:Nat):Int)=(i:Int):=qA;refine fj ?_<|qh t0 t1 t2 t7 p7 t9 p9 t28 hT hRl r0 r0E<|jS de r30E hFn hq hqE hjl hcd hcdl hcdE hpn<|aI hb<|hb2;intro K hK;refine kJ (λs=>s.tm 51=.pt Yn 0/\qD s.hp p (m.top fs (f.cut (i+1)))) ⟨qB,mW⟩ ?_;rintro s ⟨t51,hO⟩;obtain⟨R,j,hT,tr,-⟩:=hO.yM rfl qA;have fx:=t51;refine jC h0 (have h:=hO;qD.re h) (qa _) (hF:=λ_=>em gl DM (λ_=>zC) _ R 6 zE tr.len) (h:=?_);intro y H1 hw;clear fx;have hO1:=qD.qm (qD.ee (m:=m.top fs (f.cut (i+1))) (e:=6) (have h:=hO;qD.re h) rfl zE) hw;obtain⟨rfl,-⟩:=hw;refine fj ?_<|qd;refine qF [] .nil qE ⟨rT,qD.fin (have h:=hO1;qD.re h)⟩
  rw [if_neg (by simpa using hpi)];have hc8:=fg (p:=p) (b:=b);have hmd:=h.made;have hdp:=h.deep;have hnc:=h.nc;refine fj ?_<|qh t0 t1 t2 t7 p7 t9 p9 t28 hT hRl r0 r0E<|jS de r30E hFn hq hqE hjl hcd hcdl hcdE hpn<|hpi;intro K hK;refine kJ (λs=>s.tm 53=.pt Yn 0/\s.tm 55=iv b/\s.tm 57=.sl 1 (za cs)/\s.tm 58=.hs (.s 7) 2 0 i/\s.hp (.s 7)=some (.row 2 (zh (f.stack.drop (f.stack.length - i))))/\qD s.hp p (m.top fs (f.cut (i+1)))) ⟨qB,qB,qB,qB,by simp [p7],mW⟩ ?_;rintro s ⟨t53,t55,t57,t58,p7,hO⟩;refine FY 58 (.s 7) 2 i (zh (f.stack.drop (f.stack.length - i))) t58 p7 (by simp [hdl]) qBI ?_;have fx:=aI t53 (aI t55 t57);refine jC h0 (Ar hO) (qa _) (hF:=λhO=>Gz gl _ p (m.top fs (f.cut (i+1))) b cs (f.stack.drop (f.stack.length - i)) qy (by have:=hP.sh.len;omega) qA hk4 BW BX (by simp only [qR.top];omega) (by simp [qR.top];omega) (Uu hP hk1 qA) (by rw [hpn,hdl,hpi]) (h.J2 rfl) h.JX hO) (h:=?_);rintro y H1 hO1;clear fx;refine fj ?_<|qd;refine qF [] .nil qE ⟨by simp [DZ,qR.top,hm0],qD.fin (have h:=hO1;qD.re h)⟩
abbrev Ws:qV:=aK<|.done
abbrev Wt:qV:=ct<|.l 9 [4,3,2,1,0]<|.l 10 [0]<|.q 11<|.q 12<|.l 13 []<|.done
abbrev Wu:qV:=.q 0<|.q 2<|.l 1 [2]<|.l 3 []<|.done
theorem Qs (l:List qr):∃ (b:Nat->Bool) (x y:Nat->Int),jn l=[bv (b 0),iv (x 0),iv (y 0),bv (b 1),iv (x 1),iv (y 1),bv (b 2),iv (x 2),iv (y 2),bv (b 3),iv (x 3),iv (y 3),bv (b 4),iv (x 4),iv (y 4),bv (b 5),iv (x 5),iv (y 5),bv (b 6),iv (x 6),iv (y 6),bv (b 7),iv (x 7),iv (y 7)]:=by
 refine⟨λi=>(jW l i).isSome,λi=>((jW l i).getD (0,0)).1,λi=>((jW l i).getD (0,0)).2,?_⟩;have h:∀ i,jk (jW l i)=[bv (jW l i).isSome,iv ((jW l i).getD (0,0)).1,iv ((jW l i).getD (0,0)).2]:=λi=>by cases jW l i <;> rfl
 simp [jn,yx,oU,h]
theorem nD {A G G2:Prop} (k:G2) (x:A) (h:A->jL G2->G:=by
 intro fx kk;refine qK ?_
 repeat ((first|refine qQ (id:=2) Ws mixed ?_|refine qQ (id:=3) Wt mixed ?_|refine qQ (id:=7) Wu mixed ?_);refine zK ?_;refine qK ?_)
 exact kk.h):G:=h x ⟨k⟩
theorem OA (gl) (H:Nm->Option AO) (p:qC) (m:qR) (gs:List qO) (g0 f:qO) (v:qW) (hb:f.qG<p.length) (hfl:gs.length+1<=150) (hgl:g0.stack.length<=1000) (hcl:m.qT.length<=1000) (hO:qD H p (m.top (gs++[g0]) f)) :
  qZ prog gl 119 DM [.pt Yn 0,qW.av v] H (λ_ _ H'=>qD H' p (if j9 p f.qG=2 then yq { m with qT:=m.qT++[f.names] } (gs++[g0]) (3,m.qT.length) else yq m (gs++[g0]) v)) zG:=by
 obtain⟨v1,v2⟩:=v;have yh:(gs++[g0]).length=gs.length+1:=qB;have yoh:yo (gs.length+1)+29<=4411:=uu;refine qZ.q9 func119 [] ntmps119 (λ_=>zC) λC w g root hroot=>?_;refine qJ ?_<|qd;intro K hK;refine kJ (λs=>s.tm 5=.pt Yn 0/\s.tm 0=.pt Yn 0/\s.tm 3=.pt (.s 3) 0/\s.hp (.s 3)=some (.row 2 [[iv v1,iv v2]])/\qD s.hp p (m.top (gs++[g0]) f)) ⟨qB,qB,qB,qB,(qD.qv hO (f:=kl (.s 3)) (λk hk=>by simp [kl,(jg (λ_=>zC) hk 3).2]) (λk hk=>by have:=jg (λ_=>zC) hk 3;simp [this.1,this.2,hk]))⟩ ?_;rintro s ⟨t5,t0,t3,p3,hO1⟩;obtain⟨R,j,hT,tr,h2,h3,h28⟩:=hO1.yM rfl qA;have fx:=t5;refine jC hO (have h:=hO1;qD.re h) (qa _) (hF:=λ_=>DG gl DM (λ_=>zC) rfl _ R (gs++[g0]).length zE tr.h qA) (h:=?_);intro y H1 hw;clear fx;have hO2:=qD.Cg hO1 hw;obtain⟨rfl,-⟩:=hw;refine qJ ?_<|zD t0 t3 p3<|hT;refine uZ (λs=>s.tm 0=.pt Yn 0/\s.tm 3=.pt (.s 3) 0/\s.hp (.s 3)=some (.row 2 [[iv v1,iv v2]])/\s.tm 4=.pt Yn (yo (gs.length+1))/\qD s.hp p (m.top (gs++[g0]) f)) ⟨kr,cS,by simp [p3],zE,(have h:=hO2;qD.re h)⟩ ?_;have h0:=hO;clear hO hO1 hO2 hT tr h2 h3 h28 R j t5 t0 t3 p3;rintro s ⟨t0,t3,p3,t4,hO⟩;obtain⟨R,j,hT,tr,h2,h3,h28⟩:=hO.yM rfl qA;have hRl:=tr.len;have r0:=tr.r0;have f0:=tr.f0;have fu:=tr.fu;have tb:=tr.tb;rw [yh] at f0 tb;simp only [qR.top] at fu;obtain⟨_,r0E⟩:=gS r0;obtain⟨_,r31E⟩:=gS fu;obtain⟨f0l,f0E⟩:=gS f0
 have hcd:(jb p p.length)[f.qG]?=some (zO p f.qG):=B2;obtain⟨hcdl,hcdE⟩:=gS hcd;obtain⟨k,hk⟩:=gX hb;have hki:(zO p f.qG).kind=j9 p f.qG:=by simp [zO,j9,hk]
 by_cases hc:j9 p f.qG=2
 .have hcb:(j9 p f.qG==2)=true:=by simp [hc]
  have hcy:=hO.jA;simp only [qR.top] at hcy;obtain⟨b,x,y,hfx⟩:=Qs f.names;rw [hfx] at tb;have yob:yo (gs.length+1)+4+24<=4415:=qA;have hcl2:m.qT.length+1<=4294967296:=qA;have hwc:IntKind.i64.wrap (m.qT.length:Int)=m.qT.length:=qm qA qA;refine nD ?_<|qh t0 t3 p3 t4 hT hRl yoh yh r0 r0E f0 f0E<|qh f0l hcd hcdl hcdE hki hc hcb fu r31E tb hcy hcl<|aI yob<|hwc;intro K hK;have hcap:kv m.qT++[[bv (b 0),iv (x 0),iv (y 0),bv (b 1),iv (x 1),iv (y 1),bv (b 2),iv (x 2),iv (y 2),bv (b 3),iv (x 3),iv (y 3),bv (b 4),iv (x 4),iv (y 4),bv (b 5),iv (x 5),iv (y 5),bv (b 6),iv (x 6),iv (y 6),bv (b 7),iv (x 7),iv (y 7)]]=kv (m.qT++[f.names]):=by rw [<- hfx];exact QO
  let R1:List AV:=(R.map (AV.tr (mv (.s 29) (.c Yn 0 31))∘AV.tr (kl (.s 29))∘AV.tr (kl (.s 28)))).take 31++.hs (.c Yn 0 31) 24 0 (m.qT.length+1)::(R.map (AV.tr (mv (.s 29) (.c Yn 0 31))∘AV.tr (kl (.s 29))∘AV.tr (kl (.s 28)))).drop 32
  have hO1:qD (zP Yn (.row 4415 [R1]) (zP (.c Yn 0 31) (.row 24 (kv (m.qT++[f.names]))) s.hp)) p (({ m with qT:=m.qT++[f.names] }:qR).top (gs++[g0]) f):=by
   have h:=hO;rw [yh] at h2 h3 h28;exact qD.uC (f:=f) (g:=f) (fs:=gs++[g0]) h rfl rfl rfl (C4 hT (R':=R1) ra (λJ hJ e=>by simp only [R1];rw [e];simp only [mn];exact Rn (m.qT++[f.names]) hJ qB (λj hj=>by simp [hj]))) (h5:=ra) (h6t:=by simp [zP,h2]) (h7t:=by simp [zP,h3]) (h8t:=⟨j,by simp [zP,h28]⟩)
  refine kJ (λs=>s.tm 0=.pt Yn 0/\s.tm 42=.pt Yn 0/\s.tm 44=.pt Yn 4411/\s.tm 3=.pt (.s 3) 0/\s.hp (.s 3)=some (.row 2 [[iv 3,iv m.qT.length]])/\oG s.hp p { ({ m with qT:=m.qT++[f.names] }:qR) with qN:=gs++[g0] } (gs.length+2)) ⟨uv,uv,uv,cS,by simp [p3,hwc],?_⟩ ?_
  .have h:=hO1;have hR1:(zP Yn (.row 4415 [R1]) (zP (.c Yn 0 31) (.row 24 (kv (m.qT++[f.names]))) s.hp)) Yn=some (.row 4415 [R1]):=ra;rw [show gs.length+2=(gs++[g0]).length+1 by simp];refine qD.Iy (m:=({ m with qT:=m.qT++[f.names] }:qR).top (gs++[g0]) f) h rfl qA hR1 (vals:=[iv 0,iv 0,.hs (.c Yn 0 (yo (gs.length+1)+2)) 3 0 0,.hs (.c Yn 0 (yo (gs.length+1)+3)) 1 0 0]++(jn jR++[.hs (.c Yn 0 (yo (gs.length+1)+28)) 2 0 0])) (F:=λm=>((kl (.c Yn 0 (yo (gs.length+1)+2)) m).bind (kl (.c Yn 0 (yo (gs.length+1)+3)))).bind (kl (.c Yn 0 (yo (gs.length+1)+28)))) qB (λj h1 h2 h3=>by rw [yh] at h1 h2 h3;simp [kl,h1,h2,h3]) (h0:=?_) (h1:=by simp [hO.yn]) (h2:=oe) (h3:=rr) (h4:=rp) (h5:=by simp [<- hcap]) (h6:=D8) (h7:=D8) (h8:=D8) (h9:=by intro c s hc;simp [hO.cell c s hc]) (hA:=by intro k i j hk e hn;simpa [zP,hk,e] using hn);simp only [<- mn];simp [qp,yh,Bt,R1]
   rfl
  rintro s ⟨t0,t42,t44,t3,p3,hY⟩;obtain⟨R,hT,hRl,r4⟩:=hY.ht;obtain⟨_,r4E⟩:=gS r4;have hw1:IntKind.i64.wrap ((gs.length:Int)+2 - 1)=(gs.length:Int)+1:=tv;refine qJ ?_<|y8 t0 t42 t44 t3 p3 hT hRl r4 r4E<|hw1;refine uZ (λs=>s.tm 0=.pt Yn 0/\s.tm 3=.pt (.s 3) 0/\s.hp (.s 3)=some (.row 2 [[iv ((3,(m.qT.length:Int))).1,iv ((3,(m.qT.length:Int))).2]])/\qD s.hp p { ({ m with qT:=m.qT++[f.names] }:qR) with qN:=gs++[g0] }) ⟨uv,cS,by simp [p3],hY.done hT (by simp [qp,hw1]) (λq hq hn=>by simp [hn])⟩ ?_;clear hT hRl r4 r4E hY t0 t42 t44 t3 p3 s;rintro s ⟨t0,t3,p3,hO⟩;obtain⟨R,j,hT,tr,h2,h3,h28⟩:=qD.yM (f:=g0) hO rfl qA;refine nD ?_<|zD t0 t3 p3<|hT;intro K hK;have fx:=aI t0 (aI t3 p3);refine jC h0 (have h:=hO;qD.re h) (qa _) (hF:=λ_=>DG gl DM (λ_=>zC) rfl _ R gs.length zE tr.h qA) (h:=?_);intro y H1 hw;clear fx;have hO1:=qD.Cg dS hw;obtain⟨rfl,-⟩:=hw;refine nD ?_<|zD t0 t3 p3<|hT;obtain⟨R1,j1,hT1,tr1,h21,h31,h281⟩:=qD.yM (f:=g0) hO1 rfl qA;have yog:yo gs.length+29<=4415:=uu;have fx:=aI t0 (aI t3 (aI p3 hT));refine jC h0 (have h:=hO1;qD.re h) (qa _) (hF:=λ_=>dK gl DM (λ_=>zC) _ R1 (yo gs.length) g0.stack j1 (3,(m.qT.length:Int)) rfl rfl cM tr1.f28 rS hgl yog) (h:=?_);intro y2 H2 hw2;clear fx;have hO2:=qD.cp (f:=g0) (by exact (have h:=hO1;qD.re h)) rfl qA rfl cM hw2;refine nD ?_<|zN t0 t3 p3 hT<|hT1
  refine yb [] .nil qE ?_;rw [if_pos hc];exact qD.fin IH
 .have hc':(j9 p f.qG==2)=false:=by simpa using hc
  refine nD ?_<|qh t0 t3 p3 t4 hT hRl yoh yh r0 r0E f0 f0E<|jH f0l hcd hcdl hcdE hki<|hc';intro K hK;refine kJ (λs=>s.tm 0=.pt Yn 0/\s.tm 42=.pt Yn 0/\s.tm 44=.pt Yn 4411/\s.tm 3=.pt (.s 3) 0/\s.hp (.s 3)=some (.row 2 [[iv ((v1,v2)).1,iv ((v1,v2)).2]])/\oG s.hp p { m with qN:=gs++[g0] } (gs.length+2)) ⟨uv,uv,uv,cS,by simp [p3],?_⟩ ?_
  .have hm':(m.top (gs++[g0]) f).qN=(gs++[g0])++[f]:=rfl;have h:=hO;rw [show gs.length+2=(gs++[g0]).length+1 by simp];refine qD.Iy (m:=m.top (gs++[g0]) f) h hm' qA hT (vals:=[iv 0,iv 0,.hs (.c Yn 0 (yo (gs.length+1)+2)) 3 0 0,.hs (.c Yn 0 (yo (gs.length+1)+3)) 1 0 0]++(jn jR++[.hs (.c Yn 0 (yo (gs.length+1)+28)) 2 0 0])) (F:=λm=>((kl (.c Yn 0 (yo (gs.length+1)+2)) m).bind (kl (.c Yn 0 (yo (gs.length+1)+3)))).bind (kl (.c Yn 0 (yo (gs.length+1)+28)))) qB (λj h1 h2 h3=>by rw [yh] at h1 h2 h3;simp [kl,h1,h2,h3]) (h0:=?_) (h6:=Dt) (h7:=Dt) (h8:=Dt);simp only [<- mn];simp [qp,yh,Bt]
  rintro s ⟨t0,t42,t44,t3,p3,hY⟩;obtain⟨R,hT,hRl,r4⟩:=hY.ht;obtain⟨_,r4E⟩:=gS r4;have hw1:IntKind.i64.wrap ((gs.length:Int)+2 - 1)=(gs.length:Int)+1:=tv;refine qJ ?_<|y8 t0 t42 t44 t3 p3 hT hRl r4 r4E<|hw1;refine uZ (λs=>s.tm 0=.pt Yn 0/\s.tm 3=.pt (.s 3) 0/\s.hp (.s 3)=some (.row 2 [[iv ((v1,v2)).1,iv ((v1,v2)).2]])/\qD s.hp p { m with qN:=gs++[g0] }) ⟨uv,cS,by simp [p3],hY.done hT (by simp [qp,hw1]) (λq hq hn=>by simp [hn])⟩ ?_;clear hT hRl r4 r4E hY t0 t42 t44 t3 p3 s;rintro s ⟨t0,t3,p3,hO⟩;obtain⟨R,j,hT,tr,h2,h3,h28⟩:=qD.yM (f:=g0) hO rfl qA;refine nD ?_<|zD t0 t3 p3<|hT;intro K hK;have fx:=aI t0 (aI t3 p3);refine jC h0 (have h:=hO;qD.re h) (qa _) (hF:=λ_=>DG gl DM (λ_=>zC) rfl _ R gs.length zE tr.h qA) (h:=?_);intro y H1 hw;clear fx;have hO1:=qD.Cg dS hw;obtain⟨rfl,-⟩:=hw;refine nD ?_<|zD t0 t3 p3<|hT;obtain⟨R1,j1,hT1,tr1,h21,h31,h281⟩:=qD.yM (f:=g0) hO1 rfl qA;have yog:yo gs.length+29<=4415:=uu;have fx:=aI t0 (aI t3 (aI p3 hT));refine jC h0 (have h:=hO1;qD.re h) (qa _) (hF:=λ_=>dK gl DM (λ_=>zC) _ R1 (yo gs.length) g0.stack j1 (v1,v2) rfl rfl cM tr1.f28 rS hgl yog) (h:=?_);intro y2 H2 hw2;clear fx;have hO2:=qD.cp (f:=g0) (by exact (have h:=hO1;qD.re h)) rfl qA rfl cM hw2;refine nD ?_<|zN t0 t3 p3 hT<|hT1;refine yb [] .nil qE ?_;rw [if_neg hc];exact qD.fin IH
end Go.Proofs.YtjgpejikjhojcaaGreatDoor
end
