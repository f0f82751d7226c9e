import Derived.Test.YtjgpejikjhojcaaGreatDoorD38
set_option linter.all false
set_option maxRecDepth 100000
set_option maxHeartbeats 4000000
open Option renaming some->Z,none->Y
open Bool renaming true->B,false->M
open List renaming length->O

section
namespace Go.Proofs.YtjgpejikjhojcaaGreatDoor
open Go Go.Hm Go.Proofs Tryz
variable{A G G2:Prop}
abbrev Z5:qV:=ba<|.l 7 []<|.done
abbrev Z6:qV:=.q 0<|.q 1<|.q 2<|.q 3<|.q 4<|.q 6<|.l 5 [6,1,0]<|.q 7<|.l 8 []<|.done
abbrev Z7:qV:=eG<|.l 9 []<|.done
abbrev Z8:qV:=eG<|.l 9 [0]<|.q 10<|.q 11<|.l 12 []<|.done
abbrev Z9:qV:=Bq<|.l 10 []<|.done
def oI(p:qC)(b:Nat)(vs:List q8):List qr:=match(zQ p b).params,vs with
 |[x],[v]=>if x∈zB p b then(List.replicate (O (zB p b)) Y).set (yz (zB p b) x).toNat (Z v)else List.replicate (O (zB p b)) Y
 |_,_=>List.replicate (O (zB p b)) Y
def oH(p:qC)(m:qR)(b:Nat)(vs:List q8):List qr:=match(zQ p b).params,vs with
 |[x],[v]=>if x∈zB p b then m.cells++List.replicate (O (qa p b)) Y else(m.cells++List.replicate (O (qa p b)) Y).set (O m.cells+(yz (qa p b) x).toNat) (Z v)
 |_,_=>m.cells++List.replicate (O (qa p b)) Y
structure CQ(s:St)(p:qC)(m:qR)(b:Nat)(cs:List Nat)(vs:List q8)(n:Nat)(fa C:List qr):Prop where
 t0:s.tm 0=.pt Yn 0
 t2:s.tm 2=.sl 1 (zd cs)
 t3:s.tm 3=.sl 2 (zm vs)
 t8:s.tm 8=.pt (.s 8) 0
 p8:s.hp (.s 8)=Z (.row 6 [(zQ p b).row])
 t9:s.tm 9=.pt (.s 9) 0
 p9:s.hp (.s 9)=Z (.row 29 [[iv b,iv 0,.hs (.c (.s 9) 0 2) 3 0 (O (zB p b)),.hs (.c (.s 9) 0 3) 1 0 n,bv M,iv 0,iv 0,bv M,iv 0,iv 0,bv M,iv 0,iv 0,bv M,iv 0,iv 0,bv M,iv 0,iv 0,bv M,iv 0,iv 0,bv M,iv 0,iv 0,bv M,iv 0,iv 0,.hs (.c (.s 9) 0 28) 2 0 0]])
 aB:s.hp (.c (.s 9) 0 2)=Z (.row 3 (zD fa))
 wD:s.hp (.c (.s 9) 0 3)=Z (.row 1 (zd ((List.range n).map (O m.cells+·))))
 aC:s.hp (.c (.s 9) 0 28)=Z (.row 2 [])
 own:jq s.hp p m C
def rr(k:G2)(x:A)(h:A->jH G2->G:=by
 intro fx kk;refine qK ?_
 repeat((first|refine qP (id:=12) Z5 mixed ?_|refine qP (id:=13) Z6 mixed ?_|refine qP (id:=16) Z7 mixed ?_|refine qP (id:=19) Z8 mixed ?_|refine qP (id:=20) Z9 mixed ?_);refine zC ?_;refine qK ?_)
 exact kk.h):G:=h x ⟨k⟩
def JA(gl)(H:Nm->Option AO)(p:qC)(m:qR)(b:Nat)(cs:List Nat)(vs:List q8)(hb:b<O p)(hp7:O p<=7)(hcs:O cs<=8)(hcr:∀c∈cs,c<O m.cells)(hcl:O m.cells<=2000)(hmd:m.made<=1000)(hdp:m.deep<=1000)(hfl:O m.qN<=150)(hpar:(zQ p b).params=[]\/∃x,(zQ p b).params=[x]/\((x∈zB p b/\x∉qa p b)\/(x∉zB p b/\x∈qa p b)))(hvs:O vs=O (zQ p b).params)(hfr:∀f∈m.qN,∀c∈f.cells,c<O m.cells)(hfn:∀g∈m.qI,∀c∈g.2,c<O m.cells)(hO:qF H p m):
  qX prog gl 116 DM [.pt Yn 0,iv b,.sl 1 (zd cs),.sl 2 (zm vs)] H (λ_ _ H'=>qF H' p (yG p m b cs vs)) qw:=by
 have hOc:=hO.yc
 obtain⟨R,hT,hRl,r0⟩:∃R,H Yn=Z (.row 4415 [R])/\O R=4415/\R[0]?=Z (kS (jo p (O p))):=by
  obtain⟨J,hJ,e,_⟩:=hOc;exact⟨_,e,pW (bI hJ),Py⟩
 obtain⟨r0l,r0E⟩:=gS r0;obtain⟨kk,hk⟩:=gX hb;have hcd:(jo p (O p))[b]?=Z (zQ p b):=Ce;obtain⟨hcdl,hcdE⟩:=gS hcd;have hcf:(zQ p b).qt=zB p b:=gz;have hcc:(zQ p b).cells=qa p b:=gz;have hf8:=rf (p:=p) (b:=b);have hc8:=da (p:=p) (b:=b);refine qX.q9 func116 [] ntmps116 (λ_=>zF) λC w g root hroot=>?_;refine qH ?_<|jU hT hRl r0 r0E hcd hcdl hcdE hcf hcc hf8<|hc8;have hrp:List.replicate (O (zB p b)) [bv M,iv 0,iv 0]=zD (List.replicate (O (zB p b)) Y):=oM
 have hun:∀k i j,DM k=B->Nm.under (.c (.s 9) i j) k=M:=λk i j hk=>by
  cases h:Nm.under (.c (.s 9) i j) k with
  |false=>rfl
  |true=>have:=(Nm.E8 h).1;rw[(jp (λ_=>zF) hk 9).2]at this;cases this
 refine zK (λn s=>∃i:Nat,n=O (qa p b)-i/\i<=O (qa p b)/\CQ s p m b cs vs i (List.replicate (O (zB p b)) Y) (m.cells++List.replicate i Y)/\s.tm 29=iv (O (qa p b))/\s.tm 30=iv i) (O (qa p b)) ?_ ?_
 .refine⟨0,qA,qA,⟨qB,qB,qB,qB,by simp[hcf,hcc],qB,qB,by simp[hrp],rI,qB,?_⟩,qB,qB⟩;rw[List.replicate_zero,mK];have hst:jq (w4 [.pt Yn 0,iv b,.sl 1 (zd cs),.sl 2 (zm vs)] H 125 gl).hp p m m.cells:=hOc.qy (F:=Z) (λ_ _=>rfl) λk hk=>by cases h:H k<;>simp[h,AO.uO]
  exact(by repeat(first|(with_reducible exact hst)|refine JB ?_|refine QJ cj ?_|refine QH cj ?_|refine QI cj cj ?_|refine QF cj ?_|exact hst))
 clear hT hRl r0E r0l r0 R;rintro n s - - ⟨i,rfl,hi,hB,t29,t30⟩;have t0:=hB.t0;have t2:=hB.t2;have t3:=hB.t3;have t8:=hB.t8;have p8:=hB.p8;have t9:=hB.t9;have p9:=hB.p9;have aB:=hB.aB;have wD:=hB.wD;have aC:=hB.aC;by_cases hil:i<O (qa p b)
 .have hil1:O ((List.range i).map (O m.cells+·))=i:=qB;have hi8:i<=8:=qA;have hu:(jt prog C w g H 125 gl).ext (.u 7 (O m.cells+i) 0)=M:=by simp[jt,hO.free (c:=O m.cells+i) qA]
  refine rr ?_<|qg t0 t2 t3 t8 p8 t9 p9 aB aC t29 t30 hil<|aI hil1<|hi8;intro K hK;refine kU (.c (.s 36) 0 0) (.u 7 (O m.cells+i) 0) (.inl rfl) (.inr hu) ?_;have hCl:O (m.cells++List.replicate i Y)=O m.cells+i:=qB
  have hrl:∀F:Nm->Option Nm,(∀c,c<O m.cells+i->F (En c)=Z (En c))->(zd ((List.range i).map (O m.cells+·))).map (λr=>r.map (AV.tr F))=zd ((List.range i).map (O m.cells+·)):=λF hF=>xF λc hc=>by
   simp only[wi,ix]at hc;obtain⟨a,ha,rfl⟩:=hc;exact hF _ qA
  have jP:∀c,c<O m.cells+i->mv (.c (.s 36) 0 0) (.u 7 (O m.cells+i) 0) (En c)=Z (En c):=λc hc=>by simp[mv,sd hc]
  have hcsF:(zd cs).map (λr=>r.map (AV.tr (mv (.c (.s 36) 0 0) (.u 7 (O m.cells+i) 0))))=zd cs:=xF λc hc=>jP c (by have:=hcr c hc;omega);have hOB:=hB.own;refine uM (λs=>s.tm 33=.hs (.c (.s 9) 0 3) 1 0 i/\s.tm 36=.hs (.s 36) 1 0 1/\s.hp (.s 36)=Z (.row 1 [[.pt (.u 7 (O m.cells+i) 0) 0]])/\CQ s p m b cs vs i (List.replicate (O (zB p b)) Y) (m.cells++List.replicate (i+1) Y)/\s.tm 29=iv (O (qa p b))/\s.tm 30=iv i) ⟨qB,qB,qB,⟨ku,by simp[t2,hcsF],cg,iD,rR,oR,by simp[p9],tj,by simp[wD,hrl _ jP],ta,?_⟩,by simp[t29],by simp[t30]⟩ ?_
  .rw [List.replicate_succ',<- gm];exact jq.Qn (n0:=.c (.s 36) 0 0) (s:=Y) qB rfl tp qB (λf hf c hc=>by have:=hfr f hf c hc;simp;omega) (λg hg c hc=>by have:=hfn g hg c hc;simp;omega)
  clear t0 t2 t3 t8 p8 t9 p9 aB wD aC t29 t30 hB hOB;rintro s ⟨t33,t36,p36,hB,t29,t30⟩;have t0:=hB.t0;have t2:=hB.t2;have t3:=hB.t3;have t8:=hB.t8;have p8:=hB.p8;have t9:=hB.t9;have p9:=hB.p9;have aB:=hB.aB;have wD:=hB.wD;have aC:=hB.aC;have hOB:=hB.own;refine rr ?_<|qg t0 t2 t3 t8 p8 t9 p9 aB wD aC t29 t30<|zx t33 t36 p36 hil hil1<|hi8;have hap:zd ((List.range i).map (O m.cells+·))++[[.pt (.u 7 (O m.cells+i) 0) 0]]=zd ((List.range (i+1)).map (O m.cells+·)):=by simp[zd,rC,uH]
  have htt:((List.range i).map (O m.cells+·)).take i=(List.range i).map (O m.cells+·):=jg qB;refine⟨O (qa p b)-(i+1),qA,i+1,rfl,qA,⟨ku,kx,cg,iD,rR,oR,qB,tj,by simp[<- hap,htt],ta,tp⟩,by simp[t29],by simp[t30];exact qk qA qA⟩
 .obtain rfl:i=O (qa p b):=qA;have hOB:=hB.own;refine qH ?_<|jU t0 t2 t3 t8 p8 t9 p9 aB wD aC<|aI t29<|t30;refine uR (λs=>CQ s p m b cs vs (O (qa p b)) (List.replicate (O (zB p b)) Y) (m.cells++List.replicate (O (qa p b)) Y)/\s.tm 41=jO (zQ p b).params/\s.tm 42=iv (O (zQ p b).params)/\s.tm 43=iv 0) ⟨⟨ku,kx,cg,iD,rR,oR,by simp[p9],tj,by simp[wD],ta,tp⟩,qB,qB,qB⟩ ?_;clear t0 t2 t3 t8 p8 t9 p9 aB wD aC t29 t30 hB hOB;rintro s ⟨hB,t41,t42,t43⟩;refine zK (λn s=>∃(i:Nat)(fa C:List qr),n=O (zQ p b).params-i/\i<=O (zQ p b).params/\CQ s p m b cs vs (O (qa p b)) fa C/\O fa=O (zB p b)/\O C=O m.cells+O (qa p b)/\(i=0->fa=List.replicate (O (zB p b)) Y/\C=m.cells++List.replicate (O (qa p b)) Y)/\(i=O (zQ p b).params->fa=oI p b vs/\C=oH p m b vs)/\s.tm 41=jO (zQ p b).params/\s.tm 42=iv (O (zQ p b).params)/\s.tm 43=iv i) (O (zQ p b).params) ?_ ?_
  .exact⟨0,_,_,qA,qA,hB,qB,qB,λ_=>⟨rfl,rfl⟩,λh=>by have h1:=bN h.symm;simp[oI,oH,h1],t41,t42,t43⟩
  clear t41 t42 t43 hB;rintro n s - - ⟨i,fa,C,rfl,hi,hB,hfa,hC,hi0,hi1,t41,t42,t43⟩;have t0:=hB.t0;have t2:=hB.t2;have t3:=hB.t3;have t8:=hB.t8;have p8:=hB.p8;have t9:=hB.t9;have p9:=hB.p9;have aB:=hB.aB;have wD:=hB.wD;have aC:=hB.aC;have hOB:=hB.own;by_cases hil:i<O (zQ p b).params
  .obtain⟨x,hx,hx2⟩:∃x,(zQ p b).params=[x]/\((x∈zB p b/\x∉qa p b)\/(x∉zB p b/\x∈qa p b)):=by
    rcases hpar with h|h
    .rw [h]at hil;simp at hil
    .exact h
   have hl1:O (zQ p b).params=1:=by rw[hx];rfl
   obtain rfl:i=0:=qA;obtain⟨rfl,rfl⟩:=hi0 rfl;obtain⟨v,rfl⟩:∃v,vs=[v]:=CZ.1 (by rw[hvs,hl1]);obtain⟨v1,v2⟩:=v;rw[hx]at t41 t42;have hpc:=xk gl (qa p b) x qA;have hpf:=xk gl (zB p b) x qA;rcases hx2 with⟨hxf,hxc⟩|⟨hxf,hxc⟩
   .obtain⟨q,hq,hql,-⟩:=pD hxf
    have hpn:yz (qa p b) x=-1:=by
     have h1:=EB (xs:=qa p b) (x:=x);have h2:¬0<=yz (qa p b) x:=λh=>hxc (nD.1 h);omega
    rw[hpn]at hpc;rw[hq]at hpf;have hqi:(q:Int)<O (zB p b):=qA;have fx:=qg t0 t2 t3 t8 p8 t9 p9 aB wD aC t41 t42<|zJ t43 hcc hcf hql<|hqi;have c1:=hpc;have c2:=hpf;refine rr ?_<|@fx;clear fx c1 c2;have hfF:oI p b [(v1,v2)]=(List.replicate (O (zB p b)) Y).set q (Z (v1,v2)):=by simp[oI,hx,hxf,hq]
    have hfC:oH p m b [(v1,v2)]=m.cells++List.replicate (O (qa p b)) Y:=by simp[oH,hx,hxf]
    exact⟨0,qA,1,(List.replicate (O (zB p b)) Y).set q (Z (v1,v2)),m.cells++List.replicate (O (qa p b)) Y,qA,qA,⟨ku,kx,cg,iD,rR,oR,by simp[p9],tj,by simp[wD],ta,tp⟩,qB,qB,λh=>qA,λ_=>⟨hfF.symm,hfC.symm⟩,by simp[t41,hx],by simp[t42,hx],by simp[t43];rfl⟩
   .obtain⟨q,hq,hql,-⟩:=pD hxc;rw[hq]at hpc;have hqi:(q:Int)<O (qa p b):=qA;have hqn:((q:Int) == -1)=M:=kQ;have hcl2:O m.cells+q<O (m.cells++List.replicate (O (qa p b)) Y):=qp;have e9:O m.cells+q-O m.cells=q:=qA
    have hcq:(m.cells++List.replicate (O (qa p b)) Y)[O m.cells+q]?=Z (Y:qr):=by
     rw[bn qA,e9];simp[hql]
    have hE:s.hp (.u 7 (O m.cells+q) 0)=Z (.row 3 [[bv M,iv 0,iv 0]]):=by
     obtain⟨J,hJ,e,hOw⟩:=hOB;have:=hOw.cell (O m.cells+q) Y hcq
     simpa[zR]using this
    have her:(zd ((List.range (O (qa p b))).map (O m.cells+·)))[q]?=Z [.pt (.u 7 (O m.cells+q) 0) 0]:=by rw[LC];simp[hql,uH]
    obtain⟨herl,herE⟩:=gS her;have fx:=qg t0 t2 t3 t8 p8 t9 p9 aB wD aC t41 t42<|jU t43 hcc hcf hql hqi hqn @zA hE her herE<|herl;have c1:=hpc;refine rr ?_<|@fx;clear fx c1;have hfF:oI p b [(v1,v2)]=List.replicate (O (zB p b)) Y:=by simp[oI,hx,hxf]
    have hfC:oH p m b [(v1,v2)]=(m.cells++List.replicate (O (qa p b)) Y).set (O m.cells+q) (Z (v1,v2)):=by simp[oH,hx,hxf,hq]
    refine⟨0,qA,1,List.replicate (O (zB p b)) Y,(m.cells++List.replicate (O (qa p b)) Y).set (O m.cells+q) (Z (v1,v2)),qA,qA,⟨ku,kx,cg,iD,rR,oR,by simp[p9],tj,by simp[wD],ta,?_⟩,qB,qB,λh=>qA,λ_=>⟨hfF.symm,hfC.symm⟩,by simp[t41,hx],by simp[t42,hx],by simp[t43];rfl⟩
    repeat(refine JB ?_)
    exact qEr (Z (v1,v2)) hcl2 tp
  .obtain rfl:i=O (zQ p b).params:=qA;have hil1:O ((List.range (O (qa p b))).map (O m.cells+·))=O (qa p b):=qB;have hsum:O (qa p b)+O cs<=16:=qA;have htt:((List.range (O (qa p b))).map (O m.cells+·)).take (O (qa p b))=(List.range (O (qa p b))).map (O m.cells+·):=jg qB;refine qH ?_<|qg t0 t2 t3 t8 p8 t9 p9 aB wD aC t41 t42<|qz t43 hil1 hsum<|hcs;refine uR (λs=>s.tm 0=.pt Yn 0/\s.tm 8=.pt (.s 8) 0/\s.hp (.s 8)=Z (.row 6 [(zQ p b).row])/\s.tm 9=.pt (.s 9) 0/\s.hp (.s 9)=Z (.row 29 [[iv b,iv 0,.hs (.c (.s 9) 0 2) 3 0 (O (zB p b)),.hs (.c (.s 9) 0 3) 1 0 (O (qa p b)+O cs),bv M,iv 0,iv 0,bv M,iv 0,iv 0,bv M,iv 0,iv 0,bv M,iv 0,iv 0,bv M,iv 0,iv 0,bv M,iv 0,iv 0,bv M,iv 0,iv 0,bv M,iv 0,iv 0,.hs (.c (.s 9) 0 28) 2 0 0]])/\s.hp (.c (.s 9) 0 2)=Z (.row 3 (zD fa))/\s.hp (.c (.s 9) 0 3)=Z (.row 1 (zd ((List.range (O (qa p b))).map (O m.cells+·)++cs)))/\s.hp (.c (.s 9) 0 28)=Z (.row 2 [])/\jq s.hp p m C) ⟨ku,iD,rR,oR,qB,tj,by simp[htt,<- TE],ta,tp⟩ ?_;clear t0 t2 t3 t8 p8 t9 p9 aB wD aC hOB t41 t42 t43 hB;rintro s ⟨t0,t8,p8,t9,p9,aB,wD,aC,hOB⟩
   obtain⟨R,hT,hRl,r4⟩:∃R,s.hp Yn=Z (.row 4415 [R])/\O R=4415/\R[4411]?=Z (iv (O m.qN)):=by
    obtain⟨J,hJ,e,_⟩:=hOB;exact⟨_,e,pW (bI hJ),Ej (bI hJ)⟩
   obtain⟨_,r4E⟩:=gS r4;have hfl2:(O m.qN:Int)<151:=qA;have hfl3:(0:Int)<=(O m.qN:Int):=qA;have hfl4:32+O m.qN*29+29<=4415:=qA;refine lv (.c (.s 9) 0 2) (.s 20) (.inl rfl) (.inl rfl) (lv (.c (.s 9) 0 3) (.s 21) (.inl rfl) (.inl rfl) (lv (.c (.s 9) 0 28) (.s 22) (.inl rfl) (.inl rfl) ?_));refine rr ?_<|qg t0 t8 p8 t9 p9 aB wD aC hT hRl r4 r4E<|ql hfl2 hfl3<|hfl4;intro K hK;have hmc:O m.qN*29=29*O m.qN:=pz _ _;obtain⟨M',hM⟩:∃M':qR,M'={m with cells:=C,made:=m.made+1,deep:=max m.deep (O m.qN+1),qN:=m.qN++[⟨b,0,fa,(List.range (O (qa p b))).map (O m.cells+·)++cs,jZ,[]⟩]}:=⟨_,rfl⟩;refine uM (λs=>s.tm 0=.pt Yn 0/\s.tm 89=.pt Yn 0/\s.tm 91=.pt Yn 4411/\s.tm 8=.pt (.s 8) 0/\s.hp (.s 8)=Z (.row 6 [(zQ p b).row])/\ip s.hp p m M' (O m.qN)) ⟨ku,qB,qB,iD,rR,?_⟩ ?_
   .rw [hM];simp only[hmc];have h:=hOB;refine jq.RW (g:=⟨b,0,fa,(List.range (O (qa p b))).map (O m.cells+·)++cs,jZ,[]⟩) h qA hT (F:=λq=>(((((mv (.c (.s 9) 0 2) (.s 20) q).bind (mv (.c (.s 9) 0 3) (.s 21))).bind (mv (.c (.s 9) 0 28) (.s 22))).bind (mv (.s 20) (.c Yn 0 (yo (O m.qN)+2)))).bind (mv (.s 21) (.c Yn 0 (yo (O m.qN)+3)))).bind (mv (.s 22) (.c Yn 0 (yo (O m.qN)+28)))) (λj h1 h2 h3=>by simp[mv,h1,h2,h3]) (h0:=?_) (h6t:=?_) (h7t:=?_) (h8t:=?_)
    .simp only[<- o8];simp[qq,ym,DY,hfa]
    .simp [aB]
    .simp [wD]
    .simp [aC]
   have hbg:yG p m b cs vs=M':=by
    obtain⟨e1,e2⟩:=hi1 rfl;rw[hM,e1,e2];rcases hpar with h|⟨x,hx,hx2⟩
    .simp [yG,oI,oH,h]
    .obtain⟨v,rfl⟩:∃v,vs=[v]:=CZ.1 (by rw[hvs,hx];rfl);rcases hx2 with⟨h1,h2⟩|⟨h1,h2⟩<;>simp[yG,oI,oH,hx,h1]
   have hMc:M'.cells=C:=by rw[hM]
   have hMl:O M'.qN=O m.qN+1:=by rw[hM];simp
   have hMr:∀(h:Nat)(c:Nat->List AV),qj p {m with made:=m.made+1,deep:=max m.deep (O m.qN+1),cells:=C} h c=qj p M' h c:=λh c=>by rw[hM];rfl
   clear hM;have hw1:IntKind.i64.wrap ((O m.qN:Int)+1)=((O m.qN+1:Nat):Int):=qk qA qA;have hw2:IntKind.i64.wrap ((m.made:Int)+1)=((m.made+1:Nat):Int):=qk qA qA;have hw3:IntKind.i64.wrap ((O m.cells:Int)+(O (qa p b):Int))=((O C:Nat):Int):=by rw[hC,qk qA qA];omega
   clear t0 t8 p8 t9 p9 aB wD aC hOB hT r4 r4E hRl;rintro s ⟨t0,t89,t91,t8,p8,hY⟩;obtain⟨R,hT,hRl,r4,r2,r3,r1⟩:=hY.row;obtain⟨_,r4E⟩:=gS r4;obtain⟨_,r3E⟩:=gS r3;obtain⟨_,r2E⟩:=gS r2;obtain⟨_,r1E⟩:=gS r1;refine rr ?_<|qg t0 t89 t91 t8 p8 hT hRl r4 r4E r3 r3E r2<|ql r2E hw1<|hw2;intro K hK;have fx:=aI t0 (aI t8 (aI p8 (aI hT (aI hRl (aI r4 (aI r4E (aI r2 r2E)))))));refine Pv (i:=(m.deep:Int)) (j:=(O m.qN:Int)+1) ((max m.deep (O m.qN+1):Nat):Int) qA (h:=?_);clear fx;refine rr ?_<|qg t0 t8 p8 hT hRl r4 r4E r3 r3E r2 r2E r1<|zJ r1E hcc hw1 hw2<|hw3;refine yu [] .nil qD (qF.fin ?_);have h1:=hY.set (hp':=zR Yn (.row 4415 [qq R 4411 [iv (O m.qN+1:Nat)]]) s.hp) hT rfl (λJ hJ=>QD hJ) (λq hq hn=>by simp[zR,hn]);have h2:=h1.set (hp':=zR Yn (.row 4415 [qq (qq R 4411 [iv (O m.qN+1:Nat)]) 4413 [iv (m.made+1:Nat)]]) s.hp) rfl rfl (λJ hJ=>qEo hJ) (λq hq hn=>by simp[zR,hn]);have h3:=h2.set (hp':=zR Yn (.row 4415 [qq (qq (qq R 4411 [iv (O m.qN+1:Nat)]) 4413 [iv (m.made+1:Nat)]) 4412 [iv (max m.deep (O m.qN+1):Nat)]]) s.hp) rfl rfl (λJ hJ=>qEm hJ) (λq hq hn=>by simp[zR,hn]);rw[hbg];refine ip.done (m:={m with made:=m.made+1,deep:=max m.deep (O m.qN+1),cells:=C}) (h:=O m.qN+1) ?_ λJ=>by rw[hMr,hMl]
   refine h3.set rfl (k:=4414) (v:=iv (O C:Nat)) ?_ (λJ hJ=>qEl hJ) (λq hq hn=>by simp[zR,hn]);simp[qq,hRl,lA,AU]
abbrev Za:qV:=bB<|.l 8 [7,6,5,4,3,2,1,0]<|.l 9 []<|.done
abbrev Zb:qV:=ax<|.done
def iO(k:G2)(x:A)(h:A->jH G2->G:=by
 intro fx kk;refine qK ?_
 repeat((first|refine qP (id:=9) Za mixed ?_|refine qP (id:=10) Zb mixed ?_);refine zC ?_;refine qK ?_)
 exact kk.h):G:=h x ⟨k⟩
theorem qEs(gl)(H:Nm->Option AO)(p:qC)(m:qR)(fs:List qO)(f:qO)(n pc0:Nat)(hP:zi p)(h:yf p m fs {f with pc:=pc0})(hn1:n<=1)(hst:n+1<=O f.stack)(hsl:O f.stack<=1000)(hfl:O fs+1<=150)(hm0:m.en=0)(hO:qF H p (m.top fs f)):
  qX prog gl 213 DM [.pt Yn 0,.pt Yn (yo (O fs)),iv n] H (λ_ y H'=>y=bv (decide ((ck p m fs f (17,(n:Int))).en=0))/\qF H' p (ck p m fs f (17,(n:Int)))) qw:=by
 have h0:=hO;have hcm:=K4 (p:=p) (m:=m) (fs:=fs) hst;have hnw:IntKind.i64.wrap ((n:Int)-1)=(n:Int)-1:=qk qA qA;have yoh:yo (O fs)+29<=4415:=kP;have hrp:List.replicate n [iv 0,iv 0]=zm (List.replicate n (0,0)):=oO;refine qX.q9 func213 [.tmp 6] ntmps213 (λ_=>zF) λC w g root hroot=>?_;refine iO ?_<|aI hnw<|hn1;refine zK (λk s=>∃i:Nat,k=n-i/\i<=n/\s.tm 0=.pt Yn 0/\s.tm 1=.pt Yn (yo (O fs))/\s.tm 2=iv n/\s.tm 7=.hs (.s 7) 2 0 n/\s.hp (.s 7)=Z (.row 2 (zm (List.replicate (n-i) (0,0)++f.stack.drop (O f.stack-i))))/\s.tm 8=iv ((n:Int)-1-i)/\qF s.hp p (m.top fs (f.cut i))) n ?_ ?_
 .exact⟨0,qA,qA,qB,qB,qB,qB,by simp[hrp],qB,by rw[Kr];exact oV⟩
 clear hO;rintro k s - - ⟨i,rfl,hi,t0,t1,t2,t7,p7,t8,hO⟩;have hk:=Kq (f:=f) (i:=i) qA;obtain⟨R,j,hT,tr,h2,h3,h28⟩:=hO.yX rfl qA;have f28:=tr.f28;rw[hk]at f28;by_cases hil:i<n
 .obtain rfl:n=1:=qA;obtain rfl:i=0:=qA;refine iO ?_<|zx t0 t1 t2 t7 p7<|t8;intro K hK;have fx:=aI t0 (aI t1 (aI t7 p7));refine jI h0 (have h:=hO;qF.re h) (qb _) (hF:=λ_=>nj gl DM (λ_=>zF) _ R (yo (O fs)) (O f.stack-(0+1)) ((f.cut 0).stack++j) (f.cut 0).zE zG f28 kX (ib hk) qA yoh) (h:=?_);intro y H1 hw;clear fx;have hO1:=qF.qk (qF.eC (m:=m.top fs (f.cut 0)) (have h:=hO;qF.re h) rfl qA zG hk) hw;obtain⟨rfl,-⟩:=hw;have hO2:qF H1 p (m.top fs (f.cut 1)):=by have e:=DQ (f:=f) (i:=0) qA;simpa[qR.top,e]using hO1
  have hdv:=Kp (f:=f) (i:=0) qA;generalize (f.cut 0).zE=v at *;obtain⟨v1,v2⟩:=v;refine iO ?_<|zy t0 t1 t2 t7 p7 t8<|hT;have hap:f.stack.drop (O f.stack-1)=[(v1,v2)]:=by rw[hdv];simp
  exact⟨0,qA,1,rfl,qA,wP,by simp[t1,hT],kx,by simp[t7],by simp[hap,zm],by simp;decide,Ab⟩
 .obtain rfl:i=n:=qA;have hdl:O (f.stack.drop (O f.stack-i))=i:=qp;have htm:=h.top.sv _ (gM (DR (f:=f) (i:=i) qA));rw[hcm];have hil:(i:Int)-1-i=-1:=qA;rw[Nat.sub_self,List.replicate_zero,s7]at p7;rw[hil]at t8;refine iO ?_<|zx t0 t1 t2 t7 p7<|t8;intro K hK;have fx:=aI t0 t1;refine jI h0 (have h:=hO;qF.re h) (qb _) (hF:=λ_=>nj gl DM (λ_=>zF) _ R (yo (O fs)) (O f.stack-(i+1)) ((f.cut i).stack++j) (f.cut i).zE zG f28 kX (ib hk) qA yoh) (h:=?_);intro y H1 hw;clear fx;have hO1:=qF.qk (qF.eC (m:=m.top fs (f.cut i)) (have h:=hO;qF.re h) rfl qA zG hk) hw;obtain⟨rfl,-⟩:=hw;have hO2:qF H1 p (m.top fs (f.cut (i+1))):=by have e:=DQ (f:=f) (i:=i) qA;simpa[qR.top,e]using hO1
  generalize (f.cut i).zE=v at *;obtain⟨v1,v2⟩:=v;refine iO ?_<|zx t0 t1 t2 t7 p7<|hT;refine uR (λs=>s.tm 0=.pt Yn 0/\s.tm 1=.pt Yn (yo (O fs))/\s.tm 2=iv i/\s.tm 7=.hs (.s 7) 2 0 i/\s.hp (.s 7)=Z (.row 2 (zm (f.stack.drop (O f.stack-i))))/\s.tm 9=.pt (.s 9) 0/\s.hp (.s 9)=Z (.row 2 [[iv v1,iv v2]])/\s.tm 28=bv (v1 != 2)/\qF s.hp p (m.top fs (f.cut (i+1)))) ⟨wP,by simp[t1,hT],kx,by simp[t7],by simp[p7],qB,qB,qB,Ab⟩ ?_;clear hT tr h2 h3 h28 f28 t0 t1 t2 t7 p7 t8 hO hO1 hO2 j R;rintro s ⟨t0,t1,t2,t7,p7,t9,p9,t28,hO⟩;obtain⟨R,j,hT,tr,h2,h3,h28⟩:=hO.yX rfl qA;have hRl:=tr.len;have r0:=tr.r0;have fA:=tr.fA;obtain⟨_,r0E⟩:=gS r0;obtain⟨_,r30E⟩:=gS fA;simp only[sN]at fA r30E;by_cases h2:v1=2
  case neg=>
   have hb:(v1 != 2)=B:=lH;rw[if_pos h2];refine iO ?_<|zJ t0 t1 t28 hT<|hb;intro K hK;have fx:=aI t0 t1;refine jI h0 (have h:=hO;qF.re h) (qb _) (hF:=λ_=>gQ gl DM (λ_=>zF) _ R 5 zG hRl) (h:=?_);intro y H1 hw;clear fx;have hO1:=qF.qk (qF.gG (m:=m.top fs (f.cut (i+1))) (e:=5) (have h:=hO;qF.re h) rfl zG) hw;obtain⟨rfl,-⟩:=hw;refine iO ?_<|qW;refine qE [] .nil qD ⟨tF,qF.fin (have h:=hO1;qF.re h)⟩
  subst h2;rw[if_neg qB];have hv2:=htm.num;have hv3:=htm.fn rfl;simp only at hv2 hv3;obtain⟨jf,rfl⟩:∃jf:Nat,v2=jf:=⟨v2.toNat,qA⟩;have hjl:jf<O m.qI:=qA;obtain⟨q,hq⟩:=gX hjl;obtain⟨_,hqE⟩:=gS hq;obtain⟨kq,hk1,hk2,hk3,hk4⟩:=h.qI q (gM hq);obtain⟨b,cs⟩:=q;simp only at hk1 hk2 hk3 hk4;have hFn:=hO.qI;simp only[sN]at hFn;have qv:=(gS hk1).1;have hcd:(jo p (O p))[b]?=Z (zQ p b):=by simp[jo,qv]
  obtain⟨hcdl,hcdE⟩:=gS hcd;have hpn:O (zQ p b).params=uG p b:=by simp[zQ,hk1,uG]
  simp only[un,hq];by_cases hpi:uG p b=i
  case neg=>
   rw[if_pos hpi];have hb:(((uG p b:Nat):Int) != (i:Int))=B:=by rw[bne_iff_ne];omega
   have hb2:¬((uG p b:Nat):Int)=(i:Int):=qA;refine iO ?_<|qg t0 t1 t2 t7 p7 t9 p9 t28 hT hRl r0 r0E<|jU fA r30E hFn hq hqE hjl hcd hcdl hcdE hpn<|aI hb<|hb2;intro K hK;refine uM (λs=>s.tm 51=.pt Yn 0/\qF s.hp p (m.top fs (f.cut (i+1)))) ⟨qB,oV⟩ ?_;rintro s ⟨t51,hO⟩;obtain⟨R,j,hT,tr,-⟩:=hO.yX rfl qA;have fx:=t51;refine jI h0 (have h:=hO;qF.re h) (qb _) (hF:=λ_=>gQ gl DM (λ_=>zF) _ R 6 zG tr.len) (h:=?_);intro y H1 hw;clear fx;have hO1:=qF.qk (qF.gG (m:=m.top fs (f.cut (i+1))) (e:=6) (have h:=hO;qF.re h) rfl zG) hw;obtain⟨rfl,-⟩:=hw;refine iO ?_<|qW;refine qE [] .nil qD ⟨tF,qF.fin (have h:=hO1;qF.re h)⟩
  rw[if_neg (by simpa using hpi)];have hc8:=iL (p:=p) (b:=b);have hmd:=h.made;have hdp:=h.deep;have hnc:=h.nc;refine iO ?_<|qg t0 t1 t2 t7 p7 t9 p9 t28 hT hRl r0 r0E<|jU fA r30E hFn hq hqE hjl hcd hcdl hcdE hpn<|hpi;intro K hK;refine uM (λs=>s.tm 53=.pt Yn 0/\s.tm 55=iv b/\s.tm 57=.sl 1 (zd cs)/\s.tm 58=.hs (.s 7) 2 0 i/\s.hp (.s 7)=Z (.row 2 (zm (f.stack.drop (O f.stack-i))))/\qF s.hp p (m.top fs (f.cut (i+1)))) ⟨qB,qB,qB,qB,by simp[p7],oV⟩ ?_;rintro s ⟨t53,t55,t57,t58,p7,hO⟩;refine HN 58 (.s 7) 2 i (zm (f.stack.drop (O f.stack-i))) t58 p7 (by simp[hdl]) qDp ?_;have fx:=aI t53 (aI t55 t57);refine jI h0 (CP hO) (qb _) (hF:=λhO=>JA gl _ p (m.top fs (f.cut (i+1))) b cs (f.stack.drop (O f.stack-i)) qv (by have:=hP.sh.len;omega) qA hk4 Cu Cg (by simp only[qR.top];omega) (by simp[qR.top];omega) (X4 hP hk1 qA) (by rw[hpn,hdl,hpi]) (h.L5 rfl) h.LZ hO) (h:=?_);rintro y H1 hO1;clear fx;refine iO ?_<|qW;refine qE [] .nil qD ⟨by simp[FF,qR.top,hm0],qF.fin (have h:=hO1;qF.re h)⟩
abbrev Z2:qV:=ax<|.done
abbrev Z3:qV:=eG<|.l 9 [4,3,2,1,0]<|.l 10 [0]<|.q 11<|.q 12<|.l 13 []<|.done
abbrev Z4:qV:=.q 0<|.q 2<|.l 1 [2]<|.l 3 []<|.done
def TV(l:List qr):∃(b:Nat->Bool)(x y:Nat->Int),jy l=[bv (b 0),iv (x 0),iv (y 0),bv (b 1),iv (x 1),iv (y 1),bv (b 2),iv (x 2),iv (y 2),bv (b 3),iv (x 3),iv (y 3),bv (b 4),iv (x 4),iv (y 4),bv (b 5),iv (x 5),iv (y 5),bv (b 6),iv (x 6),iv (y 6),bv (b 7),iv (x 7),iv (y 7)]:=by
 refine⟨λi=>(j7 l i).isSome,λi=>((j7 l i).getD (0,0)).1,λi=>((j7 l i).getD (0,0)).2,?_⟩;have h:∀i,jv (j7 l i)=[bv (j7 l i).isSome,iv ((j7 l i).getD (0,0)).1,iv ((j7 l i).getD (0,0)).2]:=λi=>by cases j7 l i<;>rfl
 simp[jy,vQ,rC,h]
def ot(k:G2)(x:A)(h:A->jH G2->G:=by
 intro fx kk;refine qK ?_
 repeat((first|refine qP (id:=2) Z2 mixed ?_|refine qP (id:=3) Z3 mixed ?_|refine qP (id:=7) Z4 mixed ?_);refine zC ?_;refine qK ?_)
 exact kk.h):G:=h x ⟨k⟩
def QM(gl)(H:Nm->Option AO)(p:qC)(m:qR)(gs:List qO)(g0 f:qO)(v:q8)(hb:f.qG<O p)(hfl:O gs+1<=150)(hgl:O g0.stack<=1000)(hcl:O m.qU<=1000)(hO:qF H p (m.top (gs++[g0]) f)):
  qX prog gl 119 DM [.pt Yn 0,q8.av v] H (λ_ _ H'=>qF H' p (if jk p f.qG=2 then vK {m with qU:=m.qU++[f.names]} (gs++[g0]) (3,O m.qU)else vK m (gs++[g0]) v)) qw:=by
 obtain⟨v1,v2⟩:=v;have yh:O (gs++[g0])=O gs+1:=qB;have yoh:yo (O gs+1)+29<=4411:=kP;refine qX.q9 func119 [] ntmps119 (λ_=>zF) λC w g root hroot=>?_;refine qH ?_<|qW;intro K hK;refine uM (λs=>s.tm 5=.pt Yn 0/\s.tm 0=.pt Yn 0/\s.tm 3=.pt (.s 3) 0/\s.hp (.s 3)=Z (.row 2 [[iv v1,iv v2]])/\qF s.hp p (m.top (gs++[g0]) f)) ⟨qB,qB,qB,qB,(qF.qy hO (f:=kl (.s 3)) (λk hk=>by simp[kl,(jp (λ_=>zF) hk 3).2]) (λk hk=>by have:=jp (λ_=>zF) hk 3;simp[this.1,this.2,hk]))⟩ ?_;rintro s ⟨t5,t0,t3,p3,hO1⟩;obtain⟨R,j,hT,tr,h2,h3,h28⟩:=hO1.yX rfl qA;have fx:=t5;refine jI hO (have h:=hO1;qF.re h) (qb _) (hF:=λ_=>Eo gl DM (λ_=>zF) rfl _ R (O (gs++[g0])) zG tr.h qA) (h:=?_);intro y H1 hw;clear fx;have hO2:=qF.EU hO1 hw;obtain⟨rfl,-⟩:=hw;refine qH ?_<|qz t0 t3 p3<|hT;refine uR (λs=>s.tm 0=.pt Yn 0/\s.tm 3=.pt (.s 3) 0/\s.hp (.s 3)=Z (.row 2 [[iv v1,iv v2]])/\s.tm 4=.pt Yn (yo (O gs+1))/\qF s.hp p (m.top (gs++[g0]) f)) ⟨wP,cg,by simp[p3],zG,(have h:=hO2;qF.re h)⟩ ?_;have h0:=hO;clear hO hO1 hO2 hT tr h2 h3 h28 R j t5 t0 t3 p3;rintro s ⟨t0,t3,p3,t4,hO⟩;obtain⟨R,j,hT,tr,h2,h3,h28⟩:=hO.yX rfl qA;have hRl:=tr.len;have r0:=tr.r0;have f0:=tr.f0;have iW:=tr.iW;have tb:=tr.tb;rw[yh]at f0 tb;simp only[qR.top]at iW;obtain⟨_,r0E⟩:=gS r0;obtain⟨_,r31E⟩:=gS iW;obtain⟨f0l,f0E⟩:=gS f0
 have hcd:(jo p (O p))[f.qG]?=Z (zQ p f.qG):=Ce;obtain⟨hcdl,hcdE⟩:=gS hcd;obtain⟨k,hk⟩:=gX hb;have hki:(zQ p f.qG).kind=jk p f.qG:=by simp[zQ,jk,hk]
 by_cases hc:jk p f.qG=2
 .have hcb:(jk p f.qG==2)=B:=by simp[hc]
  have hcy:=hO.jG;simp only[qR.top]at hcy;obtain⟨b,x,y,hfx⟩:=TV f.names;rw[hfx]at tb;have yob:yo (O gs+1)+4+24<=4415:=qA;have hcl2:O m.qU+1<=4294967296:=qA;have hwc:IntKind.i64.wrap (O m.qU:Int)=O m.qU:=qk qA qA;refine ot ?_<|qg t0 t3 p3 t4 hT hRl yoh yh r0 r0E f0 f0E<|qg f0l hcd hcdl hcdE hki hc hcb iW r31E tb hcy hcl<|aI yob<|hwc;intro K hK;have hcap:wQ m.qU++[[bv (b 0),iv (x 0),iv (y 0),bv (b 1),iv (x 1),iv (y 1),bv (b 2),iv (x 2),iv (y 2),bv (b 3),iv (x 3),iv (y 3),bv (b 4),iv (x 4),iv (y 4),bv (b 5),iv (x 5),iv (y 5),bv (b 6),iv (x 6),iv (y 6),bv (b 7),iv (x 7),iv (y 7)]]=wQ (m.qU++[f.names]):=by rw[<- hfx];exact Se
  let R1:List AV:=(R.map (AV.tr (mv (.s 29) (.c Yn 0 31))∘AV.tr (kl (.s 29))∘AV.tr (kl (.s 28)))).take 31++.hs (.c Yn 0 31) 24 0 (O m.qU+1)::(R.map (AV.tr (mv (.s 29) (.c Yn 0 31))∘AV.tr (kl (.s 29))∘AV.tr (kl (.s 28)))).drop 32
  have hO1:qF (zR Yn (.row 4415 [R1]) (zR (.c Yn 0 31) (.row 24 (wQ (m.qU++[f.names]))) s.hp)) p (({m with qU:=m.qU++[f.names]}:qR).top (gs++[g0]) f):=by
   have h:=hO;rw[yh]at h2 h3 h28;exact qF.uY (f:=f) (g:=f) (fs:=gs++[g0]) h rfl rfl rfl (EI hT (R':=R1) th (λJ hJ e=>by simp only[R1];rw[e];simp only[o8];exact UR (m.qU++[f.names]) hJ qB (λj hj=>by simp[hj]))) (h5:=th) (h6t:=by simp[zR,h2]) (h7t:=by simp[zR,h3]) (h8t:=⟨j,by simp[zR,h28]⟩)
  refine uM (λs=>s.tm 0=.pt Yn 0/\s.tm 42=.pt Yn 0/\s.tm 44=.pt Yn 4411/\s.tm 3=.pt (.s 3) 0/\s.hp (.s 3)=Z (.row 2 [[iv 3,iv (O m.qU)]])/\pf s.hp p { ({m with qU:=m.qU++[f.names]}:qR)with qN:=gs++[g0]} (O gs+2)) ⟨ku,ku,ku,cg,by simp[p3,hwc],?_⟩ ?_
  .have h:=hO1;have hR1:(zR Yn (.row 4415 [R1]) (zR (.c Yn 0 31) (.row 24 (wQ (m.qU++[f.names]))) s.hp)) Yn=Z (.row 4415 [R1]):=th;rw[show O gs+2=O (gs++[g0])+1 by simp];refine qF.Kx (m:=({m with qU:=m.qU++[f.names]}:qR).top (gs++[g0]) f) h rfl qA hR1 (vals:=[iv 0,iv 0,.hs (.c Yn 0 (yo (O gs+1)+2)) 3 0 0,.hs (.c Yn 0 (yo (O gs+1)+3)) 1 0 0]++(jy jZ++[.hs (.c Yn 0 (yo (O gs+1)+28)) 2 0 0])) (F:=λm=>((kl (.c Yn 0 (yo (O gs+1)+2)) m).bind (kl (.c Yn 0 (yo (O gs+1)+3)))).bind (kl (.c Yn 0 (yo (O gs+1)+28)))) qB (λj h1 h2 h3=>by rw[yh]at h1 h2 h3;simp[kl,h1,h2,h3]) (h0:=?_) (h1:=by simp[hO.vI]) (h2:=rP) (h3:=tq) (h4:=tJ) (h5:=by simp[<- hcap]) (h6:=F2) (h7:=F2) (h8:=F2) (h9:=by intro c s hc;simp[hO.cell c s hc]) (hA:=by intro k i j hk e hn;simpa[zR,hk,e]using hn);simp only[<- o8];simp[qq,yh,DY,R1]
   rfl
  rintro s ⟨t0,t42,t44,t3,p3,hY⟩;obtain⟨R,hT,hRl,r4⟩:=hY.ht;obtain⟨_,r4E⟩:=gS r4;have hw1:IntKind.i64.wrap ((O gs:Int)+2-1)=(O gs:Int)+1:=iB;refine qH ?_<|ya t0 t42 t44 t3 p3 hT hRl r4 r4E<|hw1;refine uR (λs=>s.tm 0=.pt Yn 0/\s.tm 3=.pt (.s 3) 0/\s.hp (.s 3)=Z (.row 2 [[iv ((3,(O m.qU:Int))).1,iv ((3,(O m.qU:Int))).2]])/\qF s.hp p { ({m with qU:=m.qU++[f.names]}:qR)with qN:=gs++[g0]}) ⟨ku,cg,by simp[p3],hY.done hT (by simp[qq,hw1]) (λq hq hn=>by simp[hn])⟩ ?_;clear hT hRl r4 r4E hY t0 t42 t44 t3 p3 s;rintro s ⟨t0,t3,p3,hO⟩;obtain⟨R,j,hT,tr,h2,h3,h28⟩:=qF.yX (f:=g0) hO rfl qA;refine ot ?_<|qz t0 t3 p3<|hT;intro K hK;have fx:=aI t0 (aI t3 p3);refine jI h0 (have h:=hO;qF.re h) (qb _) (hF:=λ_=>Eo gl DM (λ_=>zF) rfl _ R (O gs) zG tr.h qA) (h:=?_);intro y H1 hw;clear fx;have hO1:=qF.EU ef hw;obtain⟨rfl,-⟩:=hw;refine ot ?_<|qz t0 t3 p3<|hT;obtain⟨R1,j1,hT1,tr1,h21,h31,h281⟩:=qF.yX (f:=g0) hO1 rfl qA;have yog:yo (O gs)+29<=4415:=kP;have fx:=aI t0 (aI t3 (aI p3 hT));refine jI h0 (have h:=hO1;qF.re h) (qb _) (hF:=λ_=>eR gl DM (λ_=>zF) _ R1 (yo (O gs)) g0.stack j1 (3,(O m.qU:Int)) rfl rfl dW tr1.f28 tc hgl yog) (h:=?_);intro y2 H2 hw2;clear fx;have hO2:=qF.eD (f:=g0) (by exact(have h:=hO1;qF.re h)) rfl qA rfl dW hw2;refine ot ?_<|zJ t0 t3 p3 hT<|hT1
  refine yu [] .nil qD ?_;rw[if_pos hc];exact qF.fin KQ
 .have hc':(jk p f.qG==2)=M:=by simpa using hc
  refine ot ?_<|qg t0 t3 p3 t4 hT hRl yoh yh r0 r0E f0 f0E<|zx f0l hcd hcdl hcdE hki<|hc';intro K hK;refine uM (λs=>s.tm 0=.pt Yn 0/\s.tm 42=.pt Yn 0/\s.tm 44=.pt Yn 4411/\s.tm 3=.pt (.s 3) 0/\s.hp (.s 3)=Z (.row 2 [[iv ((v1,v2)).1,iv ((v1,v2)).2]])/\pf s.hp p {m with qN:=gs++[g0]} (O gs+2)) ⟨ku,ku,ku,cg,by simp[p3],?_⟩ ?_
  .have hm':(m.top (gs++[g0]) f).qN=(gs++[g0])++[f]:=rfl;have h:=hO;rw[show O gs+2=O (gs++[g0])+1 by simp];refine qF.Kx (m:=m.top (gs++[g0]) f) h hm' qA hT (vals:=[iv 0,iv 0,.hs (.c Yn 0 (yo (O gs+1)+2)) 3 0 0,.hs (.c Yn 0 (yo (O gs+1)+3)) 1 0 0]++(jy jZ++[.hs (.c Yn 0 (yo (O gs+1)+28)) 2 0 0])) (F:=λm=>((kl (.c Yn 0 (yo (O gs+1)+2)) m).bind (kl (.c Yn 0 (yo (O gs+1)+3)))).bind (kl (.c Yn 0 (yo (O gs+1)+28)))) qB (λj h1 h2 h3=>by rw[yh]at h1 h2 h3;simp[kl,h1,h2,h3]) (h0:=?_) (h6:=FL) (h7:=FL) (h8:=FL);simp only[<- o8];simp[qq,yh,DY]
  rintro s ⟨t0,t42,t44,t3,p3,hY⟩;obtain⟨R,hT,hRl,r4⟩:=hY.ht;obtain⟨_,r4E⟩:=gS r4;have hw1:IntKind.i64.wrap ((O gs:Int)+2-1)=(O gs:Int)+1:=iB;refine qH ?_<|ya t0 t42 t44 t3 p3 hT hRl r4 r4E<|hw1;refine uR (λs=>s.tm 0=.pt Yn 0/\s.tm 3=.pt (.s 3) 0/\s.hp (.s 3)=Z (.row 2 [[iv ((v1,v2)).1,iv ((v1,v2)).2]])/\qF s.hp p {m with qN:=gs++[g0]}) ⟨ku,cg,by simp[p3],hY.done hT (by simp[qq,hw1]) (λq hq hn=>by simp[hn])⟩ ?_;clear hT hRl r4 r4E hY t0 t42 t44 t3 p3 s;rintro s ⟨t0,t3,p3,hO⟩;obtain⟨R,j,hT,tr,h2,h3,h28⟩:=qF.yX (f:=g0) hO rfl qA;refine ot ?_<|qz t0 t3 p3<|hT;intro K hK;have fx:=aI t0 (aI t3 p3);refine jI h0 (have h:=hO;qF.re h) (qb _) (hF:=λ_=>Eo gl DM (λ_=>zF) rfl _ R (O gs) zG tr.h qA) (h:=?_);intro y H1 hw;clear fx;have hO1:=qF.EU ef hw;obtain⟨rfl,-⟩:=hw;refine ot ?_<|qz t0 t3 p3<|hT;obtain⟨R1,j1,hT1,tr1,h21,h31,h281⟩:=qF.yX (f:=g0) hO1 rfl qA;have yog:yo (O gs)+29<=4415:=kP;have fx:=aI t0 (aI t3 (aI p3 hT));refine jI h0 (have h:=hO1;qF.re h) (qb _) (hF:=λ_=>eR gl DM (λ_=>zF) _ R1 (yo (O gs)) g0.stack j1 (v1,v2) rfl rfl dW tr1.f28 tc hgl yog) (h:=?_);intro y2 H2 hw2;clear fx;have hO2:=qF.eD (f:=g0) (by exact(have h:=hO1;qF.re h)) rfl qA rfl dW hw2;refine ot ?_<|zJ t0 t3 p3 hT<|hT1;refine yu [] .nil qD ?_;rw[if_neg hc];exact qF.fin KQ
end Go.Proofs.YtjgpejikjhojcaaGreatDoor
end
