import Derived.Test.YtjgpejikjhojcaaGreatDoorD28
set_option linter.all false
set_option maxRecDepth 100000
set_option maxHeartbeats 4000000
open Option renaming some->Z,none->Y
open Bool renaming true->B,false->M
open List renaming length->O

section
namespace Go.Proofs.YtjgpejikjhojcaaGreatDoor
open Go Go.Hm Go.Proofs Tryz
abbrev Bc:qV:=bB<|.done
attribute [local simp] kM
def PW(gl):qL prog gl 78 [] (λ_ y _=>y=vD ye):=
 (PV gl).settle λr y H' h=>⟨vD ye,Fu,rfl⟩
def BT{A G G2:Prop}(k:G2)(x:A)(h:A->jH G2->G:=by
 intro fx kk;refine qK ?_
 repeat((first|refine qP (id:=7) Bc mixed ?_);refine zC ?_;refine qK ?_)
 exact kk.h):G:=h x ⟨k⟩
def qBu(gl)(l:qZ)(hl:O l<=1048577):qL prog gl 43 [tx l] (λ_ y _=>∃S:qT,y=.zT [S.av,bv (fB l).isSome]/\∀s,fB l=Z s->S=s):=by
 have hsp:=IY gl l hl;have hne:=gB (c:=32) (l:=l);have hlen:=xy (c:=32) (s:=l);have hpart:=sJ (c:=32) (s:=l)
 have hrS:∀u us,zO 32 l=u::us->fB l=match ww u,vT us with|some k,Z ns=>bf k ns|_,_=>Y:=by
  intro u us e;unfold fB;rw[e]
  rfl
 generalize fB l=RS at hrS ⊢;generalize zO 32 l=W at hsp hne hlen hpart hrS
 obtain⟨u,us,rfl⟩:∃u us,W=u::us:=by cases W with
  |nil=>exact absurd rfl hne
  |cons u us=>exact⟨u,us,rfl⟩
 have hrs:=hrS u us rfl;have hul:O us<=1048577:=by simp at hlen;omega
 have hus:∀v∈us,O v<=1048577:=λv hv=>by have:=hpart v tW;omega
 have hrn:=OK gl us hul hus;have h1:(1:Int)<=(O us:Int)+1:=qA;have hw12:O ye=12:=rfl;refine qL.q9 func43 [.cell 2 87,.tmp 3] ntmps43 λC w g root=>?_
 cases hns:vT us with
 |none=>
  rw[hns]at hrs hrn;have hno:RS=Y:=by rw[hrs];cases ww u<;>rfl
  have fx:=h1;have p1:=hsp;have e1:=hrn;refine zk ?_
  repeat((first|refine qP (id:=7) Bc mixed ?_);refine vk ?_;refine zk ?_)
  clear fx p1 e1;rintro K hK y H' ⟨rfl,hH'⟩;refine⟨qB,?_⟩;have fx:=qW;have p1:=PW gl;refine zk ?_
  repeat((first|refine qP (id:=7) Bc mixed ?_);refine vk ?_;refine zk ?_)
  clear fx p1;refine zK (λn st=>n=0/\st.tm 2=.pt (.s 2) 0/\st.hp (.s 2)=Z (.row 4 [[iv 0,iv 0,iv 0,iv 0]])/\st.tm 6=bv M/\st.tm 7=vD ye/\st.tm 8=iv 0) 0 ⟨rfl,qB,qB,qB,qB,qB⟩ ?_;rintro n st - - ⟨rfl,h2,hp2,h6,h7,h8⟩;refine BT ?_<|zx h2 hp2 h6 h7 h8<|hw12;refine qE [] .nil bp ⟨⟨0,0,0,0⟩,y4,y4⟩
 |some ns=>
  rw[hns]at hrs hrn;have fx:=h1;have p1:=hsp;have e1:=hrn;refine zk ?_
  repeat((first|refine qP (id:=7) Bc mixed ?_);refine vk ?_;refine zk ?_)
  clear fx p1 e1;rintro K hK y H' ⟨rfl,hH'⟩;refine⟨qB,?_⟩;have fx:=qW;have p1:=PW gl;refine zk ?_
  repeat((first|refine qP (id:=7) Bc mixed ?_);refine vk ?_;refine zk ?_)
  clear fx p1;refine zK (λn st=>∃i:Nat,n=12-i/\i<=12/\(∀j,j<i->∀x,ye[j]?=Z x->x≠u)/\st.tm 2=.pt (.s 2) 0/\st.hp (.s 2)=Z (.row 4 [[iv 0,iv 0,iv 0,iv 0]])/\st.tm 6=bv B/\st.tm 7=vD ye/\st.tm 8=iv i/\st.tm 4=vD (u::us)/\st.tm 5=.hs (.s 5) 1 0 (O ns)/\st.hp (.s 5)=Z (.row 1 (qh (oi ns)))) 12 ?_ ?_
  .exact⟨0,qA,qA,λj hj=>qA,qB,qB,qB,qB,qB,qB,qB,by simp[ap hH' qB]⟩
  clear hH';rintro n st - - ⟨i,rfl,hi,hno,h2,hp2,h6,h7,h8,h4,h5,hp5⟩;have hwi:IntKind.i64.wrap ((i:Int)+1)=(i:Int)+1:=qk qA qA;by_cases hil:i<12
  .have hii:(i:Int)<12:=qA;obtain⟨x,hx⟩:∃x,ye[i]?=Z x:=⟨_,gE (by rw[hw12];exact hil)⟩;obtain⟨_,hxE⟩:=gS hx;by_cases he:x=u
   .have hkw:=MF hx he hno;rw[hkw]at hrs;have hb:(x==u)=B:=rJ;have fx:=qg h2 hp2 h6 h7 h8 h4 h5 hp5 hw12 hil hii hx<|aI hxE<|hb;have e1:=qCY gl i ns hil;refine BT ?_<|@fx;clear fx e1;rintro K hK y H2 ⟨⟨sk,so,sa,sb⟩,rfl,hS⟩;refine⟨qB,?_⟩;have hrs2:RS=bf i ns:=hrs;refine BT ?_<|aI h2<|hp2;refine qE [] .nil bp ⟨⟨sk,so,sa,sb⟩,by simp[hrs2],λs hs=>hS s (by rw[<- hrs2];exact hs)⟩
   .have hb:(x==u)=M:=rJ;refine BT ?_<|qg h2 hp2 h6 h7 h8 h4 h5 hp5 hw12 hil hii hx<|ql hxE hb<|hwi;refine⟨12-(i+1),qA,i+1,rfl,qA,λj hj y hy=>?_,jS,jV,vZ,bP,by simp[hwi],vO,jh,kw⟩;by_cases hji:j=i
    .subst hji;rw[hx]at hy;obtain rfl:=sI hy;exact he
    .exact hno j qA y hy
  .have hkn:=MG (v:=u) λj hj=>hno j qA;rw[hkn]at hrs;have hno2:RS=Y:=hrs;have hin:¬(i:Int)<12:=qA;refine BT ?_<|jA h2 hp2 h6 h7 h8 hw12 hil<|hin;refine qE [] .nil bp ⟨⟨0,0,0,0⟩,by simp[hno2],by simp[hno2]⟩
end Go.Proofs.YtjgpejikjhojcaaGreatDoor
end
section
namespace Go.Proofs.YtjgpejikjhojcaaGreatDoor
open Go Go.Hm Go.Proofs Tryz
abbrev iV:qV:=bB<|.l 8 [7,6,5,4,3]<|.l 9 []<|.done
attribute [local simp] kM
def Q2(RH:Option qY):Nm->AV->(Nm->Option AO)->Prop:=λr y H'=>∃k:qY,y=.zT [.agg [iv k.kind,iv k.parent,.hs (.c r 0 2) 1 0 (O k.params),.hs (.c r 0 3) 4 0 0],bv RH.isSome]/\H' (.c r 0 2)=Z (.row 1 (qh k.params))/\H' (.c r 0 3)=Z (.row 4 [])/\∀k',RH=Z k'->k'=k
def BU{A G G2:Prop}(k:G2)(x:A)(h:A->jH G2->G:=by
 intro fx kk;refine qK ?_
 repeat((first|refine qP (id:=10) iV mixed ?_);refine zC ?_;refine qK ?_)
 exact kk.h):G:=h x ⟨k⟩
def qBt(gl)(l:qZ)(hl:O l<=1048577):qL prog gl 42 [tx l] (Q2 (dF l)):=by
 have hsp:=IY gl l hl;have hne:=gB (c:=32) (l:=l);have hlen:=xy (c:=32) (s:=l);have hpart:=sJ (c:=32) (s:=l)
 have hrH:∀W,zO 32 l=W->dF l=match W with
   |i::n::f::ws=>if i=aX then match jC n with
    |some q=>if f=cM/\ws=[]then Z ⟨2,q,[],[]⟩else if f=aW then(vT ws).map λns=>⟨1,q,ns.map λ(n:Nat)=>(n:Int),[]⟩else Y
    |none=>Y
    else Y
   |_=>Y:=by
  intro W e;unfold dF;rw[e]
  rfl
 generalize dF l=RH at hrH ⊢;generalize zO 32 l=W at hsp hne hlen hpart hrH;have hrh:=hrH W rfl;clear hrH;refine qL.q9 func42 [.cell 2 82,.tmp 3] ntmps42 λC w g root=>?_;rcases W with _|⟨a,_|⟨b,_|⟨f,ws⟩⟩⟩
 .exact absurd rfl hne
 .have hno:RH=Y:=hrh;have fx:=qW;have p1:=hsp;refine zk ?_
  repeat((first|refine qP (id:=10) iV mixed ?_);refine vk ?_;refine zk ?_)
  clear fx p1;refine qE [(.s 2,root)] (.one rfl) qD ⟨⟨0,0,[],[]⟩,y4,y3,qB,y4⟩
 .have hno:RH=Y:=hrh;have fx:=qW;have p1:=hsp;refine zk ?_
  repeat((first|refine qP (id:=10) iV mixed ?_);refine vk ?_;refine zk ?_)
  clear fx p1;refine qE [(.s 2,root)] (.one rfl) qD ⟨⟨0,0,[],[]⟩,y4,y3,qB,y4⟩
 have h3:¬(O ws:Int)+1+1+1<3:=qA;have h3':(3:Int)<=(O ws:Int)+1+1+1:=qA;have htn:((O ws:Int)+1+1+1).toNat-3=O ws:=qA;have hrn:=OK gl ws (by simp at hlen;omega) (λv hv=>by have:=hpart v tW;omega);have hq:=EE gl b (by have:=hpart b qB;omega);by_cases ha:a=aX
 case neg=>
  have hb:(a==[105,110])=M:=by simpa[aX]using ha
  have hno:RH=Y:=by rw[hrh];simp[ha]
  have fx:=ql h3 hb<|@zA;have p1:=hsp;refine zk ?_
  repeat((first|refine qP (id:=10) iV mixed ?_);refine vk ?_;refine zk ?_)
  clear fx p1;refine qE [(.s 2,root)] (.one rfl) qD ⟨⟨0,0,[],[]⟩,y4,y3,qB,y4⟩
 have hb:(a==[105,110])=B:=by rw[ha];rfl
 cases hs:jC b with
 |none=>
  have hno:RH=Y:=by rw[hrh];simp[hs]
  rw[nN hs]at hq;have fx:=ql h3 hb<|@zA;have p1:=hsp;have c1:=hq;refine zk ?_
  repeat((first|refine qP (id:=10) iV mixed ?_);refine vk ?_;refine zk ?_)
  clear fx p1 c1;refine qE [(.s 2,root)] (.one rfl) qD ⟨⟨0,0,[],[]⟩,y4,y3,qB,y4⟩
 |some q=>
  rw[xv hs]at hq;have hq0:¬(q:Int)<0:=qA;by_cases hc:f=cM
  .have hcb:(f==[99,108,97,115,115])=B:=by rw[hc];rfl
   have hfb:(f==[102,117,110])=M:=by rw[hc];rfl
   by_cases hw:ws=[]
   .have hl3:((O ws:Int)+1+1+1==3)=B:=by rw[hw];rfl
    have hyes:RH=Z ⟨2,q,[],[]⟩:=by rw[hrh];simp[ha,hs,hc,hw]
    have fx:=zx h3 hb hq0 hcb hl3<|@zA;have p1:=hsp;have c1:=hq;refine zk ?_
    repeat((first|refine qP (id:=10) iV mixed ?_);refine vk ?_;refine zk ?_)
    clear fx p1 c1;refine qE [(.s 5,root)] (.one rfl) qD ⟨⟨2,q,[],[]⟩,tw,y3,qB,tw⟩
   .have hl3:((O ws:Int)+1+1+1==3)=M:=by have:=List.length_pos_iff.2 hw;simp;omega
    have hno:RH=Y:=by rw[hrh];simp[ha,hs,hc,hw,(show ¬cM=aW by decide)]
    cases hns:vT ws with
    |none=>
     rw[hns]at hrn;have fx:=jA h3 h3' htn hb hq0 hcb hl3<|@zA;have p1:=hsp;have c1:=hq;have e1:=hrn;refine zk ?_
     repeat((first|refine qP (id:=10) iV mixed ?_);refine vk ?_;refine zk ?_)
     clear fx p1 c1 e1;rintro K hK y H' ⟨rfl,hH'⟩;have hh:=ap hH' qB;refine⟨qB,?_⟩;refine BU ?_<|ql hh hfb<|@zA;refine qE [(.s 5,root)] (.one rfl) qD ⟨⟨1,q,[],[]⟩,y4,by simp[qh,hh],qB,y4⟩
    |some ns=>
     rw[hns]at hrn;have fx:=jA h3 h3' htn hb hq0 hcb hl3<|@zA;have p1:=hsp;have c1:=hq;have e1:=hrn;refine zk ?_
     repeat((first|refine qP (id:=10) iV mixed ?_);refine vk ?_;refine zk ?_)
     clear fx p1 c1 e1;rintro K hK y H' ⟨rfl,hH'⟩;have hh:=ap hH' qB;refine⟨qB,?_⟩;refine BU ?_<|ql hh hfb<|@zA;refine qE [(.s 5,root)] (.one rfl) qD ⟨⟨1,q,ns.map λ(n:Nat)=>(n:Int),[]⟩,y4,by simp[hh],qB,y4⟩
  .have hcb:(f==[99,108,97,115,115])=M:=by simpa[cM]using hc
   cases hns:vT ws with
   |none=>
    rw[hns]at hrn;have hno:RH=Y:=by rw[hrh];simp[ha,hs,hc,hns]
    have fx:=zy h3 h3' htn hb hq0 hcb<|@zA;have p1:=hsp;have c1:=hq;have e1:=hrn;refine zk ?_
    repeat((first|refine qP (id:=10) iV mixed ?_);refine vk ?_;refine zk ?_)
    clear fx p1 c1 e1;rintro K hK y H' ⟨rfl,hH'⟩;have hh:=ap hH' qB;refine⟨qB,?_⟩;refine BU ?_<|aI hh<|@zA;refine qE [(.s 5,root)] (.one rfl) qD ⟨⟨1,q,[],[]⟩,y4,by simp[qh,hh],qB,y4⟩
   |some ns=>
    rw[hns]at hrn;by_cases hf:f=aW
    .have hfb:(f==[102,117,110])=B:=by rw[hf];rfl
     have hyes:RH=Z ⟨1,q,ns.map λ(n:Nat)=>(n:Int),[]⟩:=by rw[hrh];simp[ha,hs,hc,hf,hns,(show ¬aW=cM by decide)]
     have fx:=zy h3 h3' htn hb hq0 hcb<|@zA;have p1:=hsp;have c1:=hq;have e1:=hrn;refine zk ?_
     repeat((first|refine qP (id:=10) iV mixed ?_);refine vk ?_;refine zk ?_)
     clear fx p1 c1 e1;rintro K hK y H' ⟨rfl,hH'⟩;have hh:=ap hH' qB;refine⟨qB,?_⟩;refine BU ?_<|ql hh hfb<|@zA;refine qE [(.s 5,root)] (.one rfl) qD ⟨⟨1,q,ns.map λ(n:Nat)=>(n:Int),[]⟩,tw,by simp[hh],qB,tw⟩
    .have hfb:(f==[102,117,110])=M:=by simpa[aW]using hf
     have hno:RH=Y:=by rw[hrh];simp[ha,hs,hc,hf]
     have fx:=zy h3 h3' htn hb hq0 hcb<|@zA;have p1:=hsp;have c1:=hq;have e1:=hrn;refine zk ?_
     repeat((first|refine qP (id:=10) iV mixed ?_);refine vk ?_;refine zk ?_)
     clear fx p1 c1 e1;rintro K hK y H' ⟨rfl,hH'⟩;have hh:=ap hH' qB;refine⟨qB,?_⟩;refine BU ?_<|ql hh hfb<|@zA;refine qE [(.s 5,root)] (.one rfl) qD ⟨⟨1,q,ns.map λ(n:Nat)=>(n:Int),[]⟩,y4,by simp[hh],qB,y4⟩
end Go.Proofs.YtjgpejikjhojcaaGreatDoor
end
section
namespace Go.Proofs.YtjgpejikjhojcaaGreatDoor
open Go Go.Hm Go.Proofs Tryz
attribute [local simp] kM
def B2(o:Option Nat):Int:=match o with|some n=>n|none=>0
def ES(gl)(v:qZ)(hv:O v<=1048577):qL prog gl 89 [tx v] (λ_ y _=>y=.zT [iv (B2 (jC v)),bv (jC v).isSome]):=by
 refine qL.q9 func89 [.tmp 2,.tmp 3] ntmps89 λC w g root=>?_;by_cases h1:O v<1
 .have hno:=Oz (s:=v) (.inl h1);have h1':(O v:Int)<1:=qA;refine qH ?_<|aI h1<|h1';refine qE [] .nil qD Au
 by_cases h2:2<O v
 .have hno:=Oz (s:=v) (.inr h2);have h1':¬(O v:Int)<1:=qA;have h2':(2:Int)<O v:=qA;refine qH ?_<|qz h1 h1' h2<|h2';refine qE [] .nil qD Au
 have h1':¬(O v:Int)<1:=qA;have h2':¬(2:Int)<O v:=qA;have h3:O v=1\/O v=2:=qA;obtain⟨c0,hc0⟩:∃c,v[0]?=Z c:=⟨_,gE qA⟩;obtain⟨_,hcE⟩:=gS hc0;by_cases hz:O v=2/\c0=48
 .obtain⟨hl,rfl⟩:=hz;have hno:=qBh hl hc0;refine qH ?_<|zy h1 h1' h2 h2' hl hc0<|hcE;refine qE [] .nil qD Au
 have hzz:O v=2->v[0]?≠Z 48:=λe e2=>hz ⟨e,by rw[hc0]at e2;exact sI e2⟩;rcases h3 with hl|hl
 case' inl=>
  refine qH ?_<|zJ h1 h1' h2 h2'<|hl
 case' inr=>
  have hc48:¬c0=48:=λe=>hz ⟨hl,e⟩;have hcn:¬c0.toNat=48:=λe=>hc48 (UInt8.toNat_inj.1 e);have hcb:((c0.toNat:Int)==48)=M:=qp;refine qH ?_<|y9 h1 h1' h2 h2' hl hc0 hcE hcn<|hcb
 all_goals
  refine zK (λn st=>∃i:Nat,n=O v-i/\i<=O v/\st.tm 0=tx v/\st.tm 25=iv (O v)/\st.tm 26=iv i/\st.tm 4=iv (vJ (v.take i))/\∀c∈v.take i,48<=c.toNat/\c.toNat<=57) (O v) ?_ ?_
  .exact⟨0,qA,qA,qB,rW,qB,by simp[vJ],qB⟩
  rintro n st - - ⟨i,rfl,hi,h0,h25,h26,h4,hd⟩;by_cases hil:i<O v
  .obtain⟨c,hc⟩:=gX hil;obtain⟨_,hcE'⟩:=gS hc;have hdt:=Kv hc;have hdl:vJ (v.take i)<=9:=Ss (by rw[ge];omega) hd;have hcl:=c.toNat_lt;generalize vJ (v.take i)=m at h4 hdt hdl;by_cases hg:48<=c.toNat/\c.toNat<=57
   .obtain⟨g1,g2⟩:=hg;have g1':¬c.toNat<48:=qA;have g2':¬57<c.toNat:=qA;have g1i:¬(c.toNat:Int)<48:=qA;have g2i:¬(57:Int)<(c.toNat:Int):=qA;obtain⟨k,hk⟩:∃k:Nat,k=c.toNat - 48:=⟨_,rfl⟩;have hw1:IntKind.i64.wrap (10*(m:Int))=10*(m:Int):=qk qA qA;have hw2:IntKind.u8.wrap ((c.toNat:Int)-48)=(k:Int):=KY;have hw3:IntKind.i64.wrap (k:Int)=(k:Int):=qk qA qA;have hw4:IntKind.i64.wrap (10*(m:Int)+(k:Int))=10*(m:Int)+(k:Int):=qk qA qA;refine qH ?_<|qg h0 h25 h26 h4 hil hc hcE' g1' g2' g1i g2i hw1<|ql hw2 hw3<|hw4;refine⟨O v-(i+1),qA,i+1,rfl,qA,yL,by simp[h25],zr,?_,?_⟩
    .simp [hdt,<- hk]
    .intro x hx;rw[vd,hc]at hx;simp at hx;rcases hx with hx|rfl
     .exact hd x hx
     .exact⟨g1,g2⟩
   .have hno:=Oy hc hg;by_cases g1:c.toNat<48
    .have g1i:(c.toNat:Int)<48:=qA;refine qH ?_<|y9 h0 h25 h26 h4 hil hc hcE' g1<|g1i;refine qE [] .nil qD Au
    .have g1i:¬(c.toNat:Int)<48:=qA;have g2:57<c.toNat:=qA;have g2i:(57:Int)<(c.toNat:Int):=qA;refine qH ?_<|jU h0 h25 h26 h4 hil hc hcE' g1 g1i g2<|g2i;refine qE [] .nil qD Au
  .obtain rfl:i=O v:=qA;rw[kC]at h4 hd;have hyes:=qBd qA qA hzz hd;refine qH ?_<|zJ h0 h25 h26 h4<|hil;refine qE [] .nil Cj (by simp[hyes,B2])
abbrev eF(ls ws:List qZ):AO:=.row 2 [[vD ls,vD ws]]
def HD(gl)(H:Nm->Option AO)(ls ws:List qZ)(hH:H (.u 1 0 0)=Z (eF ls ws)):
  qX prog gl 105 (Nm.under (.u 1 0 0)) [.pt (.u 1 0 0) 0] H (λ_ y H'=>y=bv (!ws.isEmpty)/\H' (.u 1 0 0)=Z (eF ls ws)) qw:=by
 refine qX.q9 func105 [.tmp 2] ntmps105 (λ_=>y8 rfl) λC w g root hroot=>?_;refine qH ?_<| hH;refine qE [] .nil qD ⟨?_,zo⟩
 cases ws<;>simp
def Io(gl)(H:Nm->Option AO)(ls ws:List qZ)(hH:H (.u 1 0 0)=Z (eF ls ws)):
  qX prog gl 69 (Nm.under (.u 1 0 0)) [.pt (.u 1 0 0) 0] H (λ_ y H'=>∃w ws',ws=w::ws'/\y=tx w/\H' (.u 1 0 0)=Z (eF ls ws')) (dP (ws=[])):=by
 refine qX.q9 func69 [.tmp 2] ntmps69 (λ_=>y8 rfl) λC w g root hroot=>?_
 cases ws with
 |nil=>
  refine qH ?_<| hH;intro K hK;refine AG (hx:=tH) ?_;exact⟨[],.nil,⟨_,_,rfl,.inl rfl⟩,rfl⟩
 |cons u us=>
  have hne:((O us:Int)+1==0)=M:=qp;have h1:(1:Int)<=(O us:Int)+1:=qA;refine qH ?_<|ql hH hne<|h1;refine qE [] .nil qD ⟨u,us,rfl,qB,qB⟩
def Ky(gl)(H:Nm->Option AO)(ls ws:List qZ)(hH:H (.u 1 0 0)=Z (eF ls ws)):
  qX prog gl 68 (Nm.under (.u 1 0 0)) [.pt (.u 1 0 0) 0] H (λ_ _ H'=>ws=[]/\H' (.u 1 0 0)=Z (eF ls ws)) (dP (ws≠[])):=by
 refine qX.q9 func68 [] ntmps68 (λ_=>y8 rfl) λC w g root hroot=>?_;refine qH ?_<| hH;intro K hK;have fx:=hH;refine uT (.u 1 0 0) rfl zo (hF:=HD _ _ ls ws zo) (h:=?_);rintro y H1 ⟨rfl,hH1⟩;clear fx
 cases ws with
 |nil=>
  refine qH ?_<|aI hH<|hH1;refine yu [] .nil qD ⟨rfl,mS⟩
 |cons u us=>
  refine qH ?_<|aI hH<|hH1;intro K hK;refine AG (hx:=tH) ?_;exact⟨[],.nil,⟨_,_,rfl,.inl rfl⟩,qB⟩
end Go.Proofs.YtjgpejikjhojcaaGreatDoor
end
section
namespace Go.Proofs.YtjgpejikjhojcaaGreatDoor
open Go Go.Hm Go.Proofs Tryz
variable{m:Int}
attribute [local simp] kM
def kT(gl)(H:Nm->Option AO)(ls ws:List qZ)(hws:∀v∈ws,O v<=1048577)(hH:H (.u 1 0 0)=Z (eF ls ws)):
  qX prog gl 106 (Nm.under (.u 1 0 0)) [.pt (.u 1 0 0) 0] H (λ_ y H'=>∃n ws',kI ws=Z (n,ws')/\y=iv n/\H' (.u 1 0 0)=Z (eF ls ws')) (dP (kI ws=Y)):=by
 refine qX.q9 func106 [.tmp 2] ntmps106 (λ_=>y8 rfl) λC w g root hroot=>?_;refine qH ?_<| hH;intro K hK;have fx:=hH;refine uk (.u 1 0 0) rfl zo (hF:=Io _ _ ls ws zo) (hE:=λx s hx hq=>⟨[],.nil,hx.tr,by rw[hq];rfl⟩) (h:=?_);rintro y H1 ⟨v,vs,rfl,rfl,hH1⟩;clear fx;have hvl:=hws v qB
 cases hs:jC v with
 |none=>
  have hq:=ES gl v hvl;rw[hs]at hq;have fx:=hH1;have c1:=hq;refine qK ?_;clear fx c1;intro K hK;refine AG (hx:=tH) ?_;exact⟨[],.nil,⟨_,_,rfl,.inl rfl⟩,by simp[kI,hs]⟩
 |some n=>
  have hq:=ES gl v hvl;rw[hs]at hq;have fx:=hH1;have c1:=hq;refine qK ?_;clear fx c1;refine qE [] .nil qD ⟨n,vs,by simp[kI,hs],by simp[B2],mS⟩
def Mx(gl)(hgm:gl 3=Z [.sc (.int .i64 m)])(H:Nm->Option AO)(ls:List qZ)(x:AV)(hls:∀v∈ls,O v<=1048577)(hH:H (.u 1 0 0)=Z (.row 2 [[vD ls,x]])):
  qX prog gl 67 (Nm.under (.u 1 0 0)) [.pt (.u 1 0 0) 0] H (λ_ y H'=>(ls=[]/\y=bv M)\/(∃l ls',ls=l::ls'/\y=bv B/\H' (.u 1 0 0)=Z (eF ls' (zO 32 l)))) qw:=by
 refine qX.q9 func67 [.tmp 2] ntmps67 (λ_=>y8 rfl) λC w g root hroot=>?_
 cases ls with
 |nil=>
  refine qH ?_<| hH;refine qE [] .nil qD (.inl ⟨rfl,qB⟩)
 |cons u us=>
  have hul:=hls u qB;have hne:((O us:Int)+1==0)=M:=qp;have h1:(1:Int)<=(O us:Int)+1:=qA;have hsp:=I0 gl hgm u 32 qA;have fx:=ql hH hne<|h1;have p1:=hsp;refine zk ?_;clear fx p1;refine qE [] .nil qD (.inr ⟨u,us,rfl,qB,qB⟩)
def Uj(gl)(hgm:gl 3=Z [.sc (.int .i64 m)])(s:qZ)(hs:O s<=1048576):
  qX prog gl 66 zl [tx s] y6 (λr y H'=>(zO 10 s).getLast?=Z []/\y=.pt r 0/\H' r=Z (.row 2 [[vD (zO 10 s).dropLast,.hs (.c r 0 1) 1 0 0]])) (dP ((zO 10 s).getLast?≠Z [])):=by
 have hsp:=I0 gl hgm s 10 qA;have hne:=gB (c:=10) (l:=s);have hlen:=xy (c:=10) (s:=s);generalize zO 10 s=L at hsp hne hlen ⊢;obtain⟨I,z,rfl⟩:∃I z,L=I++[z]:=⟨L.dropLast,L.getLast hne,(mJ hne).symm⟩;have hl1:O (I++[z])=O I+1:=qB;have hz:(I++[z])[O I]?=Z z:=qB;have hw:IntKind.i64.wrap (O I:Int)=O I:=qk qA qA;have hn1:(O I:Int)<=(O I:Int)+1:=qA;have hn0:(0:Int)<=(O I:Int):=qA;refine qX.q9 func66 [.tmp 2] ntmps66 (λ_ h=>kv) λC w g root hroot=>?_;by_cases he:z=[]
 .have hb:(z==[])=B:=by simp[he]
  have fx:=zx hl1 hz hw hb hn1<|hn0;have p1:=hsp;refine zk ?_;clear fx p1;refine qE [(.s 2,root)] (.one rfl) qD ⟨by simp[he],qB,?_⟩;simp
 .have hb:(z==[])=M:=rJ;have fx:=zx hl1 hz hw hb hn1<|hn0;have p1:=hsp;refine zk ?_;clear fx p1;intro K hK;refine AG (hx:=tH) ?_;exact⟨[],.nil,⟨_,_,rfl,.inl rfl⟩,by simp[he]⟩
end Go.Proofs.YtjgpejikjhojcaaGreatDoor
end
section
namespace Go.Proofs.YtjgpejikjhojcaaGreatDoor
open Go Go.Hm Go.Proofs Tryz
variable{n:Nat}{ws ws':List qZ}
attribute [local simp] kM
def Zt(h:kI ws=Z (n,ws')):∃u,ws=u::ws':=by
 cases ws with
 |nil=>simp[kI]at h
 |cons u l=>
  simp only[kI]at h
  cases hs:jC u with
  |none=>rw[hs]at h;simp at h
  |some k=>rw[hs]at h;simp at h;exact⟨u,by rw[h.2]⟩
def eE{c:Nat}(h:kI ws=Z (n,ws'))(hw:∀v∈ws,O v<=c):∀v∈ws',O v<=c:=by
 obtain⟨u,rfl⟩:=Zt h;exact λv hv=>hw v tW
def VD{v:qZ}{K:Nat}(h:ww v=Z K):K<12:=by
 unfold ww at h;have:=(s8.1 h).1;exact this
def Θ(gl)(hgs:gl 1=Z ((eP ye).map AV.sc))(H:Nm->Option AO)(v:qZ)(ls ws:List qZ)(hws:∀v∈ws,O v<=1048577)(hH:H (.u 1 0 0)=Z (eF ls ws)):
  qX prog gl 71 (Nm.under (.u 1 0 0)) [.pt (.u 1 0 0) 0,tx v] H (λ_ y H'=>∃S ws',cJ v ws=Z (S,ws')/\y=S.av/\H' (.u 1 0 0)=Z (eF ls ws')) (dP (cJ v ws=Y)):=by
 refine qX.q9 func71 [.cell 4 87] ntmps71 (λ_=>y8 rfl) λC w g root hroot=>?_;have hq:=VA gl hgs v
 cases hk:ww v with
 |none=>
  have hno:cJ v ws=Y:=by simp[cJ,hk]
  have hwi:CL Y=-1:=rfl;rw[hk,hwi]at hq;have fx:=hH;have c1:=hq;refine qK ?_;clear fx c1;intro K hK;refine AG (hx:=tH) ?_;exact⟨[],.nil,⟨_,_,rfl,.inl rfl⟩,hno⟩
 |some c=>
  have hlt:=VD hk;have hwi:CL (Z c)=(c:Int):=rfl;rw[hk,hwi]at hq;have hcs:c=0\/c=1\/c=2\/c=3\/c=4\/c=5\/c=6\/c=7\/c=8\/c=9\/c=10\/c=11:=qA;clear hlt;rcases hcs with rfl|rfl|rfl|rfl|rfl|rfl|rfl|rfl|rfl|rfl|rfl|rfl
  .skip
   have fx:=hH;have c1:=hq;refine qK ?_;clear fx c1;intro K hK;have fx:=hH;refine uk (.u 1 0 0) rfl zo (hF:=kT _ _ ls ws hws zo) (hE:=λx s hx hq=>⟨[],.nil,hx.tr,fT⟩) (h:=?_);rintro y H1 ⟨n1,ws1,hn1,rfl,hH1⟩;clear fx;have fx:=aI hH<|hH1;have c1:=hq;refine qK ?_;clear fx c1;intro K hK;have fx:=aI hH<|hH1;refine uk (.u 1 0 0) rfl bq (hF:=kT _ _ ls ws1 (eE hn1 hws) bq) (hE:=λx s hx hq=>⟨[],.nil,hx.tr,rS⟩) (h:=?_);rintro y H2 ⟨n2,ws2,hn2,rfl,hH2⟩;clear fx;refine qH ?_<|ql hH hH1<|hH2;refine qE [] .nil qD ⟨⟨0,n1,n2,0⟩,ws2,A7,qB,mU⟩
  .skip
   have fx:=hH;have c1:=hq;refine qK ?_;clear fx c1;intro K hK;have fx:=hH;refine uk (.u 1 0 0) rfl zo (hF:=kT _ _ ls ws hws zo) (hE:=λx s hx hq=>⟨[],.nil,hx.tr,fT⟩) (h:=?_);rintro y H1 ⟨n1,ws1,hn1,rfl,hH1⟩;clear fx;have fx:=aI hH<|hH1;have c1:=hq;refine qK ?_;clear fx c1;intro K hK;have fx:=aI hH<|hH1;refine uk (.u 1 0 0) rfl bq (hF:=kT _ _ ls ws1 (eE hn1 hws) bq) (hE:=λx s hx hq=>⟨[],.nil,hx.tr,rS⟩) (h:=?_);rintro y H2 ⟨n2,ws2,hn2,rfl,hH2⟩;clear fx;refine qH ?_<|ql hH hH1<|hH2;refine qE [] .nil qD ⟨⟨1,n1,n2,0⟩,ws2,A7,qB,mU⟩
  .skip
   have fx:=hH;have c1:=hq;refine qK ?_;clear fx c1;intro K hK;have fx:=hH;refine uk (.u 1 0 0) rfl zo (hF:=kT _ _ ls ws hws zo) (hE:=λx s hx hq=>⟨[],.nil,hx.tr,fT⟩) (h:=?_);rintro y H1 ⟨n1,ws1,hn1,rfl,hH1⟩;clear fx;have fx:=aI hH<|hH1;have c1:=hq;refine qK ?_;clear fx c1;intro K hK;have fx:=aI hH<|hH1;refine uk (.u 1 0 0) rfl bq (hF:=kT _ _ ls ws1 (eE hn1 hws) bq) (hE:=λx s hx hq=>⟨[],.nil,hx.tr,rS⟩) (h:=?_);rintro y H2 ⟨n2,ws2,hn2,rfl,hH2⟩;clear fx;have fx:=ql hH hH1<|hH2;have c1:=hq;refine qK ?_;clear fx c1;intro K hK;have fx:=ql hH hH1<|hH2;refine uk (.u 1 0 0) rfl oW (hF:=kT _ _ ls ws2 (eE hn2 (eE hn1 hws)) oW) (hE:=λx s hx hq=>⟨[],.nil,hx.tr,Fc⟩) (h:=?_);rintro y H3 ⟨n3,ws3,hn3,rfl,hH3⟩;clear fx;refine qH ?_<|qz hH hH1 hH2<|hH3;refine qE [] .nil qD ⟨⟨2,n1,n2,n3⟩,ws3,FY,qB,rK⟩
  .skip
   have fx:=hH;have c1:=hq;refine qK ?_;clear fx c1;intro K hK;have fx:=hH;refine uk (.u 1 0 0) rfl zo (hF:=kT _ _ ls ws hws zo) (hE:=λx s hx hq=>⟨[],.nil,hx.tr,fT⟩) (h:=?_);rintro y H1 ⟨n1,ws1,hn1,rfl,hH1⟩;clear fx;have fx:=aI hH<|hH1;have c1:=hq;refine qK ?_;clear fx c1;intro K hK;have fx:=aI hH<|hH1;refine uk (.u 1 0 0) rfl bq (hF:=kT _ _ ls ws1 (eE hn1 hws) bq) (hE:=λx s hx hq=>⟨[],.nil,hx.tr,rS⟩) (h:=?_);rintro y H2 ⟨n2,ws2,hn2,rfl,hH2⟩;clear fx;refine qH ?_<|ql hH hH1<|hH2;refine qE [] .nil qD ⟨⟨3,n1,n2,0⟩,ws2,A7,qB,mU⟩
  .skip
   have fx:=hH;have c1:=hq;refine qK ?_;clear fx c1;intro K hK;have fx:=hH;refine uk (.u 1 0 0) rfl zo (hF:=kT _ _ ls ws hws zo) (hE:=λx s hx hq=>⟨[],.nil,hx.tr,fT⟩) (h:=?_);rintro y H1 ⟨n1,ws1,hn1,rfl,hH1⟩;clear fx;have fx:=aI hH<|hH1;have c1:=hq;refine qK ?_;clear fx c1;intro K hK;have fx:=aI hH<|hH1;refine uk (.u 1 0 0) rfl bq (hF:=kT _ _ ls ws1 (eE hn1 hws) bq) (hE:=λx s hx hq=>⟨[],.nil,hx.tr,rS⟩) (h:=?_);rintro y H2 ⟨n2,ws2,hn2,rfl,hH2⟩;clear fx;refine qH ?_<|ql hH hH1<|hH2;refine qE [] .nil qD ⟨⟨4,n1,n2,0⟩,ws2,A7,qB,mU⟩
  .skip
   have fx:=hH;have c1:=hq;refine qK ?_;clear fx c1;intro K hK;have fx:=hH;refine uk (.u 1 0 0) rfl zo (hF:=kT _ _ ls ws hws zo) (hE:=λx s hx hq=>⟨[],.nil,hx.tr,fT⟩) (h:=?_);rintro y H1 ⟨n1,ws1,hn1,rfl,hH1⟩;clear fx;have fx:=aI hH<|hH1;have c1:=hq;refine qK ?_;clear fx c1;intro K hK;have fx:=aI hH<|hH1;refine uk (.u 1 0 0) rfl bq (hF:=kT _ _ ls ws1 (eE hn1 hws) bq) (hE:=λx s hx hq=>⟨[],.nil,hx.tr,rS⟩) (h:=?_);rintro y H2 ⟨n2,ws2,hn2,rfl,hH2⟩;clear fx;refine qH ?_<|ql hH hH1<|hH2;intro K hK;have fx:=ql hH hH1<|hH2;refine uT (.u 1 0 0) rfl oW (hF:=HD _ _ ls ws2 oW) (h:=?_);rintro y H3 ⟨rfl,hH3⟩;clear fx
   cases ws2 with
   |nil=>
    refine qH ?_<|qz hH hH1 hH2<|hH3;refine qE [] .nil qD ⟨⟨5,n1,n2,-1⟩,[],A7,qB,rK⟩
   |cons u us=>
    refine qH ?_<|qz hH hH1 hH2<|hH3;intro K hK;have fx:=qz hH hH1 hH2<|hH3;refine uk (.u 1 0 0) rfl Cf (hF:=kT _ _ ls (u::us) (eE hn2 (eE hn1 hws)) Cf) (hE:=λx s hx hq=>⟨[],.nil,hx.tr,Fc⟩) (h:=?_);rintro y H4 ⟨n3,ws3,hn3,rfl,hH4⟩;clear fx;refine qH ?_<|zJ hH hH1 hH2 hH3<|hH4;refine qE [] .nil qD ⟨⟨5,n1,n2,n3⟩,ws3,FY,qB,by simp[hH4]⟩
  .skip
   have fx:=hH;have c1:=hq;refine qK ?_;clear fx c1;intro K hK;have fx:=hH;refine uk (.u 1 0 0) rfl zo (hF:=kT _ _ ls ws hws zo) (hE:=λx s hx hq=>⟨[],.nil,hx.tr,fT⟩) (h:=?_);rintro y H1 ⟨n1,ws1,hn1,rfl,hH1⟩;clear fx;have fx:=aI hH<|hH1;have c1:=hq;refine qK ?_;clear fx c1;intro K hK;have fx:=aI hH<|hH1;refine uk (.u 1 0 0) rfl bq (hF:=kT _ _ ls ws1 (eE hn1 hws) bq) (hE:=λx s hx hq=>⟨[],.nil,hx.tr,rS⟩) (h:=?_);rintro y H2 ⟨n2,ws2,hn2,rfl,hH2⟩;clear fx;have fx:=ql hH hH1<|hH2;have c1:=hq;refine qK ?_;clear fx c1;intro K hK;have fx:=ql hH hH1<|hH2;refine uk (.u 1 0 0) rfl oW (hF:=kT _ _ ls ws2 (eE hn2 (eE hn1 hws)) oW) (hE:=λx s hx hq=>⟨[],.nil,hx.tr,Fc⟩) (h:=?_);rintro y H3 ⟨n3,ws3,hn3,rfl,hH3⟩;clear fx;refine qH ?_<|qz hH hH1 hH2<|hH3;refine qE [] .nil qD ⟨⟨6,n1,n2,n3⟩,ws3,FY,qB,rK⟩
  .skip
   have fx:=hH;have c1:=hq;refine qK ?_;clear fx c1;intro K hK;have fx:=hH;refine uk (.u 1 0 0) rfl zo (hF:=kT _ _ ls ws hws zo) (hE:=λx s hx hq=>⟨[],.nil,hx.tr,fT⟩) (h:=?_);rintro y H1 ⟨n1,ws1,hn1,rfl,hH1⟩;clear fx;refine qH ?_<|aI hH<|hH1;refine qE [] .nil qD ⟨⟨7,0,n1,0⟩,ws1,Af,qB,mS⟩
  .skip
   have fx:=hH;have c1:=hq;refine qK ?_;clear fx c1;intro K hK;have fx:=hH;refine uk (.u 1 0 0) rfl zo (hF:=kT _ _ ls ws hws zo) (hE:=λx s hx hq=>⟨[],.nil,hx.tr,fT⟩) (h:=?_);rintro y H1 ⟨n1,ws1,hn1,rfl,hH1⟩;clear fx;refine qH ?_<|aI hH<|hH1;refine qE [] .nil qD ⟨⟨8,0,n1,0⟩,ws1,Af,qB,mS⟩
  .skip
   have fx:=hH;have c1:=hq;refine qK ?_;clear fx c1;intro K hK;have fx:=hH;refine uk (.u 1 0 0) rfl zo (hF:=kT _ _ ls ws hws zo) (hE:=λx s hx hq=>⟨[],.nil,hx.tr,fT⟩) (h:=?_);rintro y H1 ⟨n1,ws1,hn1,rfl,hH1⟩;clear fx;refine qH ?_<|aI hH<|hH1;refine qE [] .nil qD ⟨⟨9,n1,0,0⟩,ws1,Af,qB,mS⟩
  .skip
   have fx:=hH;have c1:=hq;refine qK ?_;clear fx c1;intro K hK;have fx:=hH;refine uk (.u 1 0 0) rfl zo (hF:=kT _ _ ls ws hws zo) (hE:=λx s hx hq=>⟨[],.nil,hx.tr,fT⟩) (h:=?_);rintro y H1 ⟨n1,ws1,hn1,rfl,hH1⟩;clear fx;refine qH ?_<|aI hH<|hH1;refine qE [] .nil qD ⟨⟨10,n1,0,0⟩,ws1,Af,qB,mS⟩
  .skip
   have fx:=hH;have c1:=hq;refine qK ?_;clear fx c1;intro K hK;have fx:=hH;refine uk (.u 1 0 0) rfl zo (hF:=kT _ _ ls ws hws zo) (hE:=λx s hx hq=>⟨[],.nil,hx.tr,fT⟩) (h:=?_);rintro y H1 ⟨n1,ws1,hn1,rfl,hH1⟩;clear fx;refine qH ?_<|aI hH<|hH1;refine qE [] .nil qD ⟨⟨11,n1,0,0⟩,ws1,Af,qB,mS⟩
end Go.Proofs.YtjgpejikjhojcaaGreatDoor
end
section
namespace Go.Proofs.YtjgpejikjhojcaaGreatDoor
open Go Go.Hm Go.Proofs Tryz
attribute [local simp] kM
def UY{k:qY}{ws ws':List qZ}(h:dE ws=Z (k,ws')):O k.params<=1/\k.body=[]:=by
 unfold dE at h
 split at h
 .rename_i q f l _
  split at h
  .split at h
   .simp at h;obtain⟨rfl,_⟩:=h;exact⟨qB,rfl⟩
   .rename_i x l' _
    cases hx:jC x with
    |none=>rw[hx]at h;simp at h
    |some n=>rw[hx]at h;simp at h;obtain⟨rfl,_⟩:=h;exact⟨qB,rfl⟩
  .split at h
   .simp at h;obtain⟨rfl,_⟩:=h;exact⟨qB,rfl⟩
   .cases h
 .cases h
def ο(gl)(H:Nm->Option AO)(ls ws:List qZ)(hws:∀v∈ws,O v<=1048577)(hH:H (.u 1 0 0)=Z (eF ls ws)):
  qX prog gl 70 (Nm.under (.u 1 0 0)) [.pt (.u 1 0 0) 0] H (λr y H'=>∃k ws',dE ws=Z (k,ws')/\y=.agg [iv k.kind,iv k.parent,.hs (.c r 0 2) 1 0 (O k.params),.hs (.c r 0 3) 4 0 0]/\H' (.c r 0 2)=Z (.row 1 (qh k.params))/\H' (.c r 0 3)=Z (.row 4 [])/\H' (.u 1 0 0)=Z (eF ls ws')) (dP (dE ws=Y)):=by
 refine qX.q9 func70 [.cell 2 82] ntmps70 (λ_=>y8 rfl) λC w g root hroot=>?_;have hr0:=hroot root (Nm.uQ _);refine qH ?_<| hH;intro K hK;have fx:=hH;refine uk (.u 1 0 0) rfl zo (hF:=kT _ _ ls ws hws zo) (hE:=λx s hx hq=>⟨[],.nil,hx.tr,by simp[dE,hq]⟩) (h:=?_);rintro y H1 ⟨q,ws1,hn,rfl,hH1⟩;clear fx;refine qH ?_<|aI hH<|hH1;intro K hK;have fx:=aI hH hH1;refine uk (.u 1 0 0) rfl bq (hF:=Io _ _ ls ws1 bq) (hE:=λx s hx hq=>⟨[],.nil,hx.tr,by simp[dE,hn,hq]⟩) (h:=?_);rintro y H2 ⟨v,ws2,rfl,rfl,hH2⟩;clear fx;have hw1:=eE hn hws;have hw2:∀u∈ws2,O u<=1048577:=λu hu=>hw1 u Ar;by_cases hf:v=aW
 .have e1:(v==[102,117,110])=B:=by rw[hf];rfl
  refine qH ?_<|qz hH hH1 hH2<|e1;intro K hK;have fx:=aI hH<|aI hH1 hH2;refine uT (.u 1 0 0) rfl oW (hF:=HD _ _ ls ws2 oW) (h:=?_);rintro y H3 ⟨rfl,hH3⟩;clear fx
  cases ws2 with
  |nil=>
   refine qH ?_<|qz hH hH1 hH2<|hH3;refine qE [(.s 3,root)] (.one rfl) qD ⟨⟨1,q,[],[]⟩,[],by simp[dE,hn,hf],?_,?_,?_,?_⟩
   .simp
   .simp [hr0,qh]
   .simp [hr0]
   .simp [hH3]
  |cons u us=>
   refine qH ?_<|qz hH hH1 hH2<|hH3;intro K hK;have fx:=ql hH hH1<|aI hH2 hH3;refine uk (.u 1 0 0) rfl Cf (hF:=kT _ _ ls (u::us) hw2 Cf) (hE:=λx s hx hq=>⟨[],.nil,hx.tr,?_⟩) (h:=?_)
   .cases hu:jC u with
    |none=>simp[dE,hn,hf,hu]
    |some n=>simp[kI,hu]at hq
   rintro y H4 ⟨n,ws4,hn4,rfl,hH4⟩;clear fx
   have hu:jC u=Z n/\us=ws4:=by
    cases hu:jC u with
    |none=>simp[kI,hu]at hn4
    |some k=>simp[kI,hu]at hn4;exact⟨by rw[hn4.1],hn4.2⟩
   obtain⟨hu,rfl⟩:=hu;refine qH ?_<|zJ hH hH1 hH2 hH3<|hH4;refine qE [(.s 3,root)] (.one rfl) qD ⟨⟨1,q,[(n:Int)],[]⟩,us,by simp[dE,hn,hf,hu],qB,by simp[hr0,qh],tE,by simp[hH4]⟩
 have e1:(v==[102,117,110])=M:=by simpa[aW]using hf
 by_cases hc:v=cM
 .have e2:(v==[99,108,97,115,115])=B:=by rw[hc];rfl
  refine qH ?_<|zJ hH hH1 hH2 e1<|e2;refine qE [(.s 3,root)] (.one rfl) qD ⟨⟨2,q,[],[]⟩,ws2,by simp[dE,hn,hc,(show ¬cM=aW by decide)],qB,by simp[hr0,qh],tE,mU⟩
 have e2:(v==[99,108,97,115,115])=M:=by simpa[cM]using hc
 refine qH ?_<|zJ hH hH1 hH2 e1<|e2;intro K hK;refine AG (hx:=tH) ?_;exact⟨[],.nil,⟨_,_,rfl,.inl rfl⟩,by simp[dE,hn,hf,hc]⟩
end Go.Proofs.YtjgpejikjhojcaaGreatDoor
end
