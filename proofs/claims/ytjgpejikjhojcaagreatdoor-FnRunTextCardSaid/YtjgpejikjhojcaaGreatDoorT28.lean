import Derived.Test.YtjgpejikjhojcaaGreatDoorT27
set_option linter.unusedSimpArgs false
set_option linter.unusedVariables false
set_option maxRecDepth 100000
set_option maxHeartbeats 4000000

section
namespace Go.Proofs.YtjgpejikjhojcaaGreatDoor
open Go Go.Hm Go.Proofs Tryz
abbrev xp:qb:=iI<|.done
attribute [local simp] uo
theorem Mm (gl):qM prog gl 78 [] (λ_ y _=>y=uT yM) :=
 (Ml gl).settle λr y H' h=>⟨uT yM,Dx,rfl⟩
theorem xY {A G G2:Prop} (k:G2) (x:A) (h:A->jP G2->G:=by
 intro fx kk;refine qQ ?_
 repeat ((first|refine qf (id:=7) xp mixed ?_);refine zQ ?_;refine qQ ?_)
 exact kk.h):G:=h x ⟨k⟩
theorem Yf (gl) (l:q9) (hl:l.length<=1048577):qM prog gl 43 [tx l] (λ_ y _=>∃ S:qP,y=.zT [S.av,bv (dY l).isSome]/\∀ s,dY l=some s->S=s):=by
 have hsp:=M6 gl l hl;have hne:=iJ (c:=32) (l:=l);have hlen:=AI (c:=32) (s:=l);have hpart:=AJ (c:=32) (s:=l)
 have hrS:∀ u us,zI 32 l=u::us->dY l=match wK u,yp us with|some k,some ns=>ap k ns|_,_=>none:=by
  intro u us e;unfold dY;rw [e]
  rfl
 generalize dY l=RS at hrS ⊢;generalize zI 32 l=W at hsp hne hlen hpart hrS
 obtain⟨u,us,rfl⟩:∃ u us,W=u::us:=by cases W with
  | nil=>exact absurd rfl hne
  | cons u us=>exact⟨u,us,rfl⟩
 have hrs:=hrS u us rfl;have hul:us.length<=1048577:=by simp at hlen;omega
 have hus:∀ v∈us,v.length<=1048577:=λv hv=>by have:=hpart v rC;omega
 have hrn:=L7 gl us hul hus;have h1:(1:Int)<=(us.length:Int)+1:=qA;have hw12:yM.length=12:=rfl;refine qM.qa func43 [.cell 2 87,.tmp 3] ntmps43 λC w g root=>?_
 cases hns:yp us with
 | none =>
  rw [hns] at hrs hrn;have hno:RS=none:=by rw [hrs];cases wK u <;> rfl
  have fx:= h1;have p1:=hsp;have e1:=hrn;refine j5 ?_
  repeat ((first|refine qf (id:=7) xp mixed ?_);refine kn ?_;refine j5 ?_)
  clear fx p1 e1;rintro K hK y H' ⟨rfl,hH'⟩;refine⟨qB,?_⟩;have fx:=qS;have p1:=Mm gl;refine j5 ?_
  repeat ((first|refine qf (id:=7) xp mixed ?_);refine kn ?_;refine j5 ?_)
  clear fx p1;refine zU (λn st=>n=0/\st.tm 2=.pt (.s 2) 0/\st.hp (.s 2)=some (.row 4 [[iv 0,iv 0,iv 0,iv 0]])/\st.tm 6=bv false/\st.tm 7=uT yM/\st.tm 8=iv 0) 0 ⟨rfl,qB,qB,qB,qB,qB⟩ ?_;rintro n st - - ⟨rfl,h2,hp2,h6,h7,h8⟩;refine xY ?_<|j2 h2 hp2 h6 h7 h8<|hw12;refine qG [] .nil bI ⟨⟨0,0,0,0⟩,yF,yF⟩
 | some ns =>
  rw [hns] at hrs hrn;have fx:= h1;have p1:=hsp;have e1:=hrn;refine j5 ?_
  repeat ((first|refine qf (id:=7) xp mixed ?_);refine kn ?_;refine j5 ?_)
  clear fx p1 e1;rintro K hK y H' ⟨rfl,hH'⟩;refine⟨qB,?_⟩;have fx:=qS;have p1:=Mm gl;refine j5 ?_
  repeat ((first|refine qf (id:=7) xp mixed ?_);refine kn ?_;refine j5 ?_)
  clear fx p1;refine zU (λn st=>∃ i:Nat,n=12 - i/\i<=12/\(∀ j,j<i->∀ x,yM[j]?=some x->x≠u)/\st.tm 2=.pt (.s 2) 0/\st.hp (.s 2)=some (.row 4 [[iv 0,iv 0,iv 0,iv 0]])/\st.tm 6=bv true/\st.tm 7=uT yM/\st.tm 8=iv i/\st.tm 4=uT (u::us)/\st.tm 5=.hs (.s 5) 1 0 ns.length/\st.hp (.s 5)=some (.row 1 (qm (mi ns)))) 12 ?_ ?_
  .exact⟨0,qA,qA,λj hj=>qA,qB,qB,qB,qB,qB,qB,qB,by simp [aN hH' qB]⟩
  clear hH';rintro n st - - ⟨i,rfl,hi,hno,h2,hp2,h6,h7,h8,h4,h5,hp5⟩;have hwi:IntKind.i64.wrap ((i:Int)+1)=(i:Int)+1:=qi qA qA;by_cases hil:i<12
  .have hii:(i:Int)<12:=qA;obtain⟨x,hx⟩:∃ x,yM[i]?=some x:=⟨_,gE (by rw [hw12];exact hil)⟩;obtain⟨_,hxE⟩:=gS hx;by_cases he:x=u
   .have hkw:=J5 hx he hno;rw [hkw] at hrs;have hb:(x==u)=true:=rM;have fx:=qr h2 hp2 h6 h7 h8 h4 h5 hp5 hw12 hil hii hx<|aI hxE<|hb;have e1:=ZH gl i ns hil;refine xY ?_<|@fx;clear fx e1;rintro K hK y H2 ⟨⟨sk,so,sa,sb⟩,rfl,hS⟩;refine⟨qB,?_⟩;have hrs2:RS=ap i ns:=hrs;refine xY ?_<|aI h2<|hp2;refine qG [] .nil bI ⟨⟨sk,so,sa,sb⟩,by simp [hrs2],λs hs=>hS s (by rw [<- hrs2];exact hs)⟩
   .have hb:(x==u)=false:=rM;refine xY ?_<|qr h2 hp2 h6 h7 h8 h4 h5 hp5 hw12 hil hii hx<|qk hxE hb<|hwi;refine⟨12 - (i+1),qA,i+1,rfl,qA,λj hj y hy=>?_,jp,jq,aY,du,by simp [hwi],yr,yV,be⟩;by_cases hji:j=i
    .subst hji;rw [hx] at hy;obtain rfl:=sI hy;exact he
    .exact hno j qA y hy
  .have hkn:=J6 (v:=u) λj hj=>hno j qA;rw [hkn] at hrs;have hno2:RS=none:=hrs;have hin:¬ (i:Int)<12:=qA;refine xY ?_<|jJ h2 hp2 h6 h7 h8 hw12 hil<|hin;refine qG [] .nil bI ⟨⟨0,0,0,0⟩,by simp [hno2],by simp [hno2]⟩
end Go.Proofs.YtjgpejikjhojcaaGreatDoor
end
section
namespace Go.Proofs.YtjgpejikjhojcaaGreatDoor
open Go Go.Hm Go.Proofs Tryz
abbrev fi:qb:=iI<|.l 8 [7,6,5,4,3]<|.l 9 []<|.done
attribute [local simp] uo
def Nr (RH:Option qT):Nm->AV->(Nm->Option AO)->Prop:=λr y H'=>∃ k:qT,y=.zT [.agg [iv k.kind,iv k.parent,.hs (.c r 0 2) 1 0 k.params.length,.hs (.c r 0 3) 4 0 0],bv RH.isSome]/\H' (.c r 0 2)=some (.row 1 (qm k.params))/\H' (.c r 0 3)=some (.row 4 [])/\∀ k',RH=some k'->k'=k
theorem xZ {A G G2:Prop} (k:G2) (x:A) (h:A->jP G2->G:=by
 intro fx kk;refine qQ ?_
 repeat ((first|refine qf (id:=10) fi mixed ?_);refine zQ ?_;refine qQ ?_)
 exact kk.h):G:=h x ⟨k⟩
theorem Ye (gl) (l:q9) (hl:l.length<=1048577):qM prog gl 42 [tx l] (Nr (cA l)):=by
 have hsp:=M6 gl l hl;have hne:=iJ (c:=32) (l:=l);have hlen:=AI (c:=32) (s:=l);have hpart:=AJ (c:=32) (s:=l)
 have hrH:∀ W,zI 32 l=W->cA l=match W with
   | i::n::f::ws=>if i=wn then match jL n with
     | some q=>if f=bT/\ws=[] then some ⟨2,q,[],[]⟩ else if f=wm then (yp ws).map λns=>⟨1,q,ns.map λ(n:Nat)=>(n:Int),[]⟩ else none
     | none=>none
    else none
   | _=>none:=by
  intro W e;unfold cA;rw [e]
  rfl
 generalize cA l=RH at hrH ⊢;generalize zI 32 l=W at hsp hne hlen hpart hrH;have hrh:=hrH W rfl;clear hrH;refine qM.qa func42 [.cell 2 82,.tmp 3] ntmps42 λC w g root=>?_;rcases W with _|⟨a,_|⟨b,_|⟨f,ws⟩⟩⟩
 .exact absurd rfl hne
 .have hno:RH=none:=hrh;have fx:=qS;have p1:=hsp;refine j5 ?_
  repeat ((first|refine qf (id:=10) fi mixed ?_);refine kn ?_;refine j5 ?_)
  clear fx p1;refine qG [(.s 2,root)] (.one rfl) qH ⟨⟨0,0,[],[]⟩,yF,yO,qB,yF⟩
 .have hno:RH=none:=hrh;have fx:=qS;have p1:=hsp;refine j5 ?_
  repeat ((first|refine qf (id:=10) fi mixed ?_);refine kn ?_;refine j5 ?_)
  clear fx p1;refine qG [(.s 2,root)] (.one rfl) qH ⟨⟨0,0,[],[]⟩,yF,yO,qB,yF⟩
 have h3:¬ (ws.length:Int)+1+1+1<3:=qA;have h3':(3:Int)<=(ws.length:Int)+1+1+1:=qA;have htn:((ws.length:Int)+1+1+1).toNat - 3=ws.length:=qA;have hrn:=L7 gl ws (by simp at hlen;omega) (λv hv=>by have:=hpart v rC;omega);have hq:=L6 gl b (by have:=hpart b qB;omega);by_cases ha:a=wn
 case neg =>
  have hb:(a==[105,110])=false:=by simpa [wn] using ha
  have hno:RH=none:=by rw [hrh];simp [ha]
  have fx:=qk h3 hb<|@qx;have p1:=hsp;refine j5 ?_
  repeat ((first|refine qf (id:=10) fi mixed ?_);refine kn ?_;refine j5 ?_)
  clear fx p1;refine qG [(.s 2,root)] (.one rfl) qH ⟨⟨0,0,[],[]⟩,yF,yO,qB,yF⟩
 have hb:(a==[105,110])=true:=by rw [ha];rfl
 cases hs:jL b with
 | none =>
  have hno:RH=none:=by rw [hrh];simp [hs]
  rw [sp hs] at hq;have fx:=qk h3 hb<|@qx;have p1:=hsp;have c1:=hq;refine j5 ?_
  repeat ((first|refine qf (id:=10) fi mixed ?_);refine kn ?_;refine j5 ?_)
  clear fx p1 c1;refine qG [(.s 2,root)] (.one rfl) qH ⟨⟨0,0,[],[]⟩,yF,yO,qB,yF⟩
 | some q =>
  rw [GH hs] at hq;have hq0:¬ (q:Int)<0:=qA;by_cases hc:f=bT
  .have hcb:(f==[99,108,97,115,115])=true:=by rw [hc];rfl
   have hfb:(f==[102,117,110])=false:=by rw [hc];rfl
   by_cases hw:ws=[]
   .have hl3:((ws.length:Int)+1+1+1==3)=true:=by rw [hw];rfl
    have hyes:RH=some ⟨2,q,[],[]⟩:=by rw [hrh];simp [ha,hs,hc,hw]
    have fx:=j2 h3 hb hq0 hcb hl3<|@qx;have p1:=hsp;have c1:=hq;refine j5 ?_
    repeat ((first|refine qf (id:=10) fi mixed ?_);refine kn ?_;refine j5 ?_)
    clear fx p1 c1;refine qG [(.s 5,root)] (.one rfl) qH ⟨⟨2,q,[],[]⟩,rN,yO,qB,rN⟩
   .have hl3:((ws.length:Int)+1+1+1==3)=false:=by have:=List.length_pos_iff.2 hw;simp;omega
    have hno:RH=none:=by rw [hrh];simp [ha,hs,hc,hw,(show ¬ bT=wm by decide)]
    cases hns:yp ws with
    | none =>
     rw [hns] at hrn;have fx:=jJ h3 h3' htn hb hq0 hcb hl3<|@qx;have p1:=hsp;have c1:=hq;have e1:=hrn;refine j5 ?_
     repeat ((first|refine qf (id:=10) fi mixed ?_);refine kn ?_;refine j5 ?_)
     clear fx p1 c1 e1;rintro K hK y H' ⟨rfl,hH'⟩;have hh:=aN hH' qB;refine⟨qB,?_⟩;refine xZ ?_<|qk hh hfb<|@qx;refine qG [(.s 5,root)] (.one rfl) qH ⟨⟨1,q,[],[]⟩,yF,by simp [qm,hh],qB,yF⟩
    | some ns =>
     rw [hns] at hrn;have fx:=jJ h3 h3' htn hb hq0 hcb hl3<|@qx;have p1:=hsp;have c1:=hq;have e1:=hrn;refine j5 ?_
     repeat ((first|refine qf (id:=10) fi mixed ?_);refine kn ?_;refine j5 ?_)
     clear fx p1 c1 e1;rintro K hK y H' ⟨rfl,hH'⟩;have hh:=aN hH' qB;refine⟨qB,?_⟩;refine xZ ?_<|qk hh hfb<|@qx;refine qG [(.s 5,root)] (.one rfl) qH ⟨⟨1,q,ns.map λ(n:Nat)=>(n:Int),[]⟩,yF,by simp [hh],qB,yF⟩
  .have hcb:(f==[99,108,97,115,115])=false:=by simpa [bT] using hc
   cases hns:yp ws with
   | none =>
    rw [hns] at hrn;have hno:RH=none:=by rw [hrh];simp [ha,hs,hc,hns]
    have fx:=jQ h3 h3' htn hb hq0 hcb<|@qx;have p1:=hsp;have c1:=hq;have e1:=hrn;refine j5 ?_
    repeat ((first|refine qf (id:=10) fi mixed ?_);refine kn ?_;refine j5 ?_)
    clear fx p1 c1 e1;rintro K hK y H' ⟨rfl,hH'⟩;have hh:=aN hH' qB;refine⟨qB,?_⟩;refine xZ ?_<|aI hh<|@qx;refine qG [(.s 5,root)] (.one rfl) qH ⟨⟨1,q,[],[]⟩,yF,by simp [qm,hh],qB,yF⟩
   | some ns =>
    rw [hns] at hrn;by_cases hf:f=wm
    .have hfb:(f==[102,117,110])=true:=by rw [hf];rfl
     have hyes:RH=some ⟨1,q,ns.map λ(n:Nat)=>(n:Int),[]⟩:=by rw [hrh];simp [ha,hs,hc,hf,hns,(show ¬ wm=bT by decide)]
     have fx:=jQ h3 h3' htn hb hq0 hcb<|@qx;have p1:=hsp;have c1:=hq;have e1:=hrn;refine j5 ?_
     repeat ((first|refine qf (id:=10) fi mixed ?_);refine kn ?_;refine j5 ?_)
     clear fx p1 c1 e1;rintro K hK y H' ⟨rfl,hH'⟩;have hh:=aN hH' qB;refine⟨qB,?_⟩;refine xZ ?_<|qk hh hfb<|@qx;refine qG [(.s 5,root)] (.one rfl) qH ⟨⟨1,q,ns.map λ(n:Nat)=>(n:Int),[]⟩,rN,by simp [hh],qB,rN⟩
    .have hfb:(f==[102,117,110])=false:=by simpa [wm] using hf
     have hno:RH=none:=by rw [hrh];simp [ha,hs,hc,hf]
     have fx:=jQ h3 h3' htn hb hq0 hcb<|@qx;have p1:=hsp;have c1:=hq;have e1:=hrn;refine j5 ?_
     repeat ((first|refine qf (id:=10) fi mixed ?_);refine kn ?_;refine j5 ?_)
     clear fx p1 c1 e1;rintro K hK y H' ⟨rfl,hH'⟩;have hh:=aN hH' qB;refine⟨qB,?_⟩;refine xZ ?_<|qk hh hfb<|@qx;refine qG [(.s 5,root)] (.one rfl) qH ⟨⟨1,q,ns.map λ(n:Nat)=>(n:Int),[]⟩,yF,by simp [hh],qB,yF⟩
end Go.Proofs.YtjgpejikjhojcaaGreatDoor
end
section
namespace Go.Proofs.YtjgpejikjhojcaaGreatDoor
open Go Go.Hm Go.Proofs Tryz
attribute [local simp] uo
def Bq (o:Option Nat):Int:=match o with|some n=>n|none=>0
theorem MX (gl) (v:q9) (hv:v.length<=1048577):qM prog gl 89 [tx v] (λ_ y _=>y=.zT [iv (Bq (jL v)),bv (jL v).isSome]):=by
 refine qM.qa func89 [.tmp 2,.tmp 3] ntmps89 λC w g root=>?_;by_cases h1:v.length<1
 .have hno:=MZ (s:=v) (.inl h1);have h1':(v.length:Int)<1:=qA;refine qI ?_<|aI h1<|h1';refine qG [] .nil qH tU
 by_cases h2:2<v.length
 .have hno:=MZ (s:=v) (.inr h2);have h1':¬ (v.length:Int)<1:=qA;have h2':(2:Int)<v.length:=qA;refine qI ?_<|zC h1 h1' h2<|h2';refine qG [] .nil qH tU
 have h1':¬ (v.length:Int)<1:=qA;have h2':¬ (2:Int)<v.length:=qA;have h3:v.length=1\/v.length=2:=qA;obtain⟨c0,hc0⟩:∃ c,v[0]?=some c:=⟨_,gE qA⟩;obtain⟨_,hcE⟩:=gS hc0;by_cases hz:v.length=2/\c0=48
 .obtain⟨hl,rfl⟩:=hz;have hno:=Y8 hl hc0;refine qI ?_<|jQ h1 h1' h2 h2' hl hc0<|hcE;refine qG [] .nil qH tU
 have hzz:v.length=2->v[0]?≠some 48:=λe e2=>hz ⟨e,by rw [hc0] at e2;exact sI e2⟩;rcases h3 with hl|hl
 case' inl =>
  refine qI ?_<|zM h1 h1' h2 h2'<|hl
 case' inr =>
  have hc48:¬ c0=48:=λe=>hz ⟨hl,e⟩;have hcn:¬ c0.toNat=48:=λe=>hc48 (UInt8.toNat_inj.1 e);have hcb:((c0.toNat:Int)==48)=false:=qn;refine qI ?_<|yz h1 h1' h2 h2' hl hc0 hcE hcn<|hcb
 all_goals
  refine zU (λn st=>∃ i:Nat,n=v.length - i/\i<=v.length/\st.tm 0=tx v/\st.tm 25=iv v.length/\st.tm 26=iv i/\st.tm 4=iv (yb (v.take i))/\∀ c∈v.take i,48<=c.toNat/\c.toNat<=57) v.length ?_ ?_
  .exact⟨0,qA,qA,qB,oS,qB,by simp [yb],qB⟩
  rintro n st - - ⟨i,rfl,hi,h0,h25,h26,h4,hd⟩;by_cases hil:i<v.length
  .obtain⟨c,hc⟩:=gX hil;obtain⟨_,hcE'⟩:=gS hc;have hdt:=I6 hc;have hdl:yb (v.take i)<=9:=QI (by rw [mE];omega) hd;have hcl:=c.toNat_lt;generalize yb (v.take i)=m at h4 hdt hdl;by_cases hg:48<=c.toNat/\c.toNat<=57
   .obtain⟨g1,g2⟩:=hg;have g1':¬ c.toNat<48:=qA;have g2':¬ 57<c.toNat:=qA;have g1i:¬ (c.toNat:Int)<48:=qA;have g2i:¬ (57:Int)<(c.toNat:Int):=qA;obtain⟨k,hk⟩:∃ k:Nat,k=c.toNat - 48:=⟨_,rfl⟩;have hw1:IntKind.i64.wrap (10 * (m:Int))=10 * (m:Int):=qi qA qA;have hw2:IntKind.u8.wrap ((c.toNat:Int) - 48)=(k:Int):=IE;have hw3:IntKind.i64.wrap (k:Int)=(k:Int):=qi qA qA;have hw4:IntKind.i64.wrap (10 * (m:Int)+(k:Int))=10 * (m:Int)+(k:Int):=qi qA qA;refine qI ?_<|qr h0 h25 h26 h4 hil hc hcE' g1' g2' g1i g2i hw1<|qk hw2 hw3<|hw4;refine⟨v.length - (i+1),qA,i+1,rfl,qA,ji,by simp [h25],zw,?_,?_⟩
    .simp [hdt,<- hk]
    .intro x hx;rw [vM,hc] at hx;simp at hx;rcases hx with hx|rfl
     .exact hd x hx
     .exact⟨g1,g2⟩
   .have hno:=MY hc hg;by_cases g1:c.toNat<48
    .have g1i:(c.toNat:Int)<48:=qA;refine qI ?_<|yz h0 h25 h26 h4 hil hc hcE' g1<|g1i;refine qG [] .nil qH tU
    .have g1i:¬ (c.toNat:Int)<48:=qA;have g2:57<c.toNat:=qA;have g2i:(57:Int)<(c.toNat:Int):=qA;refine qI ?_<|yD h0 h25 h26 h4 hil hc hcE' g1 g1i g2<|g2i;refine qG [] .nil qH tU
  .obtain rfl:i=v.length:=qA;rw [wD] at h4 hd;have hyes:=Y4 qA qA hzz hd;refine qI ?_<|zM h0 h25 h26 h4<|hil;refine qG [] .nil (by simp [h4];rfl) (by simp [hyes,Bq])
abbrev cp (ls ws:List q9):AO:=.row 2 [[uT ls,uT ws]]
theorem Ep (gl) (H:Nm->Option AO) (ls ws:List q9) (hH:H (.u 1 0 0)=some (cp ls ws)) :
  qV prog gl 105 (Nm.under (.u 1 0 0)) [.pt (.u 1 0 0) 0] H (λ_ y H'=>y=bv (!ws.isEmpty)/\H' (.u 1 0 0)=some (cp ls ws)) qy:=by
 refine qV.qa func105 [.tmp 2] ntmps105 (λ_=>yq rfl) λC w g root hroot=>?_;refine qI ?_<| hH;refine qG [] .nil qH ⟨?_,zb⟩
 cases ws <;> simp
theorem G9 (gl) (H:Nm->Option AO) (ls ws:List q9) (hH:H (.u 1 0 0)=some (cp ls ws)) :
  qV prog gl 69 (Nm.under (.u 1 0 0)) [.pt (.u 1 0 0) 0] H (λ_ y H'=>∃ w ws',ws=w::ws'/\y=tx w/\H' (.u 1 0 0)=some (cp ls ws')) (cT (ws=[])):=by
 refine qV.qa func69 [.tmp 2] ntmps69 (λ_=>yq rfl) λC w g root hroot=>?_
 cases ws with
 | nil =>
  refine qI ?_<| hH;intro K hK;refine tB (hx:=rJ) ?_;exact⟨[],.nil,⟨_,_,rfl,.inl rfl⟩,rfl⟩
 | cons u us =>
  have hne:((us.length:Int)+1==0)=false:=qn;have h1:(1:Int)<=(us.length:Int)+1:=qA;refine qI ?_<|qk hH hne<|h1;refine qG [] .nil qH ⟨u,us,rfl,qB,qB⟩
theorem I9 (gl) (H:Nm->Option AO) (ls ws:List q9) (hH:H (.u 1 0 0)=some (cp ls ws)) :
  qV prog gl 68 (Nm.under (.u 1 0 0)) [.pt (.u 1 0 0) 0] H (λ_ _ H'=>ws=[]/\H' (.u 1 0 0)=some (cp ls ws)) (cT (ws≠[])):=by
 refine qV.qa func68 [] ntmps68 (λ_=>yq rfl) λC w g root hroot=>?_;refine qI ?_<| hH;intro K hK;have fx:=hH;refine ut (.u 1 0 0) rfl zb (hF:=Ep _ _ ls ws zb) (h:=?_);rintro y H1 ⟨rfl,hH1⟩;clear fx
 cases ws with
 | nil =>
  refine qI ?_<|aI hH<|hH1;refine iy [] .nil qH ⟨rfl,ip⟩
 | cons u us =>
  refine qI ?_<|aI hH<|hH1;intro K hK;refine tB (hx:=rJ) ?_;exact⟨[],.nil,⟨_,_,rfl,.inl rfl⟩,qB⟩
end Go.Proofs.YtjgpejikjhojcaaGreatDoor
end
section
namespace Go.Proofs.YtjgpejikjhojcaaGreatDoor
open Go Go.Hm Go.Proofs Tryz
attribute [local simp] uo
theorem ux (gl) (H:Nm->Option AO) (ls ws:List q9) (hws:∀ v∈ws,v.length<=1048577) (hH:H (.u 1 0 0)=some (cp ls ws)) :
  qV prog gl 106 (Nm.under (.u 1 0 0)) [.pt (.u 1 0 0) 0] H (λ_ y H'=>∃ n ws',um ws=some (n,ws')/\y=iv n/\H' (.u 1 0 0)=some (cp ls ws')) (cT (um ws=none)):=by
 refine qV.qa func106 [.tmp 2] ntmps106 (λ_=>yq rfl) λC w g root hroot=>?_;refine qI ?_<| hH;intro K hK;have fx:=hH;refine uS (.u 1 0 0) rfl zb (hF:=G9 _ _ ls ws zb) (hE:=λx s hx hq=>⟨[],.nil,hx.tr,by rw [hq];rfl⟩) (h:=?_);rintro y H1 ⟨v,vs,rfl,rfl,hH1⟩;clear fx;have hvl:=hws v qB
 cases hs:jL v with
 | none =>
  have hq:=MX gl v hvl;rw [hs] at hq;have fx:= hH1;have c1:=hq;refine qQ ?_;clear fx c1;intro K hK;refine tB (hx:=rJ) ?_;exact⟨[],.nil,⟨_,_,rfl,.inl rfl⟩,by simp [um,hs]⟩
 | some n =>
  have hq:=MX gl v hvl;rw [hs] at hq;have fx:= hH1;have c1:=hq;refine qQ ?_;clear fx c1;refine qG [] .nil qH ⟨n,vs,by simp [um,hs],by simp [Bq],ip⟩
theorem KV (gl) {m:Int} (hgm:gl 3=some [.sc (.int .i64 m)]) (H:Nm->Option AO) (ls:List q9) (x:AV) (hls:∀ v∈ls,v.length<=1048577) (hH:H (.u 1 0 0)=some (.row 2 [[uT ls,x]])) :
  qV prog gl 67 (Nm.under (.u 1 0 0)) [.pt (.u 1 0 0) 0] H (λ_ y H'=>(ls=[]/\y=bv false)\/(∃ l ls',ls=l::ls'/\y=bv true/\H' (.u 1 0 0)=some (cp ls' (zI 32 l)))) qy:=by
 refine qV.qa func67 [.tmp 2] ntmps67 (λ_=>yq rfl) λC w g root hroot=>?_
 cases ls with
 | nil =>
  refine qI ?_<| hH;refine qG [] .nil qH (.inl ⟨rfl,qB⟩)
 | cons u us =>
  have hul:=hls u qB;have hne:((us.length:Int)+1==0)=false:=qn;have h1:(1:Int)<=(us.length:Int)+1:=qA;have hsp:=M9 gl hgm u 32 qA;have fx:=qk hH hne<|h1;have p1:=hsp;refine j5 ?_;clear fx p1;refine qG [] .nil qH (.inr ⟨u,us,rfl,qB,qB⟩)
theorem Rt (gl) {m:Int} (hgm:gl 3=some [.sc (.int .i64 m)]) (s:q9) (hs:s.length<=1048576) :
  qV prog gl 66 zf [tx s] jv (λr y H'=>(zI 10 s).getLast?=some []/\y=.pt r 0/\H' r=some (.row 2 [[uT (zI 10 s).dropLast,.hs (.c r 0 1) 1 0 0]])) (cT ((zI 10 s).getLast?≠some [])):=by
 have hsp:=M9 gl hgm s 10 qA;have hne:=iJ (c:=10) (l:=s);have hlen:=AI (c:=10) (s:=s);generalize zI 10 s=L at hsp hne hlen ⊢;obtain⟨I,z,rfl⟩:∃ I z,L=I++[z]:=⟨L.dropLast,L.getLast hne,(mH hne).symm⟩;have hl1:(I++[z]).length=I.length+1:=qB;have hz:(I++[z])[I.length]?=some z:=qB;have hw:IntKind.i64.wrap (I.length:Int)=I.length:=qi qA qA;have hn1:(I.length:Int)<=(I.length:Int)+1:=qA;have hn0:(0:Int)<=(I.length:Int):=qA;refine qV.qa func66 [.tmp 2] ntmps66 (λ_ h=>wH) λC w g root hroot=>?_;by_cases he:z=[]
 .have hb:(z==[])=true:=by simp [he]
  have fx:=j2 hl1 hz hw hb hn1<|hn0;have p1:=hsp;refine j5 ?_;clear fx p1;refine qG [(.s 2,root)] (.one rfl) qH ⟨by simp [he],qB,?_⟩;simp
 .have hb:(z==[])=false:=rM;have fx:=j2 hl1 hz hw hb hn1<|hn0;have p1:=hsp;refine j5 ?_;clear fx p1;intro K hK;refine tB (hx:=rJ) ?_;exact⟨[],.nil,⟨_,_,rfl,.inl rfl⟩,by simp [he]⟩
end Go.Proofs.YtjgpejikjhojcaaGreatDoor
end
section
namespace Go.Proofs.YtjgpejikjhojcaaGreatDoor
open Go Go.Hm Go.Proofs Tryz
attribute [local simp] uo
theorem WV {ws ws':List q9} {n:Nat} (h:um ws=some (n,ws')):∃ u,ws=u::ws':=by
 cases ws with
 | nil=>simp [um] at h
 | cons u l =>
  simp only [um] at h
  cases hs:jL u with
  | none=>rw [hs] at h;simp at h
  | some k=>rw [hs] at h;simp at h;exact⟨u,by rw [h.2]⟩
theorem co {ws ws':List q9} {n c:Nat} (h:um ws=some (n,ws')) (hw:∀ v∈ws,v.length<=c):∀ v∈ws',v.length<=c:=by
 obtain⟨u,rfl⟩:=WV h;exact λv hv=>hw v rC
theorem SQ {v:q9} {K:Nat} (h:wK v=some K):K<12:=by
 unfold wK at h;have:=(pW.1 h).1;exact this
theorem Wm (gl) (hgs:gl 1=some ((df yM).map AV.sc)) (H:Nm->Option AO) (v:q9) (ls ws:List q9) (hws:∀ v∈ws,v.length<=1048577) (hH:H (.u 1 0 0)=some (cp ls ws)) :
  qV prog gl 71 (Nm.under (.u 1 0 0)) [.pt (.u 1 0 0) 0,tx v] H (λ_ y H'=>∃ S ws',bP v ws=some (S,ws')/\y=S.av/\H' (.u 1 0 0)=some (cp ls ws')) (cT (bP v ws=none)):=by
 refine qV.qa func71 [.cell 4 87] ntmps71 (λ_=>yq rfl) λC w g root hroot=>?_;have hq:=SN gl hgs v
 cases hk:wK v with
 | none =>
  have hno:bP v ws=none:=by simp [bP,hk]
  have hwi:AY none=-1:=rfl;rw [hk,hwi] at hq;have fx:= hH;have c1:=hq;refine qQ ?_;clear fx c1;intro K hK;refine tB (hx:=rJ) ?_;exact⟨[],.nil,⟨_,_,rfl,.inl rfl⟩,hno⟩
 | some c =>
  have hlt:=SQ hk;have hwi:AY (some c)=(c:Int):=rfl;rw [hk,hwi] at hq;have hcs:c=0\/c=1\/c=2\/c=3\/c=4\/c=5\/c=6\/c=7\/c=8\/c=9\/c=10\/c=11:=qA;clear hlt;rcases hcs with rfl|rfl|rfl|rfl|rfl|rfl|rfl|rfl|rfl|rfl|rfl|rfl
  .skip
   have fx:= hH;have c1:=hq;refine qQ ?_;clear fx c1;intro K hK;have fx:=hH;refine uS (.u 1 0 0) rfl zb (hF:=ux _ _ ls ws hws zb) (hE:=λx s hx hq=>⟨[],.nil,hx.tr,dt⟩) (h:=?_);rintro y H1 ⟨n1,ws1,hn1,rfl,hH1⟩;clear fx;have fx:=aI hH<|hH1;have c1:=hq;refine qQ ?_;clear fx c1;intro K hK;have fx:=aI hH<|hH1;refine uS (.u 1 0 0) rfl bH (hF:=ux _ _ ls ws1 (co hn1 hws) bH) (hE:=λx s hx hq=>⟨[],.nil,hx.tr,oR⟩) (h:=?_);rintro y H2 ⟨n2,ws2,hn2,rfl,hH2⟩;clear fx;refine qI ?_<|qk hH hH1<|hH2;refine qG [] .nil qH ⟨⟨0,n1,n2,0⟩,ws2,xA,qB,il⟩
  .skip
   have fx:= hH;have c1:=hq;refine qQ ?_;clear fx c1;intro K hK;have fx:=hH;refine uS (.u 1 0 0) rfl zb (hF:=ux _ _ ls ws hws zb) (hE:=λx s hx hq=>⟨[],.nil,hx.tr,dt⟩) (h:=?_);rintro y H1 ⟨n1,ws1,hn1,rfl,hH1⟩;clear fx;have fx:=aI hH<|hH1;have c1:=hq;refine qQ ?_;clear fx c1;intro K hK;have fx:=aI hH<|hH1;refine uS (.u 1 0 0) rfl bH (hF:=ux _ _ ls ws1 (co hn1 hws) bH) (hE:=λx s hx hq=>⟨[],.nil,hx.tr,oR⟩) (h:=?_);rintro y H2 ⟨n2,ws2,hn2,rfl,hH2⟩;clear fx;refine qI ?_<|qk hH hH1<|hH2;refine qG [] .nil qH ⟨⟨1,n1,n2,0⟩,ws2,xA,qB,il⟩
  .skip
   have fx:= hH;have c1:=hq;refine qQ ?_;clear fx c1;intro K hK;have fx:=hH;refine uS (.u 1 0 0) rfl zb (hF:=ux _ _ ls ws hws zb) (hE:=λx s hx hq=>⟨[],.nil,hx.tr,dt⟩) (h:=?_);rintro y H1 ⟨n1,ws1,hn1,rfl,hH1⟩;clear fx;have fx:=aI hH<|hH1;have c1:=hq;refine qQ ?_;clear fx c1;intro K hK;have fx:=aI hH<|hH1;refine uS (.u 1 0 0) rfl bH (hF:=ux _ _ ls ws1 (co hn1 hws) bH) (hE:=λx s hx hq=>⟨[],.nil,hx.tr,oR⟩) (h:=?_);rintro y H2 ⟨n2,ws2,hn2,rfl,hH2⟩;clear fx;have fx:=qk hH hH1<|hH2;have c1:=hq;refine qQ ?_;clear fx c1;intro K hK;have fx:=qk hH hH1<|hH2;refine uS (.u 1 0 0) rfl mO (hF:=ux _ _ ls ws2 (co hn2 (co hn1 hws)) mO) (hE:=λx s hx hq=>⟨[],.nil,hx.tr,D5⟩) (h:=?_);rintro y H3 ⟨n3,ws3,hn3,rfl,hH3⟩;clear fx;refine qI ?_<|zC hH hH1 hH2<|hH3;refine qG [] .nil qH ⟨⟨2,n1,n2,n3⟩,ws3,DV,qB,oK⟩
  .skip
   have fx:= hH;have c1:=hq;refine qQ ?_;clear fx c1;intro K hK;have fx:=hH;refine uS (.u 1 0 0) rfl zb (hF:=ux _ _ ls ws hws zb) (hE:=λx s hx hq=>⟨[],.nil,hx.tr,dt⟩) (h:=?_);rintro y H1 ⟨n1,ws1,hn1,rfl,hH1⟩;clear fx;have fx:=aI hH<|hH1;have c1:=hq;refine qQ ?_;clear fx c1;intro K hK;have fx:=aI hH<|hH1;refine uS (.u 1 0 0) rfl bH (hF:=ux _ _ ls ws1 (co hn1 hws) bH) (hE:=λx s hx hq=>⟨[],.nil,hx.tr,oR⟩) (h:=?_);rintro y H2 ⟨n2,ws2,hn2,rfl,hH2⟩;clear fx;refine qI ?_<|qk hH hH1<|hH2;refine qG [] .nil qH ⟨⟨3,n1,n2,0⟩,ws2,xA,qB,il⟩
  .skip
   have fx:= hH;have c1:=hq;refine qQ ?_;clear fx c1;intro K hK;have fx:=hH;refine uS (.u 1 0 0) rfl zb (hF:=ux _ _ ls ws hws zb) (hE:=λx s hx hq=>⟨[],.nil,hx.tr,dt⟩) (h:=?_);rintro y H1 ⟨n1,ws1,hn1,rfl,hH1⟩;clear fx;have fx:=aI hH<|hH1;have c1:=hq;refine qQ ?_;clear fx c1;intro K hK;have fx:=aI hH<|hH1;refine uS (.u 1 0 0) rfl bH (hF:=ux _ _ ls ws1 (co hn1 hws) bH) (hE:=λx s hx hq=>⟨[],.nil,hx.tr,oR⟩) (h:=?_);rintro y H2 ⟨n2,ws2,hn2,rfl,hH2⟩;clear fx;refine qI ?_<|qk hH hH1<|hH2;refine qG [] .nil qH ⟨⟨4,n1,n2,0⟩,ws2,xA,qB,il⟩
  .skip
   have fx:= hH;have c1:=hq;refine qQ ?_;clear fx c1;intro K hK;have fx:=hH;refine uS (.u 1 0 0) rfl zb (hF:=ux _ _ ls ws hws zb) (hE:=λx s hx hq=>⟨[],.nil,hx.tr,dt⟩) (h:=?_);rintro y H1 ⟨n1,ws1,hn1,rfl,hH1⟩;clear fx;have fx:=aI hH<|hH1;have c1:=hq;refine qQ ?_;clear fx c1;intro K hK;have fx:=aI hH<|hH1;refine uS (.u 1 0 0) rfl bH (hF:=ux _ _ ls ws1 (co hn1 hws) bH) (hE:=λx s hx hq=>⟨[],.nil,hx.tr,oR⟩) (h:=?_);rintro y H2 ⟨n2,ws2,hn2,rfl,hH2⟩;clear fx;refine qI ?_<|qk hH hH1<|hH2;intro K hK;have fx:=qk hH hH1<|hH2;refine ut (.u 1 0 0) rfl mO (hF:=Ep _ _ ls ws2 mO) (h:=?_);rintro y H3 ⟨rfl,hH3⟩;clear fx
   cases ws2 with
   | nil =>
    refine qI ?_<|zC hH hH1 hH2<|hH3;refine qG [] .nil qH ⟨⟨5,n1,n2,-1⟩,[],xA,qB,oK⟩
   | cons u us =>
    refine qI ?_<|zC hH hH1 hH2<|hH3;intro K hK;have fx:=zC hH hH1 hH2<|hH3;refine uS (.u 1 0 0) rfl BE (hF:=ux _ _ ls (u::us) (co hn2 (co hn1 hws)) BE) (hE:=λx s hx hq=>⟨[],.nil,hx.tr,D5⟩) (h:=?_);rintro y H4 ⟨n3,ws3,hn3,rfl,hH4⟩;clear fx;refine qI ?_<|zM hH hH1 hH2 hH3<|hH4;refine qG [] .nil qH ⟨⟨5,n1,n2,n3⟩,ws3,DV,qB,by simp [hH4]⟩
  .skip
   have fx:= hH;have c1:=hq;refine qQ ?_;clear fx c1;intro K hK;have fx:=hH;refine uS (.u 1 0 0) rfl zb (hF:=ux _ _ ls ws hws zb) (hE:=λx s hx hq=>⟨[],.nil,hx.tr,dt⟩) (h:=?_);rintro y H1 ⟨n1,ws1,hn1,rfl,hH1⟩;clear fx;have fx:=aI hH<|hH1;have c1:=hq;refine qQ ?_;clear fx c1;intro K hK;have fx:=aI hH<|hH1;refine uS (.u 1 0 0) rfl bH (hF:=ux _ _ ls ws1 (co hn1 hws) bH) (hE:=λx s hx hq=>⟨[],.nil,hx.tr,oR⟩) (h:=?_);rintro y H2 ⟨n2,ws2,hn2,rfl,hH2⟩;clear fx;have fx:=qk hH hH1<|hH2;have c1:=hq;refine qQ ?_;clear fx c1;intro K hK;have fx:=qk hH hH1<|hH2;refine uS (.u 1 0 0) rfl mO (hF:=ux _ _ ls ws2 (co hn2 (co hn1 hws)) mO) (hE:=λx s hx hq=>⟨[],.nil,hx.tr,D5⟩) (h:=?_);rintro y H3 ⟨n3,ws3,hn3,rfl,hH3⟩;clear fx;refine qI ?_<|zC hH hH1 hH2<|hH3;refine qG [] .nil qH ⟨⟨6,n1,n2,n3⟩,ws3,DV,qB,oK⟩
  .skip
   have fx:= hH;have c1:=hq;refine qQ ?_;clear fx c1;intro K hK;have fx:=hH;refine uS (.u 1 0 0) rfl zb (hF:=ux _ _ ls ws hws zb) (hE:=λx s hx hq=>⟨[],.nil,hx.tr,dt⟩) (h:=?_);rintro y H1 ⟨n1,ws1,hn1,rfl,hH1⟩;clear fx;refine qI ?_<|aI hH<|hH1;refine qG [] .nil qH ⟨⟨7,0,n1,0⟩,ws1,tZ,qB,ip⟩
  .skip
   have fx:= hH;have c1:=hq;refine qQ ?_;clear fx c1;intro K hK;have fx:=hH;refine uS (.u 1 0 0) rfl zb (hF:=ux _ _ ls ws hws zb) (hE:=λx s hx hq=>⟨[],.nil,hx.tr,dt⟩) (h:=?_);rintro y H1 ⟨n1,ws1,hn1,rfl,hH1⟩;clear fx;refine qI ?_<|aI hH<|hH1;refine qG [] .nil qH ⟨⟨8,0,n1,0⟩,ws1,tZ,qB,ip⟩
  .skip
   have fx:= hH;have c1:=hq;refine qQ ?_;clear fx c1;intro K hK;have fx:=hH;refine uS (.u 1 0 0) rfl zb (hF:=ux _ _ ls ws hws zb) (hE:=λx s hx hq=>⟨[],.nil,hx.tr,dt⟩) (h:=?_);rintro y H1 ⟨n1,ws1,hn1,rfl,hH1⟩;clear fx;refine qI ?_<|aI hH<|hH1;refine qG [] .nil qH ⟨⟨9,n1,0,0⟩,ws1,tZ,qB,ip⟩
  .skip
   have fx:= hH;have c1:=hq;refine qQ ?_;clear fx c1;intro K hK;have fx:=hH;refine uS (.u 1 0 0) rfl zb (hF:=ux _ _ ls ws hws zb) (hE:=λx s hx hq=>⟨[],.nil,hx.tr,dt⟩) (h:=?_);rintro y H1 ⟨n1,ws1,hn1,rfl,hH1⟩;clear fx;refine qI ?_<|aI hH<|hH1;refine qG [] .nil qH ⟨⟨10,n1,0,0⟩,ws1,tZ,qB,ip⟩
  .skip
   have fx:= hH;have c1:=hq;refine qQ ?_;clear fx c1;intro K hK;have fx:=hH;refine uS (.u 1 0 0) rfl zb (hF:=ux _ _ ls ws hws zb) (hE:=λx s hx hq=>⟨[],.nil,hx.tr,dt⟩) (h:=?_);rintro y H1 ⟨n1,ws1,hn1,rfl,hH1⟩;clear fx;refine qI ?_<|aI hH<|hH1;refine qG [] .nil qH ⟨⟨11,n1,0,0⟩,ws1,tZ,qB,ip⟩
end Go.Proofs.YtjgpejikjhojcaaGreatDoor
end
section
namespace Go.Proofs.YtjgpejikjhojcaaGreatDoor
open Go Go.Hm Go.Proofs Tryz
attribute [local simp] uo
theorem R8 {k:qT} {ws ws':List q9} (h:bz ws=some (k,ws')):k.params.length<=1/\k.body=[]:=by
 unfold bz at h
 split at h
 .rename_i q f l _
  split at h
  .split at h
   .simp at h;obtain⟨rfl,_⟩:=h;exact⟨qB,rfl⟩
   .rename_i x l' _
    cases hx:jL x with
    | none=>rw [hx] at h;simp at h
    | some n=>rw [hx] at h;simp at h;obtain⟨rfl,_⟩:=h;exact⟨qB,rfl⟩
  .split at h
   .simp at h;obtain⟨rfl,_⟩:=h;exact⟨qB,rfl⟩
   .cases h
 .cases h
theorem Wc (gl) (H:Nm->Option AO) (ls ws:List q9) (hws:∀ v∈ws,v.length<=1048577) (hH:H (.u 1 0 0)=some (cp ls ws)) :
  qV prog gl 70 (Nm.under (.u 1 0 0)) [.pt (.u 1 0 0) 0] H (λr y H'=>∃ k ws',bz ws=some (k,ws')/\y=.agg [iv k.kind,iv k.parent,.hs (.c r 0 2) 1 0 k.params.length,.hs (.c r 0 3) 4 0 0]/\H' (.c r 0 2)=some (.row 1 (qm k.params))/\H' (.c r 0 3)=some (.row 4 [])/\H' (.u 1 0 0)=some (cp ls ws')) (cT (bz ws=none)):=by
 refine qV.qa func70 [.cell 2 82] ntmps70 (λ_=>yq rfl) λC w g root hroot=>?_;have hr0:=hroot root (Nm.uH _);refine qI ?_<| hH;intro K hK;have fx:=hH;refine uS (.u 1 0 0) rfl zb (hF:=ux _ _ ls ws hws zb) (hE:=λx s hx hq=>⟨[],.nil,hx.tr,by simp [bz,hq]⟩) (h:=?_);rintro y H1 ⟨q,ws1,hn,rfl,hH1⟩;clear fx;refine qI ?_<|aI hH<|hH1;intro K hK;have fx:=aI hH hH1;refine uS (.u 1 0 0) rfl bH (hF:=G9 _ _ ls ws1 bH) (hE:=λx s hx hq=>⟨[],.nil,hx.tr,by simp [bz,hn,hq]⟩) (h:=?_);rintro y H2 ⟨v,ws2,rfl,rfl,hH2⟩;clear fx;have hw1:=co hn hws;have hw2:∀ u∈ws2,u.length<=1048577:=λu hu=>hw1 u te;by_cases hf:v=wm
 .have e1:(v==[102,117,110])=true:=by rw [hf];rfl
  refine qI ?_<|zC hH hH1 hH2<|e1;intro K hK;have fx:=aI hH<|aI hH1 hH2;refine ut (.u 1 0 0) rfl mO (hF:=Ep _ _ ls ws2 mO) (h:=?_);rintro y H3 ⟨rfl,hH3⟩;clear fx
  cases ws2 with
  | nil =>
   refine qI ?_<|zC hH hH1 hH2<|hH3;refine qG [(.s 3,root)] (.one rfl) qH ⟨⟨1,q,[],[]⟩,[],by simp [bz,hn,hf],?_,?_,?_,?_⟩
   .simp
   .simp [hr0,qm]
   .simp [hr0]
   .simp [hH3]
  | cons u us =>
   refine qI ?_<|zC hH hH1 hH2<|hH3;intro K hK;have fx:=qk hH hH1<|aI hH2 hH3;refine uS (.u 1 0 0) rfl BE (hF:=ux _ _ ls (u::us) hw2 BE) (hE:=λx s hx hq=>⟨[],.nil,hx.tr,?_⟩) (h:=?_)
   .cases hu:jL u with
    | none=>simp [bz,hn,hf,hu]
    | some n=>simp [um,hu] at hq
   rintro y H4 ⟨n,ws4,hn4,rfl,hH4⟩;clear fx
   have hu:jL u=some n/\us=ws4:=by
    cases hu:jL u with
    | none=>simp [um,hu] at hn4
    | some k=>simp [um,hu] at hn4;exact⟨by rw [hn4.1],hn4.2⟩
   obtain⟨hu,rfl⟩:=hu;refine qI ?_<|zM hH hH1 hH2 hH3<|hH4;refine qG [(.s 3,root)] (.one rfl) qH ⟨⟨1,q,[(n:Int)],[]⟩,us,by simp [bz,hn,hf,hu],qB,by simp [hr0,qm],rD,by simp [hH4]⟩
 have e1:(v==[102,117,110])=false:=by simpa [wm] using hf
 by_cases hc:v=bT
 .have e2:(v==[99,108,97,115,115])=true:=by rw [hc];rfl
  refine qI ?_<|zM hH hH1 hH2 e1<|e2;refine qG [(.s 3,root)] (.one rfl) qH ⟨⟨2,q,[],[]⟩,ws2,by simp [bz,hn,hc,(show ¬ bT=wm by decide)],qB,by simp [hr0,qm],rD,il⟩
 have e2:(v==[99,108,97,115,115])=false:=by simpa [bT] using hc
 refine qI ?_<|zM hH hH1 hH2 e1<|e2;intro K hK;refine tB (hx:=rJ) ?_;exact⟨[],.nil,⟨_,_,rfl,.inl rfl⟩,by simp [bz,hn,hf,hc]⟩
end Go.Proofs.YtjgpejikjhojcaaGreatDoor
end
