import Derived.Test.YtjgpejikjhojcaaGreatDoorD20
import Derived.Test.YtjgpejikjhojcaaGreatDoorD39
import Derived.Test.YtjgpejikjhojcaaGreatDoorD36
set_option linter.all false
set_option maxRecDepth 100000
set_option maxHeartbeats 4000000
open Option renaming some->Z,none->Y
open Bool renaming true->B,false->M
open List renaming length->O

section
namespace Go.Proofs.YtjgpejikjhojcaaGreatDoor
open Go Go.Hm Go.Proofs Tryz
variable{A G G2:Prop}
def QK(gl)(D:Nm->Bool)(hD:∀k,D k=B->k.zj=M)(H:Nm->Option AO)(p:qC)(i0:Nat)(f:qO)(b:Nat)(R:List AV)(hb:b<O p)(hp7:O p<=7)(hfl:i0<=150)(hT0:H Yn=Z (.row 4415 [R]))(hRl0:O R=4415)(r10:R[1]?=Z (.hs (.c Yn 0 1) 1 0 (O p)))(f30:R[yo i0+3]?=Z (.hs (.c Yn 0 (yo i0+3)) 1 0 (O f.cells)))
  (hcp0:H (.c Yn 0 1)=Z (.row 1 (kE p (O p))))(h30:H (.c Yn 0 (yo i0+3))=Z (.row 1 (zd f.cells)))(hDE:∀c,D (En c)=B)(hDc:∀j,j=1\/j=yo i0+3->D (.c Yn 0 j)=B)(hDY:D Yn=B)(hc:∀x∈jD p b,∃k:Nat,x=k/\k<O f.cells)(hcl:O (jD p b)<=8):
  qX prog gl 212 D [.pt Yn 0,.pt Yn (yo i0),iv b] H (λr y H'=>(y=.hs r 1 0 (O (jM p f b))/\H' r=Z (.row 1 (zd (jM p f b))))/\u6 D H' H) qw:=by
 obtain⟨_,r1E⟩:=gS r10;have hcml:O (jM p f b)=O (jD p b):=by simp[jM]
 refine qX.q9 func212 [.tmp 6] ntmps212 hD λC w g root hroot=>?_;refine qH ?_<|zx hT0 hRl0 r10 r1E hcp0<|hb;refine zK (λn s=>∃i:Nat,n=O (jD p b)-i/\i<=O (jD p b)/\s.tm 1=.pt Yn (yo i0)/\s.tm 16=jO (jD p b)/\s.tm 17=iv (O (jD p b))/\s.tm 18=iv i/\s.tm 7=.hs (.s 7) 1 0 i/\s.hp (.s 7)=Z (.row 1 (zd ((jM p f b).take i)))/\u6 D s.hp H) (O (jD p b)) ?_ ?_
 .have hS:u6 D (w4 [.pt Yn 0,.pt Yn (yo i0),iv b] H 34 gl).hp H:=qBb;exact⟨0,qA,qA,qB,qB,qB,qB,qB,rI,(by repeat(first|(with_reducible exact hS)|refine Ow ?_|refine Ox hD ?_|refine Ou hD ?_|refine Ov hD ?_|refine Ot hD ?_|exact hS))⟩
 clear r1E;rintro n s - - ⟨i,rfl,hi,t1,t16,t17,t18,t7,p7,hSm⟩;obtain⟨F,hF,hS⟩:=hSm;have hSm:u6 D s.hp H:=⟨F,hF,hS⟩;have hT:s.hp Yn=Z (.row 4415 [R.map (AV.tr F)]):=by rw[hS _ hDY,hT0];rfl
 have f3:(R.map (AV.tr F))[yo i0+3]?=Z (.hs (.c Yn 0 (yo i0+3)) 1 0 (O f.cells)):=by rw[j3,f30];simp[AV.tr,hF _ (hDc _ (.inr rfl))]
 have h3:s.hp (.c Yn 0 (yo i0+3))=Z (.row 1 (zd f.cells)):=by
  rw[hS _ (hDc _ (.inr rfl)),h30];simp only[kB,AO.tr];rw[xE λc=>hF _ (hDE c)]
 have hRl:O (R.map (AV.tr F))=4415:=by simp[hRl0]
 generalize R.map (AV.tr F)=R' at hT f3 hRl;by_cases hil:i<O (jD p b)
 .obtain⟨x,hx⟩:=gX hil;obtain⟨k,rfl,jN⟩:=hc x (gM hx);obtain⟨_,hxE⟩:=gS hx;obtain⟨c,hcc⟩:=gX jN;obtain⟨_,hccE⟩:=gS hcc;obtain⟨f3l,f3E⟩:=gS f3;have yoh:yo i0+3+1<=4415:=kP;have htl:O ((jM p f b).take i)=i:=qp;have hi8:i<=8:=qA;have htt:((jM p f b).take i).take i=(jM p f b).take i:=jg qA;have her:(zd f.cells)[k]?=Z [uH c]:=by simp[hcc]
  obtain⟨herl,herE⟩:=gS her;refine qH ?_<|qg t1 t16 t17 t18 t7 p7 hil hT hRl f3 f3E f3l<|jU yoh h3 hx hxE hcc hccE her herE jN htl<|hi8
  have e1:(jM p f b).take (i+1)=(jM p f b).take i++[c]:=by
   rw[vd];simp[jM,hx,hcc]
  have e2:zd ((jM p f b).take i)++[[uH c]]=zd ((jM p f b).take (i+1)):=by rw[e1];simp[zd]
  exact⟨O (jD p b)-(i+1),qA,i+1,rfl,qA,oX,by simp[t16],by simp[t17],by simp[t18];exact qk qA qA,qB,by simp[<- e2,htt,uH],KR⟩
 .obtain rfl:i=O (jD p b):=qA;have htk:(jM p f b).take (O (jD p b))=jM p f b:=jg qA;rw[htk]at p7;refine qH ?_<|zx t1 t16 t17 t18 t7<|p7;have hDr:D root=M:=hroot root qB;refine qE [(.s 6,root)] (.one rfl) qD ⟨⟨by simp[t7,hcml],by simp[hDr,p7];exact xE λc=>by simp[zH,hDE]⟩,qBa hD Aa KR⟩
def qEt(gl)(H:Nm->Option AO)(p:qC)(m:qR)(fs:List qO)(f:qO)(b:Nat)(hb:b<O p)(hp7:O p<=7)(hfl:O fs<=150)(hc:∀x∈jD p b,∃k:Nat,x=k/\k<O f.cells)(hcl:O (jD p b)<=8)(hO:qF H p (m.top fs f)):
  qX prog gl 212 DM [.pt Yn 0,.pt Yn (yo (O fs)),iv b] H (λr y H'=>y=.hs r 1 0 (O (jM p f b))/\H' r=Z (.row 1 (zd (jM p f b)))/\qF H' p (m.top fs f)) qw:=by
 obtain⟨R,j,hT,tr,h2,h3,h28⟩:=hO.yX rfl qA;refine(QK gl DM (λ_=>zF) H p (O fs) f b R hb hp7 hfl hT tr.len tr.r1 tr.f3 hO.vI h3 (λ_=>rfl) (λ_ _=>rfl) rfl hc hcl).mono (λr y H' h=>⟨h.1.1,h.1.2,hO.same h.2⟩) λ_ _ _ h=>h
abbrev Z1:qV:=Bq<|.l 10 [9,8,7,6,5,4,3,2,1,0]<|.l 11 []<|.done
def BR(k:G2)(x:A)(h:A->jH G2->G:=by
 intro fx kk;refine qK ?_
 repeat((first|refine qP (id:=4) Z1 mixed ?_);refine zC ?_;refine qK ?_)
 exact kk.h):G:=h x ⟨k⟩
def qEp(gl)(H:Nm->Option AO)(p:qC)(m:qR)(fs:List qO)(f:qO)(x:Nat)(hx:x<8)(hst:1<=O f.stack)(hsl:O f.stack<=1000)(hv:f.zE.1=3->0<=f.zE.2/\f.zE.2<O m.qU)(hm0:m.en=0)(hfl:O fs<=150)(hO:qF H p (m.top fs f)):
  qX prog gl 214 DM [.pt Yn 0,.pt Yn (yo (O fs)),iv x] H (λ_ y H'=>y=bv (decide ((dO m fs f (18,(x:Int))).en=0))/\qF H' p (dO m fs f (18,(x:Int)))) qw:=by
 refine qX.q9 func214 [.tmp 6] ntmps214 (λ_=>zF) λC w g root hroot=>?_;obtain⟨k,hk⟩:∃k,O f.stack=k+1:=⟨O f.stack - 1,qA⟩;have yoh:yo (O fs)+29<=4415:=kP;have ry0:=hO.yX rfl qA;obtain⟨R,j,hT,tr,h2,h3,h28⟩:=ry0;have f28:=tr.f28;rw[hk]at f28;refine qH ?_<|qW;intro K hK;have fx:=qW;refine jI hO (have h:=hO;qF.re h) (qb _) (hF:=λ_=>nj gl DM (λ_=>zF) _ R (yo (O fs)) k (f.stack++j) f.zE zG f28 kX (ib hk) qA yoh) (h:=?_);intro y H1 hw;clear fx;have hO1:=qF.qk (qF.eC (m:=m.top fs f) (have h:=hO;qF.re h) rfl qA zG hk) hw;obtain⟨rfl,-⟩:=hw;clear h28 h3 h2 tr f28;have hT1n:=hT;clear hT;have hmp:({ (m.top fs f)with qN:=fs++[f.pop]}:qR)=m.top fs f.pop:=rfl;rw[hmp]at hO1;have hpl:O f.pop.stack<=1000:=by rw[xl hk];omega
 have hat:dO m fs f (18,(x:Int))=(if f.zE.1≠3 then m.stop fs f.pop 5 else match j7 (m.qU.getD f.zE.2.toNat []) x with
  |some u=>m.top fs (f.pop.push u)
  |none=>m.stop fs f.pop 7):=rfl
 generalize f.zE=v at *;obtain⟨v1,v2⟩:=v;simp only at hat hv;by_cases c3:v1=3
 .subst c3;obtain⟨hv0,hv2⟩:=hv rfl;obtain⟨n,rfl⟩:∃n:Nat,v2=n:=⟨v2.toNat,qA⟩;have hnl:n<O m.qU:=qA;obtain⟨C,hC⟩:=gX hnl;have hgd:m.qU.getD n []=C:=by simp[hC]
  simp only[ne_eq,not_true_eq_false,if_false,un,hgd]at hat;refine qH ?_<| hT1n;refine uR (λs=>s.tm 0=.pt Yn 0/\s.tm 1=.pt Yn (yo (O fs))/\s.tm 2=iv x/\s.tm 7=.pt (.s 7) 0/\s.hp (.s 7)=Z (.row 2 [[iv 3,iv n]])/\qF s.hp p (m.top fs f.pop)) ⟨by simp[hT1n],by simp[hT1n],qB,qB,qB,(qF.qy hO1 (f:=kl (.s 7)) (λk hk=>by simp[kl,(jp (λ_=>zF) hk 7).2]) (λk hk=>KP))⟩ ?_;have h0:=hO;have h01:=hO1;clear hO hO1;rintro s ⟨t0,t1,t2,t7,p7,hO⟩;obtain⟨R,j,hT,tr,h2,h3,h28⟩:=qF.yX (f:=f.pop) hO rfl qA;have hRl:=tr.len;have iW:=tr.iW;simp only[qR.top]at iW;obtain⟨_,r31E⟩:=gS iW;have hcy:=hO.jG;simp only[qR.top]at hcy;have hfl2:((jy C).drop (x*3)).take 3=jv (j7 C x):=by rw[pz];exact TU hx
  obtain⟨_,hCE⟩:=gS hC;have hx0:(x:Int)<8:=qA;have hx3:x*3+3<=24:=qA;obtain⟨sl,hsl2⟩:∃sl,j7 C x=sl:=⟨_,rfl⟩;rw[hsl2]at hfl2 hat
  cases sl with
  |none=>
   simp only[Bz]at hfl2;simp only at hat;refine BR ?_<|qg t0 t1 t2 t7 p7 hT hRl iW r31E hcy hfl2 hC<|qz hCE hnl hx0<|hx3;intro K hK;refine uM (λs=>s.tm 29=.pt Yn 0/\qF s.hp p (m.top fs f.pop)) ⟨ku,(qF.qy hO (f:=kl (.s 8)) (λk hk=>by simp[kl,(jp (λ_=>zF) hk 8).2]) (λk hk=>KO))⟩ ?_;rintro s ⟨t29,hO2⟩;obtain⟨R,j,hT,tr,h2,h3,h28⟩:=qF.yX (f:=f.pop) hO2 rfl qA;have fx:=t29;refine jI h0 (have h:=hO2;qF.re h) (qb _) (hF:=λ_=>gQ gl DM (λ_=>zF) _ R 7 zG tr.len) (h:=?_);intro y H1 hw;clear fx;have hO1:=qF.qk (qF.gG (m:=m.top fs f.pop) (e:=7) (have h:=hO2;qF.re h) rfl zG) hw;obtain⟨rfl,-⟩:=hw;refine BR ?_<|qW;refine qE [] .nil qD ⟨by rw[hat];simp[qR.stop],qF.fin Fh⟩
  |some u=>
   obtain⟨u1,u2⟩:=u;simp only[CA]at hfl2;simp only at hat;refine BR ?_<|qg t0 t1 t2 t7 p7 hT hRl iW r31E hcy hfl2 hC<|qz hCE hnl hx0<|hx3;intro K hK;refine uM (λs=>s.tm 31=.pt Yn (yo (O fs))/\s.tm 33=.agg [iv u1,iv u2]/\qF s.hp p (m.top fs f.pop)) ⟨oX,qB,(qF.qy hO (f:=kl (.s 8)) (λk hk=>by simp[kl,(jp (λ_=>zF) hk 8).2]) (λk hk=>KO))⟩ ?_;rintro s ⟨t31,t33,hO2⟩;obtain⟨R,j,hT,tr,h2,h3,h28⟩:=qF.yX (f:=f.pop) hO2 rfl qA;have fx:=aI t31 t33;refine jI h0 (have h:=hO2;qF.re h) (qb _) (hF:=λ_=>eR gl DM (λ_=>zF) _ R (yo (O fs)) f.pop.stack j (u1,u2) rfl rfl zG tr.f28 kX hpl yoh) (h:=?_);intro y H1 hw;clear fx;have hO1:=qF.eD (m:=m.top fs f.pop) (f:=f.pop) (by exact(have h:=hO2;qF.re h)) rfl qA rfl zG hw;refine BR ?_<|qW;refine qE [] .nil qD ⟨by rw[hat];simp[qR.top,hm0],qF.fin Fh⟩
 .rw [if_pos c3]at hat;have c3':(v1==3)=M:=by simpa using c3
  refine qH ?_<|ql c3' @zA<|hT1n;intro K hK;refine uM (λs=>s.tm 14=.pt Yn 0/\qF s.hp p (m.top fs f.pop)) ⟨by simp[hT1n],(qF.qy hO1 (f:=kl (.s 7)) (λk hk=>by simp[kl,(jp (λ_=>zF) hk 7).2]) (λk hk=>KP))⟩ ?_;rintro s ⟨t14,hO2⟩;obtain⟨R,j,hT,tr,h2,h3,h28⟩:=qF.yX (f:=f.pop) hO2 rfl qA;have fx:=t14;refine jI hO (have h:=hO2;qF.re h) (qb _) (hF:=λ_=>gQ gl DM (λ_=>zF) _ R 5 zG tr.len) (h:=?_);intro y H1 hw;clear fx;have hO1:=qF.qk (qF.gG (m:=m.top fs f.pop) (e:=5) (have h:=hO2;qF.re h) rfl zG) hw;obtain⟨rfl,-⟩:=hw;refine BR ?_<|qW;refine qE [] .nil qD ⟨by rw[hat];simp[qR.stop],qF.fin Fh⟩
abbrev Zc:qV:=wG<|.l 11 [6,5,4,3,2,1,0]<|.q 12<|.l 13 [4,3,2,1,0]<|.l 14 [0]<|.q 15<|.q 16<|.l 17 []<|.done
abbrev Zd:qV:=ba<|.l 7 [2,1,0]<|.l 8 []<|.done
abbrev Ze:qV:=bA<|.l 6 [4,3,2,1,0]<|.l 7 [4,3,2,1,0]<|.l 8 [4,3,2,1,0]<|.l 9 [0]<|.q 10<|.q 11<|.l 12 []<|.done
def xU(k:G2)(x:A)(h:A->jH G2->G:=by
 intro fx kk;refine qK ?_
 repeat((first|refine qP (id:=10) Zc mixed ?_|refine qP (id:=13) Zd mixed ?_|refine qP (id:=19) Ze mixed ?_);refine zC ?_;refine qK ?_)
 exact kk.h):G:=h x ⟨k⟩
def JI(gl)(H:Nm->Option AO)(p:qC)(m:qR)(fs:List qO)(f:qO)(o:Int×Int)(harg:0<=o.2/\o.2<=1000)(hc:o.1=1\/o.1=17\/o.1=18)(pc0:Nat)(hP:zi p)(hM:yf p m fs {f with pc:=pc0})(h17:o.1=17->o.2<=1/\o.2.toNat+1<=O f.stack/\O fs+1<=150)(h18:o.1=18->o.2<=7/\1<=O f.stack)(hsl:O f.stack<=1000)(hfl:O fs<=150)(hm0:m.en=0)(hO:qF H p (m.top fs f)):
  qX prog gl 170 DM [.pt Yn 0,.pt Yn (yo (O fs)),.agg [iv o.1,iv o.2]] H (λ_ y H'=>y=bv (decide ((yl p m fs f o).en=0))/\qF H' p (yl p m fs f o)) qw:=by
 have h0:=hO;have yoh:yo (O fs)+29<=4415:=kP;obtain⟨c,a⟩:=o;obtain⟨x,rfl⟩:∃x:Nat,a=x:=⟨a.toNat,mX⟩;simp only at hc h17 h18 harg;refine qX.q9 func170 [.tmp 6] ntmps170 (λ_=>zF) λC w g root hroot=>?_;refine qH ?_<|qW;refine uR (λs=>s.tm 0=.pt Yn 0/\s.tm 1=.pt Yn (yo (O fs))/\s.tm 5=.pt (.s 5) 0/\s.hp (.s 5)=Z (.row 2 [[iv c,iv x]])/\s.tm 10=iv c/\s.tm 11=bv (c==1)/\qF s.hp p (m.top fs f)) ⟨qB,qB,qB,qB,qB,qB,oV⟩ ?_;clear hO;rintro s ⟨t0,t1,t5,p5,t10,t11,hO⟩;obtain⟨R,j,hT,tr,h2,h3,h28⟩:=hO.yX rfl qA;have f28:=tr.f28;rcases hc with rfl|rfl|rfl
 .have hw:yl p m fs f (1,(x:Int))=m.top fs (f.push (1,x)):=br;rw[hw];refine xU ?_<|zx t0 t1 t5 p5 t10<|t11;intro K hK;have fx:=aI t0 (aI t1 (aI t5 p5));refine jI h0 (have h:=hO;qF.re h) (qb _) (hF:=λ_=>eR gl DM (λ_=>zF) _ R (yo (O fs)) f.stack j (1,(x:Int)) rfl rfl zG f28 kX hsl yoh) (h:=?_);intro y H1 hw1;clear fx;have hO1:=qF.eD (m:=m.top fs f) ef rfl qA rfl zG hw1;refine xU ?_<|qW;refine qE [] .nil qD ⟨fP,qF.fin (have h:=hO1;qF.re h)⟩
 .have hw:yl p m fs f (17,(x:Int))=ck p m fs f (17,(x:Int)):=br;rw[hw];obtain⟨k1,k2,k3⟩:=h17 rfl;simp only[un]at k2;refine xU ?_<|zx t0 t1 t5 p5 t10<|t11;intro K hK;have fx:=aI t0 (aI t1 (aI t5 p5));refine jI h0 (have h:=hO;qF.re h) (qb _) (hF:=λhO=>qEs gl _ p m fs f x pc0 hP hM qA k2 hsl k3 hm0 hO) (h:=?_);rintro y H1 ⟨rfl,hO1⟩;clear fx;refine xU ?_<|qW;refine qE [] .nil qD ⟨qB,qF.fin (have h:=hO1;qF.re h)⟩
 .have hw:yl p m fs f (18,(x:Int))=dO m fs f (18,(x:Int)):=br;rw[hw];obtain⟨k1,k2⟩:=h18 rfl;have htm:=hM.top.sv _ (lq (f:=f) qA);refine xU ?_<|zx t0 t1 t5 p5 t10<|t11;intro K hK;have fx:=aI t0 (aI t1 (aI t5 p5));refine jI h0 (have h:=hO;qF.re h) (qb _) (hF:=λhO=>qEp gl _ p m fs f x qA k2 hsl (λh=>⟨htm.num.1,htm.cls h⟩) hm0 hfl hO) (h:=?_);rintro y H1 ⟨rfl,hO1⟩;clear fx;refine xU ?_<|qW;refine qE [] .nil qD ⟨qB,qF.fin (have h:=hO1;qF.re h)⟩
abbrev Zf:qV:=wG<|.l 11 [6,5,4,3,2,1,0]<|.q 12<|.l 13 [4,3,2,1,0]<|.l 14 [0]<|.q 15<|.q 16<|.l 17 []<|.done
abbrev Zg:qV:=ba<|.l 7 [2,1,0]<|.l 8 []<|.done
abbrev Zh:qV:=bA<|.l 6 [4,3,2,1,0]<|.l 7 [4,3,2,1,0]<|.l 8 [4,3,2,1,0]<|.l 9 [0]<|.q 10<|.q 11<|.l 12 []<|.done
def ou(k:G2)(x:A)(h:A->jH G2->G:=by
 intro fx kk;refine qK ?_
 repeat((first|refine qP (id:=10) Zf mixed ?_|refine qP (id:=13) Zg mixed ?_|refine qP (id:=19) Zh mixed ?_);refine zC ?_;refine qK ?_)
 exact kk.h):G:=h x ⟨k⟩
def qFE(gl)(H:Nm->Option AO)(p:qC)(m:qR)(fs:List qO)(f:qO)(o:Int×Int)(harg:0<=o.2/\o.2<=1000)(hc:o.1=14)(pc0:Nat)(hP:zi p)(hM:yf p m fs {f with pc:=pc0})(h14:2<=O f.stack)(hsl:O f.stack<=1000)(hfl:O fs<=150)(hm0:m.en=0)(hO:qF H p (m.top fs f)):
  qX prog gl 170 DM [.pt Yn 0,.pt Yn (yo (O fs)),.agg [iv o.1,iv o.2]] H (λ_ y H'=>y=bv (decide ((yl p m fs f o).en=0))/\qF H' p (yl p m fs f o)) qw:=by
 have h0:=hO;have yoh:yo (O fs)+29<=4415:=kP;obtain⟨c,a⟩:=o;obtain⟨x,rfl⟩:∃x:Nat,a=x:=⟨a.toNat,mX⟩;simp only at hc harg;refine qX.q9 func170 [.tmp 6] ntmps170 (λ_=>zF) λC w g root hroot=>?_;refine qH ?_<|qW;refine uR (λs=>s.tm 0=.pt Yn 0/\s.tm 1=.pt Yn (yo (O fs))/\s.tm 5=.pt (.s 5) 0/\s.hp (.s 5)=Z (.row 2 [[iv c,iv x]])/\s.tm 10=iv c/\s.tm 11=bv (c==1)/\qF s.hp p (m.top fs f)) ⟨qB,qB,qB,qB,qB,qB,oV⟩ ?_;clear hO;rintro s ⟨t0,t1,t5,p5,t10,t11,hO⟩;obtain⟨R,j,hT,tr,h2,h3,h28⟩:=hO.yX rfl qA;have f28:=tr.f28;subst hc;have hw:yl p m fs f (14,(x:Int))=fI m fs f:=br;have hadd:fI m fs f=(if f.pop.zE.1≠1\/f.zE.1≠1 then m.stop fs f.pop.pop 5 else m.top fs (f.pop.pop.push (1,(f.pop.zE.2+f.zE.2).tmod 1000))):=rfl;rw[hw,hadd];clear hw hadd;obtain⟨k,hk⟩:∃k,O f.stack=k+1+1:=⟨O f.stack - 2,qA⟩;have hk2:=xl hk;have hv1:=hM.top.sv _ (lq (f:=f) qA);have hv2:=hM.top.sv _ (pF (lq (f:=f.pop) (by rw[nE];omega)));rw[hk]at f28;refine ou ?_<|zx t0 t1 t5 p5 t10<|t11;intro K hK;have fx:=aI t0 t1;refine jI h0 (have h:=hO;qF.re h) (qb _) (hF:=λ_=>nj gl DM (λ_=>zF) _ R (yo (O fs)) (k+1) (f.stack++j) f.zE zG f28 kX (ib hk) qA yoh) (h:=?_);intro y H1 hw;clear fx;have hO1:=qF.qk (qF.eC (m:=m.top fs f) (have h:=hO;qF.re h) rfl qA zG hk) hw;obtain⟨rfl,-⟩:=hw;replace hO1:qF H1 p (m.top fs f.pop):=hO1
 generalize hfp:f.pop=f1 at *;generalize hft:f.zE=u at *;obtain⟨u1,u2⟩:=u;refine ou ?_<|ql t0 t1<|hT;refine uM (λs=>s.tm 0=.pt Yn 0/\s.tm 1=.pt Yn (yo (O fs))/\s.tm 21=.agg [iv u1,iv u2]/\s.tm 22=.pt Yn (yo (O fs))/\qF s.hp p (m.top fs f1)) ⟨wP,by simp[t1,hT],qB,by simp[t1,hT],(by repeat(first|(with_reducible exact hO1)|refine JG ?_|refine JH cj ?_|refine JE ?_|refine CP ?_|refine JF ?_|refine JD ?_|exact(have h:=hO1;qF.re h)))⟩ ?_;clear hO hO1 hT tr h2 h3 h28 f28 t0 t1 t5 p5 t10 t11 R j;rintro s ⟨t0,t1,t21,t22,hO⟩;obtain⟨R,j,hT,tr,h2,h3,h28⟩:=hO.yX rfl qA;have f28:=tr.f28;rw[hk2]at f28;have fx:=aI t0 (aI t1 t22);refine jI h0 (have h:=hO;qF.re h) (qb _) (hF:=λ_=>nj gl DM (λ_=>zF) _ R (yo (O fs)) k (f1.stack++j) f1.zE zG f28 kX (ib hk2) qA yoh) (h:=?_);intro y H2 hw;clear fx;have hO2:=qF.qk (qF.eC (m:=m.top fs f1) (have h:=hO;qF.re h) rfl qA zG hk2) hw;obtain⟨rfl,-⟩:=hw;replace hO2:qF H2 p (m.top fs f1.pop):=hO2;have hk3:=xl hk2;generalize hfp2:f1.pop=f2 at *;generalize hft2:f1.zE=v at *;obtain⟨v1,v2⟩:=v;have hu2:=hv1.num;have hv2:=hv2.num;simp only at hu2 hv2;have hwr:IntKind.i64.wrap (v2+u2)=v2+u2:=qk qA qA;have hq0:=AY 1000 (show 0<=v2+u2 by omega);have hq1:=AZ (v2+u2) (show(0:Int)<1000 by omega);have hwq:IntKind.i64.wrap ((v2+u2).tmod 1000)=(v2+u2).tmod 1000:=qk qA qA
 generalize hmm:(if(v1,v2).1≠1\/(u1,u2).1≠1 then m.stop fs f2 5 else m.top fs (f2.push (1,((v1,v2).2+(u1,u2).2).tmod 1000)))=mm at hK ⊢;simp only at hmm;by_cases k1:v1=1/\u1=1
 .obtain⟨rfl,rfl⟩:=k1;rw[if_neg qB]at hmm;subst hmm;refine ou ?_<|zx t0 t1 t21 hT hwr<|hwq;intro K hK;refine uM (λs=>s.tm 34=.pt Yn (yo (O fs))/\s.tm 41=.agg [iv 1,iv ((v2+u2).tmod 1000)]/\qF s.hp p (m.top fs f2)) ⟨qB,qB,Ab⟩ ?_;rintro s ⟨t34,t41,hO⟩;obtain⟨R,j,hT,tr,h2,h3,h28⟩:=hO.yX rfl qA;have fx:=aI t34 t41;refine jI h0 (have h:=hO;qF.re h) (qb _) (hF:=λ_=>eR gl DM (λ_=>zF) _ R (yo (O fs)) f2.stack j (1,(v2+u2).tmod 1000) rfl rfl zG tr.f28 kX qA yoh) (h:=?_);intro y H3 hw3;clear fx;have hO3:=qF.eD (m:=m.top fs f2) ef rfl qA rfl zG hw3;refine ou ?_<|qW;refine qE [] .nil qD ⟨fP,qF.fin (have h:=hO3;qF.re h)⟩
 .have hne:v1≠1\/u1≠1:=qA;rw[if_pos hne]at hmm;subst hmm;by_cases k2:v1=1
  .subst k2;have kb:(u1 != 1)=B:=by simpa using k1
   refine ou ?_<|zJ t0 t1 t21 hT<|kb;intro K hK;refine uM (λs=>s.tm 32=.pt Yn 0/\qF s.hp p (m.top fs f2)) ⟨qB,Ab⟩ ?_;rintro s ⟨t32,hO⟩;obtain⟨R,j,hT,tr,-⟩:=hO.yX rfl qA;have fx:=t32;refine jI h0 (have h:=hO;qF.re h) (qb _) (hF:=λ_=>gQ gl DM (λ_=>zF) _ R 5 zG tr.len) (h:=?_);intro y H3 hw3;clear fx;have hO3:=qF.qk (qF.gG (m:=m.top fs f2) (e:=5) (have h:=hO;qF.re h) rfl zG) hw3;obtain⟨rfl,-⟩:=hw3;refine ou ?_<|qW;refine qE [] .nil qD ⟨tF,qF.fin (have h:=hO3;qF.re h)⟩
  .have kb:(v1 != 1)=B:=by simpa using k2
   refine ou ?_<|zJ t0 t1 t21 hT<|kb;intro K hK;refine uM (λs=>s.tm 32=.pt Yn 0/\qF s.hp p (m.top fs f2)) ⟨qB,Ab⟩ ?_;rintro s ⟨t32,hO⟩;obtain⟨R,j,hT,tr,-⟩:=hO.yX rfl qA;have fx:=t32;refine jI h0 (have h:=hO;qF.re h) (qb _) (hF:=λ_=>gQ gl DM (λ_=>zF) _ R 5 zG tr.len) (h:=?_);intro y H3 hw3;clear fx;have hO3:=qF.qk (qF.gG (m:=m.top fs f2) (e:=5) (have h:=hO;qF.re h) rfl zG) hw3;obtain⟨rfl,-⟩:=hw3;refine ou ?_<|qW;refine qE [] .nil qD ⟨tF,qF.fin (have h:=hO3;qF.re h)⟩
abbrev Zi:qV:=wG<|.l 11 [6,5,4,3,2,1,0]<|.q 12<|.l 13 [4,3,2,1,0]<|.l 14 [0]<|.q 15<|.q 16<|.l 17 []<|.done
abbrev Zj:qV:=ba<|.l 7 [2,1,0]<|.l 8 []<|.done
abbrev Zk:qV:=bA<|.l 6 [4,3,2,1,0]<|.l 7 [4,3,2,1,0]<|.l 8 [4,3,2,1,0]<|.l 9 [0]<|.q 10<|.q 11<|.l 12 []<|.done
def xV(k:G2)(x:A)(h:A->jH G2->G:=by
 intro fx kk;refine qK ?_
 repeat((first|refine qP (id:=10) Zi mixed ?_|refine qP (id:=13) Zj mixed ?_|refine qP (id:=19) Zk mixed ?_);refine zC ?_;refine qK ?_)
 exact kk.h):G:=h x ⟨k⟩
theorem QO(gl)(H:Nm->Option AO)(p:qC)(m:qR)(fs:List qO)(f:qO)(o:Int×Int)(harg:0<=o.2/\o.2<=1000)(hc:o.1=15\/o.1=16)(pc0:Nat)(hP:zi p)(hM:yf p m fs {f with pc:=pc0})(hblk:∃q,p[o.2.toNat]?=Z q/\q.parent=f.qG/\0<o.2/\q.kind=o.1-14)(hf16:o.1=16->O fs+1<=150)(hsl:O f.stack<=1000)(hfl:O fs<=150)(hm0:m.en=0)(h9:H (.u 9 0 0)=Y)(hO:qF H p (m.top fs f)):
  qX prog gl 170 DM [.pt Yn 0,.pt Yn (yo (O fs)),.agg [iv o.1,iv o.2]] H (λ_ y H'=>y=bv (decide ((yl p m fs f o).en=0))/\qF H' p (yl p m fs f o)) qw:=by
 have h0:=hO;have yoh:yo (O fs)+29<=4415:=kP;obtain⟨c,a⟩:=o;obtain⟨x,rfl⟩:∃x:Nat,a=x:=⟨a.toNat,mX⟩;simp only at hc hblk hf16 harg;refine qX.q9 func170 [.tmp 6] ntmps170 (λ_=>zF) λC w g root hroot=>?_;refine qH ?_<|qW;refine uR (λs=>s.tm 0=.pt Yn 0/\s.tm 1=.pt Yn (yo (O fs))/\s.tm 5=.pt (.s 5) 0/\s.hp (.s 5)=Z (.row 2 [[iv c,iv x]])/\s.tm 10=iv c/\s.tm 11=bv (c==1)/\qF s.hp p (m.top fs f)) ⟨qB,qB,qB,qB,qB,qB,oV⟩ ?_;clear hO;rintro s ⟨t0,t1,t5,p5,t10,t11,hO⟩;obtain⟨R,j,hT,tr,h2,h3,h28⟩:=hO.yX rfl qA;have f28:=tr.f28;obtain⟨kb,hk1,hk2,hk3,hk4⟩:=hblk;simp only[un]at hk1;have hxl:=(gS hk1).1;have hp7:=hP.sh.len;have hcin:=Rz (f:={f with pc:=pc0}) hP.sh.jK hM.top hk1 hk2;obtain⟨hco1,hco2⟩:O (jM p f x)=O (za p x)/\∀c∈jM p f x,c<O m.cells:=DJ (f:={f with pc:=pc0}) hP.sh.jK hM.top hk1 hk2;have hc3:=iL (p:=p) (b:=x);have hnf:=hM.nf;have hRl:=tr.len;have fA:=tr.fA;obtain⟨_,r30E⟩:=gS fA;simp only[sN]at fA r30E;rcases hc with rfl|rfl
 .have hw:yl p m fs f (15,(x:Int))={m.top fs (f.push (2,O m.qI))with qI:=m.qI++[(x,jM p f x)]}:=br;rw[hw];have hfl3:O m.qI<=1000:=qA;have hwf:IntKind.i64.wrap (O m.qI:Int)=O m.qI:=qk qA qA;refine xV ?_<|ya t0 t1 t5 p5 t10 t11 hT hRl fA<|r30E;intro K hK;have fx:=aI t0 (aI t1 (aI t5 p5));have hO0:=hO;refine NO 56 (.s 56) ?_;refine qET DM (.c Yn 0 30) (.u 9 0 0) (z:=1) (len:=O (jM p f x)) (rows:=zd (jM p f x)) rfl rfl A2 (λ_=>zF) qB (λ_=>Ep) (λ_=>Er) tJ (λk i j he=>?_) qB (xE λc=>qB) (hF:=?_) (h:=?_)
  .rcases h0.ext hO (qb _) k i j he with h|h
   .exact .inl h
   .refine .inr λh'=>h ?_;simp only[zU]
    split
    .exact h'
    .rfl
  .exact QK gl im (λ_=>JP) _ p (O fs) f x (R.map (AV.tr (mv (.c Yn 0 30) (.u 9 0 0)))) hxl qA hfl (by simp[zU,im,jP,hT,AO.tr]) (by simp[hRl]) (by rw[j3,tr.r1];simp) (by rw[j3,tr.f3];simp) (by simp[zU,im,jP,hO.vI,AO.tr]) (by simp[zU,im,jP,h3,AO.tr]) (λ_=>rfl) (λ_ _=>rfl) rfl hcin xA
  intro hp' hS hr1;clear fx;have hO1:=hO.same hS;obtain⟨R1,j1,hT1,tr1,h21,h31,h281⟩:=qF.yX (f:=f) hO1 rfl qA;have hR1l:=tr1.len;have r301:=tr1.fA;obtain⟨_,r301E⟩:=gS r301;simp only[sN]at r301 r301E;have hFn:=hO1.qI;simp only[sN]at hFn;refine⟨.sl 1 (zd (jM p f x)),FJ (by simp[hr1]) qB LD,?_⟩;refine xV ?_<|qg t0 t1 t5 p5 hT hRl fA r30E hT1 hR1l r301 r301E<|ql hFn hfl3<|hwf;intro K hK;have hap:ut m.qI++[[iv x,.sl 1 (zd (jM p f x))]]=ut (m.qI++[(x,jM p f x)]):=UA (g:=(x,jM p f x));refine uM (λs=>s.tm 62=.pt Yn (yo (O fs))/\s.tm 69=.agg [iv 2,iv (O m.qI)]/\qF s.hp p (({m with qI:=m.qI++[(x,jM p f x)]}:qR).top fs f)) ⟨qB,qB,?_⟩ ?_
  .have h:=hO1;exact qF.uY (f:=f) (g:=f) (fs:=fs) h rfl rfl rfl (EI hT1 qD (λJ hJ e=>by rw[e];simp only[o8];exact UQ (m.qI++[(x,jM p f x)]) hJ qB (λj hj=>by simp[hj]))) (h4:=Am) (h6t:=by simp[h21]) (h7t:=by simp[h31]) (h8t:=⟨j1,tc⟩)
  rintro s ⟨t62,t69,hO⟩;obtain⟨R,j,hT,tr,-,-,h28⟩:=qF.yX (f:=f) hO rfl qA;have fx:=aI t62 t69;refine jI h0 (have h:=hO;qF.re h) (qb _) (hF:=λ_=>eR gl DM (λ_=>zF) _ R (yo (O fs)) f.stack j (2,(O m.qI:Int)) rfl rfl zG tr.f28 kX hsl yoh) (h:=?_);intro y H2 hw2;clear fx;have hO2:=qF.eD (f:=f) ef rfl qA rfl zG hw2;refine xV ?_<|qW;refine qE [] .nil qD ⟨fP,qF.fin (have h:=hO2;qF.re h)⟩
 .have hw:yl p m fs f (16,(x:Int))=yG p (m.top fs f) x (jM p f x) []:=br;rw[hw]
  have hpm:(zQ p x).params=[]:=by
   have:=hP.sh.head x kb hk1;unfold ul at this;rw[if_neg qA]at this;have h0:O kb.params=0:=qA;simp[zQ,hk1,bN h0]
  have hmd:=hM.made;have hdp:=hM.deep;have hnc:=hM.nc;have hf16:=hf16 rfl;refine xV ?_<|zx t0 t1 t5 p5 t10<|t11;intro K hK;have fx:=aI t0 (aI t1 (aI t5 p5));refine jI h0 (have h:=hO;qF.re h) (qb _) (hF:=λhO=>qEt gl _ p m fs f x hxl qA hfl hcin xA hO) (h:=?_);rintro y H1 ⟨rfl,hr1,hO1⟩;clear fx;refine xV ?_<|zJ t0 t1 t5 p5<|hT;refine uM (λs=>s.tm 5=.pt (.s 5) 0/\s.tm 74=.pt (.s 5) 1/\s.tm 78=.pt (.s 5) 1/\s.tm 73=.pt Yn 0/\s.tm 75=iv x/\s.tm 80=.hs (.s 80) 1 0 (O (jM p f x))/\s.hp (.s 80)=Z (.row 1 (zd (jM p f x)))/\qF s.hp p (m.top fs f)) ⟨ee,ee,ee,wP,qB,qB,by simp[hr1],(have h:=hO1;qF.re h)⟩ ?_;rintro s ⟨t5,t74,t78,t73,t75,t80,p80,hO⟩;refine HN 80 (.s 80) 1 (O (jM p f x)) (zd (jM p f x)) t80 p80 qB LD ?_;have fx:=aI t73 t75;refine jI h0 (CP hO) (qb _) (hF:=λhO=>(JA gl _ p (m.top fs f) x (jM p f x) [] hxl qA qA hco2 Cu Cg (by simp only[qR.top];omega) (by simp[qR.top];omega) (.inl hpm) (by rw[hpm];rfl) (hM.L5 rfl) hM.LZ hO).W9) (h:=?_);rintro y H2 hO2;clear fx;refine xV ?_<|ql t5 t74<|t78;refine qE [] .nil qD ⟨by simp[FF,qR.top,hm0],qF.fin (have h:=hO2;qF.re h)⟩
abbrev Zl:qV:=wG<|.l 11 [6,5,4,3,2,1,0]<|.q 12<|.l 13 [4,3,2,1,0]<|.l 14 [0]<|.q 15<|.q 16<|.l 17 []<|.done
abbrev Zm:qV:=ba<|.l 7 [2,1,0]<|.l 8 []<|.done
abbrev Zn:qV:=bA<|.l 6 [4,3,2,1,0]<|.l 7 [4,3,2,1,0]<|.l 8 [4,3,2,1,0]<|.l 9 [0]<|.q 10<|.q 11<|.l 12 []<|.done
def BS(k:G2)(x:A)(h:A->jH G2->G:=by
 intro fx kk;refine qK ?_
 repeat((first|refine qP (id:=10) Zl mixed ?_|refine qP (id:=13) Zm mixed ?_|refine qP (id:=19) Zn mixed ?_);refine zC ?_;refine qK ?_)
 exact kk.h):G:=h x ⟨k⟩
def QP(gl)(H:Nm->Option AO)(p:qC)(m:qR)(fs:List qO)(f:qO)(o:Int×Int)(harg:0<=o.2/\o.2<=1000)(hc:o.1=19\/o.1=20)(pc0:Nat)(hP:zi p)(hM:yf p m fs {f with pc:=pc0})(hst:1<=O f.stack)(h20:o.1=20->jk p f.qG=1)(hlow:∀g∈fs,O g.stack<=1000)(hne:o.1=20->fs≠[])(hsl:O f.stack<=1000)(hfl:O fs<=150)(hm0:m.en=0)(h9:H (.u 9 0 0)=Y)(hO:qF H p (m.top fs f)):
  qX prog gl 170 DM [.pt Yn 0,.pt Yn (yo (O fs)),.agg [iv o.1,iv o.2]] H (λ_ y H'=>y=bv (decide ((yl p m fs f o).en=0))/\qF H' p (yl p m fs f o)) qw:=by
 have h0:=hO;have yoh:yo (O fs)+29<=4415:=kP;obtain⟨c,a⟩:=o;obtain⟨x,rfl⟩:∃x:Nat,a=x:=⟨a.toNat,mX⟩;simp only at hc h20 hne harg;refine qX.q9 func170 [.tmp 6] ntmps170 (λ_=>zF) λC w g root hroot=>?_;refine qH ?_<|qW;refine uR (λs=>s.tm 0=.pt Yn 0/\s.tm 1=.pt Yn (yo (O fs))/\s.tm 5=.pt (.s 5) 0/\s.hp (.s 5)=Z (.row 2 [[iv c,iv x]])/\s.tm 10=iv c/\s.tm 11=bv (c==1)/\qF s.hp p (m.top fs f)) ⟨qB,qB,qB,qB,qB,qB,oV⟩ ?_;clear hO;rintro s ⟨t0,t1,t5,p5,t10,t11,hO⟩;obtain⟨R,j,hT,tr,h2,h3,h28⟩:=hO.yX rfl qA;have f28:=tr.f28;obtain⟨k,hk⟩:∃k,O f.stack=k+1:=⟨O f.stack - 1,qA⟩;rcases hc with rfl|rfl
 .have hw:yl p m fs f (19,(x:Int))={m.top fs f.pop with out:=m.out++[Hm.shown f.zE]}:=br;rw[hw];have hmo:=hM.out;have hol:O m.out<=1000:=qA;have hRl:=tr.len;have r4:=tr.r4;obtain⟨_,r4E⟩:=gS r4;simp only[qR.top]at r4 r4E;refine BS ?_<|ya t0 t1 t5 p5 t10 t11 hT hRl r4<|r4E;intro K hK;obtain⟨R0,R',vs,k1,k2,k3,k4,k5,k6⟩:=qF.wx (j:=4) hO rfl qA hk kP;have fx:=aI t0 t1;refine Ef DM (.c Yn 0 4) (.u 9 0 0) Yn (.row 4415 [qq R0 (yo (O fs)+28) [.hs (.c Yn 0 (yo (O fs)+28)) 2 0 k]]) (q8.av f.zE) (hV:=rfl) (hN:=rfl) (hVe:=A2) (λ_=>zF) qB (λ_=>Ep) (λ_=>Er) rP (λk i j he=>?_) rfl qB qB (hF:=KI) (h:=?_)
  .rcases h0.ext hO (qb _) k i j he with h|h
   .exact .inl h
   .refine .inr λh'=>h ?_;simp only[zU]
    split
    .exact h'
    .rfl
  intro hp' hS;clear fx;have hO1:qF hp' p (m.top fs f.pop):=(qF.eC (m:=m.top fs f) hO rfl qA k1 hk).same hS;obtain⟨R1,j1,hT1,tr1,h21,h31,h281⟩:=qF.yX (f:=f.pop) hO1 rfl qA;have hR1l:=tr1.len;have r41:=tr1.r4;obtain⟨_,r41E⟩:=gS r41;simp only[qR.top]at r41 r41E;have hOu:=hO1.out;simp only[qR.top]at hOu;have hsh:=Gb gl f.zE;generalize hv:f.zE=v at *;obtain⟨v1,v2⟩:=v;have fx:=qg t0 t1 t5 p5 hT hRl r4 r4E hT1 hR1l r41 r41E<|aI hOu<|hol;have c1:=hsh;refine BS ?_<|@fx;clear fx c1;refine qE [] .nil qD ⟨fP,qF.fin ?_⟩;have h:=hO1;exact qF.uY (f:=f.pop) (g:=f.pop) (fs:=fs) h rfl rfl rfl (EI hT1 qD (λJ hJ e=>by rw[e];simp only[o8];exact US (m.out++[Hm.shown (v1,v2)]) hJ qB (λj hj=>by simp[hj]))) (h2:=qB) (h6t:=by simp[h21]) (h7t:=by simp[h31]) (h8t:=⟨j1,tc⟩)
 .have hw:yl p m fs f (20,(x:Int))=vK m fs f.zE:=br;rw[hw];have hfne:=hne rfl;obtain⟨gs,g0,rfl⟩:∃gs g0,fs=gs++[g0]:=⟨fs.dropLast,fs.getLast hfne,(mJ hfne).symm⟩;have hkd:=h20 rfl;have hnk:=hM.nk;have hmd:=hM.made;rw[hk]at f28;refine BS ?_<|zx t0 t1 t5 p5 t10<|t11;intro K hK;have fx:=aI t0 t1;refine jI h0 (have h:=hO;qF.re h) (qb _) (hF:=λ_=>nj gl DM (λ_=>zF) _ R (yo (O (gs++[g0]))) k (f.stack++j) f.zE zG f28 (by simpa using h28) (ib hk) qA yoh) (h:=?_);intro y H1 hw;clear fx;have hO1:=qF.qk (qF.eC (m:=m.top (gs++[g0]) f) (have h:=hO;qF.re h) rfl qA zG hk) hw;obtain⟨rfl,-⟩:=hw;replace hO1:qF H1 p (m.top (gs++[g0]) f.pop):=hO1;have hyf:=λH hO=>QM gl H p m gs g0 f.pop f.zE hM.top.qG (by simp at hfl;omega) (hlow g0 qB) qA hO;rw[show f.pop.qG=f.qG from rfl,if_neg qA]at hyf;refine BS ?_<|ql t0 t1<|hT;have fx:=aI t0 (aI t1 hT);refine jI h0 (have h:=hO1;qF.re h) (qb _) (hF:=λhO=>hyf _ hO) (h:=?_);intro y H2 hO2;clear fx;refine BS ?_<|qW;refine qE [] .nil qD ⟨by simp[M0,hm0],qF.fin (have h:=hO2;qF.re h)⟩
end Go.Proofs.YtjgpejikjhojcaaGreatDoor
end
