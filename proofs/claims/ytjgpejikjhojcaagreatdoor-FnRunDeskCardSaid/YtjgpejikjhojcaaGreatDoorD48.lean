import Derived.Test.YtjgpejikjhojcaaGreatDoorD44
import Derived.Test.YtjgpejikjhojcaaGreatDoorD35
import Derived.Test.YtjgpejikjhojcaaGreatDoorD43
set_option linter.all false
set_option maxRecDepth 100000
set_option maxHeartbeats 4000000
open Option renaming some->Z,none->Y
open Bool renaming true->B,false->M
open List renaming length->O

section
namespace Go.Proofs.YtjgpejikjhojcaaGreatDoor
open Go Go.Hm Go.Proofs Tryz
variable{A:qZ->qZ}{G G2:Prop}{ls:List qZ}{s:qZ}
def Sy(gl):qL prog gl 34 [] (λr y H'=>y=.hs r 1 0 (O aN)/\H' r=Z (.row 1 (uJ aN))):=by
 refine qL.q9 func34 [.tmp 0] ntmps34 λC w g root=>?_;refine qH ?_<|qW;exact yg (t:=0) ji ji qB
def Sz(gl):qL prog gl 34 [] (λ_ y _=>y=vD aN):=
 (Sy gl).settle λr y H' h=>⟨vD aN,Fu,rfl⟩
def X8(gl)(s:qZ)(q:qC)(hs:O s<=1048576)(hq:vo s=Z q):qL prog gl 18 [tx s] (λ_ y _=>y=.zT [jB q,bv B]):=
 (PE gl s hs).settle λr y H'⟨p,h1,h2,h3⟩=>⟨.zT [jB q,bv B],by rw[h1,hq,<- h3 q hq];exact KF h2,rfl⟩
def qBq(gl)(p:qC)(hs:jm p):qL prog gl 47 [jB p] (λ_ y _=>y=iv (sK p)):=by
 refine qL.q9 func47 [.tmp 2] ntmps47 λC w g root=>?_
 cases hv:j2 p
 .skip
  have fx:=hv;have c1:=hv ▸ lu gl p hs;refine qK ?_;clear fx c1;refine qE [] .nil qD Co
 .have hP:=zi.of hs hv;have hm:=mq hP.sh (f:=150) qA;have hml:=hm.left;have fx:=hv;have c1:=hv ▸ lu gl p hs;refine qK ?_;clear fx c1;intro K hK;have fx:=qW;refine uT Wn rfl Ah (hF:=Mo gl _ p 150 hP qA mP) (h:=?_);rintro y H1 ⟨rfl,hO1⟩;clear fx;have hT1:=hO1.top;simp only[jW]at hT1;have hw:IntKind.i64.wrap (150-((v7 p 150).left:Int))=150-((v7 p 150).left:Int):=qk qA qA;refine qH ?_<|aI hT1<|hw;refine qE [] .nil qD Co
abbrev ew:qV:=xq<|.q 5<|.q 6<|.q 7<|.l 4 [7,6,5,0]<|.l 8 [0]<|.l 9 []<|.l 10 []<|.done
abbrev ez:qV:=.q 1<|.l 0 [1]<|.l 2 []<|.q 3<|.q 4<|.q 5<|.q 6<|.q 7<|.l 8 []<|.done
def qBo(gl)(p:qC)(b x:Nat)(hs:jm p)(hpo:j2 p=B):qL prog gl 46 [jB p,iv b,iv x] (λ_ y _=>y=iv (b8 p b x)):=by
 have hP:=zi.of hs hpo
 have hsh:kL p=B:=by
  simp only[j2,yF]at hpo;exact hpo.1
 have hvp:=lu gl p hs;rw[hpo]at hvp;have hvu:=qDm gl p b x hs;refine qL.q9 func46 [.tmp 6] ntmps46 λC w g root=>?_;by_cases h:b<O p/\x<=7
 .obtain⟨k,hk⟩:=gX h.1;have how:=fw gl p b k x hk hs hP.sh.jK;rw[show((kL p&&(decide (0<=(b:Int))&&decide ((b:Int)<=(O p:Int)-1)))&&(decide (0<=(x:Int))&&decide ((x:Int)<=7)))=B by simp[hsh];omega]at hvu;have fx:=qW;have c1:=hvp;have c2:=hvu;have c3:=how;refine qK ?_;clear fx c1 c2 c3;refine qE [] .nil qD Cl
 .rw [show((kL p&&(decide (0<=(b:Int))&&decide ((b:Int)<=(O p:Int)-1)))&&(decide (0<=(x:Int))&&decide ((x:Int)<=7)))=M by
   rw[rG];intro e;simp at e;exact h ⟨qA,qA⟩]at hvu
  have fx:=qW;have c1:=hvp;have c2:=hvu;refine qK ?_;clear fx c1 c2;refine qE [] .nil qD Cl
def xv{n:Nat}(h:jC s=Z n):sH s=n:=Cd
def nN(h:jC s=Y):sH s=-1:=Cd
def RE(gl)(p:qC)(l:qZ)(hs:jm p)(hpo:j2 p=B)(hl:O l<=1048577):qL prog gl 19 [jB p,tx l] (λ_ y _=>y=tx (aH p l)):=by
 have hP:=zi.of hs hpo;have hsp:=IY gl l hl;have hne:=gB (c:=32) (l:=l);have hpart:=sJ (c:=32) (s:=l)
 have hA:aH p l=match zO 32 l with
  |[o,a,b]=>if o=pP then(match jC a,jC b with
   |some x,Z y=>iS (b8 p x y)
   |_,_=>uj p l)else uj p l
  |_=>uj p l:=rfl
 have h32:(32:UInt8)∉l->zO 32 l=[l]:=λh=>CD h
 have hw3:O (zO 32 l)=3->uj p l=fF/\(l==[98,108,111,99,107,115])=M/\(l==[101,110,100])=M/\(l==[115,116,101,112,115])=M/\(l==[99,101,108,108,115])=M/\(l==[102,114,97,109,101,115])=M:=by
  intro h
  have key:∀w:qZ,(32:UInt8)∉w->l≠w:=λw hw e=>by
   rw[h32 (e ▸ hw)]at h;simp at h
  have k1:=key cL qf;have k2:=key cN qf;have k3:=key eN qf;have k4:=key gH qf;have k5:=key ic qf;exact⟨by simp[uj,k1,k2,k3,k4,k5],by simpa[cL]using k1,by simpa[cN]using k2,by simpa[eN]using k3,by simpa[gH]using k4,by simpa[ic]using k5⟩
 generalize zO 32 l=W at hsp hne hpart hA hw3;refine qL.q9 func19 [.tmp 4] ntmps19 λC w g root=>?_;by_cases hl3:O W=3
 .obtain⟨hwA,b1,b2,b3,b4,b5⟩:=hw3 hl3
  obtain⟨o,a,b,rfl⟩:∃o a b,W=[o,a,b]:=by
   match W,hl3 with
   |[o,a,b],_=>exact⟨o,a,b,rfl⟩
  rw[hA];clear hw3 hl3 h32 hA;have hra:=EE gl a (by have:=hpart a qB;omega);have hrb:=EE gl b (by have:=hpart b qB;omega);simp only;by_cases ho:o=pP
  .rw [if_pos ho];have e0:(o==[111,119,110,101,114])=B:=by rw[ho];rfl
   cases ha:jC a with
   |none=>
    rw[nN ha]at hra;rw[hwA];have fx:=zx e0 b1 b2 b3 b4<|b5;have p1:=hsp;have c1:=hra;refine zk ?_
    repeat((first|refine qP (id:=3) ew mixed ?_|refine qP (id:=13) ez mixed ?_);refine vk ?_;refine zk ?_)
    clear fx p1 c1;refine qE [] .nil qD rM
   |some x=>
    rw[xv ha]at hra;have hx0:(0:Int)<=x:=qA
    cases hb:jC b with
    |none=>
     rw[nN hb]at hrb;simp only;rw[hwA];have fx:=zy e0 b1 b2 b3 b4 b5<|hx0;have p1:=hsp;have c1:=hra;have c2:=hrb;refine zk ?_
     repeat((first|refine qP (id:=3) ew mixed ?_|refine qP (id:=13) ez mixed ?_);refine vk ?_;refine zk ?_)
     clear fx p1 c1 c2;refine qE [] .nil qD rM
    |some y=>
     rw[xv hb]at hrb;have hy0:(0:Int)<=y:=qA;have how:=qBo gl p x y hs hpo;obtain⟨w1,w2⟩:=HU (b:=x) (x:=y) hP.sh.jK hP.sh.len.2;simp only;generalize b8 p x y=ow at how w1 w2 ⊢;unfold iS;by_cases c1:ow=-1
     .have c1':(ow == -1)=B:=by simp[c1]
      rw[if_pos c1];have fx:=qz e0 hx0 hy0<|c1';have p1:=hsp;have c1:=hra;have c2:=hrb;have c3:=how;refine zk ?_
      repeat((first|refine qP (id:=3) ew mixed ?_|refine qP (id:=13) ez mixed ?_);refine vk ?_;refine zk ?_)
      clear fx p1 c1 c2 c3;refine qE [] .nil qD (by simp[Ia])
     have c1':(ow == -1)=M:=by simpa using c1
     rw[if_neg c1];by_cases c2:ow<0
     .rw [if_pos c2];have fx:=zJ e0 hx0 hy0 c1'<|c2;have p1:=hsp;have c1:=hra;have c2:=hrb;have c3:=how;refine zk ?_
      repeat((first|refine qP (id:=3) ew mixed ?_|refine qP (id:=13) ez mixed ?_);refine vk ?_;refine zk ?_)
      clear fx p1 c1 c2 c3;refine qE [] .nil qD (by simp[Ib])
     rw[if_neg c2];have fx:=zJ e0 hx0 hy0 c1'<|c2;have p1:=hsp;have c1:=hra;have c2:=hrb;have c3:=how;have c4:=iR gl ow qA qA;refine zk ?_
     repeat((first|refine qP (id:=3) ew mixed ?_|refine qP (id:=13) ez mixed ?_);refine vk ?_;refine zk ?_)
     clear fx p1 c1 c2 c3 c4;refine qE [] .nil qD qB
  .rw [if_neg ho];have e0:(o==[111,119,110,101,114])=M:=by simpa[pP]using ho
   rw[hwA];have fx:=zx e0 b1 b2 b3 b4<|b5;have p1:=hsp;refine zk ?_
   repeat((first|refine qP (id:=3) ew mixed ?_|refine qP (id:=13) ez mixed ?_);refine vk ?_;refine zk ?_)
   clear fx p1;refine qE [] .nil qD rM
 .have hn3:((O W:Int)==3)=M:=kQ
  have hAw:aH p l=uj p l:=by
   rw[hA];rcases W with _|⟨a,_|⟨b,_|⟨c,_|⟨d,W⟩⟩⟩⟩
   .rfl
   .rfl
   .rfl
   .exact absurd rfl hl3
   .rfl
  rw[hAw];clear hAw hA hw3 h32;have hp7:=hP.sh.len;by_cases c1:l=cL
  .have b1:(l==[98,108,111,99,107,115])=B:=by rw[c1];rfl
   have fx:=aI hn3<|b1;have p1:=hsp;have c1:=iR gl (O p:Int) qA qA;refine zk ?_
   repeat((first|refine qP (id:=3) ew mixed ?_|refine qP (id:=13) ez mixed ?_);refine vk ?_;refine zk ?_)
   clear fx p1 c1;refine qE [] .nil qD (by simp[uj,c1])
  have b1:(l==[98,108,111,99,107,115])=M:=by simpa[cL]using c1
  by_cases c2:l=cN
  .have b2:(l==[101,110,100])=B:=by rw[c2];rfl
   have her:=(mq hP.sh (f:=150) qA).ok.eg;have hmf:=λgl H(h1:H (.u 1 0 0)=Y)=>Mo gl H p 150 hP qA h1;have hwd:uj p l=aN.getD (v7 p 150).en.toNat []:=by simp[uj,c2,cL,cN]
   rw[hwd];clear hwd;generalize v7 p 150=W at her hmf ⊢;obtain⟨e,hen⟩:∃e:Nat,W.en=e:=⟨W.en.toNat,qA⟩;have he8l:e<O aN:=by show e<8;omega
   obtain⟨u,hu⟩:=gX he8l;obtain⟨_,huE⟩:=gS hu;have hug:aN.getD W.en.toNat []=u:=by rw[hen];simp[bO,hu]
   rw[hug];have fx:=ql hn3 b1<|b2;have p1:=hsp;have p2:=Sz gl;refine zk ?_
   repeat((first|refine qP (id:=3) ew mixed ?_|refine qP (id:=13) ez mixed ?_);refine vk ?_;refine zk ?_)
   clear fx p1 p2;intro K hK;have fx:=qW;refine uT Wn rfl Ah (hF:=hmf gl _ qB) (h:=?_);rintro y H2 ⟨rfl,hO⟩;clear fx;have hT:=hO.top;simp only[jW]at hT;have fx:=zJ hT hen hu huE<|he8l;refine qK ?_
   repeat((first|refine qP (id:=3) ew mixed ?_|refine qP (id:=13) ez mixed ?_);refine zC ?_;refine qK ?_)
   clear fx;refine qE [] .nil qD qB
  have b2:(l==[101,110,100])=M:=by simpa[cN]using c2
  by_cases c3:l=eN
  .have b3:(l==[115,116,101,112,115])=B:=by rw[c3];rfl
   have hst:=qBq gl p hs;have hS:sK p=(150:Int)-((v7 p 150).left:Int):=by simp[sK,hpo]
   have hm:=(mq hP.sh (f:=150) qA).tr;rw[hS]at hst;have fx:=qz hn3 b1 b2<|b3;have p1:=hsp;have c1:=hst;have c2:=iR gl ((150:Int)-((v7 p 150).left:Int)) qA qA;refine zk ?_
   repeat((first|refine qP (id:=3) ew mixed ?_|refine qP (id:=13) ez mixed ?_);refine vk ?_;refine zk ?_)
   clear fx p1 c1 c2;refine qE [] .nil qD (by simp[uj,c3,cL,cN,eN])
  have b3:(l==[115,116,101,112,115])=M:=by simpa[eN]using c3
  obtain⟨c,n,d,d1,d2,d3,d4,d5,d6⟩:=GR hs hpo;by_cases c4:l=gH
  .have b4:(l==[99,101,108,108,115])=B:=by rw[c4];rfl
   have hcm:=qBm gl p 150 hs;rw[d1]at hcm;have fx:=zJ hn3 b1 b2 b3<|b4;have p1:=hsp;have c1:=hcm;have c2:=iR gl (c:Int) qA qA;refine zk ?_
   repeat((first|refine qP (id:=3) ew mixed ?_|refine qP (id:=13) ez mixed ?_);refine vk ?_;refine zk ?_)
   clear fx p1 c1 c2;refine qE [] .nil qD KT
  have b4:(l==[99,101,108,108,115])=M:=by simpa[gH]using c4
  by_cases c5:l=ic
  .have b5:(l==[102,114,97,109,101,115])=B:=by rw[c5];rfl
   have hfm:=qBn gl p 150 hs;rw[d3]at hfm;have fx:=zx hn3 b1 b2 b3 b4<|b5;have p1:=hsp;have c1:=hfm;have c2:=iR gl (n:Int) qA qA;refine zk ?_
   repeat((first|refine qP (id:=3) ew mixed ?_|refine qP (id:=13) ez mixed ?_);refine vk ?_;refine zk ?_)
   clear fx p1 c1 c2;refine qE [] .nil qD KK
  have b5:(l==[102,114,97,109,101,115])=M:=by simpa[ic]using c5
  have fx:=zx hn3 b1 b2 b3 b4<|b5;have p1:=hsp;refine zk ?_
  repeat((first|refine qP (id:=3) ew mixed ?_|refine qP (id:=13) ez mixed ?_);refine vk ?_;refine zk ?_)
  clear fx p1;refine qE [] .nil qD (by simp[uj,c1,c2,c3,c4,c5,fF])
abbrev Nv:qV:=bA<|.l 6 [0]<|.q 7<|.q 8<|.l 9 []<|.done
def BC(h:∀x,O (A x)<=2000)(l:List qZ):O (y5 10 (l.map A))<=2001*O l:=by
 induction l with
 |nil=>simp[y5]
 |cons x l ih=>
  have h1:=h x;rw[cX,Gr];simp only[u7,fK];omega
def GP{i:Nat}{l:qZ}(h:ls[i]?=Z l):y5 10 ((ls.take (i+1)).map A)=y5 10 ((ls.take i).map A)++(A l++[10]):=by
 rw[vd,h,rF];exact Gt
def GQ(h:O ls<=20)(hp:vo s=Y):bR s ls=y5 10 (ls.map λ_=>gI):=by
 unfold bR;rw[if_pos h,hp]
def GS{q:qC}(h:O ls<=20)(hp:vo s=Z q):bR s ls=y5 10 (ls.map (aH q)):=by
 unfold bR;rw[if_pos h,hp]
def Kt(h:¬O ls<=20):bR s ls=[]:=by
 unfold bR;rw[if_neg h]
def rt{A:Prop}(k:G2)(x:A)(h:A->jH G2->G:=by
 intro fx kk;refine qK ?_
 repeat((first|refine qP (id:=9) Nv mixed ?_);refine zC ?_;refine qK ?_)
 exact kk.h):G:=h x ⟨k⟩
def qBp(gl)(s:qZ)(ls:List qZ)(hs:O s<=1048576)(hls:∀l∈ls,O l<=1048577):qL prog gl 7 [tx s,vD ls] (λ_ y _=>y=tx (bR s ls)):=by
 refine qL.q9 func7 [.tmp 4] ntmps7 λC w g root=>?_;by_cases h20:O ls<=20
 case neg=>
  rw[Kt h20];have h20':(20:Int)<O ls:=qA;refine rt ?_<| h20';refine qE [] .nil qD qB
 have h20':¬(20:Int)<O ls:=qA
 cases hp:vo s with
 |none=>
  have hpa:=PE gl s hs;rw[hp]at hpa;rw[GQ h20 hp];have fx:=h20';have e1:=hpa;refine rt ?_<|@fx;clear fx e1;rintro K hK y H1 ⟨p,rfl,hO,_⟩;obtain⟨ho1,ho2,ho3⟩:=hO.vj;refine⟨qB,?_⟩;refine rt ?_<| ho1;refine zK (λn st=>∃i:Nat,n=O ls-i/\i<=O ls/\st.tm 1=vD ls/\st.tm 6=bv M/\st.tm 7=tx (y5 10 ((ls.take i).map λ_=>gI))/\st.tm 8=iv i) (O ls) ?_ ?_
  .exact⟨0,qA,qA,qB,qB,tX,qB⟩
  clear hO ho1 ho2 ho3;rintro n st - - ⟨i,rfl,hi,h1,h6,h7,h8⟩;have hLl:=BC (A:=λ_=>gI) (λ_=>qf) (ls.take i);rw[ge]at hLl;by_cases hil:i<O ls
  .obtain⟨l,hl⟩:=gX hil;have hnext:=GP (A:=λ_=>gI) hl;generalize y5 10 ((ls.take i).map λ_=>gI)=L at h7 hLl hnext;have hl1:∀c,2000000000<=c->O L+6<=c:=λc hc=>qA;have hl2:∀c,2000000000<=c->O L+5<=c:=λc hc=>qA;refine rt ?_<|zy h1 h6 h7 h8 hil hl1<|hl2;exact⟨O ls-(i+1),qA,i+1,rfl,qA,zY,vZ,by rw[hnext];simp[gI],F3⟩
  .obtain rfl:i=O ls:=qA;rw[kC]at h7;refine rt ?_<|qz h1 h7 h8<|hil;refine qE [] .nil qD qB
 |some q=>
  have hpa:=X8 gl s q hs hp;have hpo:j2 q=B:=(CM hp).2.1;have hq:=EC hpo;rw[GS h20 hp];have fx:=h20';have p1:=hpa;refine zk ?_
  repeat((first|refine qP (id:=9) Nv mixed ?_);refine vk ?_;refine zk ?_)
  clear fx p1;refine zK (λn st=>∃i:Nat,n=O ls-i/\i<=O ls/\st.tm 1=vD ls/\st.tm 6=bv B/\st.tm 7=tx (y5 10 ((ls.take i).map (aH q)))/\st.tm 8=iv i/\st.tm 5=.pt (.s 5) 0/\st.hp (.s 5)=Z (.row 1 [[j6 q]])) (O ls) ?_ ?_
  .exact⟨0,qA,qA,qB,qB,tX,qB,qB,qB⟩
  rintro n st - - ⟨i,rfl,hi,h1,h6,h7,h8,h5,hp5⟩;have hLl:=BC (A:=aH q) (λ_=>C2 hq hpo) (ls.take i);rw[ge]at hLl;by_cases hil:i<O ls
  .obtain⟨l,hl⟩:=gX hil;obtain⟨_,hlE⟩:=gS hl;have hnext:=GP (A:=aH q) hl;have hal:=C2 (l:=l) hq hpo;have han:=RE gl q l hq hpo (hls l (gM hl));generalize y5 10 ((ls.take i).map (aH q))=L at h7 hLl hnext;generalize aH q l=a at hnext hal han;have hl1:∀c,2000000000<=c->O L+O a<=c:=λc hc=>qA;have hl2:∀c,2000000000<=c->O L+O a+1<=c:=λc hc=>qA;have hl3:∀c,2000000000<=c->O L+(O a+1)<=c:=λc hc=>qA;have fx:=jU h1 h6 h7 h8 h5 hp5 hil hl hlE hl1<|aI hl2<|hl3;have c1:=han;refine rt ?_<|@fx;clear fx c1;exact⟨O ls-(i+1),qA,i+1,rfl,qA,zY,vZ,by rw[hnext];simp,F3,jh,kw⟩
  .obtain rfl:i=O ls:=qA;rw[kC]at h7;refine rt ?_<|qz h1 h7 h8<|hil;refine qE [] .nil qD qB
abbrev Y3:qV:=gA<|.l 14 []<|.done
def Ic:∀{xs:List Int}{i:Nat}{v:Int},i<O xs->(xs.set i v).take (i+1)=xs.take i++[v]
 |x::xs,0,v,_=>by simp
 |x::xs,i+1,v,h=>by simp[Ic (xs:=xs) (i:=i) (v:=v) mV]
def Dg{A:Prop}(k:G2)(x:A)(h:A->jH G2->G:=by
 intro fx kk;refine qK ?_
 repeat((first|refine qP (id:=10) Y3 mixed ?_);refine zC ?_;refine qK ?_)
 exact kk.h):G:=h x ⟨k⟩
def qAA(gl)(H:Nm->Option AO)(F:Nat)(p:qC)(W:qM)(hw:zI p W)(hO:qd H F p W):
  qX prog gl 29 DM [.pt Mn 0] H (λr y H'=>y=.agg ((pI W).own r)/\JW H' r (pI W)) qw:=by
 have hg8:=hw.zM.1;obtain⟨a0,h00,hb0⟩:=hw.a0;have hl0:=(gS h00).1;refine qX.q9 func29 [.cell 2 40] ntmps29 (λ_=>zF) λC w g root hroot=>?_;have hr0:DM root=M:=hroot root (Nm.uQ _);refine Dg ?_<|qW;refine zK (λn st=>∃(i:Nat)(xs:List Int),n=8-i/\i<=8/\O xs=8/\xs.take i=pM (W.globals.take i)/\st.tm 0=.pt Mn 0/\st.tm 2=.pt (.s 2) 0/\st.hp (.s 2)=Z (.row 4 [[.hs (.c (.s 2) 0 0) 1 0 0,iv 0,iv 0,.hs (.c (.s 2) 0 3) 1 0 0]])/\st.tm 3=.hs (.s 3) 1 0 8/\st.hp (.s 3)=Z (.row 1 (qh xs))/\st.tm 9=iv 8/\st.tm 10=iv i/\qd st.hp F p W) 8 ?_ ?_
 .exact⟨0,List.replicate 8 0,qA,qA,qB,by simp[pM],by simp[hO.top],qB,qB,qB,y3,qB,qB,(have om:=hO;qd.re om)⟩
 clear hO;rintro n st - - ⟨i,xs,rfl,hi,hxl,hxs,t0,t2,hp2,t3,hp3,t9,t10,hO⟩;have hT:=hO.top;have hE:=hO.env 0 a0 h00;simp only[jE]at hT;simp only[kF]at hE;obtain⟨ms,hms,hmo⟩:=hO.yS 0 hl0;have hmo':wN ms (W.vars Y):=by simpa[qM.yS,qM.vars]using hmo
 by_cases hil:i<8
 .obtain⟨s,hs⟩:∃s,W.globals[i]?=Z s:=⟨_,gE qA⟩;have hx7:0<=(i:Int)/\(i:Int)<=7:=qA;have hlk:=hmo'.get' hx7;have hgs:W.get Y (i:Int)=s:=by simp[qM.get,qM.vars,hs]
  rw[hgs]at hlk
  have htk:pM (W.globals.take (i+1))=pM (W.globals.take i)++[match s with|some v=>Hm.shown v|none=>-9]:=by
   rw[vd,hs]
   cases s<;>simp[pM]
  have hi8:(i:Int)<8:=qA
  cases s with
  |none=>
   refine Dg ?_<|qg t0 t2 t3 hp3 t9 t10 hi8 hil hxl hT hE hms<|hlk;exact⟨8-(i+1),qA,i+1,xs.set i (-9),rfl,qA,by simp[hxl],by rw[htk,<- hxs,Ic qA],wP,kx,jV,cg,uo,oR,by simp[t10];exact qk qA qA,(have om:=hO;qd.re om)⟩
  |some v=>
   have hsh:=Gb gl v;obtain⟨v1,v2⟩:=v;have fx:=qg t0 t2 t3 hp3 t9 t10 hi8 hil hxl hT hE hms<|hlk;have c1:=hsh;refine Dg ?_<|@fx;clear fx c1;exact⟨8-(i+1),qA,i+1,xs.set i (Hm.shown (v1,v2)),rfl,qA,by simp[hxl],by rw[htk,<- hxs,Ic qA],wP,kx,jV,cg,uo,oR,by simp[t10];exact qk qA qA,(have om:=hO;qd.re om)⟩
 .have hge:i=8:=qA;subst hge
  have hxe:xs=pM W.globals:=by
   rw[jg qA,jg qA]at hxs;exact hxs
  have hU:=hO.out;have hsl:O (pM W.globals)=8:=by rw[<- hxe];exact hxl
  have h88:¬(8:Int)<8:=qA;refine Pj (.c Mn 0 4) (.s 1) (.inl rfl) (.inl rfl) ?_;refine Dg ?_<|ya t0 t2 hp2 t3 hp3 t9 t10 h88 hT<|hU;refine qE [(.s 2,root)] (.one rfl) (by simp[t2];rfl) ⟨by simp[pI,hsl],⟨by simp[pI,hU,hr0],by simp[pI,hp3,hxe,hr0]⟩⟩
def U5(gl)(p:qC)(f:Int)(hs:jm p):qL prog gl 50 [jB p,iv f] (λr y H'=>y=.agg ((iZ p f).own r)/\JW H' r (iZ p f)):=by
 refine qL.q9 func50 [.cell 4 40] ntmps50 λC w g root=>?_
 cases hv0:j2 p
 .have hv:kZ p f=M:=by simp[kZ,hv0]
  have hG:iZ p f=⟨[],0,0,[]⟩:=by simp[iZ,hv]
  rw[hG];have fx:=hv0;have c1:=hv0 ▸ df gl p hs;refine qK ?_;clear fx c1;refine qE [(.s 4,root)] (.one rfl) qD ⟨qB,⟨qB,qB⟩⟩
 cases hv:kZ p f
 .have hf:(decide (0<=f)&&decide (f<=150))=M:=tT;have hG:iZ p f=⟨[],0,0,[]⟩:=by simp[iZ,hv]
  rw[hG];have fx:=aI hv0<|hf;have c1:=hv0 ▸ df gl p hs;have c2:=hf ▸ xL gl f;refine qK ?_;clear fx c1 c2;refine qE [(.s 4,root)] (.one rfl) qD ⟨qB,⟨qB,qB⟩⟩
 .obtain⟨hpo,n,rfl,hn⟩:=BI hv;have hP:=zi.of hs hpo;have hf:(decide (0<=(n:Int))&&decide ((n:Int)<=150))=B:=tT;have hm:=mq hP.sh hn;have hG:iZ p n=pI (v7 p n):=by simp[iZ,hv]
  rw[hG];have fx:=aI hv0<|hf;have c1:=hv0 ▸ df gl p hs;have c2:=hf ▸ xL gl n;refine qK ?_;clear fx c1 c2;intro K hK;have fx:=qW;refine sR (λk i j he=>A6) (hF:=Ml gl _ p n hP hn mP) (h:=?_);rintro y H1 ⟨rfl,hO1⟩;clear fx;have hT1:=hO1.top;simp only[jE]at hT1;refine qH ?_<| hT1;have fx:=hT1;refine dC (.c (.s 17) 0 0) (.s 1) (.inl rfl) (.inl rfl) ?_;refine dC (.c (.s 17) 0 3) (.s 3) (.inl rfl) (.inl rfl) ?_;refine sR (λk i j he=>A6) (hF:=qAA gl _ _ p (v7 p n) hm.ok (qd.sub (p:=p) (F:=229) (w:=v7 p n) (have om:=hO1;qd.re om))) (h:=?_);rintro y H2 ⟨rfl,hR2⟩;clear fx;have r1:=hR2.out;have r2:=hR2.gl;refine qH ?_<|aI r1<|r2;refine qE [(.s 4,root)] (.one rfl) qD ⟨qB,⟨by simp[r1],by simp[r2]⟩⟩
open Go.Shelf in
def V9:LaysM.n171 prog oz:={V8 with i0:=qc,i2:=qc,i3:=qc,i4:=qc,i5:=qc,i9:=qc,i20:=qc,i37:=qc,i46:=qc,i51:=qc,i53:=qc,i171:=qc,i173:=qc,i212:=qc,i232:=qc,i233:=qc,m17:=qc,m18:=qc,m19:=qc}
def BM(gl)(hgp:gl 2=Z (iT.map .sc))(n:Int)(h0:-1000000<=n)(h1:n<=1000000):qL prog gl 30 [iv n] (λ_ y _=>y=tx (vL n)):=
 Uq V9 gl hgp n h0 h1
def Q7(gl){m:Int}(hgm:gl 3=Z [.sc (.int .i64 m)])(hgs:gl 1=Z ((eP ye).map AV.sc))(s:qZ)(hs:O s<=1048576):
  qL prog gl 14 [tx s] (λ_ y _=>y=.zT [jB ((vo s).getD []),bv (vo s).isSome]):=
 (Q6 gl hgm hgs s hs).settle λr y H'⟨p,h1,h2,h3⟩=>⟨.zT [jB ((vo s).getD []),bv (vo s).isSome],by rw[h1,<- h3];exact KF h2,rfl⟩
end Go.Proofs.YtjgpejikjhojcaaGreatDoor
end
section
namespace Go.Proofs.YtjgpejikjhojcaaGreatDoor
open Go Go.Hm Go.Proofs Tryz
variable{m:Int}
def Q5(gl)(p:qC)(b x:Nat)(k:qY)(hk:p[b]?=Z k)(hx:x<8)(hs:jm p)(hv:j2 p=B):qL prog gl 90 [jB p,iv b,iv x] (λ_ z _=>z=iv (zN p b x)):=by
 have hsh:kL p=B:=by
  simp only[j2,yF]at hv;exact hv.1
 have hp:=zw.of hs hsh;have hh:=hp.jK;have hvp:=hv ▸ df gl p hs;obtain⟨qv,hkE⟩:=gS hk;have hib:=xJ gl p b;rw[show decide ((0:Int)<=(b:Int)/\(b:Int)<O p)=B by simp;omega]at hib;have hin:=lR gl x;rw[show(decide ((0:Int)<=(x:Int))&&decide ((x:Int)<=7))=B by simp;omega]at hin;have hsc:=EQ gl p hs hh hp.names;have how:=eJ gl p hp b k hk x hx;have hsg:=O5 (n:=.s 22) qv;obtain⟨_,hse⟩:=gS hsg;refine qL.q9 func90 [.tmp 6] ntmps90 λC w g root=>?_;have fx:=ql hk hkE<|qv;have c1:=hvp;have c2:=hib;have c3:=hin;have e1:=hsc;refine qK ?_;clear fx c1 c2 c3 e1;rintro K hK z H' ⟨rfl,hO⟩;obtain⟨hc1,hc2⟩:=hO.vj;refine⟨qB,?_⟩;have fx:=qz hc1 hsg hse<|qv;have c1:=how;refine qK ?_;clear fx c1;refine qE [] .nil qD qB
def U6(gl)(p:qC)(hs:jm p):qL prog gl 51 [jB p] (λ_ y _=>y=iv (sK p)):=by
 refine qL.q9 func51 [.tmp 2] ntmps51 λC w g root=>?_
 cases hv:j2 p
 .skip
  have fx:=hv;have c1:=hv ▸ df gl p hs;refine qK ?_;clear fx c1;refine qE [] .nil qD Co
 .have hP:=zi.of hs hv;have hm:=mq hP.sh (qb 150);have hml:=hm.left;have fx:=hv;have c1:=hv ▸ df gl p hs;refine qK ?_;clear fx c1;intro K hK;have fx:=qW;refine sR (λk i j he=>A6) (hF:=Ml gl _ p 150 hP qA mP) (h:=?_);rintro y H1 ⟨rfl,hO1⟩;clear fx;have hT1:=hO1.top;simp only[jE]at hT1;have hw:IntKind.i64.wrap (150-((v7 p 150).left:Int))=150-((v7 p 150).left:Int):=qk qA qA;refine qH ?_<|aI hT1<|hw;refine qE [] .nil qD Co
def U4(gl)(p:qC)(b x:Nat)(hs:jm p)(hpo:j2 p=B):qL prog gl 90 [jB p,iv b,iv x] (λ_ y _=>y=iv (b8 p b x)):=by
 by_cases h:b<O p/\x<=7
 .obtain⟨k,hk⟩:=gX h.1;have:=Q5 gl p b x k hk qA hs hpo;rw[show zN p b x=b8 p b x by simp[b8,h]]at this;exact this
 .have hvp:=hpo ▸ df gl p hs;have hib:=xJ gl p b;have hin:=lR gl x;refine qL.q9 func90 [.tmp 6] ntmps90 λC w g root=>?_;by_cases hb:b<O p
  .rw [show decide ((0:Int)<=(b:Int)/\(b:Int)<O p)=B by simp;omega]at hib;rw[show(decide ((0:Int)<=(x:Int))&&decide ((x:Int)<=7))=M by simp;omega]at hin;have fx:=qW;have c1:=hvp;have c2:=hib;have c3:=hin;refine qK ?_;clear fx c1 c2 c3;refine qE [] .nil qD Cl
  .rw [show decide ((0:Int)<=(b:Int)/\(b:Int)<O p)=M by simp;omega]at hib;have fx:=qW;have c1:=hvp;have c2:=hib;refine qK ?_;clear fx c1 c2;refine qE [] .nil qD Cl
noncomputable def fu(p:qC)(ws:List qZ):qZ:=match ws with
 |[_,a,b]=>(match jC a,jC b with
  |some x,Z y=>iS (b8 p x y)
  |_,_=>fF)
 |_=>fF
def NF{n:Nat}:B2 (Z n)=n:=rfl
def XV(gl)(hgp:gl 2=Z (iT.map .sc))(p:qC)(ws:List qZ)(hs:jm p)(hpo:j2 p=B)(hw:∀w∈ws,O w<=1048577)(hwl:O ws<=1048578):qL prog gl 55 [jB p,vD ws] (λ_ y _=>y=tx (fu p ws)):=by
 have hP:=zi.of hs hpo;refine qL.q9 func55 [.tmp 4] ntmps55 λC w g root=>?_;by_cases hl3:O ws=3
 case neg=>
  have hn3:((O ws:Int)==3)=M:=kQ
  have hA:fu p ws=fF:=by
   match ws,hl3 with
   |[],_=>rfl
   |[_],_=>rfl
   |[_,_],_=>rfl
   |[_,_,_],h=>exact absurd rfl h
   |_::_::_::_::_,_=>rfl
  rw[hA];refine qH ?_<|aI hn3<|@zA;refine qE [] .nil qD rM
 obtain⟨o,a,b,rfl⟩:∃o a b,ws=[o,a,b]:=by
  match ws,hl3 with
  |[o,a,b],_=>exact⟨o,a,b,rfl⟩
 have hra:=ES gl a (hw a qB);have hrb:=ES gl b (hw b qB);clear hl3 hw hwl
 cases ha:jC a with
 |none=>
  rw[ha]at hra;have hO:fu p [o,a,b]=fF:=by simp[fu,ha]
  rw[hO];have fx:=@zA;have c1:=hra;have c2:=hrb;refine qK ?_;clear fx c1 c2;refine qE [] .nil qD rM
 |some x=>
  rw[ha,NF]at hra
  cases hb:jC b with
  |none=>
   rw[hb]at hrb;have hO:fu p [o,a,b]=fF:=by simp[fu,ha,hb]
   rw[hO];have fx:=@zA;have c1:=hra;have c2:=hrb;refine qK ?_;clear fx c1 c2;refine qE [] .nil qD rM
  |some y=>
   rw[hb,NF]at hrb;have how:=U4 gl p x y hs hpo;obtain⟨w1,w2⟩:=HU (b:=x) (x:=y) hP.sh.jK hP.sh.len.2;have hO:fu p [o,a,b]=iS (b8 p x y):=by simp[fu,ha,hb]
   rw[hO];generalize b8 p x y=ow at how w1 w2 ⊢;unfold iS;by_cases c1:ow=-1
   .have c1':(ow == -1)=B:=by simp[c1]
    rw[if_pos c1];have fx:=aI c1'<|@zA;have c1:=hra;have c2:=hrb;have c3:=how;refine qK ?_;clear fx c1 c2 c3;refine qE [] .nil qD (by simp[Ia])
   have c1':(ow == -1)=M:=by simpa using c1
   rw[if_neg c1];by_cases c2:ow<0
   .have c2':(ow == -2)=B:=by rw[beq_iff_eq];omega
    rw[if_pos c2];have fx:=ql c1' c2'<|@zA;have c1:=hra;have c2:=hrb;have c3:=how;refine qK ?_;clear fx c1 c2 c3;refine qE [] .nil qD (by simp[Ib])
   have c2':(ow == -2)=M:=kQ;rw[if_neg c2];have fx:=ql c1' c2'<|@zA;have c1:=hra;have c2:=hrb;have c3:=how;have c4:=BM gl hgp ow qA qA;refine qK ?_;clear fx c1 c2 c3 c4;refine qE [] .nil qD qB
def RB{p:qC}{l o:qZ}{us:List qZ}(h:¬(l=cL\/l=cN\/l=eN\/l=gH\/l=ic))(hw:zO 32 l=o::us):sj p l=if o=pP then fu p (o::us)else fF:=by
 unfold sj;rw[if_neg h,hw]
 match us with
 |[]=>simp[fu]
 |[_]=>simp[fu]
 |[a,b]=>rfl
 |_::_::_::_=>simp[fu]
def Si(gl:Nat->Option (List AV))(hgl:gl 4=Z iJ)(hgm:gl 3=Z [.sc (.int .i64 m)])(hge:gl 0=Z ((eP aN).map AV.sc))(hgp:gl 2=Z (iT.map .sc))(p:qC)(l:qZ)(hs:jm p)(hpo:j2 p=B)(hl:O l<=1048577):
  qL prog gl 20 [jB p,tx l] (λ_ y _=>y=tx (aH p l)):=by
 rw[<- RA];have hP:=zi.of hs hpo;have hp7:=hP.sh.len;obtain⟨c,n,d,d1,d2,d3,d4,d5,d6⟩:=GR hs hpo;have hwd:(l=cL\/l=cN\/l=eN\/l=gH\/l=ic)->sj p l=uj p l:=λh=>by rw[sj,if_pos h]
 refine qL.q9 func20 [.tmp 4] ntmps20 λC w g root=>?_;by_cases c1:l=cL
 .have b1:(l==[98,108,111,99,107,115])=B:=by rw[c1];rfl
  rw[hwd (.inl c1)];have fx:=b1;have c1:=BM gl hgp (O p:Int) qA qA;refine qK ?_;clear fx c1;refine qE [] .nil qD (by simp[uj,c1])
 have b1:(l==[98,108,111,99,107,115])=M:=by simpa[cL]using c1
 by_cases c2:l=cN
 .have b2:(l==[101,110,100])=B:=by rw[c2];rfl
  rw[hwd (.inr (.inl c2))];have her:=(mq hP.sh (f:=150) qA).ok.eg;have hib:=U5 gl p 150 hs;have hre:(iZ p 150).en=(v7 p 150).en:=by simp[iZ,kZ,hpo,pI]
  have hwe:uj p l=aN.getD (v7 p 150).en.toNat []:=by simp[uj,c2,cL,cN]
  rw[hwe,<- hre];rw[<- hre]at her;clear hwe hre hwd;generalize iZ p 150=R at her hib ⊢;obtain⟨e,hen⟩:∃e:Nat,R.en=e:=⟨R.en.toNat,qA⟩;have he8:e<8:=qA;have he8i:(e:Int)<8:=qA;have he8l:e<O aN:=he8;obtain⟨u,hu⟩:=gX he8l;obtain⟨_,huE⟩:=gS hu;have hug:aN.getD R.en.toNat []=u:=by rw[hen];simp[bO,hu]
  rw[hug];have fx:=aI b1<|b2;have e1:=hib;refine qK ?_;clear fx e1;rintro K hK y H2 ⟨rfl,hR⟩;refine⟨qB,?_⟩;clear hR;refine qH ?_<|zx hge hen hu huE he8l<|he8i;refine qE [] .nil qD qB
 have b2:(l==[101,110,100])=M:=by simpa[cN]using c2
 by_cases c3:l=eN
 .have b3:(l==[115,116,101,112,115])=B:=by rw[c3];rfl
  rw[hwd (.inr (.inr (.inl c3)))];have hst:=U6 gl p hs;have hS:sK p=(150:Int)-((v7 p 150).left:Int):=by simp[sK,hpo]
  have hm:=(mq hP.sh (f:=150) qA).tr;rw[hS]at hst;have fx:=ql b1 b2<|b3;have c1:=hst;have c2:=BM gl hgp ((150:Int)-((v7 p 150).left:Int)) qA qA;refine qK ?_;clear fx c1 c2;refine qE [] .nil qD (by simp[uj,c3,cL,cN,eN])
 have b3:(l==[115,116,101,112,115])=M:=by simpa[eN]using c3
 by_cases c4:l=gH
 .have b4:(l==[99,101,108,108,115])=B:=by rw[c4];rfl
  rw[hwd (.inr (.inr (.inr (.inl c4))))];have hcm:=U2 gl hgl p 150 hs;rw[d1]at hcm;have fx:=qz b1 b2 b3<|b4;have c1:=hcm;have c2:=BM gl hgp (c:Int) qA qA;refine qK ?_;clear fx c1 c2;refine qE [] .nil qD KT
 have b4:(l==[99,101,108,108,115])=M:=by simpa[gH]using c4
 by_cases c5:l=ic
 .have b5:(l==[102,114,97,109,101,115])=B:=by rw[c5];rfl
  rw[hwd (.inr (.inr (.inr (.inr c5))))];have hfm:=U3 gl hgl p 150 hs;rw[d3]at hfm;have fx:=zJ b1 b2 b3 b4<|b5;have c1:=hfm;have c2:=BM gl hgp (n:Int) qA qA;refine qK ?_;clear fx c1 c2;refine qE [] .nil qD KK
 have b5:(l==[102,114,97,109,101,115])=M:=by simpa[ic]using c5
 clear hwd;have hsp:=I0 gl hgm l 32 qA;have hne:=gB (c:=32) (l:=l);have hpart:=sJ (c:=32) (s:=l);have hlen:=xy (c:=32) (s:=l);have hown:=λo us e=>RB (p:=p) (l:=l) (o:=o) (us:=us) (by simp[c1,c2,c3,c4,c5]) e;generalize zO 32 l=W at hsp hne hpart hlen hown
 obtain⟨o,us,rfl⟩:∃o us,W=o::us:=by cases W with
  |nil=>exact absurd rfl hne
  |cons o us=>exact⟨o,us,rfl⟩
 rw[hown o us rfl];have hW1:(0:Int)<(O us:Int)+1:=qA;by_cases ho:o=pP
 .rw [if_pos ho];have e0:(o==[111,119,110,101,114])=B:=by rw[ho];rfl
  have fx:=zy b1 b2 b3 b4 b5 e0<|hW1;have p1:=hsp;have c1:=XV gl hgp p (o::us) hs hpo (λw hw=>by have:=hpart w hw;omega) qA;refine zk ?_;clear fx p1 c1;refine qE [] .nil qD qB
 .rw [if_neg ho];have e0:(o==[111,119,110,101,114])=M:=by simpa[pP]using ho
  have fx:=zy b1 b2 b3 b4 b5 e0<|hW1;have p1:=hsp;refine zk ?_;clear fx p1;refine qE [] .nil qD rM
def Ln(gl:Nat->Option (List AV))(hgl:gl 4=Z iJ)(hgm:gl 3=Z [.sc (.int .i64 m)])(hgs:gl 1=Z ((eP ye).map AV.sc))(hge:gl 0=Z ((eP aN).map AV.sc))(hgp:gl 2=Z (iT.map .sc))(s:qZ)(ls:List qZ)(hs:O s<=1048576)(hls:∀l∈ls,O l<=1048577):
  qL prog gl 9 [tx s,vD ls] (λ_ y _=>y=tx (bR s ls)):=by
 have hpa:=Q7 gl hgm hgs s hs;refine qL.q9 func9 [.tmp 4] ntmps9 λC w g root=>?_;by_cases h20:O ls<=20
 case neg=>
  rw[Kt h20];have h20':(20:Int)<O ls:=qA;refine qH ?_<| h20';refine qE [] .nil qD qB
 have h20':¬(20:Int)<O ls:=qA
 obtain⟨A,hA,hAn,hAs⟩:∃A:qZ->qZ,bR s ls=y5 10 (ls.map A)/\((vo s).isSome=M->∀l,A l=gI)/\((vo s).isSome=B->∀l,A l=aH ((vo s).getD []) l):=by
  cases hp:vo s with
  |none=>exact⟨_,GQ h20 hp,λ_ _=>rfl,λh=>kv⟩
  |some q=>exact⟨_,GS h20 hp,(λh=>kv),λ_ _=>rfl⟩
 have hq:(vo s).isSome=B->jm ((vo s).getD [])/\j2 ((vo s).getD [])=B:=by
  cases hp:vo s with
  |none=>intro h;cases h
  |some q=>exact λ_=>⟨EC (CM hp).2.1,(CM hp).2.1⟩
 rw[hA];generalize (vo s).getD []=q at hpa hAs hq;generalize (vo s).isSome=ok at hpa hAn hAs hq
 have hAl:∀l,O (A l)<=2000:=by
  intro l
  cases ok
  .rw [hAn rfl];decide
  .rw [hAs rfl];exact C2 (hq rfl).1 (hq rfl).2
 have fx:=h20';have p1:=hpa;have b1:=R8;refine zk ?_;clear fx p1 b1;refine zK (λn st=>∃i:Nat,n=O ls-i/\i<=O ls/\st.tm 19=vD ls/\st.tm 20=iv (O ls)/\st.tm 21=iv i/\st.tm 6=bv ok/\st.tm 5=.pt (.s 5) 0/\st.hp (.s 5)=Z (.row 1 [[j6 q]])/\st.tm 7=.pt (.s 7) 0/\cT st.hp (.s 7) 48 5 (y5 10 ((ls.take i).map A))) (O ls) ?_ ?_
 .exact⟨0,qA,qA,qB,qB,qB,qB,qB,qB,qB,.inl ⟨tX,qB⟩⟩
 rintro n st - - ⟨i,rfl,hi,h19,h20,h21,h6,h5,hp5,h7,hB⟩;have hLl:=BC hAl (ls.take i);rw[ge]at hLl;by_cases hil:i<O ls
 .obtain⟨l,hl⟩:=gX hil;obtain⟨_,hlE⟩:=gS hl;have hnext:=GP (A:=A) hl;have hal:=hAl l;generalize y5 10 ((ls.take i).map A)=L at hB hLl hnext;obtain⟨a,ha⟩:∃a,A l=a:=⟨_,rfl⟩;rw[ha]at hnext hal;have hl1:∀c,2000000000<=c->O a+1<=c:=λc hc=>qA
  cases ok
  .obtain rfl:gI=a:=by rw[<- ha];exact(hAn rfl l).symm
   refine qH ?_<|ya h19 h20 h21 h6 h5 hp5 h7 hil hl<|hlE;intro K hK;have fx:=aI h7 h7;refine Pw 7 MZ Gn rfl rfl (hB.go mT mT mT) (hs:=qB) (hlen:=qp) (h:=?_);clear fx;rintro st' - hg htm hhp f1 f2;have g19:st'.tm 19=vD ls:=by simp[htm,h19]
   have g20:st'.tm 20=iv (O ls):=by simp[htm,h20]
   have g21:st'.tm 21=iv i:=by simp[htm,h21]
   have g6:st'.tm 6=bv M:=by simp[htm,h6]
   have g5:st'.tm 5=.pt (.s 5) 0:=by simp[htm,h5]
   have gp5:st'.hp (.s 5)=Z (.row 1 [[j6 q]]):=by simp[hhp,hp5]
   have g7:st'.tm 7=.pt (.s 7) 0:=by simp[htm,h7]
   clear htm hhp;refine qH ?_<|zy g19 g20 g21 g6 g5 gp5<|g7;refine⟨O ls-(i+1),qA,i+1,rfl,qA,by simp[g19],by simp[g20],by simp[g21];exact qk qA qA,by simp[g6],by simp[g5],by simp[gp5],by simp[g7],?_⟩;rw[hnext];exact .inr ⟨qB,by simpa[gI]using f1,by simpa[gI]using f2⟩
  .have han:=Si gl hgl hgm hge hgp q l (hq rfl).1 (hq rfl).2 (hls l (gM hl));rw[<- hAs rfl,ha]at han;have fx:=jU h19 h20 h21 h6 h5 hp5 h7 hil hl hlE<|hl1;have c1:=han;refine qK ?_;clear fx c1;intro K hK;have fx:=aI h7 h7;refine Pw 7 MZ Gn rfl rfl (hB.go mT mT mT) (hs:=qB) (hlen:=qp) (h:=?_);clear fx;rintro st' - hg htm hhp f1 f2;have g19:st'.tm 19=vD ls:=by simp[htm,h19]
   have g20:st'.tm 20=iv (O ls):=by simp[htm,h20]
   have g21:st'.tm 21=iv i:=by simp[htm,h21]
   have g6:st'.tm 6=bv B:=by simp[htm,h6]
   have g5:st'.tm 5=.pt (.s 5) 0:=by simp[htm,h5]
   have gp5:st'.hp (.s 5)=Z (.row 1 [[j6 q]]):=by simp[hhp,hp5]
   have g7:st'.tm 7=.pt (.s 7) 0:=by simp[htm,h7]
   clear htm hhp;refine qH ?_<|zy g19 g20 g21 g6 g5 gp5<|g7;refine⟨O ls-(i+1),qA,i+1,rfl,qA,by simp[g19],by simp[g20],by simp[g21];exact qk qA qA,by simp[g6],by simp[g5],by simp[gp5],by simp[g7],?_⟩;rw[hnext];exact .inr ⟨qB,by simpa using f1,by simpa using f2⟩
 .obtain rfl:i=O ls:=qA;rw[kC]at hB hLl;refine qH ?_<|zJ h19 h20 h21 h7<|hil;intro K hK;have fx:=aI h7 h7;refine qEX (l:=y5 10 (ls.map A)) 7 V7 Gn rfl rfl (hB.go mT mT mT) (h:=?_);clear fx;refine qH ?_<|qW;refine qE [] .nil qD qB
end Go.Proofs.YtjgpejikjhojcaaGreatDoor
end
