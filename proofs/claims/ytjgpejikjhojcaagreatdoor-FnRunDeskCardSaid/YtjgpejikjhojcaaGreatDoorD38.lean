import Derived.Test.YtjgpejikjhojcaaGreatDoorD27
import Derived.Test.YtjgpejikjhojcaaGreatDoorD19
set_option linter.all false
set_option maxRecDepth 100000
set_option maxHeartbeats 4000000
open Option renaming some->Z,none->Y
open Bool renaming true->B,false->M
open List renaming length->O

section
namespace Go.Proofs.YtjgpejikjhojcaaGreatDoor
open Go Go.Hm Go.Proofs Tryz
variable{j:Int}{p:qC}
@[simp]theorem scRows_tr{f:Nm->Option Nm}:(ia p).map (λr=>r.map (AV.tr f))=ia p:=by simp[ia]
def O9(p:qC)(j:Int):vB p j=au\/∃r,vB p j=.el r 0:=by
 unfold vB
 cases O p with
 |zero=>exact .inl rfl
 |succ n=>
  rw[eI]
  split
  .exact .inl rfl
  .split
   .exact .inl rfl
   .exact .inr ⟨_,rfl⟩
@[simp]theorem scopeA_isNil:j5 (vB p j)=M:=by
 rcases O9 p j with h|⟨r,h⟩<;>rw[h]<;>rfl
@[simp]theorem scopeA_sNm:uh (vB p j)=Y:=by
 rcases O9 p j with h|⟨r,h⟩<;>rw[h]<;>rfl
def D5(gl)(p:qC)(hh:ze p)(i:Nat)(k:qY)(hk:p[i]?=Z k)(b:Nat):qL prog gl 164 [lj p i k,iv b] (λ_ y _=>y=bv (j8 p i b)):=by
 have hil:=(gS hk).1;refine qL.q9 func164 [.tmp 4] ntmps164 λC w g root=>?_;refine qH ?_<|qW;refine zK (λn st=>∃j:Int,n=(j+1).toNat /\ -1<=j/\j<O p/\st.tm 1=iv b/\st.tm 5=vB p j/\j8 p i b=j8 p j b) (i+1) ?_ ?_
 .exact⟨i,qA,qA,qA,qB,by simp[eH hh hk],rfl⟩
 rintro n st - - ⟨j,rfl,hj1,hj,h1,h5,hin⟩;rcases Int.lt_or_le j 0 with hn|hn
 .rw [IM hn,au]at h5
  have hfa:j8 p i b=M:=by
   rw[hin,cF qA];exact decide_eq_false qA
  refine qH ?_<|aI h1<|h5;refine qE [] .nil qD ?_;simp[hfa]
 .obtain⟨J,rfl⟩:∃J:Nat,j=J:=⟨j.toNat,qA⟩;obtain⟨q,hq⟩:∃q,p[J]?=Z q:=⟨_,gE qA⟩;obtain⟨hq1,hq2,_⟩:=hh J q hq;rw[eH hh hq]at h5
  cases hjb:((J:Int)==b)
  .have hne:¬(J:Int)=b:=by simpa using hjb
   have hin2:j8 p i b=j8 p q.parent b:=by
    rw[hin];rcases Int.lt_or_le b J with h|h
    .exact eh hh qA hq h
    .rw [cF h,cF qA,decide_eq_false hne,decide_eq_false qA]
   refine qH ?_<|ql h1 h5<|hjb;exact⟨(q.parent+1).toNat,qA,q.parent,rfl,hq1,qA,zY,qB,hin2⟩
  .have he:(J:Int)=b:=by simpa using hjb
   have htr:j8 p i b=B:=by
    rw[hin,cF qA];exact decide_eq_true he
   refine qH ?_<|ql h1 h5<|hjb;refine qE [] .nil qD ?_;simp[htr]
def qDf{k:qY}{y:Nat}(hy:y<8):(decide ((y:Int)∈k.rd)||decide ((y:Int)∈k.bd)||(decide ((y:Int)∈k.dc 9)||decide ((y:Int)∈k.dc 10)))=decide ((y:Int)∈k.us):=by
 have e:=WR (xs:=k.rd++k.bd++k.dc 9++k.dc 10) hy;simp only[qY.us,e,yI];by_cases h1:(y:Int)∈k.rd<;>by_cases h2:(y:Int)∈k.bd<;>by_cases h3:(y:Int)∈k.dc 9<;>by_cases h4:(y:Int)∈k.dc 10<;>simp[h1,h2,h3,h4]
def sO(gl)(p:qC)(i:Nat)(k:qY)(x:Nat)(hx:x<8):qL prog gl 165 [lj p i k,iv x] (λ_ y _=>y=bv (decide ((x:Int)∈k.us))):=by
 have:=qDg gl i k (vB p k.parent) k.params x hx
 rwa[qDf hx]at this
def Gw(gl)(p:qC)(hp:zw p)(i:Nat)(k:qY)(hk:p[i]?=Z k)(x:Nat)(hx:x<8):qL prog gl 159 [lj p i k,iv x] (λ_ y _=>y=bv (uW i k x)):=by
 have h:=IN gl i k (vB p k.parent) k.params x hx;have hk0:=hp.ei hk
 have e:(k.kind != 0&&decide ((x:Int)∈k.bd)&&!(decide ((x:Int)∈k.dc 9)||decide ((x:Int)∈k.dc 10)))=uW i k x:=by
  by_cases h0:i=0
  .have:(k.kind != 0)=M:=by simp[hk0,h0]
   rw[this];simp[uW,h0]
  .have:(k.kind != 0)=B:=by simp[hk0,h0]
   rw[this];have h1:decide (0<i)=B:=decide_eq_true qA;simp only[uW,h1];simp[Bool.and_assoc]
 rwa[e]at h
def KB{l:List Int}{x:Nat}(h:x<8)(hx:(x:Int)∉l):(z8 l).take x++bv M::(z8 l).drop (x+1)=z8 l:=by
 have hl:x<O (z8 l):=qp;have jz:=List.set_eq_take_append_cons_drop (l:=z8 l) (i:=x) (a:=bv M);rw[if_pos hl]at jz;rw[<- jz];apply yp;intro i;rw[fL];by_cases e:x=i
 .subst e;rw[if_pos rfl,if_pos hl,A1 h];simp[hx]
 .rw [if_neg e]
def Dm(gl)(l:List Int):qL prog gl 162 [.agg (z8 l)] (λr z H'=>z=.hs r 1 0 (O (sorted l))/\H' r=Z (.row 1 (qh (sorted l)))):=by
 refine qL.q9 func162 [.tmp 2] ntmps162 λC w g root=>?_;refine qH ?_<|qW;refine zK (λn st=>∃x:Nat,n=8-x/\x<=8/\st.tm 6=.agg (z8 l)/\st.tm 7=iv x/\st.tm 3=.hs (.s 3) 1 0 (O (kN l x))/\st.hp (.s 3)=Z (.row 1 (qh (kN l x)))/\O (kN l x)<=x) 8 ?_ ?_
 .exact⟨0,qA,qA,qB,qB,DD,DD,DD⟩
 rintro n st - - ⟨x,rfl,hx,h6,h7,h3,hp3,hle⟩;refine qH ?_<| h7;refine yk yq (λht=>?_) (λhf=>?_)
 .have hx8':(x:Int)<8:=yJ;have hx8:x<8:=qA;have hbg:=A1 (l:=l) hx8;obtain⟨qv,hbE⟩:=gS hbg;clear ht;by_cases hm:(x:Int)∈l
  .have he:kN l (x+1)=kN l x++[(x:Int)]:=by simp[kN,hm]
   generalize hL:kN l x=L at h3 hp3 he hle;refine qH ?_<|y9 h6 h7 hbg hbE hx8 hx8' hm h3<|hp3;refine⟨8-(x+1),qA,x+1,rfl,qA,vZ,zr,by simp[he],?_,by simp[he];omega⟩;rw[he];simp[hp3,qh]
  .have he:kN l (x+1)=kN l x:=by simp[kN,hm]
   refine qH ?_<|zy h6 h7 hbg hbE hx8 hx8'<|hm;exact⟨8-(x+1),qA,x+1,rfl,qA,vZ,zr,by simp[he,h3],by simp[he,hp3],by rw[he];omega⟩
 .have hge:x=8:=by
   have:¬(x:Int)<8:=vP;omega
  subst hge;refine qH ?_<|aI h3<|hp3;exact yg (t:=2) DG DG qB
def nj(gl)(D:Nm->Bool)(hD:∀k,D k=B->k.zj=M)(H:Nm->Option AO)(R:List AV)(off k:Nat)(vs:List q8)(v:q8)(hr:H Yn=Z (.row 4415 [R]))(hi:R[off+28]?=Z (.hs (.c Yn 0 (off+28)) 2 0 (k+1)))(hs:H (.c Yn 0 (off+28))=Z (.row 2 (zm vs)))(hv:vs[k]?=Z v)(hk:k<=1000)(ho:off+29<=4415):
  qX prog gl 211 D [.pt Yn off] H (sY D (q8.av v) Yn (.row 4415 [qq R (off+28) [.hs (.c Yn 0 (off+28)) 2 0 k]]) H) qw:=by
 obtain⟨hil,hiE⟩:=gS hi;obtain⟨hvl,hvE⟩:=gS hv;obtain⟨v1,v2⟩:=v;have hw1:IntKind.i64.wrap (k:Int)=k:=qk qA qA;have hl1:(k:Int)<(k:Int)+1:=qA;have hl2:(k:Int)<=(k:Int)+1:=qA;have hl0:(0:Int)<=(k:Int):=qA;refine qX.q9 func211 [.cell 2 115] ntmps211 hD λC w g root hroot=>?_;have ho2:off+28+1<=4415:=ho;have fx:=qg hr hi hiE hil ho2 hs hv hvE hvl hw1 hl0 hl1<|hl2;refine qK ?_
 repeat((first|refine qP (id:=1) (.q 0<|.q 1<|.q 2<|.q 3<|.q 4<|.q 5<|.q 6<|.q 7<|.q 8<|.q 9<|.q 10<|.q 11<|.l 12 [11,10,9,8,7,6,5,4,3,2,1,0]<|.l 13 []<|.done) mixed ?_|refine qP (id:=2) (.q 0<|.q 1<|.q 2<|.q 3<|.q 4<|.q 5<|.q 6<|.q 7<|.q 8<|.q 9<|.q 10<|.q 11<|.q 12<|.q 13<|.l 14 []<|.done) mixed ?_);refine zC ?_;refine qK ?_)
 clear fx;refine qE [] .nil qD ⟨qB,λq hq=>?_⟩;have hq2:=λd=>(jp hD hq d).1;have hq3:=λd=>(jp hD hq d).2;by_cases e:q=Yn
 .subst e;simp only[vW,hq,if_true];simp[AO.tr,qq,sf,List.map_drop,TR hD,-List.map_map]
 .simp [vW,hq,hq2,hq3,e,LQ hD,-Option.map_map]
def eR(gl)(D:Nm->Bool)(hD:∀k,D k=B->k.zj=M)(H:Nm->Option AO)(R:List AV)(off:Nat)(vs js:List q8)(v:q8)(hDY:D Yn=B)(hDS:D (.c Yn 0 (off+28))=B)(hr:H Yn=Z (.row 4415 [R]))(hi:R[off+28]?=Z (.hs (.c Yn 0 (off+28)) 2 0 (O vs)))(hs:H (.c Yn 0 (off+28))=Z (.row 2 (zm (vs++js))))(hk:O vs<=1000)(ho:off+29<=4415):
  qX prog gl 171 D [.pt Yn off,q8.av v] H (JZ D (.c Yn 0 (off+28)) (off+28) R (vs++[v]) H) qw:=by
 obtain⟨hil,hiE⟩:=gS hi;obtain⟨v1,v2⟩:=v;have ho2:off+28+1<=4415:=ho;refine qX.q9 func171 [] ntmps171 hD λC w g root hroot=>?_;have fx:=zy hr hi hiE hil ho2 hs<|hk;refine qK ?_
 repeat((first|refine qP (id:=1) (.q 0<|.q 1<|.q 2<|.q 3<|.q 4<|.q 5<|.l 6 [4,3,2,1,0]<|.l 7 [0]<|.q 8<|.q 9<|.l 10 []<|.done) mixed ?_);refine zC ?_;refine qK ?_)
 clear fx;refine yu [] .nil qD ⟨?_,?_,λq hq h1 h2=>?_⟩
 .have e:=TJ (a:=3) (b:=10) (c:=11) (l:=R) hD hDS;simp only[iy]at e;simp only[vW,hDY,if_true];simp[e,hDS,qq]
 .simp only[vW,hDS,if_true];simp[zm]
 .have hq2:=λd=>(jp hD hq d).1;have hq3:=λd=>(jp hD hq d).2;have h3:¬Nm.c Yn 0 (off+28)=q:=by rintro rfl;simp at h2
  have e:=TK (a:=3) (b:=10) (c:=11) (o:=H q) hD hDS;simp only[Option.map_map]at e;simp only[vW,hq,if_true];simp[hq2,hq3,h1,h2,h3,-Option.map_map,e];simp[e]
def gQ(gl)(D:Nm->Bool)(hD:∀k,D k=B->k.zj=M)(H:Nm->Option AO)(R:List AV)(e:Int)(hr:H Yn=Z (.row 4415 [R]))(hl:O R=4415):
  qX prog gl 209 D [.pt Yn 0,iv e] H (sY D (bv M) Yn (.row 4415 [qq R 3 [iv e]]) H) qw:=by
 refine qX.q9 func209 [.tmp 4] ntmps209 hD λC w g root hroot=>?_;refine qH ?_<|aI hr<|hl;refine qE [] .nil qD ⟨qB,λq hq=>?_⟩;have hq2:=λd=>(jp hD hq d).1;have hq3:=λd=>(jp hD hq d).2;by_cases e:q=Yn
 .subst e;simp only[vW,hq,if_true];simp[AO.tr,qq,sf,List.map_drop]
 .simp [vW,hq,hq2,hq3,e]
def Eo(gl)(D:Nm->Bool)(hD:∀k,D k=B->k.zj=M)(hDY:D Yn=B)(H:Nm->Option AO)(R:List AV)(i:Nat)(hr:H Yn=Z (.row 4415 [R]))(h:R[4411]?=Z (iv ((i:Int)+1)))(hi:i<151):
  qX prog gl 117 D [.pt Yn 0] H (J3 D (.pt Yn (yo i)) H) qw:=by
 obtain⟨hil,hiE⟩:=gS h;have hw1:IntKind.i64.wrap (i:Int)=i:=qk qA qA;have hl0:(0:Int)<=(i:Int):=qA;have hl1:(i:Int)<151:=qA;refine qX.q9 func117 [.tmp 2] ntmps117 hD λC w g root hroot=>?_;have fx:=jA hr h hil hiE hw1 hl0 hl1<|hi;refine qK ?_
 repeat((first|refine qP (id:=1) (.q 0<|.q 1<|.q 2<|.q 3<|.q 4<|.q 5<|.q 6<|.q 7<|.q 8<|.l 9 []<|.done) mixed ?_);refine zC ?_;refine qK ?_)
 clear fx;refine qE [] .nil qD ⟨by simp[hDY,yo,pz],λq hq=>?_⟩;have hq2:=λd=>(jp hD hq d).1;have hq3:=λd=>(jp hD hq d).2;simp[vW,hq,hq2,hq3]
def H6{f:Nat->Bool}:∀{n:Nat},(∀x,x<n->f x=M)->jl f n=[]
 |0,_=>rfl
 |n+1,h=>by
  rw[jl,if_neg (by rw[h n qA];decide),H6 (n:=n) λx hx=>h x qA]
def H7{f:Nat->Bool}{n:Nat}:jl f (n+1)=if f n=B then jl f n++[(n:Int)]else jl f n:=rfl
def xk(gl)(xs:List Int)(x:Int)(hlen:O xs<=1048576):qL prog gl 166 [jO xs,iv x] (λ_ z _=>z=iv (yz xs x)):=by
 refine qL.q9 func166 [.tmp 4] ntmps166 λC w g root=>?_;refine qH ?_<|qW;refine zK (λn st=>∃i:Nat,n=O xs-i/\i<=O xs/\st.tm 7=jO xs/\st.tm 8=iv (O xs)/\st.tm 1=iv x/\st.tm 9=iv i/\∀j<i,xs[j]?≠Z x) (O xs) ⟨0,qB⟩ ?_;rintro n st - - ⟨i,rfl,hi,h7,h8,h1,h9,hno⟩;by_cases hlt:i<O xs
 .obtain⟨y,hy⟩:∃y,xs[i]?=Z y:=⟨xs[i],gE hlt⟩;obtain⟨_,hyE⟩:=gS hy
  cases hyx:(y==x)
  rotate_left
  .skip
   refine qH ?_<|jA h7 h8 h1 h9 hy hyE hlt<|hyx;refine qE [] .nil qD ?_;have hyx:y=x:=by simpa using hyx
   subst hyx
   have:xs.findIdx? (·==y)=Z i:=by
    rw[s8];refine⟨hlt,by simp[hyE],λj hj=>?_⟩;have:=hno j hj;rw[gE qA]at this
    simpa using this
   simp[yz,this]
  .skip
   refine qH ?_<|jA h7 h8 h1 h9 hy hyE hlt<|hyx;refine⟨O xs-(i+1),qA,i+1,rfl,qA,bP,by simp[h8],zY,zr,λj hj=>?_⟩;rcases CY.1 hj with h|rfl
   .exact hno j h
   .rw [hy];simpa using hyx
 .skip
  refine qH ?_<|zJ h7 h8 h1 h9<|hlt;refine qE [] .nil qD ?_
  have:xs.findIdx? (·==x)=Y:=by
   rw[List.findIdx?_eq_none_iff];intro y hy;obtain⟨j,hj,rfl⟩:=List.getElem_of_mem hy;have:=hno j qA;rw[gE hj]at this
   simpa using this
  simp[yz,this]
def Az(gl)(p:qC)(hp:zw p)(b:Nat)(k:qY)(hk:p[b]?=Z k):qL prog gl 161 [uI p,iv b] (λ_ y _=>y=.agg (z8 (qa p b))):=by
 have hh:=hp.jK;have hl7:=hp.len;obtain⟨qv,hbE⟩:=gS hk;have hka:jk p b=k.kind:=iF;have hsg:=sF (p:=p) qv;rw[eH hh hk]at hsg;obtain⟨_,hse⟩:=gS hsg;refine qL.q9 func161 [.cell 4 169] ntmps161 λC w g root=>?_
 cases hkd:(k.kind==1)
 .have hc:qa p b=[]:=by
   have:¬k.kind=1:=lI;simp[qa,hka,this]
  rw[hc];refine qH ?_<|zJ hsg hse hkd qv<|@zA;refine qE [] .nil qD ?_
  rfl
 have hk1:k.kind=1:=lI
 have h0:0<b:=by
  rcases fN b with e|e
  .have:=(hp.ei hk).2 e;omega
  .exact e
 have hc:z8 (qa p b)=z8 (r7 p b (O p)):=by
  simp only[qa,hka,hk1,if_true];rw[<- SP hh h0 qv,C6]
 rw[hc];refine qH ?_<|zJ hsg hse hkd qv<|@zA;refine zK (λn st=>∃c:Nat,n=O p-c/\c<=O p/\st.tm 1=iv b/\st.tm 4=.pt (.s 4) 0/\st.hp (.s 4)=Z (.row 8 [z8 []])/\st.tm 5=.pt (.s 5) 0/\st.hp (.s 5)=Z (.row 8 [z8 (r7 p b c)])/\st.tm 18=uI p/\st.tm 19=iv (O p)/\st.tm 20=iv c) (O p) ?_ ?_
 .exact⟨0,qA,qA,qB,qB,qD,qB,qD,qB,qB,qB⟩
 clear hsg hse;rintro n st - - ⟨c,rfl,hc2,h1,h4,hp4,h5,hp5,h18,h19,h20⟩;by_cases hlt:c<O p
 .obtain⟨q,hq⟩:=gX hlt;have hsg:=sF (p:=p) hlt;rw[eH hh hq]at hsg;obtain⟨_,hse⟩:=gS hsg;have hnext:r7 p b (c+1)=r7 p b c++jl (fY p b c) 8:=rfl;generalize hR:r7 p b c=R at hp5 hnext
  cases hcb:((c:Int)==b)
  rotate_left
  .have hcb':c=b:=by
    have:(c:Int)=b:=by simpa using hcb
    omega
   rw[H6 (λx _=>by simp only[fY,hq];simp[hcb']),mK]at hnext;refine qH ?_<|jU h1 h4 hp4 h5 hp5 h18 h19 h20 hlt hsg<|aI hse<|hcb;exact⟨O p-(c+1),qA,c+1,rfl,qA,zY,vO,aJ,jh,by simp[hp5,hnext],rV,oY,zr⟩
  have hcb':(c != b)=B:=by
   have:¬(c:Int)=b:=by simpa using hcb
   simp;omega
  refine qH ?_<|jU h1 h4 hp4 h5 hp5 h18 h19 h20 hlt hsg<|aI hse<|hcb;refine zK (λn st=>∃x:Nat,n=8-x/\x<=8/\st.tm 1=iv b/\st.tm 4=.pt (.s 4) 0/\st.hp (.s 4)=Z (.row 8 [z8 []])/\st.tm 5=.pt (.s 5) 0/\st.hp (.s 5)=Z (.row 8 [z8 (R++jl (fY p b c) x)])/\st.tm 7=lj p c q/\st.tm 18=uI p/\st.tm 19=iv (O p)/\st.tm 20=iv c/\st.tm 30=iv x) 8 ?_ ?_
  .exact⟨0,qA,qA,zY,vO,aJ,jh,by simp[hp5,jl],qB,rV,oY,tS,qB⟩
  clear h1 h4 hp4 h5 hp5 h18 h19 h20;rintro n st - - ⟨x,rfl,hx,h1,h4,hp4,h5,hp5,h7,h18,h19,h20,h30⟩;by_cases hx8:x<8
  .have hx8':(x:Int)<8:=qA;have hfi:fY p b c x=(decide ((x:Int)∈q.us)&&(zN p c x==b)):=by simp only[fY,hq,hcb',gj]
   have hn2:=H7 (f:=fY p b c) (n:=x)
   cases hus:decide ((x:Int)∈q.us)
   .rw [if_neg (by rw[hfi,hus];simp)]at hn2
    all_goals have fx:=jA h1 h5 hp5 h7 h30 hx8 hx8'<|hus
    repeat'(first|refine zf ?_|refine λ(K:St->Prop)hK=>?_|refine zL (hF:=sO _ p c q x hx8) (h:=?_))
    all_goals try clear fx
    exact⟨8-(x+1),qA,x+1,rfl,qA,zY,vO,aJ,jh,At,bP,rV,oY,tS,zr⟩
   cases ho:(zN p c x==(b:Int))
   .rw [if_neg (by rw[hfi,ho];simp)]at hn2
    all_goals have fx:=y9 h1 h5 hp5 h7 h30 hx8 hx8' hus<|ho
    repeat'(first|refine zf ?_|refine λ(K:St->Prop)hK=>?_|refine zL (hF:=sO _ p c q x hx8) (h:=?_)|refine zL (hF:=eJ _ p hp c q hq x hx8) (h:=?_))
    all_goals try clear fx
    exact⟨8-(x+1),qA,x+1,rfl,qA,zY,vO,aJ,jh,At,bP,rV,oY,tS,zr⟩
   .rw [if_pos (by rw[hfi,hus,ho];rfl)]at hn2;have hnM:R++jl (fY p b c) (x+1)=R++jl (fY p b c) x++[(x:Int)]:=by rw[hn2,gm]
    generalize R++jl (fY p b c) x=M' at hp5 hnM
    all_goals have fx:=y9 h1 h5 hp5 h7 h30 hx8 hx8' hus<|ho
    repeat'(first|refine zf ?_|refine λ(K:St->Prop)hK=>?_|refine zL (hF:=sO _ p c q x hx8) (h:=?_)|refine zL (hF:=eJ _ p hp c q hq x hx8) (h:=?_))
    all_goals try clear fx
    refine⟨8-(x+1),qA,x+1,rfl,qA,zY,vO,aJ,jh,?_,bP,rV,oY,tS,zr⟩;rw[hnM];simp[<- oL (l:=M') (y:=(x:Int)) rfl hx8]
  .have hge:x=8:=qA;subst hge;rw[<- hnext]at hp5;refine qH ?_<|zy h1 h5 hp5 h18 h19 h20<|h30;exact⟨O p-(c+1),qA,c+1,rfl,qA,zY,vO,aJ,jh,kw,rV,oY,by simp[h20];exact qk qA qA⟩
 .have hge:c=O p:=qA;subst hge;refine qH ?_<|zx h4 hp4 h5 hp5 h19<|h20;refine qE [] .nil Cj ?_;simp
def G6(gl)(p:qC)(hp:zw p)(b:Nat)(qv:b<O p):qL prog gl 114 [uI p,iv b] (λr y H'=>y=.hs r 1 0 (O (za p b))/\H' r=Z (.row 1 (qh (za p b)))):=by
 have hh:=hp.jK;have hl7:=hp.len;rw[<- Tn hh qv];refine qL.q9 func114 [.tmp 4] ntmps114 λC w g root=>?_;refine qH ?_<|qW;refine zK (λn st=>∃c:Nat,n=O p-c/\c<=O p/\st.tm 0=uI p/\st.tm 1=iv b/\st.tm 5=.pt (.s 5) 0/\st.hp (.s 5)=Z (.row 8 [z8 (ro p b c)])/\st.tm 10=uI p/\st.tm 11=iv (O p)/\st.tm 12=iv c) (O p) ?_ ?_
 .exact⟨0,qA,qA,qB,qB,qB,qD,qB,qB,qB⟩
 rintro n st - - ⟨c,rfl,hc2,h0,h1,h5,hp5,h10,h11,h12⟩;by_cases hlt:c<O p
 .obtain⟨q,hq⟩:=gX hlt;have hsg:=sF (p:=p) hlt;rw[eH hh hq]at hsg;obtain⟨_,hse⟩:=gS hsg;have hnext:ro p b (c+1)=ro p b c++jl (ff p b c) 8:=rfl;generalize hR:ro p b c=R at hp5 hnext
  cases hin:j8 p c b
  .rw [H6 (λx _=>by simp only[ff,hq,hin];simp),mK]at hnext;have fx:=jU h0 h1 h5 hp5 h10 h11 h12 hlt hsg hse<|hin;have c1:=D5 gl p hh c q hq b;refine qK ?_;clear fx c1;exact⟨O p-(c+1),qA,c+1,rfl,qA,yL,zY,jh,by simp[hp5,hnext],dT,gv,zr⟩
  have fx:=jU h0 h1 h5 hp5 h10 h11 h12 hlt hsg hse<|hin;have c1:=D5 gl p hh c q hq b;refine qK ?_;clear fx c1;refine zK (λn st=>∃x:Nat,n=8-x/\x<=8/\st.tm 0=uI p/\st.tm 1=iv b/\st.tm 5=.pt (.s 5) 0/\st.hp (.s 5)=Z (.row 8 [z8 (R++jl (ff p b c) x)])/\st.tm 7=lj p c q/\st.tm 10=uI p/\st.tm 11=iv (O p)/\st.tm 12=iv c/\st.tm 20=iv x) 8 ?_ ?_
  .exact⟨0,qA,qA,yL,zY,jh,by simp[hp5,jl],qB,dT,gv,rX,qB⟩
  clear h0 h1 h5 hp5 h10 h11 h12 hsg hse;rintro n st - - ⟨x,rfl,hx,h0,h1,h5,hp5,h7,h10,h11,h12,h20⟩;by_cases hx8:x<8
  .have hx8':(x:Int)<8:=qA;have hfi:ff p b c x=(decide ((x:Int)∈q.us)&&(zN p c x != -1)&&!j8 p (zN p c x) b):=by simp only[ff,hq,hin,gj]
   have hn2:=H7 (f:=ff p b c) (n:=x)
   cases hus:decide ((x:Int)∈q.us)
   .rw [if_neg (by rw[hfi,hus];simp)]at hn2
    all_goals have fx:=jA h1 h5 hp5 h7 h20 hx8 hx8'<|hus
    repeat'(first|refine zf ?_|refine λ(K:St->Prop)hK=>?_|refine zL (hF:=sO _ p c q x hx8) (h:=?_))
    all_goals try clear fx
    exact⟨8-(x+1),qA,x+1,rfl,qA,yL,zY,jh,At,bP,dT,gv,rX,zr⟩
   cases hno:(zN p c x == -1)
   rotate_left
   .rw [if_neg (by rw[hfi,bne,hno];simp)]at hn2
    all_goals have fx:=ya h1 h5 hp5 h7 h20 hx8 hx8' hus hno<|@zA
    repeat'(first|refine zf ?_|refine λ(K:St->Prop)hK=>?_|refine zL (hF:=sO _ p c q x hx8) (h:=?_)|refine zL (hF:=eJ _ p hp c q hq x hx8) (h:=?_))
    all_goals try clear fx
    exact⟨8-(x+1),qA,x+1,rfl,qA,yL,zY,jh,At,bP,dT,gv,rX,zr⟩
   have hno':¬zN p c x=-1:=by simpa using hno
   obtain⟨o,hO⟩:∃o:Nat,zN p c x=o:=⟨(zN p c x).toNat,by rcases nA (p:=p) (c:=c) (x:=(x:Int))with h|h<;>omega⟩
   have hol:o<O p:=by
    have h1:=nA (p:=p) (c:=c) (x:=(x:Int));have h2:=iM (Gd hh qA hq hO);omega
   obtain⟨qo,hqo⟩:=gX hol;have hsg:=sF (p:=p) hol;rw[eH hh hqo]at hsg;obtain⟨_,hse⟩:=gS hsg;rw[hO]at hno hfi
   cases hio:j8 p o b
   rotate_left
   .rw [if_neg (by rw[hfi,hio];simp)]at hn2
    all_goals have fx:=qg h0 h1 h5 hp5 h7 h20 hx8 hx8' hus hO hno hol<|qz hsg hse hio<|@zA
    repeat'(first|refine zf ?_|refine λ(K:St->Prop)hK=>?_|refine zL (hF:=sO _ p c q x hx8) (h:=?_)|refine zL (hF:=eJ _ p hp c q hq x hx8) (h:=?_)|refine zL (hF:=D5 _ p hh o qo hqo b) (h:=?_))
    all_goals try clear fx
    exact⟨8-(x+1),qA,x+1,rfl,qA,yL,zY,jh,At,bP,dT,gv,rX,zr⟩
   .rw [if_pos (by rw[hfi,hus,bne,hno,hio];rfl)]at hn2;have hnM:R++jl (ff p b c) (x+1)=R++jl (ff p b c) x++[(x:Int)]:=by rw[hn2,gm]
    generalize R++jl (ff p b c) x=M' at hp5 hnM
    all_goals have fx:=qg h0 h1 h5 hp5 h7 h20 hx8 hx8' hus hO hno hol<|qz hsg hse hio<|@zA
    repeat'(first|refine zf ?_|refine λ(K:St->Prop)hK=>?_|refine zL (hF:=sO _ p c q x hx8) (h:=?_)|refine zL (hF:=eJ _ p hp c q hq x hx8) (h:=?_)|refine zL (hF:=D5 _ p hh o qo hqo b) (h:=?_))
    all_goals try clear fx
    refine⟨8-(x+1),qA,x+1,rfl,qA,yL,zY,jh,?_,bP,dT,gv,rX,zr⟩;rw[hnM];simp[<- oL (l:=M') (y:=(x:Int)) rfl hx8]
  .have hge:x=8:=qA;subst hge;rw[<- hnext]at hp5;refine qH ?_<|zy h1 h5 hp5 h10 h11 h12<|h20;exact⟨O p-(c+1),qA,c+1,rfl,qA,yL,zY,jh,kw,dT,gv,by simp[h12];exact qk qA qA⟩
 .have hge:c=O p:=qA;subst hge;have fx:=qz h5 hp5 h11<|h12;have d1:=Dm gl (ro p b (O p));refine qK ?_;clear fx d1;exact yg (t:=4) ji ji qB
end Go.Proofs.YtjgpejikjhojcaaGreatDoor
end
