import Derived.Test.YtjgpejikjhojcaaGreatDoorD21
import Derived.Test.YtjgpejikjhojcaaGreatDoorD10
set_option linter.all false
set_option maxRecDepth 100000
set_option maxHeartbeats 4000000
open Option renaming some->Z,none->Y
open Bool renaming true->B,false->M
open List renaming length->O

section
namespace Go.Proofs.YtjgpejikjhojcaaGreatDoor
open Go Go.Hm Go.Proofs Tryz
theorem cu(gl)(n lo hi:Int):qL prog gl 31 [iv n,iv lo,iv hi] (λ_ x _=>x=bv (decide (lo<=n)&&decide (n<=hi))):=by
 refine qL.q9 func31 [.tmp 6] ntmps31 λC w g root=>?_
 all_goals have fx:=qW
 repeat'(first|refine zf ?_|refine λ(K:St->Prop)hK=>?_|(with_reducible refine yr (λht=>?_) (λht=>?_)))
 all_goals try clear fx
 all_goals refine qE [] .nil qD ?_
 all_goals simp_all
 omega
def CB(gl)(n:Int):qL prog gl 127 [iv n] (λ_ x _=>x=bv (decide (0<=n)&&decide (n<=7))):=by
 refine qL.q9 func127 [.tmp 2] ntmps127 λC w g root=>?_
 all_goals have fx:=qW
 repeat'(first|refine zf ?_|refine λ(K:St->Prop)hK=>?_|refine zL (hF:=cu _ _ _ _) (h:=?_))
 all_goals try clear fx
 refine qE [] .nil qD qB
theorem lR(gl)(n:Int):qL prog gl 136 [iv n] (λ_ x _=>x=bv (decide (0<=n)&&decide (n<=7))):=by
 refine qL.q9 func136 [.tmp 2] ntmps136 λC w g root=>?_
 all_goals have fx:=qW
 repeat'(first|refine zf ?_|refine λ(K:St->Prop)hK=>?_|(with_reducible refine yr (λht=>?_) (λht=>?_)))
 all_goals try clear fx
 all_goals refine qE [] .nil qD ?_
 all_goals simp_all
 omega
def pE(gl)(xs:List Int)(x:Int)(hlen:O xs<=4294967296):qL prog gl 124 [jO xs,iv x] (λ_ z _=>z=iv (yz xs x)):=by
 refine qL.q9 func124 [.tmp 4] ntmps124 λC w g root=>?_;refine qH ?_<|qW;refine zK (λn st=>∃i:Nat,n=O xs-i/\i<=O xs/\st.tm 0=jO xs/\st.tm 1=iv x/\st.tm 5=iv i/\∀j<i,xs[j]?≠Z x) (O xs) ⟨0,qB⟩ ?_;rintro n st - - ⟨i,rfl,hi,h0,h1,h5,hno⟩;refine qH ?_<|ql h0 h1<|h5;refine yk yq (λht=>?_) (λhf=>?_)
 .have hlt:i<O xs:=yJ;obtain⟨y,hy⟩:∃y,xs[i]?=Z y:=⟨xs[i],gE hlt⟩;refine qH ?_<|qz h0 h1 h5<|hy;refine yk yq (λht=>?_) (λhf=>?_)
  .skip
   refine qH ?_<|ql h0 h1<|h5;refine qE [] .nil (by simp[h5];rfl) ?_;have hyx:y=x:=yJ;subst hyx
   have:xs.findIdx? (·==y)=Z i:=by
    rw[s8];refine⟨hlt,?_,λj hj=>?_⟩
    .rw [gE hlt]at hy;simpa using sI hy
    .have:=hno j hj;rw[gE qA]at this
     simpa using this
   simp[yz,this]
  .skip
   refine qH ?_<|ql h0 h1<|h5;refine⟨O xs-(i+1),qA,i+1,rfl,qA,?_⟩;simp[h0,h1];refine⟨qk qA qA,λj hj=>?_⟩;rcases CY.1 hj with h|rfl
   .exact hno j h
   .rw [hy];simpa using hf
 .skip
  refine qH ?_<|ql h0 h1<|h5;refine qE [] .nil qD ?_
  have hge:i=O xs:=by have:¬i<O xs:=by simpa using hf
                      omega
  have:xs.findIdx? (·==x)=Y:=by
   rw[List.findIdx?_eq_none_iff];intro y hy;obtain⟨j,hj,rfl⟩:=List.getElem_of_mem hy;have:=hno j qA;rw[gE hj]at this
   simpa using this
  simp[yz,this]
def wT(gl)(xs:List Int)(x:Int)(hlen:O xs<=4294967296):qL prog gl 82 [jO xs,iv x] (λ_ z _=>z=bv (decide (x∈xs))):=by
 refine qL.q9 func82 [.tmp 4] ntmps82 λC w g root=>?_
 all_goals have fx:=qW
 repeat'(first|refine zf ?_|refine λ(K:St->Prop)hK=>?_|refine zL (hF:=pE _ _ _ hlen) (h:=?_))
 all_goals try clear fx
 refine qE [] .nil gx (by simp[nD])
def pN(gl)(xs:List Int)(hlen:O xs<=4294967296):qL prog gl 123 [jO xs] (λr y H'=>y=.hs r 1 0 (O (sorted xs))/\H' r=Z (.row 1 (qh (sorted xs)))):=by
 refine qL.q9 func123 [.tmp 2] ntmps123 λC w g root=>?_;refine qH ?_<|qW;refine zK (λn st=>∃i:Nat,n=8-i/\i<=8/\st.tm 0=jO xs/\st.tm 4=iv i/\st.tm 3=.hs (.s 3) 1 0 (O (kN xs i))/\st.hp (.s 3)=Z (.row 1 (qh (kN xs i)))) 8 ?_ ?_
 .exact⟨0,DD⟩
 rintro n st - - ⟨i,rfl,hi,h0,h4,h3,hp3⟩;have hsl:=PB (xs:=xs) i;refine qH ?_<|qz h0 h4 h3<|hp3;refine yk yq (λht=>?_) (λhf=>?_)
 .have hlt:(i:Int)<=7:=yJ
  all_goals have fx:=qz h0 h4 h3<|hp3
  repeat'(first
   |refine wL ?_|refine bF ?_|refine aZ ?_|refine aY λK hK=>?_
   |((with_reducible refine uu hK ?_);clear hK K)
   |(with_reducible first|refine wK ?_|refine cD ?_|refine cO ?_|refine cC ?_|refine bE ?_|refine bU ?_|refine cE qf ?_)
   |refine cQ ?_
   |refine bG ?_
   |(with_reducible first|refine kh ?_|refine a6 (h:=?_)|refine bh (T:=38) (h:=?_)|refine bH (T:=38) (h:=?_)|refine cR (h:=?_))
   |((with_reducible refine dB 124 rfl ?_);refine zL (hF:=pE _ _ _ hlen) (h:=?_))
   |(with_reducible refine wc (h:=?_))
   |refine bi (h1:=?_)|refine cS (h1:=?_)
   |fail)
  all_goals try clear fx
  refine yk yq (λht=>?_) (λhf=>?_)
  .have hm:(i:Int)∈xs:=nD.1 yJ;refine qH ?_<|qz h0 h4 h3<|hp3;refine⟨8-(i+1),qA,i+1,rfl,qA,?_⟩;simp[h0,h3,kN,hm];exact qk qA qA
  .have hm:¬(i:Int)∈xs:=λh=>by simp[nD.2 h]at hf
   refine qH ?_<|qz h0 h4 h3<|hp3;refine⟨8-(i+1),qA,i+1,rfl,qA,?_⟩;simp[h0,h3,hp3,kN,hm];exact qk qA qA
 .have h8:i=8:=by
   have:¬(i:Int)<=7:=vP;omega
  subst h8
  all_goals have fx:=qz h0 h4 h3<|hp3
  repeat'(first
   |refine wL ?_|refine bF ?_|refine aZ ?_|refine aY λK hK=>?_
   |((with_reducible refine uu hK ?_);clear hK K)
   |(with_reducible first|refine wK ?_|refine cD ?_|refine cO ?_|refine cC ?_|refine bE ?_|refine bU ?_|refine cE qf ?_)
   |refine cQ ?_
   |refine bG ?_
   |(with_reducible first|refine kh ?_|refine a6 (h:=?_)|refine bh (T:=38) (h:=?_)|refine bH (T:=38) (h:=?_)|refine cR (h:=?_))
   |(with_reducible refine wc (h:=?_))
   |refine bi (h1:=?_)|refine cS (h1:=?_)
   |fail)
  all_goals try clear fx
  exact yg (t:=2) DG DG qB
theorem EF(gl)(s:qT):qL prog gl 172 [qT.av s] (λr y H'=>y=.hs r 1 0 (O s.reads)/\H' r=Z (.row 1 (qh s.reads))):=by
 refine qL.q9 func172 [.tmp 2] ntmps172 λC w g root=>?_;obtain⟨kind,to,a,b⟩:=s
 all_goals have fx:=qW
 repeat'(first|refine zf ?_|refine λ(K:St->Prop)hK=>?_|refine vr (h1:=λht=>?_) (h2:=λht=>?_))
 all_goals try clear fx
 all_goals refine yg (t:=2) ?_ ?_ ?_
 all_goals simp_all[qT.reads,qh]
def qBV(gl)(s:qT):qL prog gl 215 [qT.av s] (λ_ x _=>x=bv (decide s.eK)):=by
 refine qL.q9 func215 [.tmp 2] ntmps215 λC w g root=>?_
 all_goals have fx:=qW
 repeat'(first|refine zf ?_|refine λ(K:St->Prop)hK=>?_|refine zL (hF:=cu _ _ _ _) (h:=?_))
 all_goals try clear fx
 refine qE [] .nil gx (by simp[])
def GK(gl)(xs:List Int)(hlen:O xs<=4294967296):qL prog gl 190 [jO xs] (λr y H'=>y=.hs r 1 0 (O xs)/\H' r=Z (.row 1 (qh xs))):=by
 refine qL.q9 func190 [.tmp 2] ntmps190 λC w g root=>?_;refine qH ?_<|qW;exact yg (t:=2) ji ji qB
def qCi{ss:List qT}{s:qT}{i:Nat}(h:ss[i]?=Z s):aw (ss.take (i+1))=aw (ss.take i)++s.reads:=by
 rw[vd,h];simp[aw]
def Ξ(gl)(p:qC)(b:Nat)(k:qY)(hk:p[b]?=Z k)(hlen:O k.body<=1048576):qL prog gl 237 [jB p,iv b] (λr y H'=>y=.hs r 1 0 (O (sorted (aw k.body)))/\H' r=Z (.row 1 (qh (sorted (aw k.body))))):=by
 refine qL.q9 func237 [.tmp 4] ntmps237 λC w g root=>?_;refine qH ?_<|qW;refine zK (λn st=>∃i:Nat,n=O k.body-i/\i<=O k.body/\st.tm 1=iv b/\st.tm 2=.pt (.s 2) 0/\st.hp (.s 2)=Z (.row 1 [[j6 p]])/\st.tm 6=iv i/\st.tm 5=.hs (.s 5) 1 0 (O (aw (k.body.take i)))/\st.hp (.s 5)=Z (.row 1 (qh (aw (k.body.take i))))) (O k.body) ?_ ?_
 .exact⟨0,by simp[aw]⟩
 rintro n st - - ⟨i,rfl,hi,h1,h2,hp2,h6,h5,hp5⟩;have hrl:=Ψ (k.body.take i);rw[ge]at hrl;refine qH ?_<|zy h1 h2 hp2 h6 h5 hp5<|hk;refine yk yq (λht=>?_) (λhf=>?_)
 .have hlt:i<O k.body:=yJ;obtain⟨s,hs⟩:=gX hlt;have hsl:=s.lf;have fx:=jA h1 h2 hp2 h6 h5 hp5 hk<|hs;have d1:=EF gl s;refine qK ?_;clear fx d1;refine⟨O k.body-(i+1),qA,i+1,rfl,qA,?_⟩;simp[h1,h2,hp2,h5,qCi hs];exact qk qA qA
 .have h8:i=O k.body:=by
   have:¬i<O k.body:=vP;omega
  subst h8;have fx:=zy h1 h2 hp2 h6 h5 hp5<|hk;have d1:=pN gl (aw k.body) (by rw[kC]at hrl;omega);refine qK ?_;clear fx d1;exact yg (t:=4) ji ji qB
def Jw(gl)(p:qC)(b:Nat)(k:qY)(hk:p[b]?=Z k)(hs:lx k):qL prog gl 174 [jB p,iv b] (λr y H'=>y=.hs r 1 0 (O k.bd)/\H' r=Z (.row 1 (qh k.bd))):=by
 obtain⟨hl1,hl2⟩:=hs;refine qL.q9 func174 [.tmp 4] ntmps174 λC w g root=>?_;have fx:=hk;have d1:=GK gl k.params qA;refine qK ?_;clear fx d1;refine zK (λn st=>∃i:Nat,n=O k.body-i/\i<=O k.body/\st.tm 1=iv b/\st.tm 2=.pt (.s 2) 0/\st.hp (.s 2)=Z (.row 1 [[j6 p]])/\st.tm 6=iv i/\∃xs:List Int,xs=k.params++((k.body.take i).filter (λs=>decide (s.eK\/s.kind=11))).map qT.to/\O xs<=O k.params+i/\st.tm 5=.hs (.s 5) 1 0 (O xs)/\st.hp (.s 5)=Z (.row 1 (qh xs))) (O k.body) ?_ ?_
 .exact⟨0,qB⟩
 rintro n st - - ⟨i,rfl,hi,h1,h2,hp2,h6,xs,hxs,hxl,h5,hp5⟩;refine qH ?_<|zy h1 h2 hp2 h6 h5 hp5<|hk;refine yk yq (λht=>?_) (λhf=>?_)
 .have hlt:i<O k.body:=yJ;obtain⟨s,hs⟩:=gX hlt;by_cases hc:s.eK<;>cases h11:(s.kind==11)
  all_goals have fx:=ya h1 h2 hp2 h6 h5 hp5 hk hs hc<|h11
  repeat'(first
   |refine wL ?_|refine bF ?_|refine aZ ?_|refine aY λK hK=>?_
   |((with_reducible refine uu hK ?_);clear hK K)
   |(with_reducible first|refine wK ?_|refine cD ?_|refine cO ?_|refine cC ?_|refine bE ?_|refine bU ?_|refine cE qf ?_)
   |refine cQ ?_
   |refine bG ?_
   |(with_reducible refine kh ?_)
   |((with_reducible refine lP ?_);refine lw (h:=?_))
   |(with_reducible first|refine lQ ?_|refine mc ?_|refine nV (h:=?_)|refine nR (h:=?_)|refine nW (h:=?_)|refine a6 (h:=?_)|refine eQ (h:=?_)|refine gL (h:=?_)|refine gN (h:=?_)|refine bh (T:=38) (h:=?_)|refine bH (T:=38) (h:=?_)|refine cR (h:=?_))
   |((with_reducible refine dB 215 rfl ?_);refine zL (hF:=qBV _ s) (h:=?_))
   |(with_reducible refine wc (h:=?_))
   |(with_reducible refine yr (λht=>?_) (λht=>?_))
   |refine bi (h1:=?_)|refine cS (h1:=?_)
   |fail)
  all_goals try clear fx
  all_goals refine⟨O k.body-(i+1),qA,i+1,rfl,qA,zY,jS,jV,zr,_,rfl,?_⟩
  all_goals simp at h11
  all_goals simp[lp hs,hc,h11,h5,hp5,hxs]
  all_goals(rw[hxs]at hxl;simp at hxl;omega)
 .have h8:i=O k.body:=by
   have:¬i<O k.body:=vP;omega
  subst h8;have hb:oK k=xs:=by rw[hxs];simp[oK]
  have fx:=zy h1 h2 hp2 h6 h5 hp5<|hk;have d1:=pN gl xs qA;refine qK ?_;clear fx d1;rw[<- hb];exact yg (t:=4) ji ji qB
def fZ(gl)(p:qC)(b:Nat)(k:qY)(d:Int)(hk:p[b]?=Z k)(hs:lx k):qL prog gl 81 [jB p,iv b,iv d] (λr y H'=>y=.hs r 1 0 (O (k.dc d))/\H' r=Z (.row 1 (qh (k.dc d)))):=by
 obtain⟨hl1,hl2⟩:=hs;refine qL.q9 func81 [.tmp 6] ntmps81 λC w g root=>?_;refine qH ?_<| hk;refine zK (λn st=>∃i:Nat,n=O k.body-i/\i<=O k.body/\st.tm 1=iv b/\st.tm 2=iv d/\st.tm 3=.pt (.s 3) 0/\st.hp (.s 3)=Z (.row 1 [[j6 p]])/\st.tm 8=iv i/\∃xs:List Int,xs=((k.body.take i).filter (λs=>decide (s.kind=d))).map qT.to/\O xs<=i/\st.tm 7=.hs (.s 7) 1 0 (O xs)/\st.hp (.s 7)=Z (.row 1 (qh xs))) (O k.body) ?_ ?_
 .exact⟨0,qB⟩
 rintro n st - - ⟨i,rfl,hi,h1,h2,h3,hp3,h8,xs,hxs,hxl,h7,hp7⟩;refine qH ?_<|jA h1 h2 h3 hp3 h8 h7 hp7<|hk;refine yk yq (λht=>?_) (λhf=>?_)
 .have hlt:i<O k.body:=yJ;obtain⟨s,hs⟩:=gX hlt
  cases hc:(s.kind==d)
  all_goals have fx:=ya h1 h2 h3 hp3 h8 h7 hp7 hk hs<|hc
  repeat'(first
   |refine wL ?_|refine bF ?_|refine aZ ?_|refine aY λK hK=>?_
   |((with_reducible refine uu hK ?_);clear hK K)
   |(with_reducible first|refine wK ?_|refine cD ?_|refine cO ?_|refine cC ?_|refine bE ?_|refine bU ?_|refine cE qf ?_)
   |refine cQ ?_
   |refine bG ?_
   |(with_reducible first|refine kh ?_|refine a6 (h:=?_)|refine eQ (h:=?_)|refine bh (T:=38) (h:=?_)|refine bH (T:=38) (h:=?_)|refine cR (h:=?_))
   |(with_reducible refine wc (h:=?_))
   |refine bi (h1:=?_)|refine cS (h1:=?_)
   |fail)
  all_goals try clear fx
  all_goals refine⟨O k.body-(i+1),qA,i+1,rfl,qA,zY,jS,jr,uo,zr,_,rfl,?_⟩
  all_goals simp at hc
  all_goals simp[lp hs,hc,h7,hp7,hxs]
  all_goals(rw[hxs]at hxl;simp at hxl;omega)
 .have h8:i=O k.body:=by
   have:¬i<O k.body:=vP;omega
  subst h8;have hb:o9 k d=xs:=by rw[hxs];simp[o9]
  have fx:=jA h1 h2 h3 hp3 h8 h7 hp7<|hk;have d1:=pN gl xs qA;refine qK ?_;clear fx d1;simp only[qY.dc,hb];exact yg (t:=6) ji ji qB
theorem BL(gl)(p:qC)(b:Nat)(k:qY)(x:Int)(hk:p[b]?=Z k)(hs:lx k):qL prog gl 125 [jB p,iv b,iv x] (λ_ y _=>y=bv (uW b k x)):=by
 refine qL.q9 func125 [.tmp 6] ntmps125 λC w g root=>?_
 all_goals have fx:=hk
 repeat'(first|refine zf ?_|refine λ(K:St->Prop)hK=>?_|refine w8 (hF:=Jw _ p b k hk hs) (h:=?_)|refine zL (hF:=wT _ _ _ (by first|exact uV (qY.Je _) qf|exact uV (qY.rb _ _) qf|exact uV (qY.OE _) qf)) (h:=?_)|refine w8 (hF:=fZ _ p b k _ hk hs) (h:=?_)|(with_reducible refine yr (λht=>?_) (λht=>?_)))
 all_goals try clear fx
 all_goals refine qE [] .nil qD ?_
 all_goals simp_all[uW]
def my(gl)(p:qC)(b:Nat)(k:qY)(x:Int)(hk:p[b]?=Z k)(hs:jm p)(hh:ze p):qL prog gl 83 [jB p,iv b,iv x] (λ_ y _=>y=iv (outer p b x)):=by
 refine qL.q9 func83 [.tmp 6] ntmps83 λC w g root=>?_;refine qH ?_<| hk;obtain⟨hk1,hk2,_⟩:=hh b k hk;have qv:b<O p:=(gS hk).1;refine zK (λn st=>∃j:Int,n=(j+1).toNat /\ -1<=j/\j<O p/\yU p x (O p) j=outer p b x/\st.tm 2=iv x/\st.tm 3=.pt (.s 3) 0/\st.hp (.s 3)=Z (.row 1 [[j6 p]])/\st.tm 7=iv j) (k.parent+1).toNat ?_ ?_
 .exact⟨k.parent,rfl,hk1,qA,(mz hh hk).symm,qB⟩
 rintro n st - - ⟨j,rfl,hj1,hj2,ho,h2,h3,hp3,h7⟩;refine qH ?_<|qz h2 h3 hp3<|h7;refine yk yq (λht=>?_) (λhf=>?_)
 .have hj0:0<j:=yJ;obtain⟨j,rfl⟩:∃i:Nat,j=i:=⟨j.toNat,qA⟩;have hj0:0<j:=qA;obtain⟨q,hq⟩:∃q,p[j]?=Z q:=⟨_,gE qA⟩;rw[mx hh hq hj0]at ho;obtain⟨hq1,hq2,hq3⟩:=hh j q hq
  cases hc:(q.kind==1)
  .skip
   refine qH ?_<|zy h2 h3 hp3 h7 hq hc<|@zA;refine⟨(q.parent+1).toNat,qA,q.parent,rfl,hq1,qA,?_,by simp[h2,h3,hp3]⟩;rw[<- ho,if_pos (by simpa using hc)]
  .rw [if_neg (by simpa using hc)]at ho
   all_goals have fx:=zy h2 h3 hp3 h7 hq hc<|@zA
   repeat'(first|refine zf ?_|refine λ(K:St->Prop)hK=>?_|refine w8 (hF:=fZ _ p j q _ hq (hs.vu hq)) (h:=?_)|refine zL (hF:=wT _ _ _ (uV (qY.rb _ _) qf)) (h:=?_))
   all_goals try clear fx
   refine yk yq (λht=>?_) (λhf=>?_)
   .have hm:x∈q.dc 9:=yJ;rw[if_pos hm]at ho;refine qH ?_<|zJ h2 h3 hp3 h7<|hq;refine qE [] .nil gx (by simp[<- ho])
   .have hm:¬x∈q.dc 9:=vP;rw[if_neg hm]at ho;have fx:=zJ h2 h3 hp3 h7<|hq;have c1:=BL gl p j q x hq (hs.vu hq);refine qK ?_;clear fx c1;refine yk yq (λht=>?_) (λhf=>?_)
    .rw [if_pos ht]at ho;refine qH ?_<|zJ h2 h3 hp3 h7<|hq;refine qE [] .nil gx (by simp[<- ho])
    .rw [if_neg (by simp[hf])]at ho;refine qH ?_<|zJ h2 h3 hp3 h7<|hq;refine⟨(q.parent+1).toNat,qA,q.parent,rfl,hq1,qA,ho,by simp[h2,h3,hp3]⟩
 .have hj:j<=0:=vP;rw[B6 hj]at ho;refine qH ?_<|qW;refine qE [] .nil gx (by simp[<- ho])
theorem fw(gl)(p:qC)(b:Nat)(k:qY)(x:Int)(hk:p[b]?=Z k)(hs:jm p)(hh:ze p):qL prog gl 85 [jB p,iv b,iv x] (λ_ y _=>y=iv (zN p b x)):=by
 refine qL.q9 func85 [.tmp 6] ntmps85 λC w g root=>?_
 all_goals have fx:=hk
 repeat'(first|refine zf ?_|refine λ(K:St->Prop)hK=>?_|refine w8 (hF:=fZ _ p b k _ hk (hs.vu hk)) (h:=?_)|refine zL (hF:=wT _ _ _ (uV (qY.rb _ _) qf)) (h:=?_)|refine zL (hF:=BL _ p b k x hk (hs.vu hk)) (h:=?_)|refine zL (hF:=my _ p b k x hk hs hh) (h:=?_)|(with_reducible refine yr (λht=>?_) (λht=>?_))|refine vr (h1:=λht=>?_) (h2:=λht=>?_))
 all_goals try clear fx
 all_goals refine qE [] .nil qD ?_
 all_goals simp_all[zN]
theorem WC(gl)(p:qC)(b:Nat)(j kind:Int)(hs:jm p)(hb:b<O p):qL prog gl 173 [jB p,iv b,iv j,iv kind] (λ_ y _=>y=bv (bW p b j kind)):=by
 have hpl:=hs.len;have w1:IntKind.i64.wrap ((b:Int)+1)=b+1:=qk qA qA;have w2:IntKind.i64.wrap ((O p:Int)-1)=O p-1:=qk qA qA;refine qL.q9 func173 [.tmp 8] ntmps173 λC w g root=>?_;by_cases hj:(b:Int)+1<=j/\j<=(O p:Int)-1
 .obtain⟨j,rfl⟩:∃i:Nat,j=i:=⟨j.toNat,qA⟩;obtain⟨q,hq⟩:∃q,p[j]?=Z q:=⟨_,gE qA⟩
  all_goals have fx:=qz hq w1 w2<|hj
  repeat'(first|refine zf ?_|refine λ(K:St->Prop)hK=>?_|refine zL (hF:=cu _ _ _ _) (h:=?_)|(with_reducible refine yr (λht=>?_) (λht=>?_)))
  all_goals try clear fx
  all_goals refine qE [] .nil qD ?_
  all_goals simp_all[bW]
 .have hj':(decide ((b:Int)+1<=j)&&decide (j<=(O p:Int)-1))=M:=by simpa using hj
  all_goals have fx:=ql w1 w2<|hj'
  repeat'(first|refine zf ?_|refine λ(K:St->Prop)hK=>?_|refine zL (hF:=cu _ _ _ _) (h:=?_))
  all_goals try clear fx
  all_goals refine qE [] .nil qD ?_
  all_goals simp_all[bW]
  intro h1 h2;exact absurd (hj h1) qA
theorem qDi(gl)(p:qC)(b:Nat)(k:qY)(hk:p[b]?=Z k)(hb:b<O p)(hs:jm p):qL prog gl 120 [jB p,iv b] (λ_ y _=>y=bv (decide (ul b k))):=by
 have hpl:=hs.len;have w2:IntKind.i64.wrap ((b:Int)-1)=b-1:=qk qA qA;refine qL.q9 func120 [.tmp 4] ntmps120 λC w g root=>?_;obtain⟨kind,parent,params,body⟩:=k;by_cases hp:2<=O params
 .have c0:((O params:Int)==0)=M:=KM;have c1:((O params:Int)==1)=M:=KM
  all_goals have fx:=qz hk w2 c0<|c1
  repeat'(first|refine zf ?_|refine λ(K:St->Prop)hK=>?_|refine zL (hF:=cu _ _ _ _) (h:=?_)|(with_reducible refine yr (λht=>?_) (λht=>?_))|refine vr (h1:=λht=>?_) (h2:=λht=>?_))
  all_goals try clear fx
  all_goals refine qE [] .nil qD ?_
  all_goals simp_all[ul]
  all_goals(intros;omega)
 .rcases params with _|⟨x,_|⟨y,l⟩⟩
  rotate_left 2
  .simp at hp
  all_goals have fx:=aI hk<|w2
  repeat'(first|refine zf ?_|refine λ(K:St->Prop)hK=>?_|refine zL (hF:=cu _ _ _ _) (h:=?_)|refine zL (hF:=CB _ _) (h:=?_)|(with_reducible refine yr (λht=>?_) (λht=>?_))|refine vr (h1:=λht=>?_) (h2:=λht=>?_))
  all_goals try clear fx
  all_goals refine qE [] .nil qD ?_
  all_goals simp_all[ul]
  all_goals(intros;omega)
theorem qDl(gl)(p:qC)(b:Nat)(k:qY)(s:qT)(hk:p[b]?=Z k)(hs:jm p)(hb:b<O p):qL prog gl 121 [jB p,iv b,qT.av s] (λ_ y _=>y=bv (zp p b k s)):=by
 refine qL.q9 func121 [.tmp 6] ntmps121 λC w g root=>?_;obtain⟨kind,to,a,c⟩:=s
 all_goals have fx:=hk
 repeat'(first|refine zf ?_|refine λ(K:St->Prop)hK=>?_|refine w8 (hF:=EF _ ⟨kind,to,a,c⟩) (h:=?_)|refine zL (hF:=CB _ _) (h:=?_)|refine vr (h1:=λht=>?_) (h2:=λht=>?_))
 all_goals try clear fx
 .have hto:lT to=M:=by
   rw[rG];intro h;simp at h ht;omega
  refine qE [] .nil qD ?_;simp only[zp,hto]
  rfl
 have hto:lT to=B:=yJ;generalize hr:qT.reads ⟨kind,to,a,c⟩=rs;have hrl:O rs<=2:=hr ▸ qT.lf _;refine zK (λn st=>∃i:Nat,n=O rs-i/\i<=O rs/\st.tm 1=iv b/\st.tm 3=.pt (.s 3) 0/\st.hp (.s 3)=Z (.row 1 [[j6 p]])/\st.tm 5=.pt (.s 5) 0/\st.hp (.s 5)=Z (.row 4 [[iv kind,iv to,iv a,iv c]])/\st.tm 8=iv i/\st.tm 7=.hs (.s 7) 1 0 (O rs)/\st.hp (.s 7)=Z (.row 1 (qh rs))/\(rs.take i).all lT=B) (O rs) ?_ ?_
 .exact⟨0,by simp[hr]⟩
 rintro n st - - ⟨i,rfl,hi,h1,h3,hp3,h5,hp5,h8,h7,hp7,hal⟩
 all_goals have fx:=jA h1 h3 hp3 h5 hp5 h8 h7<|hp7
 repeat'(first|refine zf ?_|refine λ(K:St->Prop)hK=>?_)
 all_goals try clear fx
 refine yk yq (λht=>?_) (λhf=>?_)
 .have hlt:i<O rs:=yJ;obtain⟨y,hy⟩:=gX hlt;obtain⟨_,hy'⟩:=gS hy
  all_goals have fx:=ya h1 h3 hp3 h5 hp5 h8 h7 hp7 hy'<|hlt
  repeat'(first|refine zf ?_|refine λ(K:St->Prop)hK=>?_|refine zL (hF:=CB _ _) (h:=?_)|refine vr (h1:=λht=>?_) (h2:=λht=>?_))
  all_goals try clear fx
  .have hno:lT y=M:=by
    rw[rG];intro h;simp at h ht;omega
   refine qE [] .nil qD ?_
   have hall:rs.all lT=M:=by
    rw[rG];intro h;have:=yn.1 h y (gM hy);rw[hno]at this
    cases this
   simp only[zp,hr,hall];simp
  .have hyes:lT y=B:=yJ;refine⟨O rs-(i+1),qA,i+1,rfl,qA,zY,jr,uo,jh,kw,zr,bP,oQ,?_⟩;rw[vd,hy,List.all_append,hal];simp only[Option.toList_some,List.all_cons,List.all_nil,hyes]
   rfl
 .have hge:i=O rs:=by
   have:¬i<O rs:=vP;omega
  subst hge;rw[kC]at hal
  have hok:zp p b k ⟨kind,to,a,c⟩=(if kind=0 then decide (0<=a)&&decide (a<=99)&&c==0 else if kind=1 then c==0 else if kind=2\/kind=5 then B
   else if kind=3 then c==0&&bW p b a 1 else if kind=4 then c==0&&bW p b a 2 else if kind=6 then lT c
   else if kind=7 then to==0&&c==0 else if kind=8 then to==0&&c==0&&k.kind==1
   else if kind=9\/kind=10 then a==0&&c==0&&k.kind != 0 else if kind=11 then a==0&&c==0 else M):=by
   simp only[zp,hr,hal,hto,gj]
  rw[hok];clear hok
  all_goals have fx:=zx h1 h3 hp3 h5 hp5<|hk
  repeat'(first|refine zf ?_|refine λ(K:St->Prop)hK=>?_|refine zL (hF:=CB _ _) (h:=?_)|refine zL (hF:=cu _ _ _ _) (h:=?_)|refine zL (hF:=WC _ p b _ _ hs hb) (h:=?_)|(with_reducible refine yr (λht=>?_) (λht=>?_))|refine vr (h1:=λht=>?_) (h2:=λht=>?_))
  all_goals try clear fx
  all_goals refine qE [] .nil qD ?_
  all_goals simp_all
  all_goals(intros;omega)
abbrev Hc:qV:=wG<|.l 11 []<|.done
abbrev Nk:qV:=wG<|.l 11 [5,4,3,2]<|.q 12<|.done
theorem WD(gl)(p:qC)(b:Nat)(k:qY)(hk:p[b]?=Z k)(h0:0<b)(hh:ze p)(hs:jm p):qL prog gl 122 [jB p,iv b] (λ_ y _=>y=iv (bX p b)):=by
 refine qL.q9 func122 [.tmp 4] ntmps122 λC w g root=>?_;obtain⟨hp1,hp2,hp3⟩:=hh b k hk;have qv:b<O p:=(gS hk).1;have hkp:=hp3 h0;obtain⟨q,hq⟩:∃q,p[k.parent.toNat]?=Z q:=⟨_,gE qA⟩;have hmi:bX p b=(O (q.body.filter (λs=>fo s b)):Int):=by simp only[bX,hk,hq]
 rw[hmi];have hql:=(hs.vu hq).body;have fx:=ql hk hq<|hkp;refine qK ?_
 repeat((first|refine qP (id:=2) Hc mixed ?_);refine zC ?_;refine qK ?_)
 clear fx;refine zK (λn st=>∃i:Nat,n=O q.body-i/\i<=O q.body/\st.tm 1=iv b/\st.tm 6=gD q.body/\st.tm 7=iv i/\∃c:Nat,c=O ((q.body.take i).filter (λs=>fo s b))/\c<=i/\st.tm 5=iv c) (O q.body) ?_ ?_
 .exact⟨0,qB⟩
 rintro n st - - ⟨i,rfl,hi,h1,h6,h7,c,hc,hci,h5⟩;have fx:=qz h1 h6 h7<|h5;refine qK ?_
 repeat((first|refine qP (id:=2) Hc mixed ?_);refine zC ?_;refine qK ?_)
 clear fx;refine yk yq (λht=>?_) (λhf=>?_)
 .have hlt:i<O q.body:=yJ;obtain⟨s,hs⟩:=gX hlt
  all_goals have fx:=zJ h1 h6 h7 h5<|hs
  repeat'(first|refine zf ?_|refine λ(K:St->Prop)hK=>?_|(with_reducible refine yr (λht=>?_) (λht=>?_))|refine vr (h1:=λht=>?_) (h2:=λht=>?_))
  all_goals try clear fx
  all_goals refine⟨O q.body-(i+1),qA,i+1,rfl,qA,zY,vZ,zr,?_⟩
  all_goals refine⟨_,rfl,?_⟩
  all_goals simp only[lp hs,u7]
  all_goals simp_all[fo]
  all_goals first|exact qk qA qA|omega
 .have hge:i=O q.body:=by
   have:¬i<O q.body:=vP;omega
  subst hge;rw[kC]at hc;have fx:=h5;refine qK ?_
  repeat((first|refine qP (id:=2) Hc mixed ?_);refine zC ?_;refine qK ?_)
  clear fx;refine qE [] .nil gx (by simp[hc])
def qDj(gl)(p:qC)(b:Nat)(k:qY)(hk:p[b]?=Z k)(hb:b<O p)(hs:jm p):qL prog gl 120 [jB p,iv b] (λ_ y _=>y=bv (bS b k)):=qDi gl p b k hk hb hs
def xP{A G G2:Prop}(k:G2)(x:A)(h:A->jH G2->G:=by
 intro fx kk;refine qK ?_
 repeat((first|refine qP (id:=11) Nk mixed ?_);refine zC ?_;refine qK ?_)
 exact kk.h):G:=h x ⟨k⟩
def Pf(gl)(p:qC)(hs:jm p):qL prog gl 80 [jB p] (λ_ y _=>y=bv (kL p)):=by
 have hpl:=hs.len;refine qL.q9 func80 [.tmp 2] ntmps80 λC w g root=>?_
 all_goals have fx:=qW
 repeat'(first|refine zf ?_|refine λ(K:St->Prop)hK=>?_|refine zL (hF:=cu _ _ _ _) (h:=?_)|refine vr (h1:=λht=>?_) (h2:=λht=>?_))
 all_goals try clear fx
 .refine qE [] .nil qD ?_
  have hno:(decide (1<=O p)&&decide (O p<=7))=M:=by
   rw[rG];intro h;simp at h ht;omega
  simp only[kL,hno]
  rfl
 have hyes:(decide (1<=O p)&&decide (O p<=7))=B:=by
  simp at ht ⊢;omega
 have hsh:kL p=((List.range (O p)).all (ac p)&&(List.range (O p)).all (λi=>i==0||bX p i==1)):=by
  simp only[kL,hyes,gj]
 rw[hsh];clear hsh;refine zK (λn st=>∃i:Nat,n=O p-i/\i<=O p/\st.tm 1=.pt (.s 1) 0/\st.hp (.s 1)=Z (.row 1 [[j6 p]])/\st.tm 3=iv i/\(List.range i).all (ac p)=B) (O p) ?_ ?_
 .exact⟨0,qB⟩
 rintro n st - - ⟨i,rfl,hi,h1,hp1,h3,hal⟩;refine xP ?_<|ql h1 hp1<|h3;refine yk yq (λht=>?_) (λhf=>?_)
 .have hlt:i<O p:=yJ;obtain⟨k,hk⟩:=gX hlt;have hbf:ac p i=(bS i k&&decide (O k.body<=12)&&k.body.all (zp p i k)):=by simp only[ac,hk]
  have fin:∀R:Bool,ac p i=M->((List.range (O p)).all (ac p)&&R)=M:=λR h=>by rw[nH hlt h];rfl
  have qv:=(hs.vu hk).body
  all_goals have fx:=qz h1 hp1 h3<|hk
  repeat'(first|refine zf ?_|refine λ(K:St->Prop)hK=>?_|refine zL (hF:=qDj _ p i k hk hlt hs) (h:=?_)|(with_reducible refine yr (λht=>?_) (λht=>?_))|refine vr (h1:=λht=>?_) (h2:=λht=>?_))
  all_goals try clear fx
  .refine qE [] .nil qD ?_;rw[fin _ (by rw[hbf,show bS i k=M by simpa using ht];rfl)]
   rfl
  .refine qE [] .nil qD ?_;rw[fin _ (by rw[hbf,show decide (O k.body<=12)=M by simp at ht ⊢;omega];simp)]
   rfl
  rename_i ht1;have hhd:bS i k=B:=by simpa using ht1
  have hbd:O k.body<=12:=by simp at ht;omega
  refine zK (λn st=>∃j:Nat,n=O k.body-j/\j<=O k.body/\st.tm 1=.pt (.s 1) 0/\st.hp (.s 1)=Z (.row 1 [[j6 p]])/\st.tm 3=iv i/\st.tm 4=iv j/\(k.body.take j).all (zp p i k)=B) (O k.body) ?_ ?_
  .exact⟨0,by simp[h1,hp1,h3]⟩
  clear h1 hp1 h3 ht ht1;rintro n st - - ⟨j,rfl,hj,h1,hp1,h3,h4,haj⟩;refine xP ?_<|zJ h1 hp1 h3 h4<|hk;refine yk yq (λht=>?_) (λhf=>?_)
  .have hlj:j<O k.body:=yJ;obtain⟨s,hsj⟩:=gX hlj
   all_goals have fx:=zx h1 hp1 h3 h4 hk<|hsj
   repeat'(first
    |refine wL ?_|refine bF ?_|refine aZ ?_|refine aY λK hK=>?_
    |((with_reducible refine uu hK ?_);clear hK K)
    |(with_reducible first|refine wK ?_|refine bE ?_|refine bU ?_|refine fC ?_)
    |refine bG ?_
    |(with_reducible refine kh ?_)
    |(with_reducible first|refine a6 (h:=?_))
    |((with_reducible refine dB 121 rfl ?_);refine zL (hF:=qDl _ p i k s hk hs hlt) (h:=?_))
    |(with_reducible refine wc (h:=?_))
    |(refine qP (id:=11) Nk mixed λK hK=>?_)
    |((with_reducible refine bk hK ?_);clear hK K)
    |((with_reducible refine wh ?_);first|refine ij (h:=?_))
    |refine gZ rfl ?_|(with_reducible refine aI ?_ ?_)|exact gF|refine gO (h2:=?_)
    |refine vr (h1:=λht=>?_) (h2:=λht=>?_)
    |fail)
   all_goals try clear fx
   .refine qE [] .nil qD ?_;rw[fin _ (by rw[hbf,Jb (gM hsj) (show zp p i k s=M by simpa using ht)];simp)]
    rfl
   .refine⟨O k.body-(j+1),qA,j+1,rfl,qA,zY,vY,jr,zr,?_⟩;rw[vd,hsj,List.all_append,haj]
    simpa using ht
  .have hge:j=O k.body:=by
    have:¬j<O k.body:=vP;omega
   subst hge;rw[kC]at haj;refine xP ?_<|zJ h1 hp1 h3 h4<|hk;refine⟨O p-(i+1),qA,i+1,rfl,qA,zY,vY,zr,?_⟩;rw[oG,hal,hbf,hhd,haj]
   simpa using hbd
 .have hge:i=O p:=by
   have:¬i<O p:=vP;omega
  subst hge;have hh:=Lk hal;rw[hal,gj];refine xP ?_<|aI h1<|hp1;refine zK (λn st=>∃i:Nat,n=O p-i/\i<=O p/\1<=i/\st.tm 1=.pt (.s 1) 0/\st.hp (.s 1)=Z (.row 1 [[j6 p]])/\st.tm 5=iv i/\(List.range i).all (λi=>i==0||bX p i==1)=B) (O p-1) ?_ ?_
  .refine⟨1,qA,?_,qA,by simp[h1,hp1]⟩;simp at hyes;omega
  clear h1 hp1 h3 hi;rintro n st - - ⟨i,rfl,hi,hi1,h1,hp1,h5,hmi⟩;refine xP ?_<|ql h1 hp1<|h5;refine yk yq (λht=>?_) (λhf=>?_)
  .have hlt:i<O p:=yJ;obtain⟨k,hk⟩:=gX hlt
   all_goals have fx:=qz h1 hp1 h5<|@zA
   repeat'(first|refine zf ?_|refine λ(K:St->Prop)hK=>?_|refine zL (hF:=WD _ p i k hk hi1 hh hs) (h:=?_)|refine vr (h1:=λht=>?_) (h2:=λht=>?_))
   all_goals try clear fx
   .refine qE [] .nil qD ?_;rw[nH hlt (show(i==0||bX p i==1)=M by simp at ht ⊢;exact⟨qA,ht⟩)]
    rfl
   .refine⟨O p-(i+1),qA,i+1,rfl,qA,qA,zY,vY,zr,?_⟩;rw[oG,hmi];simp at ht ⊢;exact .inr ht
  .have hge:i=O p:=by
    have:¬i<O p:=vP;omega
   subst hge;refine xP ?_<|qW;refine qE [] .nil gx (by simp[hmi])
end Go.Proofs.YtjgpejikjhojcaaGreatDoor
end
