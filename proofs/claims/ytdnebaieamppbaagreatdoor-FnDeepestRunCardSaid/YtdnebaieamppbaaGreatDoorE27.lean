import Derived.Test.YtdnebaieamppbaaGreatDoorE26
import Derived.Test.YtdnebaieamppbaaGreatDoorE11
set_option linter.unusedSimpArgs false
set_option linter.unusedVariables false
set_option maxRecDepth 100000
set_option maxHeartbeats 4000000

section
namespace Go.Proofs.YtdnebaieamppbaaGreatDoor
open Go Go.Hm Go.Proofs Tryz
theorem jH (gl) (n lo hi:Int):qb prog gl 95 [iv n,iv lo,iv hi] (λ_ x _=>x=bv (decide (lo<=n)&&decide (n<=hi))):=by
 refine qb.Zl func95 [.tmp 6] ntmps95 λC w g root=>?_
 all_goals have fx:=Zk
 repeat' (first|refine qK ?_|refine λ(K:St->Prop) hK=>?_|(with_reducible refine dX (λht=>?_) (λht=>?_)))
 all_goals try clear fx
 all_goals refine qD [] .nil qE ?_
 all_goals simp_all
 omega
theorem jO (gl) (n:Int):qb prog gl 80 [iv n] (λ_ x _=>x=bv (decide (0<=n)&&decide (n<=7))):=by
 refine qb.Zl func80 [.tmp 2] ntmps80 λC w g root=>?_
 all_goals have fx:=Zk
 repeat' (first|refine qK ?_|refine λ(K:St->Prop) hK=>?_|refine qJ (hF:=jH _ _ _ _) (h:=?_))
 all_goals try clear fx
 refine qD [] .nil qE qB
theorem zx (gl) (n:Int):qb prog gl 71 [iv n] (λ_ x _=>x=bv (decide (0<=n)&&decide (n<=7))):=by
 refine qb.Zl func71 [.tmp 2] ntmps71 λC w g root=>?_
 all_goals have fx:=Zk
 repeat' (first|refine qK ?_|refine λ(K:St->Prop) hK=>?_|(with_reducible refine dX (λht=>?_) (λht=>?_)))
 all_goals try clear fx
 all_goals refine qD [] .nil qE ?_
 all_goals simp_all
 omega
theorem kD (gl) (xs:List Int) (x:Int) (hlen:xs.length<=4294967296):qb prog gl 55 [isl xs,iv x] (λ_ z _=>z=iv (zI xs x)):=by
 refine qb.Zl func55 [.tmp 4] ntmps55 λC w g root=>?_;refine qC ?_<|Zk;refine qX (λn st=>∃ i:Nat,n=xs.length - i/\i<=xs.length/\st.tm 0=isl xs/\st.tm 1=iv x/\st.tm 5=iv i/\∀ j<i,xs[j]?≠some x) xs.length ⟨0,qB⟩ ?_;rintro n st - - ⟨i,rfl,hi,h0,h1,h5,hno⟩;refine qC ?_<|jI h0 h1<|h5;refine w9 zU (λht=>?_) (λhf=>?_)
 .have hlt:i<xs.length:=zJ;obtain⟨y,hy⟩:∃ y,xs[i]?=some y:=⟨xs[i],gE hlt⟩;refine qC ?_<|yE h0 h1 h5<|hy;refine w9 zU (λht=>?_) (λhf=>?_)
  .skip
   refine qC ?_<|jI h0 h1<|h5;refine qD [] .nil (by simp [h5];rfl) ?_;have hyx:y=x:=zJ;subst hyx
   have:xs.findIdx? (·==y)=some i:=by
    rw [List.findIdx?_eq_some_iff_getElem];refine⟨hlt,?_,λj hj=>?_⟩
    .rw [gE hlt] at hy;simpa using sI hy
    .have:=hno j hj;rw [gE qA] at this
     simpa using this
   simp [zI,this]
  .skip
   refine qC ?_<|jI h0 h1<|h5;refine⟨xs.length - (i+1),qA,i+1,rfl,qA,?_⟩;simp [h0,h1];refine⟨Zv qA qA,λj hj=>?_⟩;rcases E5.1 hj with h|rfl
   .exact hno j h
   .rw [hy];simpa using hf
 .skip
  refine qC ?_<|jI h0 h1<|h5;refine qD [] .nil qE ?_
  have hge:i=xs.length:=by have:¬ i<xs.length:=by simpa using hf
                           omega
  have:xs.findIdx? (·==x)=none:=by
   rw [List.findIdx?_eq_none_iff];intro y hy;obtain⟨j,hj,rfl⟩:=List.getElem_of_mem hy;have:=hno j qA;rw [gE hj] at this
   simpa using this
  simp [zI,this]
theorem vM (gl) (xs:List Int) (x:Int) (hlen:xs.length<=4294967296):qb prog gl 83 [isl xs,iv x] (λ_ z _=>z=bv (decide (x∈xs))):=by
 refine qb.Zl func83 [.tmp 4] ntmps83 λC w g root=>?_
 all_goals have fx:=Zk
 repeat' (first|refine qK ?_|refine λ(K:St->Prop) hK=>?_|refine qJ (hF:=kD _ _ _ hlen) (h:=?_))
 all_goals try clear fx
 refine qD [] .nil bu (by simp [j9])
theorem wn (gl) (xs:List Int) (hlen:xs.length<=4294967296):qb prog gl 105 [isl xs] (λr y H'=>y=.hs r 1 0 (sorted xs).length/\H' r=some (.row 1 (qT (sorted xs)))):=by
 refine qb.Zl func105 [.tmp 2] ntmps105 λC w g root=>?_;refine qC ?_<|Zk;refine qX (λn st=>∃ i:Nat,n=8 - i/\i<=8/\st.tm 0=isl xs/\st.tm 4=iv i/\st.tm 3=.hs (.s 3) 1 0 (zM xs i).length/\st.hp (.s 3)=some (.row 1 (qT (zM xs i)))) 8 ?_ ?_
 .exact⟨0,CD⟩
 rintro n st - - ⟨i,rfl,hi,h0,h4,h3,hp3⟩;have hsl:=fP (xs:=xs) i;refine qC ?_<|yE h0 h4 h3<|hp3;refine w9 zU (λht=>?_) (λhf=>?_)
 .have hlt:(i:Int)<=7:=zJ
  all_goals have fx:=yE h0 h4 h3<|hp3
  repeat' (first
   | refine vH ?_|refine jd ?_|refine yH ?_|refine kL λK hK=>?_
   | ((with_reducible refine vA hK ?_);clear hK K)
   | (with_reducible first|refine qV ?_|refine jS ?_|refine jQ ?_|refine vW ?_|refine j6 ?_|refine kH ?_|refine jx qO ?_)
   | refine kR ?_
   | refine aM ?_
   | (with_reducible first|refine jL ?_|refine zL (h:=?_)|refine jW (T:=32) (h:=?_)|refine jw (T:=32) (h:=?_)|refine yV (h:=?_))
   | ((with_reducible refine rr 55 rfl ?_);refine qJ (hF:=kD _ _ _ hlen) (h:=?_))
   | (with_reducible refine x_q (h:=?_))
   | refine jr (h1:=?_)|refine yF (h1:=?_)
   | fail)
  all_goals try clear fx
  refine w9 zU (λht=>?_) (λhf=>?_)
  .have hm:(i:Int)∈xs:=j9.1 zJ;refine qC ?_<|yE h0 h4 h3<|hp3;refine⟨8 - (i+1),qA,i+1,rfl,qA,?_⟩;simp [h0,h3,zM,hm];exact Zv qA qA
  .have hm:¬ (i:Int)∈xs:=λh=>by simp [j9.2 h] at hf
   refine qC ?_<|yE h0 h4 h3<|hp3;refine⟨8 - (i+1),qA,i+1,rfl,qA,?_⟩;simp [h0,h3,hp3,zM,hm];exact Zv qA qA
 .have h8:i=8:=by
   have:¬ (i:Int)<=7:=ze;omega
  subst h8
  all_goals have fx:=yE h0 h4 h3<|hp3
  repeat' (first
   | refine vH ?_|refine jd ?_|refine yH ?_|refine kL λK hK=>?_
   | ((with_reducible refine vA hK ?_);clear hK K)
   | (with_reducible first|refine qV ?_|refine jS ?_|refine jQ ?_|refine vW ?_|refine j6 ?_|refine kH ?_|refine jx qO ?_)
   | refine kR ?_
   | refine aM ?_
   | (with_reducible first|refine jL ?_|refine zL (h:=?_)|refine jW (T:=32) (h:=?_)|refine jw (T:=32) (h:=?_)|refine yV (h:=?_))
   | (with_reducible refine x_q (h:=?_))
   | refine jr (h1:=?_)|refine yF (h1:=?_)
   | fail)
  all_goals try clear fx
  exact jU (t:=2) CQ CQ qB
theorem iB (gl) (s:Z9):qb prog gl 178 [Z9.av s] (λr y H'=>y=.hs r 1 0 s.reads.length/\H' r=some (.row 1 (qT s.reads))):=by
 refine qb.Zl func178 [.tmp 2] ntmps178 λC w g root=>?_;obtain⟨kind,to,a,b⟩:=s
 all_goals have fx:=Zk
 repeat' (first|refine qK ?_|refine λ(K:St->Prop) hK=>?_|refine gn (h1:=λht=>?_) (h2:=λht=>?_))
 all_goals try clear fx
 all_goals refine jU (t:=2) ?_ ?_ ?_
 all_goals simp_all [Z9.reads,qT]
theorem Lq (gl) (s:Z9):qb prog gl 138 [Z9.av s] (λ_ x _=>x=bv (decide s.qBN)):=by
 refine qb.Zl func138 [.tmp 2] ntmps138 λC w g root=>?_
 all_goals have fx:=Zk
 repeat' (first|refine qK ?_|refine λ(K:St->Prop) hK=>?_|refine qJ (hF:=jH _ _ _ _) (h:=?_))
 all_goals try clear fx
 refine qD [] .nil bu (by simp [])
theorem lU (gl) (xs:List Int) (hlen:xs.length<=4294967296):qb prog gl 136 [isl xs] (λr y H'=>y=.hs r 1 0 xs.length/\H' r=some (.row 1 (qT xs))):=by
 refine qb.Zl func136 [.tmp 2] ntmps136 λC w g root=>?_;refine qC ?_<|Zk;exact jU (t:=2) zg zg qB
theorem lz {ss:List Z9} {s:Z9} {i:Nat} (h:ss[i]?=some s):j8 (ss.take (i+1))=j8 (ss.take i)++s.reads:=by
 rw [uQ,h];simp [j8]
theorem Sy (gl) (p:Z0) (b:Nat) (k:Za) (hk:p[b]?=some k) (hlen:k.body.length<=1048576):qb prog gl 135 [pav p,iv b] (λr y H'=>y=.hs r 1 0 (sorted (j8 k.body)).length/\H' r=some (.row 1 (qT (sorted (j8 k.body))))):=by
 refine qb.Zl func135 [.tmp 4] ntmps135 λC w g root=>?_;refine qC ?_<|Zk;refine qX (λn st=>∃ i:Nat,n=k.body.length - i/\i<=k.body.length/\st.tm 1=iv b/\st.tm 2=.pt (.s 2) 0/\st.hp (.s 2)=some (.row 1 [[ksl p]])/\st.tm 6=iv i/\st.tm 5=.hs (.s 5) 1 0 (j8 (k.body.take i)).length/\st.hp (.s 5)=some (.row 1 (qT (j8 (k.body.take i))))) k.body.length ?_ ?_
 .exact⟨0,by simp [j8]⟩
 rintro n st - - ⟨i,rfl,hi,h1,h2,hp2,h6,h5,hp5⟩;have hrl:=DY (k.body.take i);rw [List.length_take] at hrl;refine qC ?_<|u4 h1 h2 hp2 h6 h5 hp5<|hk;refine w9 zU (λht=>?_) (λhf=>?_)
 .have hlt:i<k.body.length:=zJ;obtain⟨s,hs⟩:=gX hlt;have hsl:=s.qAX;have fx:=kO h1 h2 hp2 h6 h5 hp5 hk<|hs;have d1:=iB gl s;refine qG ?_;clear fx d1;refine⟨k.body.length - (i+1),qA,i+1,rfl,qA,?_⟩;simp [h1,h2,hp2,h5,lz hs];exact Zv qA qA
 .have h8:i=k.body.length:=by
   have:¬ i<k.body.length:=ze;omega
  subst h8;have fx:=u4 h1 h2 hp2 h6 h5 hp5<|hk;have d1:=wn gl (j8 k.body) (by rw [an] at hrl;omega);refine qG ?_;clear fx d1;exact jU (t:=4) zg zg qB
theorem Iq (gl) (p:Z0) (b:Nat) (k:Za) (hk:p[b]?=some k) (hs:BSm k):qb prog gl 134 [pav p,iv b] (λr y H'=>y=.hs r 1 0 k.bd.length/\H' r=some (.row 1 (qT k.bd))):=by
 obtain⟨hl1,hl2⟩:=hs;refine qb.Zl func134 [.tmp 4] ntmps134 λC w g root=>?_;have fx:= hk;have d1:=lU gl k.params qA;refine qG ?_;clear fx d1;refine qX (λn st=>∃ i:Nat,n=k.body.length - i/\i<=k.body.length/\st.tm 1=iv b/\st.tm 2=.pt (.s 2) 0/\st.hp (.s 2)=some (.row 1 [[ksl p]])/\st.tm 6=iv i/\∃ xs:List Int,xs=k.params++((k.body.take i).filter (λs=>decide (s.qBN\/s.kind=11))).map Z9.to/\xs.length<=k.params.length+i/\st.tm 5=.hs (.s 5) 1 0 xs.length/\st.hp (.s 5)=some (.row 1 (qT xs))) k.body.length ?_ ?_
 .exact⟨0,qB⟩
 rintro n st - - ⟨i,rfl,hi,h1,h2,hp2,h6,xs,hxs,hxl,h5,hp5⟩;refine qC ?_<|u4 h1 h2 hp2 h6 h5 hp5<|hk;refine w9 zU (λht=>?_) (λhf=>?_)
 .have hlt:i<k.body.length:=zJ;obtain⟨s,hs⟩:=gX hlt;by_cases hc:s.qBN <;> cases h11:(s.kind==11)
  all_goals have fx:=aJ h1 h2 hp2 h6 h5 hp5 hk hs hc<|h11
  repeat' (first
   | refine vH ?_|refine jd ?_|refine yH ?_|refine kL λK hK=>?_
   | ((with_reducible refine vA hK ?_);clear hK K)
   | (with_reducible first|refine qV ?_|refine jS ?_|refine jQ ?_|refine vW ?_|refine j6 ?_|refine kH ?_|refine jx qO ?_)
   | refine kR ?_
   | refine aM ?_
   | (with_reducible refine jL ?_)
   | ((with_reducible refine NO ?_);refine bC (h:=?_))
   | (with_reducible first|refine sW ?_|refine BX ?_|refine Oy (h:=?_)|refine PC (h:=?_)|refine x_u (h:=?_)|refine zL (h:=?_)|refine lu (h:=?_)|refine u5 (h:=?_)|refine jA (h:=?_)|refine jW (T:=32) (h:=?_)|refine jw (T:=32) (h:=?_)|refine yV (h:=?_))
   | ((with_reducible refine rr 138 rfl ?_);refine qJ (hF:=Lq _ s) (h:=?_))
   | (with_reducible refine x_q (h:=?_))
   | (with_reducible refine dX (λht=>?_) (λht=>?_))
   | refine jr (h1:=?_)|refine yF (h1:=?_)
   | fail)
  all_goals try clear fx
  all_goals refine⟨k.body.length - (i+1),qA,i+1,rfl,qA,qy,ql,zF,zD,_,rfl,?_⟩
  all_goals simp at h11
  all_goals simp [zm hs,hc,h11,h5,hp5,hxs]
  all_goals (rw [hxs] at hxl;simp at hxl;omega)
 .have h8:i=k.body.length:=by
   have:¬ i<k.body.length:=ze;omega
  subst h8;have hb:uB k=xs:=by rw [hxs];simp [uB]
  have fx:=u4 h1 h2 hp2 h6 h5 hp5<|hk;have d1:=wn gl xs qA;refine qG ?_;clear fx d1;rw [<- hb];exact jU (t:=4) zg zg qB
theorem jt (gl) (p:Z0) (b:Nat) (k:Za) (d:Int) (hk:p[b]?=some k) (hs:BSm k):qb prog gl 131 [pav p,iv b,iv d] (λr y H'=>y=.hs r 1 0 (k.dc d).length/\H' r=some (.row 1 (qT (k.dc d)))):=by
 obtain⟨hl1,hl2⟩:=hs;refine qb.Zl func131 [.tmp 6] ntmps131 λC w g root=>?_;refine qC ?_<| hk;refine qX (λn st=>∃ i:Nat,n=k.body.length - i/\i<=k.body.length/\st.tm 1=iv b/\st.tm 2=iv d/\st.tm 3=.pt (.s 3) 0/\st.hp (.s 3)=some (.row 1 [[ksl p]])/\st.tm 8=iv i/\∃ xs:List Int,xs=((k.body.take i).filter (λs=>decide (s.kind=d))).map Z9.to/\xs.length<=i/\st.tm 7=.hs (.s 7) 1 0 xs.length/\st.hp (.s 7)=some (.row 1 (qT xs))) k.body.length ?_ ?_
 .exact⟨0,qB⟩
 rintro n st - - ⟨i,rfl,hi,h1,h2,h3,hp3,h8,xs,hxs,hxl,h7,hp7⟩;refine qC ?_<|kO h1 h2 h3 hp3 h8 h7 hp7<|hk;refine w9 zU (λht=>?_) (λhf=>?_)
 .have hlt:i<k.body.length:=zJ;obtain⟨s,hs⟩:=gX hlt
  cases hc:(s.kind==d)
  all_goals have fx:=aJ h1 h2 h3 hp3 h8 h7 hp7 hk hs<|hc
  repeat' (first
   | refine vH ?_|refine jd ?_|refine yH ?_|refine kL λK hK=>?_
   | ((with_reducible refine vA hK ?_);clear hK K)
   | (with_reducible first|refine qV ?_|refine jS ?_|refine jQ ?_|refine vW ?_|refine j6 ?_|refine kH ?_|refine jx qO ?_)
   | refine kR ?_
   | refine aM ?_
   | (with_reducible first|refine jL ?_|refine zL (h:=?_)|refine lu (h:=?_)|refine jW (T:=32) (h:=?_)|refine jw (T:=32) (h:=?_)|refine yV (h:=?_))
   | (with_reducible refine x_q (h:=?_))
   | refine jr (h1:=?_)|refine yF (h1:=?_)
   | fail)
  all_goals try clear fx
  all_goals refine⟨k.body.length - (i+1),qA,i+1,rfl,qA,qy,ql,qt,jv,zD,_,rfl,?_⟩
  all_goals simp at hc
  all_goals simp [zm hs,hc,h7,hp7,hxs]
  all_goals (rw [hxs] at hxl;simp at hxl;omega)
 .have h8:i=k.body.length:=by
   have:¬ i<k.body.length:=ze;omega
  subst h8;have hb:bU k d=xs:=by rw [hxs];simp [bU]
  have fx:=kO h1 h2 h3 hp3 h8 h7 hp7<|hk;have d1:=wn gl xs qA;refine qG ?_;clear fx d1;simp only [Za.dc,hb];exact jU (t:=6) zg zg qB
theorem wV (gl) (p:Z0) (b:Nat) (k:Za) (x:Int) (hk:p[b]?=some k) (hs:BSm k):qb prog gl 81 [pav p,iv b,iv x] (λ_ y _=>y=bv (qa b k x)):=by
 refine qb.Zl func81 [.tmp 6] ntmps81 λC w g root=>?_
 all_goals have fx:= hk
 repeat' (first|refine qK ?_|refine λ(K:St->Prop) hK=>?_|refine jP (hF:=Iq _ p b k hk hs) (h:=?_)|refine qJ (hF:=vM _ _ _ (by first|exact vk (Za.qDT _) qO|exact vk (Za.qBb _ _) qO|exact vk (Za.qDN _) qO)) (h:=?_)|refine jP (hF:=jt _ p b k _ hk hs) (h:=?_)|(with_reducible refine dX (λht=>?_) (λht=>?_)))
 all_goals try clear fx
 all_goals refine qD [] .nil qE ?_
 all_goals simp_all [qa]
theorem ae (gl) (p:Z0) (b:Nat) (k:Za) (x:Int) (hk:p[b]?=some k) (hs:Sml p) (hh:zS p):qb prog gl 132 [pav p,iv b,iv x] (λ_ y _=>y=iv (outer p b x)):=by
 refine qb.Zl func132 [.tmp 6] ntmps132 λC w g root=>?_;refine qC ?_<| hk;obtain⟨hk1,hk2,_⟩:=hh b k hk;have Zs:b<p.length:=(gS hk).1;refine qX (λn st=>∃ j:Int,n=(j+1).toNat /\ -1<=j/\j<p.length/\zZ p x p.length j=outer p b x/\st.tm 2=iv x/\st.tm 3=.pt (.s 3) 0/\st.hp (.s 3)=some (.row 1 [[ksl p]])/\st.tm 7=iv j) (k.parent+1).toNat ?_ ?_
 .exact⟨k.parent,rfl,hk1,qA,(jG hh hk).symm,qB⟩
 rintro n st - - ⟨j,rfl,hj1,hj2,ho,h2,h3,hp3,h7⟩;refine qC ?_<|yE h2 h3 hp3<|h7;refine w9 zU (λht=>?_) (λhf=>?_)
 .have hj0:0<j:=zJ;obtain⟨j,rfl⟩:∃ i:Nat,j=i:=⟨j.toNat,qA⟩;have hj0:0<j:=qA;obtain⟨q,hq⟩:∃ q,p[j]?=some q:=⟨_,gE qA⟩;rw [zq hh hq hj0] at ho;obtain⟨hq1,hq2,hq3⟩:=hh j q hq
  cases hc:(q.kind==1)
  .skip
   refine qC ?_<|u4 h2 h3 hp3 h7 hq hc<|@qL;refine⟨(q.parent+1).toNat,qA,q.parent,rfl,hq1,qA,?_,by simp [h2,h3,hp3]⟩;rw [<- ho,if_pos (by simpa using hc)]
  .rw [if_neg (by simpa using hc)] at ho
   all_goals have fx:=u4 h2 h3 hp3 h7 hq hc<|@qL
   repeat' (first|refine qK ?_|refine λ(K:St->Prop) hK=>?_|refine jP (hF:=jt _ p j q _ hq (hs.bsm hq)) (h:=?_)|refine qJ (hF:=vM _ _ _ (vk (Za.qBb _ _) qO)) (h:=?_))
   all_goals try clear fx
   refine w9 zU (λht=>?_) (λhf=>?_)
   .have hm:x∈q.dc 9:=zJ;rw [if_pos hm] at ho;refine qC ?_<|yS h2 h3 hp3 h7<|hq;refine qD [] .nil bu (by simp [<- ho])
   .have hm:¬ x∈q.dc 9:=ze;rw [if_neg hm] at ho;have fx:=yS h2 h3 hp3 h7<|hq;have c1:=wV gl p j q x hq (hs.bsm hq);refine qG ?_;clear fx c1;refine w9 zU (λht=>?_) (λhf=>?_)
    .rw [if_pos ht] at ho;refine qC ?_<|yS h2 h3 hp3 h7<|hq;refine qD [] .nil bu (by simp [<- ho])
    .rw [if_neg (by simp [hf])] at ho;refine qC ?_<|yS h2 h3 hp3 h7<|hq;refine⟨(q.parent+1).toNat,qA,q.parent,rfl,hq1,qA,ho,by simp [h2,h3,hp3]⟩
 .have hj:j<=0:=ze;rw [ax hj] at ho;refine qC ?_<|Zk;refine qD [] .nil bu (by simp [<- ho])
theorem uT (gl) (p:Z0) (b:Nat) (k:Za) (x:Int) (hk:p[b]?=some k) (hs:Sml p) (hh:zS p):qb prog gl 137 [pav p,iv b,iv x] (λ_ y _=>y=iv (q7 p b x)):=by
 refine qb.Zl func137 [.tmp 6] ntmps137 λC w g root=>?_
 all_goals have fx:= hk
 repeat' (first|refine qK ?_|refine λ(K:St->Prop) hK=>?_|refine jP (hF:=jt _ p b k _ hk (hs.bsm hk)) (h:=?_)|refine qJ (hF:=vM _ _ _ (vk (Za.qBb _ _) qO)) (h:=?_)|refine qJ (hF:=wV _ p b k x hk (hs.bsm hk)) (h:=?_)|refine qJ (hF:=ae _ p b k x hk hs hh) (h:=?_)|(with_reducible refine dX (λht=>?_) (λht=>?_))|refine gn (h1:=λht=>?_) (h2:=λht=>?_))
 all_goals try clear fx
 all_goals refine qD [] .nil qE ?_
 all_goals simp_all [q7]
theorem Mo (gl) (p:Z0) (b:Nat) (j kind:Int) (hs:Sml p) (hb:b<p.length):qb prog gl 209 [pav p,iv b,iv j,iv kind] (λ_ y _=>y=bv (kW p b j kind)):=by
 have hpl:=hs.len;have w1:IntKind.i64.wrap ((b:Int)+1)=b+1:=Zv qA qA;have w2:IntKind.i64.wrap ((p.length:Int) - 1)=p.length - 1:=Zv qA qA;refine qb.Zl func209 [.tmp 8] ntmps209 λC w g root=>?_;by_cases hj:(b:Int)+1<=j/\j<=(p.length:Int) - 1
 .obtain⟨j,rfl⟩:∃ i:Nat,j=i:=⟨j.toNat,qA⟩;obtain⟨q,hq⟩:∃ q,p[j]?=some q:=⟨_,gE qA⟩
  all_goals have fx:=yE hq w1 w2<|hj
  repeat' (first|refine qK ?_|refine λ(K:St->Prop) hK=>?_|refine qJ (hF:=jH _ _ _ _) (h:=?_)|(with_reducible refine dX (λht=>?_) (λht=>?_)))
  all_goals try clear fx
  all_goals refine qD [] .nil qE ?_
  all_goals simp_all [kW]
 .have hj':(decide ((b:Int)+1<=j)&&decide (j<=(p.length:Int) - 1))=false:=by simpa using hj
  all_goals have fx:=jI w1 w2<|hj'
  repeat' (first|refine qK ?_|refine λ(K:St->Prop) hK=>?_|refine qJ (hF:=jH _ _ _ _) (h:=?_))
  all_goals try clear fx
  all_goals refine qD [] .nil qE ?_
  all_goals simp_all [kW]
  intro h1 h2;exact absurd (hj h1) qA
theorem A7 (gl) (p:Z0) (b:Nat) (k:Za) (hk:p[b]?=some k) (hb:b<p.length) (hs:Sml p):qb prog gl 175 [pav p,iv b] (λ_ y _=>y=bv (decide (vG b k))):=by
 have hpl:=hs.len;have w2:IntKind.i64.wrap ((b:Int) - 1)=b - 1:=Zv qA qA;refine qb.Zl func175 [.tmp 4] ntmps175 λC w g root=>?_;obtain⟨kind,parent,params,body⟩:=k;by_cases hp:2<=params.length
 .have c0:((params.length:Int)==0)=false:=Nz;have c1:((params.length:Int)==1)=false:=Nz
  all_goals have fx:=yE hk w2 c0<|c1
  repeat' (first|refine qK ?_|refine λ(K:St->Prop) hK=>?_|refine qJ (hF:=jH _ _ _ _) (h:=?_)|(with_reducible refine dX (λht=>?_) (λht=>?_))|refine gn (h1:=λht=>?_) (h2:=λht=>?_))
  all_goals try clear fx
  all_goals refine qD [] .nil qE ?_
  all_goals simp_all [vG]
  all_goals (intros;omega)
 .rcases params with _|⟨x,_|⟨y,l⟩⟩
  rotate_left 2
  .simp at hp
  all_goals have fx:=aI hk<|w2
  repeat' (first|refine qK ?_|refine λ(K:St->Prop) hK=>?_|refine qJ (hF:=jH _ _ _ _) (h:=?_)|refine qJ (hF:=jO _ _) (h:=?_)|(with_reducible refine dX (λht=>?_) (λht=>?_))|refine gn (h1:=λht=>?_) (h2:=λht=>?_))
  all_goals try clear fx
  all_goals refine qD [] .nil qE ?_
  all_goals simp_all [vG]
  all_goals (intros;omega)
theorem Cm (gl) (p:Z0) (b:Nat) (k:Za) (s:Z9) (hk:p[b]?=some k) (hs:Sml p) (hb:b<p.length):qb prog gl 176 [pav p,iv b,Z9.av s] (λ_ y _=>y=bv (zN p b k s)):=by
 refine qb.Zl func176 [.tmp 6] ntmps176 λC w g root=>?_;obtain⟨kind,to,a,c⟩:=s
 all_goals have fx:= hk
 repeat' (first|refine qK ?_|refine λ(K:St->Prop) hK=>?_|refine jP (hF:=iB _ ⟨kind,to,a,c⟩) (h:=?_)|refine qJ (hF:=jO _ _) (h:=?_)|refine gn (h1:=λht=>?_) (h2:=λht=>?_))
 all_goals try clear fx
 .have hto:Ko to=false:=by
   rw [tz];intro h;simp at h ht;omega
  refine qD [] .nil qE ?_;simp only [zN,hto]
  rfl
 have hto:Ko to=true:=zJ;generalize hr:Z9.reads ⟨kind,to,a,c⟩=rs;have hrl:rs.length<=2:=hr ▸ Z9.qAX _;refine qX (λn st=>∃ i:Nat,n=rs.length - i/\i<=rs.length/\st.tm 1=iv b/\st.tm 3=.pt (.s 3) 0/\st.hp (.s 3)=some (.row 1 [[ksl p]])/\st.tm 5=.pt (.s 5) 0/\st.hp (.s 5)=some (.row 4 [[iv kind,iv to,iv a,iv c]])/\st.tm 8=iv i/\st.tm 7=.hs (.s 7) 1 0 rs.length/\st.hp (.s 7)=some (.row 1 (qT rs))/\(rs.take i).all Ko=true) rs.length ?_ ?_
 .exact⟨0,by simp [hr]⟩
 rintro n st - - ⟨i,rfl,hi,h1,h3,hp3,h5,hp5,h8,h7,hp7,hal⟩
 all_goals have fx:=kO h1 h3 hp3 h5 hp5 h8 h7<|hp7
 repeat' (first|refine qK ?_|refine λ(K:St->Prop) hK=>?_)
 all_goals try clear fx
 refine w9 zU (λht=>?_) (λhf=>?_)
 .have hlt:i<rs.length:=zJ;obtain⟨y,hy⟩:=gX hlt;obtain⟨_,hy'⟩:=gS hy
  all_goals have fx:=aJ h1 h3 hp3 h5 hp5 h8 h7 hp7 hy'<|hlt
  repeat' (first|refine qK ?_|refine λ(K:St->Prop) hK=>?_|refine qJ (hF:=jO _ _) (h:=?_)|refine gn (h1:=λht=>?_) (h2:=λht=>?_))
  all_goals try clear fx
  .have hno:Ko y=false:=by
    rw [tz];intro h;simp at h ht;omega
   refine qD [] .nil qE ?_
   have hall:rs.all Ko=false:=by
    rw [tz];intro h;have:=dT.1 h y (gM hy);rw [hno] at this
    cases this
   simp only [zN,hr,hall];simp
  .have hyes:Ko y=true:=zJ;refine⟨rs.length - (i+1),qA,i+1,rfl,qA,qy,qt,jv,z7,kh,zD,wI,cQ,?_⟩;rw [uQ,hy,List.all_append,hal];simp only [Option.toList_some,List.all_cons,List.all_nil,hyes]
   rfl
 .have hge:i=rs.length:=by
   have:¬ i<rs.length:=ze;omega
  subst hge;rw [an] at hal
  have hok:zN p b k ⟨kind,to,a,c⟩=(if kind=0 then decide (0<=a)&&decide (a<=99)&&c==0 else if kind=1 then c==0 else if kind=2\/kind=5 then true
   else if kind=3 then c==0&&kW p b a 1 else if kind=4 then c==0&&kW p b a 2 else if kind=6 then Ko c
   else if kind=7 then to==0&&c==0 else if kind=8 then to==0&&c==0&&k.kind==1
   else if kind=9\/kind=10 then a==0&&c==0&&k.kind != 0 else if kind=11 then a==0&&c==0 else false):=by
   simp only [zN,hr,hal,hto,pP]
  rw [hok];clear hok
  all_goals have fx:=uD h1 h3 hp3 h5 hp5<|hk
  repeat' (first|refine qK ?_|refine λ(K:St->Prop) hK=>?_|refine qJ (hF:=jO _ _) (h:=?_)|refine qJ (hF:=jH _ _ _ _) (h:=?_)|refine qJ (hF:=Mo _ p b _ _ hs hb) (h:=?_)|(with_reducible refine dX (λht=>?_) (λht=>?_))|refine gn (h1:=λht=>?_) (h2:=λht=>?_))
  all_goals try clear fx
  all_goals refine qD [] .nil qE ?_
  all_goals simp_all
  all_goals (intros;omega)
abbrev TS:Zh:=yz<|.l 11 []<|.done
abbrev Vl:Zh:=yz<|.l 11 [5,4,3,2]<|.q 12<|.done
theorem Mm (gl) (p:Z0) (b:Nat) (k:Za) (hk:p[b]?=some k) (h0:0<b) (hh:zS p) (hs:Sml p):qb prog gl 177 [pav p,iv b] (λ_ y _=>y=iv (kF p b)):=by
 refine qb.Zl func177 [.tmp 4] ntmps177 λC w g root=>?_;obtain⟨hp1,hp2,hp3⟩:=hh b k hk;have Zs:b<p.length:=(gS hk).1;have hkp:=hp3 h0;obtain⟨q,hq⟩:∃ q,p[k.parent.toNat]?=some q:=⟨_,gE qA⟩;have hmi:kF p b=((q.body.filter (λs=>fh s b)).length:Int):=by simp only [kF,hk,hq]
 rw [hmi];have hql:=(hs.bsm hq).body;have fx:=jI hk hq<|hkp;refine qG ?_
 repeat ((first|refine Ze (id:=2) TS mixed ?_);refine qZ ?_;refine qG ?_)
 clear fx;refine qX (λn st=>∃ i:Nat,n=q.body.length - i/\i<=q.body.length/\st.tm 1=iv b/\st.tm 6=ssl q.body/\st.tm 7=iv i/\∃ c:Nat,c=((q.body.take i).filter (λs=>fh s b)).length/\c<=i/\st.tm 5=iv c) q.body.length ?_ ?_
 .exact⟨0,qB⟩
 rintro n st - - ⟨i,rfl,hi,h1,h6,h7,c,hc,hci,h5⟩;have fx:=yE h1 h6 h7<|h5;refine qG ?_
 repeat ((first|refine Ze (id:=2) TS mixed ?_);refine qZ ?_;refine qG ?_)
 clear fx;refine w9 zU (λht=>?_) (λhf=>?_)
 .have hlt:i<q.body.length:=zJ;obtain⟨s,hs⟩:=gX hlt
  all_goals have fx:=yS h1 h6 h7 h5<|hs
  repeat' (first|refine qK ?_|refine λ(K:St->Prop) hK=>?_|(with_reducible refine dX (λht=>?_) (λht=>?_))|refine gn (h1:=λht=>?_) (h2:=λht=>?_))
  all_goals try clear fx
  all_goals refine⟨q.body.length - (i+1),qA,i+1,rfl,qA,qy,j3,zD,?_⟩
  all_goals refine⟨_,rfl,?_⟩
  all_goals simp only [zm hs,am]
  all_goals simp_all [fh]
  all_goals first|exact Zv qA qA|omega
 .have hge:i=q.body.length:=by
   have:¬ i<q.body.length:=ze;omega
  subst hge;rw [an] at hc;have fx:= h5;refine qG ?_
  repeat ((first|refine Ze (id:=2) TS mixed ?_);refine qZ ?_;refine qG ?_)
  clear fx;refine qD [] .nil bu (by simp [hc])
theorem xM (gl) (p:Z0) (b:Nat) (k:Za) (hk:p[b]?=some k) (hb:b<p.length) (hs:Sml p):qb prog gl 175 [pav p,iv b] (λ_ y _=>y=bv (qAQ b k)):=A7 gl p b k hk hb hs
theorem iI {A G G2:Prop} (k:G2) (x:A) (h:A->Zx G2->G:=by
 intro fx kk;refine qG ?_
 repeat ((first|refine Ze (id:=11) Vl mixed ?_);refine qZ ?_;refine qG ?_)
 exact kk.h):G:=h x ⟨k⟩
theorem lw (gl) (p:Z0) (hs:Sml p):qb prog gl 130 [pav p] (λ_ y _=>y=bv (jh p)):=by
 have hpl:=hs.len;refine qb.Zl func130 [.tmp 2] ntmps130 λC w g root=>?_
 all_goals have fx:=Zk
 repeat' (first|refine qK ?_|refine λ(K:St->Prop) hK=>?_|refine qJ (hF:=jH _ _ _ _) (h:=?_)|refine gn (h1:=λht=>?_) (h2:=λht=>?_))
 all_goals try clear fx
 .refine qD [] .nil qE ?_
  have hno:(decide (1<=p.length)&&decide (p.length<=7))=false:=by
   rw [tz];intro h;simp at h ht;omega
  simp only [jh,hno]
  rfl
 have hyes:(decide (1<=p.length)&&decide (p.length<=7))=true:=by
  simp at ht ⊢;omega
 have hsh:jh p=((List.range p.length).all (qA8 p)&&(List.range p.length).all (λi=>i==0||kF p i==1)):=by
  simp only [jh,hyes,pP]
 rw [hsh];clear hsh;refine qX (λn st=>∃ i:Nat,n=p.length - i/\i<=p.length/\st.tm 1=.pt (.s 1) 0/\st.hp (.s 1)=some (.row 1 [[ksl p]])/\st.tm 3=iv i/\(List.range i).all (qA8 p)=true) p.length ?_ ?_
 .exact⟨0,qB⟩
 rintro n st - - ⟨i,rfl,hi,h1,hp1,h3,hal⟩;refine iI ?_<|jI h1 hp1<|h3;refine w9 zU (λht=>?_) (λhf=>?_)
 .have hlt:i<p.length:=zJ;obtain⟨k,hk⟩:=gX hlt;have hbf:qA8 p i=(qAQ i k&&decide (k.body.length<=12)&&k.body.all (zN p i k)):=by simp only [qA8,hk]
  have fin:∀ R:Bool,qA8 p i=false->((List.range p.length).all (qA8 p)&&R)=false:=λR h=>by rw [vT hlt h];rfl
  have Zs:=(hs.bsm hk).body
  all_goals have fx:=yE h1 hp1 h3<|hk
  repeat' (first|refine qK ?_|refine λ(K:St->Prop) hK=>?_|refine qJ (hF:=xM _ p i k hk hlt hs) (h:=?_)|(with_reducible refine dX (λht=>?_) (λht=>?_))|refine gn (h1:=λht=>?_) (h2:=λht=>?_))
  all_goals try clear fx
  .refine qD [] .nil qE ?_;rw [fin _ (by rw [hbf,show qAQ i k=false by simpa using ht];rfl)]
   rfl
  .refine qD [] .nil qE ?_;rw [fin _ (by rw [hbf,show decide (k.body.length<=12)=false by simp at ht ⊢;omega];simp)]
   rfl
  rename_i ht1;have hhd:qAQ i k=true:=by simpa using ht1
  have hbd:k.body.length<=12:=by simp at ht;omega
  refine qX (λn st=>∃ j:Nat,n=k.body.length - j/\j<=k.body.length/\st.tm 1=.pt (.s 1) 0/\st.hp (.s 1)=some (.row 1 [[ksl p]])/\st.tm 3=iv i/\st.tm 4=iv j/\(k.body.take j).all (zN p i k)=true) k.body.length ?_ ?_
  .exact⟨0,by simp [h1,hp1,h3]⟩
  clear h1 hp1 h3 ht ht1;rintro n st - - ⟨j,rfl,hj,h1,hp1,h3,h4,haj⟩;refine iI ?_<|yS h1 hp1 h3 h4<|hk;refine w9 zU (λht=>?_) (λhf=>?_)
  .have hlj:j<k.body.length:=zJ;obtain⟨s,hsj⟩:=gX hlj
   all_goals have fx:=uD h1 hp1 h3 h4 hk<|hsj
   repeat' (first
    | refine vH ?_|refine jd ?_|refine yH ?_|refine kL λK hK=>?_
    | ((with_reducible refine vA hK ?_);clear hK K)
    | (with_reducible first|refine qV ?_|refine j6 ?_|refine kH ?_|refine kz ?_)
    | refine aM ?_
    | (with_reducible refine jL ?_)
    | (with_reducible first|refine zL (h:=?_))
    | ((with_reducible refine rr 176 rfl ?_);refine qJ (hF:=Cm _ p i k s hk hs hlt) (h:=?_))
    | (with_reducible refine x_q (h:=?_))
    | (refine Ze (id:=11) Vl mixed λK hK=>?_)
    | ((with_reducible refine u7 hK ?_);clear hK K)
    | ((with_reducible refine dZ ?_);first|refine nC (h:=?_))
    | refine a_l rfl ?_|(with_reducible refine aI ?_ ?_)|exact vL|refine wj (h2:=?_)
    | refine gn (h1:=λht=>?_) (h2:=λht=>?_)
    | fail)
   all_goals try clear fx
   .refine qD [] .nil qE ?_;rw [fin _ (by rw [hbf,E3 (gM hsj) (show zN p i k s=false by simpa using ht)];simp)]
    rfl
   .refine⟨k.body.length - (j+1),qA,j+1,rfl,qA,qy,jy,qt,zD,?_⟩;rw [uQ,hsj,List.all_append,haj]
    simpa using ht
  .have hge:j=k.body.length:=by
    have:¬ j<k.body.length:=ze;omega
   subst hge;rw [an] at haj;refine iI ?_<|yS h1 hp1 h3 h4<|hk;refine⟨p.length - (i+1),qA,i+1,rfl,qA,qy,jy,zD,?_⟩;rw [jz,hal,hbf,hhd,haj]
   simpa using hbd
 .have hge:i=p.length:=by
   have:¬ i<p.length:=ze;omega
  subst hge;have hh:=I3 hal;rw [hal,pP];refine iI ?_<|aI h1<|hp1;refine qX (λn st=>∃ i:Nat,n=p.length - i/\i<=p.length/\1<=i/\st.tm 1=.pt (.s 1) 0/\st.hp (.s 1)=some (.row 1 [[ksl p]])/\st.tm 5=iv i/\(List.range i).all (λi=>i==0||kF p i==1)=true) (p.length - 1) ?_ ?_
  .refine⟨1,qA,?_,qA,by simp [h1,hp1]⟩;simp at hyes;omega
  clear h1 hp1 h3 hi;rintro n st - - ⟨i,rfl,hi,hi1,h1,hp1,h5,hmi⟩;refine iI ?_<|jI h1 hp1<|h5;refine w9 zU (λht=>?_) (λhf=>?_)
  .have hlt:i<p.length:=zJ;obtain⟨k,hk⟩:=gX hlt
   all_goals have fx:=yE h1 hp1 h5<|@qL
   repeat' (first|refine qK ?_|refine λ(K:St->Prop) hK=>?_|refine qJ (hF:=Mm _ p i k hk hi1 hh hs) (h:=?_)|refine gn (h1:=λht=>?_) (h2:=λht=>?_))
   all_goals try clear fx
   .refine qD [] .nil qE ?_;rw [vT hlt (show (i==0||kF p i==1)=false by simp at ht ⊢;exact⟨qA,ht⟩)]
    rfl
   .refine⟨p.length - (i+1),qA,i+1,rfl,qA,qA,qy,jy,zD,?_⟩;rw [jz,hmi];simp at ht ⊢;exact .inr ht
  .have hge:i=p.length:=by
    have:¬ i<p.length:=ze;omega
   subst hge;refine iI ?_<|Zk;refine qD [] .nil bu (by simp [hmi])
end Go.Proofs.YtdnebaieamppbaaGreatDoor
end
