import Derived.Test.YtdnebaieamppbaaGreatDoorF22
import Derived.Test.YtdnebaieamppbaaGreatDoorF10
set_option linter.unusedSimpArgs false
set_option linter.unusedVariables false
set_option maxRecDepth 100000
set_option maxHeartbeats 4000000

section
namespace Go.Proofs.YtdnebaieamppbaaGreatDoor
open Go Go.Hm Go.Proofs Tryz
theorem jR (gl) (n lo hi:Int):qX prog gl 95 [iv n,iv lo,iv hi] (λ_ x _=>x=bv (decide (lo<=n)&&decide (n<=hi))):=by
 refine qX.Yb func95 [.tmp 6] ntmps95 λC w g root=>?_
 all_goals have fx:=Ya
 repeat' (first|refine qK ?_|refine λ(K:St->Prop) hK=>?_|(with_reducible refine bq (λht=>?_) (λht=>?_)))
 all_goals try clear fx
 all_goals refine qE [] .nil qF ?_
 all_goals simp_all
 omega
theorem ki (gl) (n:Int):qX prog gl 80 [iv n] (λ_ x _=>x=bv (decide (0<=n)&&decide (n<=7))):=by
 refine qX.Yb func80 [.tmp 2] ntmps80 λC w g root=>?_
 all_goals have fx:=Ya
 repeat' (first|refine qK ?_|refine λ(K:St->Prop) hK=>?_|refine qP (hF:=jR _ _ _ _) (h:=?_))
 all_goals try clear fx
 refine qE [] .nil qF qB
theorem j2 (gl) (n:Int):qX prog gl 71 [iv n] (λ_ x _=>x=bv (decide (0<=n)&&decide (n<=7))):=by
 refine qX.Yb func71 [.tmp 2] ntmps71 λC w g root=>?_
 all_goals have fx:=Ya
 repeat' (first|refine qK ?_|refine λ(K:St->Prop) hK=>?_|(with_reducible refine bq (λht=>?_) (λht=>?_)))
 all_goals try clear fx
 all_goals refine qE [] .nil qF ?_
 all_goals simp_all
 omega
theorem ve (gl) (xs:List Int) (x:Int) (hlen:xs.length<=4294967296):qX prog gl 55 [ZD xs,iv x] (λ_ z _=>z=iv (qq xs x)):=by
 refine qX.Yb func55 [.tmp 4] ntmps55 λC w g root=>?_;refine qD ?_<|Ya;refine qR (λn st=>∃ i:Nat,n=xs.length - i/\i<=xs.length/\st.tm 0=ZD xs/\st.tm 1=iv x/\st.tm 5=iv i/\∀ j<i,xs[j]?≠some x) xs.length ⟨0,qB⟩ ?_;rintro n st - - ⟨i,rfl,hi,h0,h1,h5,hno⟩;refine qD ?_<|jD h0 h1<|h5;refine wJ zK (λht=>?_) (λhf=>?_)
 .have hlt:i<xs.length:=zE;obtain⟨y,hy⟩:∃ y,xs[i]?=some y:=⟨xs[i],gE hlt⟩;refine qD ?_<|j4 h0 h1 h5<|hy;refine wJ zK (λht=>?_) (λhf=>?_)
  .skip
   refine qD ?_<|jD h0 h1<|h5;refine qE [] .nil (by simp [h5];rfl) ?_;have hyx:y=x:=zE;subst hyx
   have:xs.findIdx? (·==y)=some i:=by
    rw [List.findIdx?_eq_some_iff_getElem];refine⟨hlt,?_,λj hj=>?_⟩
    .rw [gE hlt] at hy;simpa using sI hy
    .have:=hno j hj;rw [gE qA] at this
     simpa using this
   simp [qq,this]
  .skip
   refine qD ?_<|jD h0 h1<|h5;refine⟨xs.length - (i+1),qA,i+1,rfl,qA,?_⟩;simp [h0,h1];refine⟨Yi qA qA,λj hj=>?_⟩;rcases Jd.1 hj with h|rfl
   .exact hno j h
   .rw [hy];simpa using hf
 .skip
  refine qD ?_<|jD h0 h1<|h5;refine qE [] .nil qF ?_
  have hge:i=xs.length:=by have:¬ i<xs.length:=by simpa using hf
                           omega
  have:xs.findIdx? (·==x)=none:=by
   rw [List.findIdx?_eq_none_iff];intro y hy;obtain⟨j,hj,rfl⟩:=List.getElem_of_mem hy;have:=hno j qA;rw [gE hj] at this
   simpa using this
  simp [qq,this]
theorem uK (gl) (xs:List Int) (x:Int) (hlen:xs.length<=4294967296):qX prog gl 83 [ZD xs,iv x] (λ_ z _=>z=bv (decide (x∈xs))):=by
 refine qX.Yb func83 [.tmp 4] ntmps83 λC w g root=>?_
 all_goals have fx:=Ya
 repeat' (first|refine qK ?_|refine λ(K:St->Prop) hK=>?_|refine qP (hF:=ve _ _ _ hlen) (h:=?_))
 all_goals try clear fx
 refine qE [] .nil aS (by simp [zr])
theorem ul (gl) (xs:List Int) (hlen:xs.length<=4294967296):qX prog gl 105 [ZD xs] (λr y H'=>y=.hs r 1 0 (sorted xs).length/\H' r=some (.row 1 (qS (sorted xs)))):=by
 refine qX.Yb func105 [.tmp 2] ntmps105 λC w g root=>?_;refine qD ?_<|Ya;refine qR (λn st=>∃ i:Nat,n=8 - i/\i<=8/\st.tm 0=ZD xs/\st.tm 4=iv i/\st.tm 3=.hs (.s 3) 1 0 (zG xs i).length/\st.hp (.s 3)=some (.row 1 (qS (zG xs i)))) 8 ?_ ?_
 .exact⟨0,Aj⟩
 rintro n st - - ⟨i,rfl,hi,h0,h4,h3,hp3⟩;have hsl:=de (xs:=xs) i;refine qD ?_<|j4 h0 h4 h3<|hp3;refine wJ zK (λht=>?_) (λhf=>?_)
 .have hlt:(i:Int)<=7:=zE
  all_goals have fx:=j4 h0 h4 h3<|hp3
  repeat' (first
   | refine uZ ?_|refine ja ?_|refine yH ?_|refine kJ λK hK=>?_
   | ((with_reducible refine vX hK ?_);clear hK K)
   | (with_reducible first|refine q9 ?_|refine jC ?_|refine jB ?_|refine vI ?_|refine za ?_|refine vk ?_|refine jo qL ?_)
   | refine kN ?_
   | refine kV ?_
   | (with_reducible first|refine jg ?_|refine zO (h:=?_)|refine jA (T:=32) (h:=?_)|refine jm (T:=32) (h:=?_)|refine vG (h:=?_))
   | ((with_reducible refine nI 55 rfl ?_);refine qP (hF:=ve _ _ _ hlen) (h:=?_))
   | (with_reducible refine x_q (h:=?_))
   | refine j8 (h1:=?_)|refine jr (h1:=?_)
   | fail)
  all_goals try clear fx
  refine wJ zK (λht=>?_) (λhf=>?_)
  .have hm:(i:Int)∈xs:=zr.1 zE;refine qD ?_<|j4 h0 h4 h3<|hp3;refine⟨8 - (i+1),qA,i+1,rfl,qA,?_⟩;simp [h0,h3,zG,hm];exact Yi qA qA
  .have hm:¬ (i:Int)∈xs:=λh=>by simp [zr.2 h] at hf
   refine qD ?_<|j4 h0 h4 h3<|hp3;refine⟨8 - (i+1),qA,i+1,rfl,qA,?_⟩;simp [h0,h3,hp3,zG,hm];exact Yi qA qA
 .have h8:i=8:=by
   have:¬ (i:Int)<=7:=zS;omega
  subst h8
  all_goals have fx:=j4 h0 h4 h3<|hp3
  repeat' (first
   | refine uZ ?_|refine ja ?_|refine yH ?_|refine kJ λK hK=>?_
   | ((with_reducible refine vX hK ?_);clear hK K)
   | (with_reducible first|refine q9 ?_|refine jC ?_|refine jB ?_|refine vI ?_|refine za ?_|refine vk ?_|refine jo qL ?_)
   | refine kN ?_
   | refine kV ?_
   | (with_reducible first|refine jg ?_|refine zO (h:=?_)|refine jA (T:=32) (h:=?_)|refine jm (T:=32) (h:=?_)|refine vG (h:=?_))
   | (with_reducible refine x_q (h:=?_))
   | refine j8 (h1:=?_)|refine jr (h1:=?_)
   | fail)
  all_goals try clear fx
  exact zq (t:=2) eQ eQ qB
theorem lm (gl) (s:Y5):qX prog gl 178 [Y5.av s] (λr y H'=>y=.hs r 1 0 s.reads.length/\H' r=some (.row 1 (qS s.reads))):=by
 refine qX.Yb func178 [.tmp 2] ntmps178 λC w g root=>?_;obtain⟨kind,to,a,b⟩:=s
 all_goals have fx:=Ya
 repeat' (first|refine qK ?_|refine λ(K:St->Prop) hK=>?_|refine cJ (h1:=λht=>?_) (h2:=λht=>?_))
 all_goals try clear fx
 all_goals refine zq (t:=2) ?_ ?_ ?_
 all_goals simp_all [Y5.reads,qS]
theorem R7 (gl) (s:Y5):qX prog gl 138 [Y5.av s] (λ_ x _=>x=bv (decide s.qAX)):=by
 refine qX.Yb func138 [.tmp 2] ntmps138 λC w g root=>?_
 all_goals have fx:=Ya
 repeat' (first|refine qK ?_|refine λ(K:St->Prop) hK=>?_|refine qP (hF:=jR _ _ _ _) (h:=?_))
 all_goals try clear fx
 refine qE [] .nil aS (by simp [])
theorem gy (gl) (xs:List Int) (hlen:xs.length<=4294967296):qX prog gl 136 [ZD xs] (λr y H'=>y=.hs r 1 0 xs.length/\H' r=some (.row 1 (qS xs))):=by
 refine qX.Yb func136 [.tmp 2] ntmps136 λC w g root=>?_;refine qD ?_<|Ya;exact zq (t:=2) zT zT qB
theorem ib {ss:List Y5} {s:Y5} {i:Nat} (h:ss[i]?=some s):jn (ss.take (i+1))=jn (ss.take i)++s.reads:=by
 rw [dN,h];simp [jn]
theorem Ri (gl) (p:YU) (b:Nat) (k:Y4) (hk:p[b]?=some k) (hlen:k.body.length<=1048576):qX prog gl 135 [Zc p,iv b] (λr y H'=>y=.hs r 1 0 (sorted (jn k.body)).length/\H' r=some (.row 1 (qS (sorted (jn k.body))))):=by
 refine qX.Yb func135 [.tmp 4] ntmps135 λC w g root=>?_;refine qD ?_<|Ya;refine qR (λn st=>∃ i:Nat,n=k.body.length - i/\i<=k.body.length/\st.tm 1=iv b/\st.tm 2=.pt (.s 2) 0/\st.hp (.s 2)=some (.row 1 [[ZY p]])/\st.tm 6=iv i/\st.tm 5=.hs (.s 5) 1 0 (jn (k.body.take i)).length/\st.hp (.s 5)=some (.row 1 (qS (jn (k.body.take i))))) k.body.length ?_ ?_
 .exact⟨0,by simp [jn]⟩
 rintro n st - - ⟨i,rfl,hi,h1,h2,hp2,h6,h5,hp5⟩;have hrl:=C2 (k.body.take i);rw [List.length_take] at hrl;refine qD ?_<|kG h1 h2 hp2 h6 h5 hp5<|hk;refine wJ zK (λht=>?_) (λhf=>?_)
 .have hlt:i<k.body.length:=zE;obtain⟨s,hs⟩:=gX hlt;have hsl:=s.ZT;have fx:=ko h1 h2 hp2 h6 h5 hp5 hk<|hs;have d1:=lm gl s;refine qI ?_;clear fx d1;refine⟨k.body.length - (i+1),qA,i+1,rfl,qA,?_⟩;simp [h1,h2,hp2,h5,ib hs];exact Yi qA qA
 .have h8:i=k.body.length:=by
   have:¬ i<k.body.length:=zS;omega
  subst h8;have fx:=kG h1 h2 hp2 h6 h5 hp5<|hk;have d1:=ul gl (jn k.body) (by rw [kM] at hrl;omega);refine qI ?_;clear fx d1;exact zq (t:=4) zT zT qB
theorem Hu (gl) (p:YU) (b:Nat) (k:Y4) (hk:p[b]?=some k) (hs:BSm k):qX prog gl 134 [Zc p,iv b] (λr y H'=>y=.hs r 1 0 k.bd.length/\H' r=some (.row 1 (qS k.bd))):=by
 obtain⟨hl1,hl2⟩:=hs;refine qX.Yb func134 [.tmp 4] ntmps134 λC w g root=>?_;have fx:= hk;have d1:=gy gl k.params qA;refine qI ?_;clear fx d1;refine qR (λn st=>∃ i:Nat,n=k.body.length - i/\i<=k.body.length/\st.tm 1=iv b/\st.tm 2=.pt (.s 2) 0/\st.hp (.s 2)=some (.row 1 [[ZY p]])/\st.tm 6=iv i/\∃ xs:List Int,xs=k.params++((k.body.take i).filter (λs=>decide (s.qAX\/s.kind=11))).map Y5.to/\xs.length<=k.params.length+i/\st.tm 5=.hs (.s 5) 1 0 xs.length/\st.hp (.s 5)=some (.row 1 (qS xs))) k.body.length ?_ ?_
 .exact⟨0,qB⟩
 rintro n st - - ⟨i,rfl,hi,h1,h2,hp2,h6,xs,hxs,hxl,h5,hp5⟩;refine qD ?_<|kG h1 h2 hp2 h6 h5 hp5<|hk;refine wJ zK (λht=>?_) (λhf=>?_)
 .have hlt:i<k.body.length:=zE;obtain⟨s,hs⟩:=gX hlt;by_cases hc:s.qAX <;> cases h11:(s.kind==11)
  all_goals have fx:=gJ h1 h2 hp2 h6 h5 hp5 hk hs hc<|h11
  repeat' (first
   | refine uZ ?_|refine ja ?_|refine yH ?_|refine kJ λK hK=>?_
   | ((with_reducible refine vX hK ?_);clear hK K)
   | (with_reducible first|refine q9 ?_|refine jC ?_|refine jB ?_|refine vI ?_|refine za ?_|refine vk ?_|refine jo qL ?_)
   | refine kN ?_
   | refine kV ?_
   | (with_reducible refine jg ?_)
   | ((with_reducible refine Ha ?_);refine uj (h:=?_))
   | (with_reducible first|refine lL ?_|refine mD ?_|refine IF (h:=?_)|refine IG (h:=?_)|refine x_u (h:=?_)|refine zO (h:=?_)|refine dO (h:=?_)|refine vu (h:=?_)|refine yM (h:=?_)|refine jA (T:=32) (h:=?_)|refine jm (T:=32) (h:=?_)|refine vG (h:=?_))
   | ((with_reducible refine nI 138 rfl ?_);refine qP (hF:=R7 _ s) (h:=?_))
   | (with_reducible refine x_q (h:=?_))
   | (with_reducible refine bq (λht=>?_) (λht=>?_))
   | refine j8 (h1:=?_)|refine jr (h1:=?_)
   | fail)
  all_goals try clear fx
  all_goals refine⟨k.body.length - (i+1),qA,i+1,rfl,qA,qz,qj,qn,q8,_,rfl,?_⟩
  all_goals simp at h11
  all_goals simp [z6 hs,hc,h11,h5,hp5,hxs]
  all_goals (rw [hxs] at hxl;simp at hxl;omega)
 .have h8:i=k.body.length:=by
   have:¬ i<k.body.length:=zS;omega
  subst h8;have hb:bB k=xs:=by rw [hxs];simp [bB]
  have fx:=kG h1 h2 hp2 h6 h5 hp5<|hk;have d1:=ul gl xs qA;refine qI ?_;clear fx d1;rw [<- hb];exact zq (t:=4) zT zT qB
theorem jV (gl) (p:YU) (b:Nat) (k:Y4) (d:Int) (hk:p[b]?=some k) (hs:BSm k):qX prog gl 131 [Zc p,iv b,iv d] (λr y H'=>y=.hs r 1 0 (k.dc d).length/\H' r=some (.row 1 (qS (k.dc d)))):=by
 obtain⟨hl1,hl2⟩:=hs;refine qX.Yb func131 [.tmp 6] ntmps131 λC w g root=>?_;refine qD ?_<| hk;refine qR (λn st=>∃ i:Nat,n=k.body.length - i/\i<=k.body.length/\st.tm 1=iv b/\st.tm 2=iv d/\st.tm 3=.pt (.s 3) 0/\st.hp (.s 3)=some (.row 1 [[ZY p]])/\st.tm 8=iv i/\∃ xs:List Int,xs=((k.body.take i).filter (λs=>decide (s.kind=d))).map Y5.to/\xs.length<=i/\st.tm 7=.hs (.s 7) 1 0 xs.length/\st.hp (.s 7)=some (.row 1 (qS xs))) k.body.length ?_ ?_
 .exact⟨0,qB⟩
 rintro n st - - ⟨i,rfl,hi,h1,h2,h3,hp3,h8,xs,hxs,hxl,h7,hp7⟩;refine qD ?_<|ko h1 h2 h3 hp3 h8 h7 hp7<|hk;refine wJ zK (λht=>?_) (λhf=>?_)
 .have hlt:i<k.body.length:=zE;obtain⟨s,hs⟩:=gX hlt
  cases hc:(s.kind==d)
  all_goals have fx:=gJ h1 h2 h3 hp3 h8 h7 hp7 hk hs<|hc
  repeat' (first
   | refine uZ ?_|refine ja ?_|refine yH ?_|refine kJ λK hK=>?_
   | ((with_reducible refine vX hK ?_);clear hK K)
   | (with_reducible first|refine q9 ?_|refine jC ?_|refine jB ?_|refine vI ?_|refine za ?_|refine vk ?_|refine jo qL ?_)
   | refine kN ?_
   | refine kV ?_
   | (with_reducible first|refine jg ?_|refine zO (h:=?_)|refine dO (h:=?_)|refine jA (T:=32) (h:=?_)|refine jm (T:=32) (h:=?_)|refine vG (h:=?_))
   | (with_reducible refine x_q (h:=?_))
   | refine j8 (h1:=?_)|refine jr (h1:=?_)
   | fail)
  all_goals try clear fx
  all_goals refine⟨k.body.length - (i+1),qA,i+1,rfl,qA,qz,qj,zN,yJ,q8,_,rfl,?_⟩
  all_goals simp at hc
  all_goals simp [z6 hs,hc,h7,hp7,hxs]
  all_goals (rw [hxs] at hxl;simp at hxl;omega)
 .have h8:i=k.body.length:=by
   have:¬ i<k.body.length:=zS;omega
  subst h8;have hb:eG k d=xs:=by rw [hxs];simp [eG]
  have fx:=ko h1 h2 h3 hp3 h8 h7 hp7<|hk;have d1:=ul gl xs qA;refine qI ?_;clear fx d1;simp only [Y4.dc,hb];exact zq (t:=6) zT zT qB
theorem bo (gl) (p:YU) (b:Nat) (k:Y4) (x:Int) (hk:p[b]?=some k) (hs:BSm k):qX prog gl 81 [Zc p,iv b,iv x] (λ_ y _=>y=bv (qr b k x)):=by
 refine qX.Yb func81 [.tmp 6] ntmps81 λC w g root=>?_
 all_goals have fx:= hk
 repeat' (first|refine qK ?_|refine λ(K:St->Prop) hK=>?_|refine jX (hF:=Hu _ p b k hk hs) (h:=?_)|refine qP (hF:=uK _ _ _ (by first|exact uS (Y4.qBy _) qL|exact uS (Y4.qAW _ _) qL|exact uS (Y4.qBt _) qL)) (h:=?_)|refine jX (hF:=jV _ p b k _ hk hs) (h:=?_)|(with_reducible refine bq (λht=>?_) (λht=>?_)))
 all_goals try clear fx
 all_goals refine qE [] .nil qF ?_
 all_goals simp_all [qr]
theorem wc (gl) (p:YU) (b:Nat) (k:Y4) (x:Int) (hk:p[b]?=some k) (hs:Zm p) (hh:zD p):qX prog gl 132 [Zc p,iv b,iv x] (λ_ y _=>y=iv (outer p b x)):=by
 refine qX.Yb func132 [.tmp 6] ntmps132 λC w g root=>?_;refine qD ?_<| hk;obtain⟨hk1,hk2,_⟩:=hh b k hk;have Ym:b<p.length:=(gS hk).1;refine qR (λn st=>∃ j:Int,n=(j+1).toNat /\ -1<=j/\j<p.length/\zX p x p.length j=outer p b x/\st.tm 2=iv x/\st.tm 3=.pt (.s 3) 0/\st.hp (.s 3)=some (.row 1 [[ZY p]])/\st.tm 7=iv j) (k.parent+1).toNat ?_ ?_
 .exact⟨k.parent,rfl,hk1,qA,(jQ hh hk).symm,qB⟩
 rintro n st - - ⟨j,rfl,hj1,hj2,ho,h2,h3,hp3,h7⟩;refine qD ?_<|j4 h2 h3 hp3<|h7;refine wJ zK (λht=>?_) (λhf=>?_)
 .have hj0:0<j:=zE;obtain⟨j,rfl⟩:∃ i:Nat,j=i:=⟨j.toNat,qA⟩;have hj0:0<j:=qA;obtain⟨q,hq⟩:∃ q,p[j]?=some q:=⟨_,gE qA⟩;rw [jh hh hq hj0] at ho;obtain⟨hq1,hq2,hq3⟩:=hh j q hq
  cases hc:(q.kind==1)
  .skip
   refine qD ?_<|kG h2 h3 hp3 h7 hq hc<|@qT;refine⟨(q.parent+1).toNat,qA,q.parent,rfl,hq1,qA,?_,by simp [h2,h3,hp3]⟩;rw [<- ho,if_pos (by simpa using hc)]
  .rw [if_neg (by simpa using hc)] at ho
   all_goals have fx:=kG h2 h3 hp3 h7 hq hc<|@qT
   repeat' (first|refine qK ?_|refine λ(K:St->Prop) hK=>?_|refine jX (hF:=jV _ p j q _ hq (hs.bsm hq)) (h:=?_)|refine qP (hF:=uK _ _ _ (uS (Y4.qAW _ _) qL)) (h:=?_))
   all_goals try clear fx
   refine wJ zK (λht=>?_) (λhf=>?_)
   .have hm:x∈q.dc 9:=zE;rw [if_pos hm] at ho;refine qD ?_<|yl h2 h3 hp3 h7<|hq;refine qE [] .nil aS (by simp [<- ho])
   .have hm:¬ x∈q.dc 9:=zS;rw [if_neg hm] at ho;have fx:=yl h2 h3 hp3 h7<|hq;have c1:=bo gl p j q x hq (hs.bsm hq);refine qI ?_;clear fx c1;refine wJ zK (λht=>?_) (λhf=>?_)
    .rw [if_pos ht] at ho;refine qD ?_<|yl h2 h3 hp3 h7<|hq;refine qE [] .nil aS (by simp [<- ho])
    .rw [if_neg (by simp [hf])] at ho;refine qD ?_<|yl h2 h3 hp3 h7<|hq;refine⟨(q.parent+1).toNat,qA,q.parent,rfl,hq1,qA,ho,by simp [h2,h3,hp3]⟩
 .have hj:j<=0:=zS;rw [ba hj] at ho;refine qD ?_<|Ya;refine qE [] .nil aS (by simp [<- ho])
theorem w9 (gl) (p:YU) (b:Nat) (k:Y4) (x:Int) (hk:p[b]?=some k) (hs:Zm p) (hh:zD p):qX prog gl 137 [Zc p,iv b,iv x] (λ_ y _=>y=iv (qh p b x)):=by
 refine qX.Yb func137 [.tmp 6] ntmps137 λC w g root=>?_
 all_goals have fx:= hk
 repeat' (first|refine qK ?_|refine λ(K:St->Prop) hK=>?_|refine jX (hF:=jV _ p b k _ hk (hs.bsm hk)) (h:=?_)|refine qP (hF:=uK _ _ _ (uS (Y4.qAW _ _) qL)) (h:=?_)|refine qP (hF:=bo _ p b k x hk (hs.bsm hk)) (h:=?_)|refine qP (hF:=wc _ p b k x hk hs hh) (h:=?_)|(with_reducible refine bq (λht=>?_) (λht=>?_))|refine cJ (h1:=λht=>?_) (h2:=λht=>?_))
 all_goals try clear fx
 all_goals refine qE [] .nil qF ?_
 all_goals simp_all [qh]
theorem Lq (gl) (p:YU) (b:Nat) (j kind:Int) (hs:Zm p) (hb:b<p.length):qX prog gl 209 [Zc p,iv b,iv j,iv kind] (λ_ y _=>y=bv (wQ p b j kind)):=by
 have hpl:=hs.len;have w1:IntKind.i64.wrap ((b:Int)+1)=b+1:=Yi qA qA;have w2:IntKind.i64.wrap ((p.length:Int) - 1)=p.length - 1:=Yi qA qA;refine qX.Yb func209 [.tmp 8] ntmps209 λC w g root=>?_;by_cases hj:(b:Int)+1<=j/\j<=(p.length:Int) - 1
 .obtain⟨j,rfl⟩:∃ i:Nat,j=i:=⟨j.toNat,qA⟩;obtain⟨q,hq⟩:∃ q,p[j]?=some q:=⟨_,gE qA⟩
  all_goals have fx:=j4 hq w1 w2<|hj
  repeat' (first|refine qK ?_|refine λ(K:St->Prop) hK=>?_|refine qP (hF:=jR _ _ _ _) (h:=?_)|(with_reducible refine bq (λht=>?_) (λht=>?_)))
  all_goals try clear fx
  all_goals refine qE [] .nil qF ?_
  all_goals simp_all [wQ]
 .have hj':(decide ((b:Int)+1<=j)&&decide (j<=(p.length:Int) - 1))=false:=by simpa using hj
  all_goals have fx:=jD w1 w2<|hj'
  repeat' (first|refine qK ?_|refine λ(K:St->Prop) hK=>?_|refine qP (hF:=jR _ _ _ _) (h:=?_))
  all_goals try clear fx
  all_goals refine qE [] .nil qF ?_
  all_goals simp_all [wQ]
  intro h1 h2;exact absurd (hj h1) qA
theorem xS (gl) (p:YU) (b:Nat) (k:Y4) (hk:p[b]?=some k) (hb:b<p.length) (hs:Zm p):qX prog gl 175 [Zc p,iv b] (λ_ y _=>y=bv (decide (ym b k))):=by
 have hpl:=hs.len;have w2:IntKind.i64.wrap ((b:Int) - 1)=b - 1:=Yi qA qA;refine qX.Yb func175 [.tmp 4] ntmps175 λC w g root=>?_;obtain⟨kind,parent,params,body⟩:=k;by_cases hp:2<=params.length
 .have c0:((params.length:Int)==0)=false:=NF;have c1:((params.length:Int)==1)=false:=NF
  all_goals have fx:=j4 hk w2 c0<|c1
  repeat' (first|refine qK ?_|refine λ(K:St->Prop) hK=>?_|refine qP (hF:=jR _ _ _ _) (h:=?_)|(with_reducible refine bq (λht=>?_) (λht=>?_))|refine cJ (h1:=λht=>?_) (h2:=λht=>?_))
  all_goals try clear fx
  all_goals refine qE [] .nil qF ?_
  all_goals simp_all [ym]
  all_goals (intros;omega)
 .rcases params with _|⟨x,_|⟨y,l⟩⟩
  rotate_left 2
  .simp at hp
  all_goals have fx:=aI hk<|w2
  repeat' (first|refine qK ?_|refine λ(K:St->Prop) hK=>?_|refine qP (hF:=jR _ _ _ _) (h:=?_)|refine qP (hF:=ki _ _) (h:=?_)|(with_reducible refine bq (λht=>?_) (λht=>?_))|refine cJ (h1:=λht=>?_) (h2:=λht=>?_))
  all_goals try clear fx
  all_goals refine qE [] .nil qF ?_
  all_goals simp_all [ym]
  all_goals (intros;omega)
theorem Bs (gl) (p:YU) (b:Nat) (k:Y4) (s:Y5) (hk:p[b]?=some k) (hs:Zm p) (hb:b<p.length):qX prog gl 176 [Zc p,iv b,Y5.av s] (λ_ y _=>y=bv (zP p b k s)):=by
 refine qX.Yb func176 [.tmp 6] ntmps176 λC w g root=>?_;obtain⟨kind,to,a,c⟩:=s
 all_goals have fx:= hk
 repeat' (first|refine qK ?_|refine λ(K:St->Prop) hK=>?_|refine jX (hF:=lm _ ⟨kind,to,a,c⟩) (h:=?_)|refine qP (hF:=ki _ _) (h:=?_)|refine cJ (h1:=λht=>?_) (h2:=λht=>?_))
 all_goals try clear fx
 .have hto:Nv to=false:=by
   rw [GW];intro h;simp at h ht;omega
  refine qE [] .nil qF ?_;simp only [zP,hto]
  rfl
 have hto:Nv to=true:=zE;generalize hr:Y5.reads ⟨kind,to,a,c⟩=rs;have hrl:rs.length<=2:=hr ▸ Y5.ZT _;refine qR (λn st=>∃ i:Nat,n=rs.length - i/\i<=rs.length/\st.tm 1=iv b/\st.tm 3=.pt (.s 3) 0/\st.hp (.s 3)=some (.row 1 [[ZY p]])/\st.tm 5=.pt (.s 5) 0/\st.hp (.s 5)=some (.row 4 [[iv kind,iv to,iv a,iv c]])/\st.tm 8=iv i/\st.tm 7=.hs (.s 7) 1 0 rs.length/\st.hp (.s 7)=some (.row 1 (qS rs))/\(rs.take i).all Nv=true) rs.length ?_ ?_
 .exact⟨0,by simp [hr]⟩
 rintro n st - - ⟨i,rfl,hi,h1,h3,hp3,h5,hp5,h8,h7,hp7,hal⟩
 all_goals have fx:=ko h1 h3 hp3 h5 hp5 h8 h7<|hp7
 repeat' (first|refine qK ?_|refine λ(K:St->Prop) hK=>?_)
 all_goals try clear fx
 refine wJ zK (λht=>?_) (λhf=>?_)
 .have hlt:i<rs.length:=zE;obtain⟨y,hy⟩:=gX hlt;obtain⟨_,hy'⟩:=gS hy
  all_goals have fx:=gJ h1 h3 hp3 h5 hp5 h8 h7 hp7 hy'<|hlt
  repeat' (first|refine qK ?_|refine λ(K:St->Prop) hK=>?_|refine qP (hF:=ki _ _) (h:=?_)|refine cJ (h1:=λht=>?_) (h2:=λht=>?_))
  all_goals try clear fx
  .have hno:Nv y=false:=by
    rw [GW];intro h;simp at h ht;omega
   refine qE [] .nil qF ?_
   have hall:rs.all Nv=false:=by
    rw [GW];intro h;have:=uB.1 h y (gM hy);rw [hno] at this
    cases this
   simp only [zP,hr,hall];simp
  .have hyes:Nv y=true:=zE;refine⟨rs.length - (i+1),qA,i+1,rfl,qA,qz,zN,yJ,zA,uz,q8,yW,co,?_⟩;rw [dN,hy,List.all_append,hal];simp only [Option.toList_some,List.all_cons,List.all_nil,hyes]
   rfl
 .have hge:i=rs.length:=by
   have:¬ i<rs.length:=zS;omega
  subst hge;rw [kM] at hal
  have hok:zP p b k ⟨kind,to,a,c⟩=(if kind=0 then decide (0<=a)&&decide (a<=99)&&c==0 else if kind=1 then c==0 else if kind=2\/kind=5 then true
   else if kind=3 then c==0&&wQ p b a 1 else if kind=4 then c==0&&wQ p b a 2 else if kind=6 then Nv c
   else if kind=7 then to==0&&c==0 else if kind=8 then to==0&&c==0&&k.kind==1
   else if kind=9\/kind=10 then a==0&&c==0&&k.kind != 0 else if kind=11 then a==0&&c==0 else false):=by
   simp only [zP,hr,hal,hto,sm]
  rw [hok];clear hok
  all_goals have fx:=kH h1 h3 hp3 h5 hp5<|hk
  repeat' (first|refine qK ?_|refine λ(K:St->Prop) hK=>?_|refine qP (hF:=ki _ _) (h:=?_)|refine qP (hF:=jR _ _ _ _) (h:=?_)|refine qP (hF:=Lq _ p b _ _ hs hb) (h:=?_)|(with_reducible refine bq (λht=>?_) (λht=>?_))|refine cJ (h1:=λht=>?_) (h2:=λht=>?_))
  all_goals try clear fx
  all_goals refine qE [] .nil qF ?_
  all_goals simp_all
  all_goals (intros;omega)
abbrev SD:Y8:=yq<|.l 11 []<|.done
abbrev Uk:Y8:=yq<|.l 11 [5,4,3,2]<|.q 12<|.done
theorem Lp (gl) (p:YU) (b:Nat) (k:Y4) (hk:p[b]?=some k) (h0:0<b) (hh:zD p) (hs:Zm p):qX prog gl 177 [Zc p,iv b] (λ_ y _=>y=iv (kw p b)):=by
 refine qX.Yb func177 [.tmp 4] ntmps177 λC w g root=>?_;obtain⟨hp1,hp2,hp3⟩:=hh b k hk;have Ym:b<p.length:=(gS hk).1;have hkp:=hp3 h0;obtain⟨q,hq⟩:∃ q,p[k.parent.toNat]?=some q:=⟨_,gE qA⟩;have hmi:kw p b=((q.body.filter (λs=>nK s b)).length:Int):=by simp only [kw,hk,hq]
 rw [hmi];have hql:=(hs.bsm hq).body;have fx:=jD hk hq<|hkp;refine qI ?_
 repeat ((first|refine Y7 (id:=2) SD mixed ?_);refine qW ?_;refine qI ?_)
 clear fx;refine qR (λn st=>∃ i:Nat,n=q.body.length - i/\i<=q.body.length/\st.tm 1=iv b/\st.tm 6=ssl q.body/\st.tm 7=iv i/\∃ c:Nat,c=((q.body.take i).filter (λs=>nK s b)).length/\c<=i/\st.tm 5=iv c) q.body.length ?_ ?_
 .exact⟨0,qB⟩
 rintro n st - - ⟨i,rfl,hi,h1,h6,h7,c,hc,hci,h5⟩;have fx:=j4 h1 h6 h7<|h5;refine qI ?_
 repeat ((first|refine Y7 (id:=2) SD mixed ?_);refine qW ?_;refine qI ?_)
 clear fx;refine wJ zK (λht=>?_) (λhf=>?_)
 .have hlt:i<q.body.length:=zE;obtain⟨s,hs⟩:=gX hlt
  all_goals have fx:=yl h1 h6 h7 h5<|hs
  repeat' (first|refine qK ?_|refine λ(K:St->Prop) hK=>?_|(with_reducible refine bq (λht=>?_) (λht=>?_))|refine cJ (h1:=λht=>?_) (h2:=λht=>?_))
  all_goals try clear fx
  all_goals refine⟨q.body.length - (i+1),qA,i+1,rfl,qA,qz,zL,q8,?_⟩
  all_goals refine⟨_,rfl,?_⟩
  all_goals simp only [z6 hs,wk]
  all_goals simp_all [nK]
  all_goals first|exact Yi qA qA|omega
 .have hge:i=q.body.length:=by
   have:¬ i<q.body.length:=zS;omega
  subst hge;rw [kM] at hc;have fx:= h5;refine qI ?_
  repeat ((first|refine Y7 (id:=2) SD mixed ?_);refine qW ?_;refine qI ?_)
  clear fx;refine qE [] .nil aS (by simp [hc])
theorem sW (gl) (p:YU) (b:Nat) (k:Y4) (hk:p[b]?=some k) (hb:b<p.length) (hs:Zm p):qX prog gl 175 [Zc p,iv b] (λ_ y _=>y=bv (wD b k)):=xS gl p b k hk hb hs
theorem fJ {A G G2:Prop} (k:G2) (x:A) (h:A->Yr G2->G:=by
 intro fx kk;refine qI ?_
 repeat ((first|refine Y7 (id:=11) Uk mixed ?_);refine qW ?_;refine qI ?_)
 exact kk.h):G:=h x ⟨k⟩
theorem xR (gl) (p:YU) (hs:Zm p):qX prog gl 130 [Zc p] (λ_ y _=>y=bv (yn p)):=by
 have hpl:=hs.len;refine qX.Yb func130 [.tmp 2] ntmps130 λC w g root=>?_
 all_goals have fx:=Ya
 repeat' (first|refine qK ?_|refine λ(K:St->Prop) hK=>?_|refine qP (hF:=jR _ _ _ _) (h:=?_)|refine cJ (h1:=λht=>?_) (h2:=λht=>?_))
 all_goals try clear fx
 .refine qE [] .nil qF ?_
  have hno:(decide (1<=p.length)&&decide (p.length<=7))=false:=by
   rw [GW];intro h;simp at h ht;omega
  simp only [yn,hno]
  rfl
 have hyes:(decide (1<=p.length)&&decide (p.length<=7))=true:=by
  simp at ht ⊢;omega
 have hsh:yn p=((List.range p.length).all (dR p)&&(List.range p.length).all (λi=>i==0||kw p i==1)):=by
  simp only [yn,hyes,sm]
 rw [hsh];clear hsh;refine qR (λn st=>∃ i:Nat,n=p.length - i/\i<=p.length/\st.tm 1=.pt (.s 1) 0/\st.hp (.s 1)=some (.row 1 [[ZY p]])/\st.tm 3=iv i/\(List.range i).all (dR p)=true) p.length ?_ ?_
 .exact⟨0,qB⟩
 rintro n st - - ⟨i,rfl,hi,h1,hp1,h3,hal⟩;refine fJ ?_<|jD h1 hp1<|h3;refine wJ zK (λht=>?_) (λhf=>?_)
 .have hlt:i<p.length:=zE;obtain⟨k,hk⟩:=gX hlt;have hbf:dR p i=(wD i k&&decide (k.body.length<=12)&&k.body.all (zP p i k)):=by simp only [dR,hk]
  have fin:∀ R:Bool,dR p i=false->((List.range p.length).all (dR p)&&R)=false:=λR h=>by rw [yt hlt h];rfl
  have Ym:=(hs.bsm hk).body
  all_goals have fx:=j4 h1 hp1 h3<|hk
  repeat' (first|refine qK ?_|refine λ(K:St->Prop) hK=>?_|refine qP (hF:=sW _ p i k hk hlt hs) (h:=?_)|(with_reducible refine bq (λht=>?_) (λht=>?_))|refine cJ (h1:=λht=>?_) (h2:=λht=>?_))
  all_goals try clear fx
  .refine qE [] .nil qF ?_;rw [fin _ (by rw [hbf,show wD i k=false by simpa using ht];rfl)]
   rfl
  .refine qE [] .nil qF ?_;rw [fin _ (by rw [hbf,show decide (k.body.length<=12)=false by simp at ht ⊢;omega];simp)]
   rfl
  rename_i ht1;have hhd:wD i k=true:=by simpa using ht1
  have hbd:k.body.length<=12:=by simp at ht;omega
  refine qR (λn st=>∃ j:Nat,n=k.body.length - j/\j<=k.body.length/\st.tm 1=.pt (.s 1) 0/\st.hp (.s 1)=some (.row 1 [[ZY p]])/\st.tm 3=iv i/\st.tm 4=iv j/\(k.body.take j).all (zP p i k)=true) k.body.length ?_ ?_
  .exact⟨0,by simp [h1,hp1,h3]⟩
  clear h1 hp1 h3 ht ht1;rintro n st - - ⟨j,rfl,hj,h1,hp1,h3,h4,haj⟩;refine fJ ?_<|yl h1 hp1 h3 h4<|hk;refine wJ zK (λht=>?_) (λhf=>?_)
  .have hlj:j<k.body.length:=zE;obtain⟨s,hsj⟩:=gX hlj
   all_goals have fx:=kH h1 hp1 h3 h4 hk<|hsj
   repeat' (first
    | refine uZ ?_|refine ja ?_|refine yH ?_|refine kJ λK hK=>?_
    | ((with_reducible refine vX hK ?_);clear hK K)
    | (with_reducible first|refine q9 ?_|refine za ?_|refine vk ?_|refine w5 ?_)
    | refine kV ?_
    | (with_reducible refine jg ?_)
    | (with_reducible first|refine zO (h:=?_))
    | ((with_reducible refine nI 176 rfl ?_);refine qP (hF:=Bs _ p i k s hk hs hlt) (h:=?_))
    | (with_reducible refine x_q (h:=?_))
    | (refine Y7 (id:=11) Uk mixed λK hK=>?_)
    | ((with_reducible refine wI hK ?_);clear hK K)
    | ((with_reducible refine em ?_);first|refine su (h:=?_))
    | refine a_l rfl ?_|(with_reducible refine aI ?_ ?_)|exact vi|refine cM (h2:=?_)
    | refine cJ (h1:=λht=>?_) (h2:=λht=>?_)
    | fail)
   all_goals try clear fx
   .refine qE [] .nil qF ?_;rw [fin _ (by rw [hbf,Do (gM hsj) (show zP p i k s=false by simpa using ht)];simp)]
    rfl
   .refine⟨k.body.length - (j+1),qA,j+1,rfl,qA,qz,jp,zN,q8,?_⟩;rw [dN,hsj,List.all_append,haj]
    simpa using ht
  .have hge:j=k.body.length:=by
    have:¬ j<k.body.length:=zS;omega
   subst hge;rw [kM] at haj;refine fJ ?_<|yl h1 hp1 h3 h4<|hk;refine⟨p.length - (i+1),qA,i+1,rfl,qA,qz,jp,q8,?_⟩;rw [j3,hal,hbf,hhd,haj]
   simpa using hbd
 .have hge:i=p.length:=by
   have:¬ i<p.length:=zS;omega
  subst hge;have hh:=HZ hal;rw [hal,sm];refine fJ ?_<|aI h1<|hp1;refine qR (λn st=>∃ i:Nat,n=p.length - i/\i<=p.length/\1<=i/\st.tm 1=.pt (.s 1) 0/\st.hp (.s 1)=some (.row 1 [[ZY p]])/\st.tm 5=iv i/\(List.range i).all (λi=>i==0||kw p i==1)=true) (p.length - 1) ?_ ?_
  .refine⟨1,qA,?_,qA,by simp [h1,hp1]⟩;simp at hyes;omega
  clear h1 hp1 h3 hi;rintro n st - - ⟨i,rfl,hi,hi1,h1,hp1,h5,hmi⟩;refine fJ ?_<|jD h1 hp1<|h5;refine wJ zK (λht=>?_) (λhf=>?_)
  .have hlt:i<p.length:=zE;obtain⟨k,hk⟩:=gX hlt
   all_goals have fx:=j4 h1 hp1 h5<|@qT
   repeat' (first|refine qK ?_|refine λ(K:St->Prop) hK=>?_|refine qP (hF:=Lp _ p i k hk hi1 hh hs) (h:=?_)|refine cJ (h1:=λht=>?_) (h2:=λht=>?_))
   all_goals try clear fx
   .refine qE [] .nil qF ?_;rw [yt hlt (show (i==0||kw p i==1)=false by simp at ht ⊢;exact⟨qA,ht⟩)]
    rfl
   .refine⟨p.length - (i+1),qA,i+1,rfl,qA,qA,qz,jp,q8,?_⟩;rw [j3,hmi];simp at ht ⊢;exact .inr ht
  .have hge:i=p.length:=by
    have:¬ i<p.length:=zS;omega
   subst hge;refine fJ ?_<|Ya;refine qE [] .nil aS (by simp [hmi])
end Go.Proofs.YtdnebaieamppbaaGreatDoor
end
