import Derived.Test.YtjgpejikjhojcaaGreatDoorR21
import Derived.Test.YtjgpejikjhojcaaGreatDoorR10
set_option linter.unusedSimpArgs false
set_option linter.unusedVariables false
set_option maxRecDepth 100000
set_option maxHeartbeats 4000000

section
namespace Go.Proofs.YtjgpejikjhojcaaGreatDoor
open Go Go.Hm Go.Proofs Tryz
theorem bh (gl) (n lo hi:Int):qM prog gl 31 [iv n,iv lo,iv hi] (λ_ x _=>x=bv (decide (lo<=n)&&decide (n<=hi))):=by
 refine qM.q9 func31 [.tmp 6] ntmps31 λC w g root=>?_
 all_goals have fx:=qd
 repeat' (first|refine zm ?_|refine λ(K:St->Prop) hK=>?_|(with_reducible refine ye (λht=>?_) (λht=>?_)))
 all_goals try clear fx
 all_goals refine qF [] .nil qE ?_
 all_goals simp_all
 omega
theorem Ae (gl) (n:Int):qM prog gl 127 [iv n] (λ_ x _=>x=bv (decide (0<=n)&&decide (n<=7))):=by
 refine qM.q9 func127 [.tmp 2] ntmps127 λC w g root=>?_
 all_goals have fx:=qd
 repeat' (first|refine zm ?_|refine λ(K:St->Prop) hK=>?_|refine zH (hF:=bh _ _ _ _) (h:=?_))
 all_goals try clear fx
 refine qF [] .nil qE qB
theorem gt (gl) (n:Int):qM prog gl 136 [iv n] (λ_ x _=>x=bv (decide (0<=n)&&decide (n<=7))):=by
 refine qM.q9 func136 [.tmp 2] ntmps136 λC w g root=>?_
 all_goals have fx:=qd
 repeat' (first|refine zm ?_|refine λ(K:St->Prop) hK=>?_|(with_reducible refine ye (λht=>?_) (λht=>?_)))
 all_goals try clear fx
 all_goals refine qF [] .nil qE ?_
 all_goals simp_all
 omega
theorem nP (gl) (xs:List Int) (x:Int) (hlen:xs.length<=4294967296):qM prog gl 124 [jG xs,iv x] (λ_ z _=>z=iv (yj xs x)):=by
 refine qM.q9 func124 [.tmp 4] ntmps124 λC w g root=>?_;refine qJ ?_<|qd;refine zQ (λn st=>∃ i:Nat,n=xs.length - i/\i<=xs.length/\st.tm 0=jG xs/\st.tm 1=iv x/\st.tm 5=iv i/\∀ j<i,xs[j]?≠some x) xs.length ⟨0,qB⟩ ?_;rintro n st - - ⟨i,rfl,hi,h0,h1,h5,hno⟩;refine qJ ?_<|qk h0 h1<|h5;refine vC vE (λht=>?_) (λhf=>?_)
 .have hlt:i<xs.length:=yW;obtain⟨y,hy⟩:∃ y,xs[i]?=some y:=⟨xs[i],gE hlt⟩;refine qJ ?_<|zD h0 h1 h5<|hy;refine vC vE (λht=>?_) (λhf=>?_)
  .skip
   refine qJ ?_<|qk h0 h1<|h5;refine qF [] .nil (by simp [h5];rfl) ?_;have hyx:y=x:=yW;subst hyx
   have:xs.findIdx? (·==y)=some i:=by
    rw [rH];refine⟨hlt,?_,λj hj=>?_⟩
    .rw [gE hlt] at hy;simpa using sI hy
    .have:=hno j hj;rw [gE qA] at this
     simpa using this
   simp [yj,this]
  .skip
   refine qJ ?_<|qk h0 h1<|h5;refine⟨xs.length - (i+1),qA,i+1,rfl,qA,?_⟩;simp [h0,h1];refine⟨qm qA qA,λj hj=>?_⟩;rcases BA.1 hj with h|rfl
   .exact hno j h
   .rw [hy];simpa using hf
 .skip
  refine qJ ?_<|qk h0 h1<|h5;refine qF [] .nil qE ?_
  have hge:i=xs.length:=by have:¬ i<xs.length:=by simpa using hf
                           omega
  have:xs.findIdx? (·==x)=none:=by
   rw [List.findIdx?_eq_none_iff];intro y hy;obtain⟨j,hj,rfl⟩:=List.getElem_of_mem hy;have:=hno j qA;rw [gE hj] at this
   simpa using this
  simp [yj,this]
theorem pK (gl) (xs:List Int) (x:Int) (hlen:xs.length<=4294967296):qM prog gl 82 [jG xs,iv x] (λ_ z _=>z=bv (decide (x∈xs))):=by
 refine qM.q9 func82 [.tmp 4] ntmps82 λC w g root=>?_
 all_goals have fx:=qd
 repeat' (first|refine zm ?_|refine λ(K:St->Prop) hK=>?_|refine zH (hF:=nP _ _ _ hlen) (h:=?_))
 all_goals try clear fx
 refine qF [] .nil fW (by simp [l9])
theorem ni (gl) (xs:List Int) (hlen:xs.length<=4294967296):qM prog gl 123 [jG xs] (λr y H'=>y=.hs r 1 0 (sorted xs).length/\H' r=some (.row 1 (qj (sorted xs)))):=by
 refine qM.q9 func123 [.tmp 2] ntmps123 λC w g root=>?_;refine qJ ?_<|qd;refine zQ (λn st=>∃ i:Nat,n=8 - i/\i<=8/\st.tm 0=jG xs/\st.tm 4=iv i/\st.tm 3=.hs (.s 3) 1 0 (ul xs i).length/\st.hp (.s 3)=some (.row 1 (qj (ul xs i)))) 8 ?_ ?_
 .exact⟨0,Ba⟩
 rintro n st - - ⟨i,rfl,hi,h0,h4,h3,hp3⟩;have hsl:=Ms (xs:=xs) i;refine qJ ?_<|zD h0 h4 h3<|hp3;refine vC vE (λht=>?_) (λhf=>?_)
 .have hlt:(i:Int)<=7:=yW
  all_goals have fx:=zD h0 h4 h3<|hp3
  repeat' (first
   | refine wV ?_|refine bN ?_|refine af ?_|refine ae λK hK=>?_
   | ((with_reducible refine uz hK ?_);clear hK K)
   | (with_reducible first|refine wT ?_|refine cY ?_|refine dE ?_|refine cX ?_|refine bL ?_|refine bi ?_|refine cZ qe ?_)
   | refine dG ?_
   | refine bO ?_
   | (with_reducible first|refine wB ?_|refine ag (h:=?_)|refine dH (T:=38) (h:=?_)|refine bP (T:=38) (h:=?_)|refine dI (h:=?_))
   | ((with_reducible refine cj 124 rfl ?_);refine zH (hF:=nP _ _ _ hlen) (h:=?_))
   | (with_reducible refine we (h:=?_))
   | refine bz (h1:=?_)|refine dJ (h1:=?_)
   | fail)
  all_goals try clear fx
  refine vC vE (λht=>?_) (λhf=>?_)
  .have hm:(i:Int)∈xs:=l9.1 yW;refine qJ ?_<|zD h0 h4 h3<|hp3;refine⟨8 - (i+1),qA,i+1,rfl,qA,?_⟩;simp [h0,h3,ul,hm];exact qm qA qA
  .have hm:¬ (i:Int)∈xs:=λh=>by simp [l9.2 h] at hf
   refine qJ ?_<|zD h0 h4 h3<|hp3;refine⟨8 - (i+1),qA,i+1,rfl,qA,?_⟩;simp [h0,h3,hp3,ul,hm];exact qm qA qA
 .have h8:i=8:=by
   have:¬ (i:Int)<=7:=vT;omega
  subst h8
  all_goals have fx:=zD h0 h4 h3<|hp3
  repeat' (first
   | refine wV ?_|refine bN ?_|refine af ?_|refine ae λK hK=>?_
   | ((with_reducible refine uz hK ?_);clear hK K)
   | (with_reducible first|refine wT ?_|refine cY ?_|refine dE ?_|refine cX ?_|refine bL ?_|refine bi ?_|refine cZ qe ?_)
   | refine dG ?_
   | refine bO ?_
   | (with_reducible first|refine wB ?_|refine ag (h:=?_)|refine dH (T:=38) (h:=?_)|refine bP (T:=38) (h:=?_)|refine dI (h:=?_))
   | (with_reducible refine we (h:=?_))
   | refine bz (h1:=?_)|refine dJ (h1:=?_)
   | fail)
  all_goals try clear fx
  exact y7 (t:=2) B1 B1 qB
theorem CZ (gl) (s:q8):qM prog gl 172 [q8.av s] (λr y H'=>y=.hs r 1 0 s.reads.length/\H' r=some (.row 1 (qj s.reads))):=by
 refine qM.q9 func172 [.tmp 2] ntmps172 λC w g root=>?_;obtain⟨kind,to,a,b⟩:=s
 all_goals have fx:=qd
 repeat' (first|refine zm ?_|refine λ(K:St->Prop) hK=>?_|refine vb (h1:=λht=>?_) (h2:=λht=>?_))
 all_goals try clear fx
 all_goals refine y7 (t:=2) ?_ ?_ ?_
 all_goals simp_all [q8.reads,qj]
theorem ZH (gl) (s:q8):qM prog gl 215 [q8.av s] (λ_ x _=>x=bv (decide s.cz)):=by
 refine qM.q9 func215 [.tmp 2] ntmps215 λC w g root=>?_
 all_goals have fx:=qd
 repeat' (first|refine zm ?_|refine λ(K:St->Prop) hK=>?_|refine zH (hF:=bh _ _ _ _) (h:=?_))
 all_goals try clear fx
 refine qF [] .nil fW (by simp [])
theorem Im (gl) (xs:List Int) (hlen:xs.length<=4294967296):qM prog gl 190 [jG xs] (λr y H'=>y=.hs r 1 0 xs.length/\H' r=some (.row 1 (qj xs))):=by
 refine qM.q9 func190 [.tmp 2] ntmps190 λC w g root=>?_;refine qJ ?_<|qd;exact y7 (t:=2) j7 j7 qB
theorem qAC {ss:List q8} {s:q8} {i:Nat} (h:ss[i]?=some s):aJ (ss.take (i+1))=aJ (ss.take i)++s.reads:=by
 rw [uG,h];simp [aJ]
theorem Xj (gl) (p:qC) (b:Nat) (k:qX) (hk:p[b]?=some k) (hlen:k.body.length<=1048576):qM prog gl 237 [jB p,iv b] (λr y H'=>y=.hs r 1 0 (sorted (aJ k.body)).length/\H' r=some (.row 1 (qj (sorted (aJ k.body))))):=by
 refine qM.q9 func237 [.tmp 4] ntmps237 λC w g root=>?_;refine qJ ?_<|qd;refine zQ (λn st=>∃ i:Nat,n=k.body.length - i/\i<=k.body.length/\st.tm 1=iv b/\st.tm 2=.pt (.s 2) 0/\st.hp (.s 2)=some (.row 1 [[jc p]])/\st.tm 6=iv i/\st.tm 5=.hs (.s 5) 1 0 (aJ (k.body.take i)).length/\st.hp (.s 5)=some (.row 1 (qj (aJ (k.body.take i))))) k.body.length ?_ ?_
 .exact⟨0,by simp [aJ]⟩
 rintro n st - - ⟨i,rfl,hi,h1,h2,hp2,h6,h5,hp5⟩;have hrl:=Xl (k.body.take i);rw [im] at hrl;refine qJ ?_<|jI h1 h2 hp2 h6 h5 hp5<|hk;refine vC vE (λht=>?_) (λhf=>?_)
 .have hlt:i<k.body.length:=yW;obtain⟨s,hs⟩:=gX hlt;have hsl:=s.iM;have fx:=jN h1 h2 hp2 h6 h5 hp5 hk<|hs;have d1:=CZ gl s;refine qK ?_;clear fx d1;refine⟨k.body.length - (i+1),qA,i+1,rfl,qA,?_⟩;simp [h1,h2,hp2,h5,qAC hs];exact qm qA qA
 .have h8:i=k.body.length:=by
   have:¬ i<k.body.length:=vT;omega
  subst h8;have fx:=jI h1 h2 hp2 h6 h5 hp5<|hk;have d1:=ni gl (aJ k.body) (by rw [kC] at hrl;omega);refine qK ?_;clear fx d1;exact y7 (t:=4) j7 j7 qB
theorem Hv (gl) (p:qC) (b:Nat) (k:qX) (hk:p[b]?=some k) (hs:ia k):qM prog gl 174 [jB p,iv b] (λr y H'=>y=.hs r 1 0 k.bd.length/\H' r=some (.row 1 (qj k.bd))):=by
 obtain⟨hl1,hl2⟩:=hs;refine qM.q9 func174 [.tmp 4] ntmps174 λC w g root=>?_;have fx:= hk;have d1:=Im gl k.params qA;refine qK ?_;clear fx d1;refine zQ (λn st=>∃ i:Nat,n=k.body.length - i/\i<=k.body.length/\st.tm 1=iv b/\st.tm 2=.pt (.s 2) 0/\st.hp (.s 2)=some (.row 1 [[jc p]])/\st.tm 6=iv i/\∃ xs:List Int,xs=k.params++((k.body.take i).filter (λs=>decide (s.cz\/s.kind=11))).map q8.to/\xs.length<=k.params.length+i/\st.tm 5=.hs (.s 5) 1 0 xs.length/\st.hp (.s 5)=some (.row 1 (qj xs))) k.body.length ?_ ?_
 .exact⟨0,qB⟩
 rintro n st - - ⟨i,rfl,hi,h1,h2,hp2,h6,xs,hxs,hxl,h5,hp5⟩;refine qJ ?_<|jI h1 h2 hp2 h6 h5 hp5<|hk;refine vC vE (λht=>?_) (λhf=>?_)
 .have hlt:i<k.body.length:=yW;obtain⟨s,hs⟩:=gX hlt;by_cases hc:s.cz <;> cases h11:(s.kind==11)
  all_goals have fx:=y8 h1 h2 hp2 h6 h5 hp5 hk hs hc<|h11
  repeat' (first
   | refine wV ?_|refine bN ?_|refine af ?_|refine ae λK hK=>?_
   | ((with_reducible refine uz hK ?_);clear hK K)
   | (with_reducible first|refine wT ?_|refine cY ?_|refine dE ?_|refine cX ?_|refine bL ?_|refine bi ?_|refine cZ qe ?_)
   | refine dG ?_
   | refine bO ?_
   | (with_reducible refine wB ?_)
   | ((with_reducible refine lL ?_);refine lp (h:=?_))
   | (with_reducible first|refine lM ?_|refine mw ?_|refine nw (h:=?_)|refine nu (h:=?_)|refine ny (h:=?_)|refine ag (h:=?_)|refine dk (h:=?_)|refine iX (h:=?_)|refine iY (h:=?_)|refine dH (T:=38) (h:=?_)|refine bP (T:=38) (h:=?_)|refine dI (h:=?_))
   | ((with_reducible refine cj 215 rfl ?_);refine zH (hF:=ZH _ s) (h:=?_))
   | (with_reducible refine we (h:=?_))
   | (with_reducible refine ye (λht=>?_) (λht=>?_))
   | refine bz (h1:=?_)|refine dJ (h1:=?_)
   | fail)
  all_goals try clear fx
  all_goals refine⟨k.body.length - (i+1),qA,i+1,rfl,qA,zl,ya,yw,jM,_,rfl,?_⟩
  all_goals simp at h11
  all_goals simp [iT hs,hc,h11,h5,hp5,hxs]
  all_goals (rw [hxs] at hxl;simp at hxl;omega)
 .have h8:i=k.body.length:=by
   have:¬ i<k.body.length:=vT;omega
  subst h8;have hb:mP k=xs:=by rw [hxs];simp [mP]
  have fx:=jI h1 h2 hp2 h6 h5 hp5<|hk;have d1:=ni gl xs qA;refine qK ?_;clear fx d1;rw [<- hb];exact y7 (t:=4) j7 j7 qB
theorem xe (gl) (p:qC) (b:Nat) (k:qX) (d:Int) (hk:p[b]?=some k) (hs:ia k):qM prog gl 81 [jB p,iv b,iv d] (λr y H'=>y=.hs r 1 0 (k.dc d).length/\H' r=some (.row 1 (qj (k.dc d)))):=by
 obtain⟨hl1,hl2⟩:=hs;refine qM.q9 func81 [.tmp 6] ntmps81 λC w g root=>?_;refine qJ ?_<| hk;refine zQ (λn st=>∃ i:Nat,n=k.body.length - i/\i<=k.body.length/\st.tm 1=iv b/\st.tm 2=iv d/\st.tm 3=.pt (.s 3) 0/\st.hp (.s 3)=some (.row 1 [[jc p]])/\st.tm 8=iv i/\∃ xs:List Int,xs=((k.body.take i).filter (λs=>decide (s.kind=d))).map q8.to/\xs.length<=i/\st.tm 7=.hs (.s 7) 1 0 xs.length/\st.hp (.s 7)=some (.row 1 (qj xs))) k.body.length ?_ ?_
 .exact⟨0,qB⟩
 rintro n st - - ⟨i,rfl,hi,h1,h2,h3,hp3,h8,xs,hxs,hxl,h7,hp7⟩;refine qJ ?_<|jN h1 h2 h3 hp3 h8 h7 hp7<|hk;refine vC vE (λht=>?_) (λhf=>?_)
 .have hlt:i<k.body.length:=yW;obtain⟨s,hs⟩:=gX hlt
  cases hc:(s.kind==d)
  all_goals have fx:=y8 h1 h2 h3 hp3 h8 h7 hp7 hk hs<|hc
  repeat' (first
   | refine wV ?_|refine bN ?_|refine af ?_|refine ae λK hK=>?_
   | ((with_reducible refine uz hK ?_);clear hK K)
   | (with_reducible first|refine wT ?_|refine cY ?_|refine dE ?_|refine cX ?_|refine bL ?_|refine bi ?_|refine cZ qe ?_)
   | refine dG ?_
   | refine bO ?_
   | (with_reducible first|refine wB ?_|refine ag (h:=?_)|refine dk (h:=?_)|refine dH (T:=38) (h:=?_)|refine bP (T:=38) (h:=?_)|refine dI (h:=?_))
   | (with_reducible refine we (h:=?_))
   | refine bz (h1:=?_)|refine dJ (h1:=?_)
   | fail)
  all_goals try clear fx
  all_goals refine⟨k.body.length - (i+1),qA,i+1,rfl,qA,zl,ya,uT,ma,jM,_,rfl,?_⟩
  all_goals simp at hc
  all_goals simp [iT hs,hc,h7,hp7,hxs]
  all_goals (rw [hxs] at hxl;simp at hxl;omega)
 .have h8:i=k.body.length:=by
   have:¬ i<k.body.length:=vT;omega
  subst h8;have hb:mo k d=xs:=by rw [hxs];simp [mo]
  have fx:=jN h1 h2 h3 hp3 h8 h7 hp7<|hk;have d1:=ni gl xs qA;refine qK ?_;clear fx d1;simp only [qX.dc,hb];exact y7 (t:=6) j7 j7 qB
theorem xp (gl) (p:qC) (b:Nat) (k:qX) (x:Int) (hk:p[b]?=some k) (hs:ia k):qM prog gl 125 [jB p,iv b,iv x] (λ_ y _=>y=bv (uA b k x)):=by
 refine qM.q9 func125 [.tmp 6] ntmps125 λC w g root=>?_
 all_goals have fx:= hk
 repeat' (first|refine zm ?_|refine λ(K:St->Prop) hK=>?_|refine wW (hF:=Hv _ p b k hk hs) (h:=?_)|refine zH (hF:=pK _ _ _ (by first|exact ur (qX.Hf _) qe|exact ur (qX.sL _ _) qe|exact ur (qX.MA _) qe)) (h:=?_)|refine wW (hF:=xe _ p b k _ hk hs) (h:=?_)|(with_reducible refine ye (λht=>?_) (λht=>?_)))
 all_goals try clear fx
 all_goals refine qF [] .nil qE ?_
 all_goals simp_all [uA]
theorem LP (gl) (p:qC) (b:Nat) (k:qX) (x:Int) (hk:p[b]?=some k) (hs:jt p) (hh:zj p):qM prog gl 83 [jB p,iv b,iv x] (λ_ y _=>y=iv (outer p b x)):=by
 refine qM.q9 func83 [.tmp 6] ntmps83 λC w g root=>?_;refine qJ ?_<| hk;obtain⟨hk1,hk2,_⟩:=hh b k hk;have qy:b<p.length:=(gS hk).1;refine zQ (λn st=>∃ j:Int,n=(j+1).toNat /\ -1<=j/\j<p.length/\yK p x p.length j=outer p b x/\st.tm 2=iv x/\st.tm 3=.pt (.s 3) 0/\st.hp (.s 3)=some (.row 1 [[jc p]])/\st.tm 7=iv j) (k.parent+1).toNat ?_ ?_
 .exact⟨k.parent,rfl,hk1,qA,(lZ hh hk).symm,qB⟩
 rintro n st - - ⟨j,rfl,hj1,hj2,ho,h2,h3,hp3,h7⟩;refine qJ ?_<|zD h2 h3 hp3<|h7;refine vC vE (λht=>?_) (λhf=>?_)
 .have hj0:0<j:=yW;obtain⟨j,rfl⟩:∃ i:Nat,j=i:=⟨j.toNat,qA⟩;have hj0:0<j:=qA;obtain⟨q,hq⟩:∃ q,p[j]?=some q:=⟨_,gE qA⟩;rw [lY hh hq hj0] at ho;obtain⟨hq1,hq2,hq3⟩:=hh j q hq
  cases hc:(q.kind==1)
  .skip
   refine qJ ?_<|jI h2 h3 hp3 h7 hq hc<|@qz;refine⟨(q.parent+1).toNat,qA,q.parent,rfl,hq1,qA,?_,by simp [h2,h3,hp3]⟩;rw [<- ho,if_pos (by simpa using hc)]
  .rw [if_neg (by simpa using hc)] at ho
   all_goals have fx:=jI h2 h3 hp3 h7 hq hc<|@qz
   repeat' (first|refine zm ?_|refine λ(K:St->Prop) hK=>?_|refine wW (hF:=xe _ p j q _ hq (hs.ko hq)) (h:=?_)|refine zH (hF:=pK _ _ _ (ur (qX.sL _ _) qe)) (h:=?_))
   all_goals try clear fx
   refine vC vE (λht=>?_) (λhf=>?_)
   .have hm:x∈q.dc 9:=yW;rw [if_pos hm] at ho;refine qJ ?_<|zN h2 h3 hp3 h7<|hq;refine qF [] .nil fW (by simp [<- ho])
   .have hm:¬ x∈q.dc 9:=vT;rw [if_neg hm] at ho;have fx:=zN h2 h3 hp3 h7<|hq;have c1:=xp gl p j q x hq (hs.ko hq);refine qK ?_;clear fx c1;refine vC vE (λht=>?_) (λhf=>?_)
    .rw [if_pos ht] at ho;refine qJ ?_<|zN h2 h3 hp3 h7<|hq;refine qF [] .nil fW (by simp [<- ho])
    .rw [if_neg (by simp [hf])] at ho;refine qJ ?_<|zN h2 h3 hp3 h7<|hq;refine⟨(q.parent+1).toNat,qA,q.parent,rfl,hq1,qA,ho,by simp [h2,h3,hp3]⟩
 .have hj:j<=0:=vT;rw [AM hj] at ho;refine qJ ?_<|qd;refine qF [] .nil fW (by simp [<- ho])
theorem eW (gl) (p:qC) (b:Nat) (k:qX) (x:Int) (hk:p[b]?=some k) (hs:jt p) (hh:zj p):qM prog gl 85 [jB p,iv b,iv x] (λ_ y _=>y=iv (zI p b x)):=by
 refine qM.q9 func85 [.tmp 6] ntmps85 λC w g root=>?_
 all_goals have fx:= hk
 repeat' (first|refine zm ?_|refine λ(K:St->Prop) hK=>?_|refine wW (hF:=xe _ p b k _ hk (hs.ko hk)) (h:=?_)|refine zH (hF:=pK _ _ _ (ur (qX.sL _ _) qe)) (h:=?_)|refine zH (hF:=xp _ p b k x hk (hs.ko hk)) (h:=?_)|refine zH (hF:=LP _ p b k x hk hs hh) (h:=?_)|(with_reducible refine ye (λht=>?_) (λht=>?_))|refine vb (h1:=λht=>?_) (h2:=λht=>?_))
 all_goals try clear fx
 all_goals refine qF [] .nil qE ?_
 all_goals simp_all [zI]
theorem Td (gl) (p:qC) (b:Nat) (j kind:Int) (hs:jt p) (hb:b<p.length):qM prog gl 173 [jB p,iv b,iv j,iv kind] (λ_ y _=>y=bv (bC p b j kind)):=by
 have hpl:=hs.len;have w1:IntKind.i64.wrap ((b:Int)+1)=b+1:=qm qA qA;have w2:IntKind.i64.wrap ((p.length:Int) - 1)=p.length - 1:=qm qA qA;refine qM.q9 func173 [.tmp 8] ntmps173 λC w g root=>?_;by_cases hj:(b:Int)+1<=j/\j<=(p.length:Int) - 1
 .obtain⟨j,rfl⟩:∃ i:Nat,j=i:=⟨j.toNat,qA⟩;obtain⟨q,hq⟩:∃ q,p[j]?=some q:=⟨_,gE qA⟩
  all_goals have fx:=zD hq w1 w2<|hj
  repeat' (first|refine zm ?_|refine λ(K:St->Prop) hK=>?_|refine zH (hF:=bh _ _ _ _) (h:=?_)|(with_reducible refine ye (λht=>?_) (λht=>?_)))
  all_goals try clear fx
  all_goals refine qF [] .nil qE ?_
  all_goals simp_all [bC]
 .have hj':(decide ((b:Int)+1<=j)&&decide (j<=(p.length:Int) - 1))=false:=by simpa using hj
  all_goals have fx:=qk w1 w2<|hj'
  repeat' (first|refine zm ?_|refine λ(K:St->Prop) hK=>?_|refine zH (hF:=bh _ _ _ _) (h:=?_))
  all_goals try clear fx
  all_goals refine qF [] .nil qE ?_
  all_goals simp_all [bC]
  intro h1 h2;exact absurd (hj h1) qA
theorem qBB (gl) (p:qC) (b:Nat) (k:qX) (hk:p[b]?=some k) (hb:b<p.length) (hs:jt p):qM prog gl 120 [jB p,iv b] (λ_ y _=>y=bv (decide (uq b k))):=by
 have hpl:=hs.len;have w2:IntKind.i64.wrap ((b:Int) - 1)=b - 1:=qm qA qA;refine qM.q9 func120 [.tmp 4] ntmps120 λC w g root=>?_;obtain⟨kind,parent,params,body⟩:=k;by_cases hp:2<=params.length
 .have c0:((params.length:Int)==0)=false:=IQ;have c1:((params.length:Int)==1)=false:=IQ
  all_goals have fx:=zD hk w2 c0<|c1
  repeat' (first|refine zm ?_|refine λ(K:St->Prop) hK=>?_|refine zH (hF:=bh _ _ _ _) (h:=?_)|(with_reducible refine ye (λht=>?_) (λht=>?_))|refine vb (h1:=λht=>?_) (h2:=λht=>?_))
  all_goals try clear fx
  all_goals refine qF [] .nil qE ?_
  all_goals simp_all [uq]
  all_goals (intros;omega)
 .rcases params with _|⟨x,_|⟨y,l⟩⟩
  rotate_left 2
  .simp at hp
  all_goals have fx:=aI hk<|w2
  repeat' (first|refine zm ?_|refine λ(K:St->Prop) hK=>?_|refine zH (hF:=bh _ _ _ _) (h:=?_)|refine zH (hF:=Ae _ _) (h:=?_)|(with_reducible refine ye (λht=>?_) (λht=>?_))|refine vb (h1:=λht=>?_) (h2:=λht=>?_))
  all_goals try clear fx
  all_goals refine qF [] .nil qE ?_
  all_goals simp_all [uq]
  all_goals (intros;omega)
theorem qBE (gl) (p:qC) (b:Nat) (k:qX) (s:q8) (hk:p[b]?=some k) (hs:jt p) (hb:b<p.length):qM prog gl 121 [jB p,iv b,q8.av s] (λ_ y _=>y=bv (zt p b k s)):=by
 refine qM.q9 func121 [.tmp 6] ntmps121 λC w g root=>?_;obtain⟨kind,to,a,c⟩:=s
 all_goals have fx:= hk
 repeat' (first|refine zm ?_|refine λ(K:St->Prop) hK=>?_|refine wW (hF:=CZ _ ⟨kind,to,a,c⟩) (h:=?_)|refine zH (hF:=Ae _ _) (h:=?_)|refine vb (h1:=λht=>?_) (h2:=λht=>?_))
 all_goals try clear fx
 .have hto:gv to=false:=by
   rw [oX];intro h;simp at h ht;omega
  refine qF [] .nil qE ?_;simp only [zt,hto]
  rfl
 have hto:gv to=true:=yW;generalize hr:q8.reads ⟨kind,to,a,c⟩=rs;have hrl:rs.length<=2:=hr ▸ q8.iM _;refine zQ (λn st=>∃ i:Nat,n=rs.length - i/\i<=rs.length/\st.tm 1=iv b/\st.tm 3=.pt (.s 3) 0/\st.hp (.s 3)=some (.row 1 [[jc p]])/\st.tm 5=.pt (.s 5) 0/\st.hp (.s 5)=some (.row 4 [[iv kind,iv to,iv a,iv c]])/\st.tm 8=iv i/\st.tm 7=.hs (.s 7) 1 0 rs.length/\st.hp (.s 7)=some (.row 1 (qj rs))/\(rs.take i).all gv=true) rs.length ?_ ?_
 .exact⟨0,by simp [hr]⟩
 rintro n st - - ⟨i,rfl,hi,h1,h3,hp3,h5,hp5,h8,h7,hp7,hal⟩
 all_goals have fx:=jN h1 h3 hp3 h5 hp5 h8 h7<|hp7
 repeat' (first|refine zm ?_|refine λ(K:St->Prop) hK=>?_)
 all_goals try clear fx
 refine vC vE (λht=>?_) (λhf=>?_)
 .have hlt:i<rs.length:=yW;obtain⟨y,hy⟩:=gX hlt;obtain⟨_,hy'⟩:=gS hy
  all_goals have fx:=y8 h1 h3 hp3 h5 hp5 h8 h7 hp7 hy'<|hlt
  repeat' (first|refine zm ?_|refine λ(K:St->Prop) hK=>?_|refine zH (hF:=Ae _ _) (h:=?_)|refine vb (h1:=λht=>?_) (h2:=λht=>?_))
  all_goals try clear fx
  .have hno:gv y=false:=by
    rw [oX];intro h;simp at h ht;omega
   refine qF [] .nil qE ?_
   have hall:rs.all gv=false:=by
    rw [oX];intro h;have:=y5.1 h y (gM hy);rw [hno] at this
    cases this
   simp only [zt,hr,hall];simp
  .have hyes:gv y=true:=yW;refine⟨rs.length - (i+1),qA,i+1,rfl,qA,zl,uT,ma,yH,wt,jM,b7,rz,?_⟩;rw [uG,hy,List.all_append,hal];simp only [Option.toList_some,List.all_cons,List.all_nil,hyes]
   rfl
 .have hge:i=rs.length:=by
   have:¬ i<rs.length:=vT;omega
  subst hge;rw [kC] at hal
  have hok:zt p b k ⟨kind,to,a,c⟩=(if kind=0 then decide (0<=a)&&decide (a<=99)&&c==0 else if kind=1 then c==0 else if kind=2\/kind=5 then true
   else if kind=3 then c==0&&bC p b a 1 else if kind=4 then c==0&&bC p b a 2 else if kind=6 then gv c
   else if kind=7 then to==0&&c==0 else if kind=8 then to==0&&c==0&&k.kind==1
   else if kind=9\/kind=10 then a==0&&c==0&&k.kind != 0 else if kind=11 then a==0&&c==0 else false):=by
   simp only [zt,hr,hal,hto,fJ]
  rw [hok];clear hok
  all_goals have fx:=jH h1 h3 hp3 h5 hp5<|hk
  repeat' (first|refine zm ?_|refine λ(K:St->Prop) hK=>?_|refine zH (hF:=Ae _ _) (h:=?_)|refine zH (hF:=bh _ _ _ _) (h:=?_)|refine zH (hF:=Td _ p b _ _ hs hb) (h:=?_)|(with_reducible refine ye (λht=>?_) (λht=>?_))|refine vb (h1:=λht=>?_) (h2:=λht=>?_))
  all_goals try clear fx
  all_goals refine qF [] .nil qE ?_
  all_goals simp_all
  all_goals (intros;omega)
abbrev Fi:qV:=kf<|.l 11 []<|.done
abbrev Li:qV:=kf<|.l 11 [5,4,3,2]<|.q 12<|.done
theorem Te (gl) (p:qC) (b:Nat) (k:qX) (hk:p[b]?=some k) (h0:0<b) (hh:zj p) (hs:jt p):qM prog gl 122 [jB p,iv b] (λ_ y _=>y=iv (aW p b)):=by
 refine qM.q9 func122 [.tmp 4] ntmps122 λC w g root=>?_;obtain⟨hp1,hp2,hp3⟩:=hh b k hk;have qy:b<p.length:=(gS hk).1;have hkp:=hp3 h0;obtain⟨q,hq⟩:∃ q,p[k.parent.toNat]?=some q:=⟨_,gE qA⟩;have hmi:aW p b=((q.body.filter (λs=>eR s b)).length:Int):=by simp only [aW,hk,hq]
 rw [hmi];have hql:=(hs.ko hq).body;have fx:=qk hk hq<|hkp;refine qK ?_
 repeat ((first|refine qQ (id:=2) Fi mixed ?_);refine zK ?_;refine qK ?_)
 clear fx;refine zQ (λn st=>∃ i:Nat,n=q.body.length - i/\i<=q.body.length/\st.tm 1=iv b/\st.tm 6=ec q.body/\st.tm 7=iv i/\∃ c:Nat,c=((q.body.take i).filter (λs=>eR s b)).length/\c<=i/\st.tm 5=iv c) q.body.length ?_ ?_
 .exact⟨0,qB⟩
 rintro n st - - ⟨i,rfl,hi,h1,h6,h7,c,hc,hci,h5⟩;have fx:=zD h1 h6 h7<|h5;refine qK ?_
 repeat ((first|refine qQ (id:=2) Fi mixed ?_);refine zK ?_;refine qK ?_)
 clear fx;refine vC vE (λht=>?_) (λhf=>?_)
 .have hlt:i<q.body.length:=yW;obtain⟨s,hs⟩:=gX hlt
  all_goals have fx:=zN h1 h6 h7 h5<|hs
  repeat' (first|refine zm ?_|refine λ(K:St->Prop) hK=>?_|(with_reducible refine ye (λht=>?_) (λht=>?_))|refine vb (h1:=λht=>?_) (h2:=λht=>?_))
  all_goals try clear fx
  all_goals refine⟨q.body.length - (i+1),qA,i+1,rfl,qA,zl,vt,jM,?_⟩
  all_goals refine⟨_,rfl,?_⟩
  all_goals simp only [iT hs,ua]
  all_goals simp_all [eR]
  all_goals first|exact qm qA qA|omega
 .have hge:i=q.body.length:=by
   have:¬ i<q.body.length:=vT;omega
  subst hge;rw [kC] at hc;have fx:= h5;refine qK ?_
  repeat ((first|refine qQ (id:=2) Fi mixed ?_);refine zK ?_;refine qK ?_)
  clear fx;refine qF [] .nil fW (by simp [hc])
theorem qBC (gl) (p:qC) (b:Nat) (k:qX) (hk:p[b]?=some k) (hb:b<p.length) (hs:jt p):qM prog gl 120 [jB p,iv b] (λ_ y _=>y=bv (aU b k)):=qBB gl p b k hk hb hs
theorem sX {A G G2:Prop} (k:G2) (x:A) (h:A->jL G2->G:=by
 intro fx kk;refine qK ?_
 repeat ((first|refine qQ (id:=11) Li mixed ?_);refine zK ?_;refine qK ?_)
 exact kk.h):G:=h x ⟨k⟩
theorem N2 (gl) (p:qC) (hs:jt p):qM prog gl 80 [jB p] (λ_ y _=>y=bv (uk p)):=by
 have hpl:=hs.len;refine qM.q9 func80 [.tmp 2] ntmps80 λC w g root=>?_
 all_goals have fx:=qd
 repeat' (first|refine zm ?_|refine λ(K:St->Prop) hK=>?_|refine zH (hF:=bh _ _ _ _) (h:=?_)|refine vb (h1:=λht=>?_) (h2:=λht=>?_))
 all_goals try clear fx
 .refine qF [] .nil qE ?_
  have hno:(decide (1<=p.length)&&decide (p.length<=7))=false:=by
   rw [oX];intro h;simp at h ht;omega
  simp only [uk,hno]
  rfl
 have hyes:(decide (1<=p.length)&&decide (p.length<=7))=true:=by
  simp at ht ⊢;omega
 have hsh:uk p=((List.range p.length).all (wn p)&&(List.range p.length).all (λi=>i==0||aW p i==1)):=by
  simp only [uk,hyes,fJ]
 rw [hsh];clear hsh;refine zQ (λn st=>∃ i:Nat,n=p.length - i/\i<=p.length/\st.tm 1=.pt (.s 1) 0/\st.hp (.s 1)=some (.row 1 [[jc p]])/\st.tm 3=iv i/\(List.range i).all (wn p)=true) p.length ?_ ?_
 .exact⟨0,qB⟩
 rintro n st - - ⟨i,rfl,hi,h1,hp1,h3,hal⟩;refine sX ?_<|qk h1 hp1<|h3;refine vC vE (λht=>?_) (λhf=>?_)
 .have hlt:i<p.length:=yW;obtain⟨k,hk⟩:=gX hlt;have hbf:wn p i=(aU i k&&decide (k.body.length<=12)&&k.body.all (zt p i k)):=by simp only [wn,hk]
  have fin:∀ R:Bool,wn p i=false->((List.range p.length).all (wn p)&&R)=false:=λR h=>by rw [ld hlt h];rfl
  have qy:=(hs.ko hk).body
  all_goals have fx:=zD h1 hp1 h3<|hk
  repeat' (first|refine zm ?_|refine λ(K:St->Prop) hK=>?_|refine zH (hF:=qBC _ p i k hk hlt hs) (h:=?_)|(with_reducible refine ye (λht=>?_) (λht=>?_))|refine vb (h1:=λht=>?_) (h2:=λht=>?_))
  all_goals try clear fx
  .refine qF [] .nil qE ?_;rw [fin _ (by rw [hbf,show aU i k=false by simpa using ht];rfl)]
   rfl
  .refine qF [] .nil qE ?_;rw [fin _ (by rw [hbf,show decide (k.body.length<=12)=false by simp at ht ⊢;omega];simp)]
   rfl
  rename_i ht1;have hhd:aU i k=true:=by simpa using ht1
  have hbd:k.body.length<=12:=by simp at ht;omega
  refine zQ (λn st=>∃ j:Nat,n=k.body.length - j/\j<=k.body.length/\st.tm 1=.pt (.s 1) 0/\st.hp (.s 1)=some (.row 1 [[jc p]])/\st.tm 3=iv i/\st.tm 4=iv j/\(k.body.take j).all (zt p i k)=true) k.body.length ?_ ?_
  .exact⟨0,by simp [h1,hp1,h3]⟩
  clear h1 hp1 h3 ht ht1;rintro n st - - ⟨j,rfl,hj,h1,hp1,h3,h4,haj⟩;refine sX ?_<|zN h1 hp1 h3 h4<|hk;refine vC vE (λht=>?_) (λhf=>?_)
  .have hlj:j<k.body.length:=yW;obtain⟨s,hsj⟩:=gX hlj
   all_goals have fx:=jH h1 hp1 h3 h4 hk<|hsj
   repeat' (first
    | refine wV ?_|refine bN ?_|refine af ?_|refine ae λK hK=>?_
    | ((with_reducible refine uz hK ?_);clear hK K)
    | (with_reducible first|refine wT ?_|refine bL ?_|refine bi ?_|refine gA ?_)
    | refine bO ?_
    | (with_reducible refine wB ?_)
    | (with_reducible first|refine ag (h:=?_))
    | ((with_reducible refine cj 121 rfl ?_);refine zH (hF:=qBE _ p i k s hk hs hlt) (h:=?_))
    | (with_reducible refine we (h:=?_))
    | (refine qQ (id:=11) Li mixed λK hK=>?_)
    | ((with_reducible refine cE hK ?_);clear hK K)
    | ((with_reducible refine ah ?_);first|refine lu (h:=?_))
    | refine ik rfl ?_|(with_reducible refine aI ?_ ?_)|exact iQ|refine iZ (h2:=?_)
    | refine vb (h1:=λht=>?_) (h2:=λht=>?_)
    | fail)
   all_goals try clear fx
   .refine qF [] .nil qE ?_;rw [fin _ (by rw [hbf,Hd (gM hsj) (show zt p i k s=false by simpa using ht)];simp)]
    rfl
   .refine⟨k.body.length - (j+1),qA,j+1,rfl,qA,zl,uS,uT,jM,?_⟩;rw [uG,hsj,List.all_append,haj]
    simpa using ht
  .have hge:j=k.body.length:=by
    have:¬ j<k.body.length:=vT;omega
   subst hge;rw [kC] at haj;refine sX ?_<|zN h1 hp1 h3 h4<|hk;refine⟨p.length - (i+1),qA,i+1,rfl,qA,zl,uS,jM,?_⟩;rw [mL,hal,hbf,hhd,haj]
   simpa using hbd
 .have hge:i=p.length:=by
   have:¬ i<p.length:=vT;omega
  subst hge;have hh:=Jh hal;rw [hal,fJ];refine sX ?_<|aI h1<|hp1;refine zQ (λn st=>∃ i:Nat,n=p.length - i/\i<=p.length/\1<=i/\st.tm 1=.pt (.s 1) 0/\st.hp (.s 1)=some (.row 1 [[jc p]])/\st.tm 5=iv i/\(List.range i).all (λi=>i==0||aW p i==1)=true) (p.length - 1) ?_ ?_
  .refine⟨1,qA,?_,qA,by simp [h1,hp1]⟩;simp at hyes;omega
  clear h1 hp1 h3 hi;rintro n st - - ⟨i,rfl,hi,hi1,h1,hp1,h5,hmi⟩;refine sX ?_<|qk h1 hp1<|h5;refine vC vE (λht=>?_) (λhf=>?_)
  .have hlt:i<p.length:=yW;obtain⟨k,hk⟩:=gX hlt
   all_goals have fx:=zD h1 hp1 h5<|@qz
   repeat' (first|refine zm ?_|refine λ(K:St->Prop) hK=>?_|refine zH (hF:=Te _ p i k hk hi1 hh hs) (h:=?_)|refine vb (h1:=λht=>?_) (h2:=λht=>?_))
   all_goals try clear fx
   .refine qF [] .nil qE ?_;rw [ld hlt (show (i==0||aW p i==1)=false by simp at ht ⊢;exact⟨qA,ht⟩)]
    rfl
   .refine⟨p.length - (i+1),qA,i+1,rfl,qA,qA,zl,uS,jM,?_⟩;rw [mL,hmi];simp at ht ⊢;exact .inr ht
  .have hge:i=p.length:=by
    have:¬ i<p.length:=vT;omega
   subst hge;refine sX ?_<|qd;refine qF [] .nil fW (by simp [hmi])
end Go.Proofs.YtjgpejikjhojcaaGreatDoor
end
