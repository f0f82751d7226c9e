import Derived.Test.YtjgpejikjhojcaaGreatDoorT21
import Derived.Test.YtjgpejikjhojcaaGreatDoorT10
set_option linter.unusedSimpArgs false
set_option linter.unusedVariables false
set_option maxRecDepth 100000
set_option maxHeartbeats 4000000

section
namespace Go.Proofs.YtjgpejikjhojcaaGreatDoor
open Go Go.Hm Go.Proofs Tryz
theorem fY (gl) (n lo hi:Int):qM prog gl 31 [iv n,iv lo,iv hi] (λ_ x _=>x=bv (decide (lo<=n)&&decide (n<=hi))):=by
 refine qM.qa func31 [.tmp 6] ntmps31 λC w g root=>?_
 all_goals have fx:=qS
 repeat' (first|refine zl ?_|refine λ(K:St->Prop) hK=>?_|(with_reducible refine yd (λht=>?_) (λht=>?_)))
 all_goals try clear fx
 all_goals refine qG [] .nil qH ?_
 all_goals simp_all
 omega
theorem CT (gl) (n:Int):qM prog gl 127 [iv n] (λ_ x _=>x=bv (decide (0<=n)&&decide (n<=7))):=by
 refine qM.qa func127 [.tmp 2] ntmps127 λC w g root=>?_
 all_goals have fx:=qS
 repeat' (first|refine zl ?_|refine λ(K:St->Prop) hK=>?_|refine zL (hF:=fY _ _ _ _) (h:=?_))
 all_goals try clear fx
 refine qG [] .nil qH qB
theorem mf (gl) (n:Int):qM prog gl 136 [iv n] (λ_ x _=>x=bv (decide (0<=n)&&decide (n<=7))):=by
 refine qM.qa func136 [.tmp 2] ntmps136 λC w g root=>?_
 all_goals have fx:=qS
 repeat' (first|refine zl ?_|refine λ(K:St->Prop) hK=>?_|(with_reducible refine yd (λht=>?_) (λht=>?_)))
 all_goals try clear fx
 all_goals refine qG [] .nil qH ?_
 all_goals simp_all
 omega
theorem Kv (gl) (xs:List Int) (x:Int) (hlen:xs.length<=4294967296):qM prog gl 124 [vJ xs,iv x] (λ_ z _=>z=iv (vg xs x)):=by
 refine qM.qa func124 [.tmp 4] ntmps124 λC w g root=>?_;refine qI ?_<|qS;refine zU (λn st=>∃ i:Nat,n=xs.length - i/\i<=xs.length/\st.tm 0=vJ xs/\st.tm 1=iv x/\st.tm 5=iv i/\∀ j<i,xs[j]?≠some x) xs.length ⟨0,qB⟩ ?_;rintro n st - - ⟨i,rfl,hi,h0,h1,h5,hno⟩;refine qI ?_<|qk h0 h1<|h5;refine y8 ya (λht=>?_) (λhf=>?_)
 .have hlt:i<xs.length:=yE;obtain⟨y,hy⟩:∃ y,xs[i]?=some y:=⟨xs[i],gE hlt⟩;refine qI ?_<|zC h0 h1 h5<|hy;refine y8 ya (λht=>?_) (λhf=>?_)
  .skip
   refine qI ?_<|qk h0 h1<|h5;refine qG [] .nil (by simp [h5];rfl) ?_;have hyx:y=x:=yE;subst hyx
   have:xs.findIdx? (·==y)=some i:=by
    rw [pW];refine⟨hlt,?_,λj hj=>?_⟩
    .rw [gE hlt] at hy;simpa using sI hy
    .have:=hno j hj;rw [gE qA] at this
     simpa using this
   simp [vg,this]
  .skip
   refine qI ?_<|qk h0 h1<|h5;refine⟨xs.length - (i+1),qA,i+1,rfl,qA,?_⟩;simp [h0,h1];refine⟨qi qA qA,λj hj=>?_⟩;rcases A9.1 hj with h|rfl
   .exact hno j h
   .rw [hy];simpa using hf
 .skip
  refine qI ?_<|qk h0 h1<|h5;refine qG [] .nil qH ?_
  have hge:i=xs.length:=by have:¬ i<xs.length:=by simpa using hf
                           omega
  have:xs.findIdx? (·==x)=none:=by
   rw [List.findIdx?_eq_none_iff];intro y hy;obtain⟨j,hj,rfl⟩:=List.getElem_of_mem hy;have:=hno j qA;rw [gE hj] at this
   simpa using this
  simp [vg,this]
theorem aM (gl) (xs:List Int) (x:Int) (hlen:xs.length<=4294967296):qM prog gl 82 [vJ xs,iv x] (λ_ z _=>z=bv (decide (x∈xs))):=by
 refine qM.qa func82 [.tmp 4] ntmps82 λC w g root=>?_
 all_goals have fx:=qS
 repeat' (first|refine zl ?_|refine λ(K:St->Prop) hK=>?_|refine zL (hF:=Kv _ _ _ hlen) (h:=?_))
 all_goals try clear fx
 refine qG [] .nil fJ (by simp [sW])
theorem M3 (gl) (xs:List Int) (hlen:xs.length<=4294967296):qM prog gl 123 [vJ xs] (λr y H'=>y=.hs r 1 0 (sorted xs).length/\H' r=some (.row 1 (qm (sorted xs)))):=by
 refine qM.qa func123 [.tmp 2] ntmps123 λC w g root=>?_;refine qI ?_<|qS;refine zU (λn st=>∃ i:Nat,n=8 - i/\i<=8/\st.tm 0=vJ xs/\st.tm 4=iv i/\st.tm 3=.hs (.s 3) 1 0 (uR xs i).length/\st.hp (.s 3)=some (.row 1 (qm (uR xs i)))) 8 ?_ ?_
 .exact⟨0,Aq⟩
 rintro n st - - ⟨i,rfl,hi,h0,h4,h3,hp3⟩;have hsl:=M1 (xs:=xs) i;refine qI ?_<|zC h0 h4 h3<|hp3;refine y8 ya (λht=>?_) (λhf=>?_)
 .have hlt:(i:Int)<=7:=yE
  all_goals have fx:=zC h0 h4 h3<|hp3
  repeat' (first
   | refine wu ?_|refine bV ?_|refine au ?_|refine bW λK hK=>?_
   | ((with_reducible refine kJ hK ?_);clear hK K)
   | (with_reducible first|refine wt ?_|refine bm ?_|refine cE ?_|refine bl ?_|refine aq ?_|refine bN ?_|refine bn qc ?_)
   | refine cF ?_
   | refine bX ?_
   | (with_reducible first|refine wQ ?_|refine bY (h:=?_)|refine cG (T:=38) (h:=?_)|refine dC (T:=38) (h:=?_)|refine dD (h:=?_))
   | ((with_reducible refine nA 124 rfl ?_);refine zL (hF:=Kv _ _ _ hlen) (h:=?_))
   | (with_reducible refine ww (h:=?_))
   | refine cI (h1:=?_)|refine cH (h1:=?_)
   | fail)
  all_goals try clear fx
  refine y8 ya (λht=>?_) (λhf=>?_)
  .have hm:(i:Int)∈xs:=sW.1 yE;refine qI ?_<|zC h0 h4 h3<|hp3;refine⟨8 - (i+1),qA,i+1,rfl,qA,?_⟩;simp [h0,h3,uR,hm];exact qi qA qA
  .have hm:¬ (i:Int)∈xs:=λh=>by simp [sW.2 h] at hf
   refine qI ?_<|zC h0 h4 h3<|hp3;refine⟨8 - (i+1),qA,i+1,rfl,qA,?_⟩;simp [h0,h3,hp3,uR,hm];exact qi qA qA
 .have h8:i=8:=by
   have:¬ (i:Int)<=7:=vH;omega
  subst h8
  all_goals have fx:=zC h0 h4 h3<|hp3
  repeat' (first
   | refine wu ?_|refine bV ?_|refine au ?_|refine bW λK hK=>?_
   | ((with_reducible refine kJ hK ?_);clear hK K)
   | (with_reducible first|refine wt ?_|refine bm ?_|refine cE ?_|refine bl ?_|refine aq ?_|refine bN ?_|refine bn qc ?_)
   | refine cF ?_
   | refine bX ?_
   | (with_reducible first|refine wQ ?_|refine bY (h:=?_)|refine cG (T:=38) (h:=?_)|refine dC (T:=38) (h:=?_)|refine dD (h:=?_))
   | (with_reducible refine ww (h:=?_))
   | refine cI (h1:=?_)|refine cH (h1:=?_)
   | fail)
  all_goals try clear fx
  exact vo (t:=2) BF BF qB
theorem L8 (gl) (s:qP):qM prog gl 172 [qP.av s] (λr y H'=>y=.hs r 1 0 s.reads.length/\H' r=some (.row 1 (qm s.reads))):=by
 refine qM.qa func172 [.tmp 2] ntmps172 λC w g root=>?_;obtain⟨kind,to,a,b⟩:=s
 all_goals have fx:=qS
 repeat' (first|refine zl ?_|refine λ(K:St->Prop) hK=>?_|refine vj (h1:=λht=>?_) (h2:=λht=>?_))
 all_goals try clear fx
 all_goals refine vo (t:=2) ?_ ?_ ?_
 all_goals simp_all [qP.reads,qm]
theorem YQ (gl) (s:qP):qM prog gl 215 [qP.av s] (λ_ x _=>x=bv (decide s.cu)):=by
 refine qM.qa func215 [.tmp 2] ntmps215 λC w g root=>?_
 all_goals have fx:=qS
 repeat' (first|refine zl ?_|refine λ(K:St->Prop) hK=>?_|refine zL (hF:=fY _ _ _ _) (h:=?_))
 all_goals try clear fx
 refine qG [] .nil fJ (by simp [])
theorem I0 (gl) (xs:List Int) (hlen:xs.length<=4294967296):qM prog gl 190 [vJ xs] (λr y H'=>y=.hs r 1 0 xs.length/\H' r=some (.row 1 (qm xs))):=by
 refine qM.qa func190 [.tmp 2] ntmps190 λC w g root=>?_;refine qI ?_<|qS;exact vo (t:=2) y3 y3 qB
theorem PG (gl) (p:qC) (b:Nat) (k:qT) (hk:p[b]?=some k) (hs:n4 k):qM prog gl 174 [yu p,iv b] (λr y H'=>y=.hs r 1 0 k.bd.length/\H' r=some (.row 1 (qm k.bd))):=by
 obtain⟨hl1,hl2⟩:=hs;refine qM.qa func174 [.tmp 4] ntmps174 λC w g root=>?_;have fx:= hk;have d1:=I0 gl k.params qA;refine qQ ?_;clear fx d1;refine zU (λn st=>∃ i:Nat,n=k.body.length - i/\i<=k.body.length/\st.tm 1=iv b/\st.tm 2=.pt (.s 2) 0/\st.hp (.s 2)=some (.row 1 [[vK p]])/\st.tm 6=iv i/\∃ xs:List Int,xs=k.params++((k.body.take i).filter (λs=>decide (s.cu\/s.kind=11))).map qP.to/\xs.length<=k.params.length+i/\st.tm 5=.hs (.s 5) 1 0 xs.length/\st.hp (.s 5)=some (.row 1 (qm xs))) k.body.length ?_ ?_
 .exact⟨0,qB⟩
 rintro n st - - ⟨i,rfl,hi,h1,h2,hp2,h6,xs,hxs,hxl,h5,hp5⟩;refine qI ?_<|jQ h1 h2 hp2 h6 h5 hp5<|hk;refine y8 ya (λht=>?_) (λhf=>?_)
 .have hlt:i<k.body.length:=yE;obtain⟨s,hs⟩:=gX hlt;by_cases hc:s.cu <;> cases h11:(s.kind==11)
  all_goals have fx:=vA h1 h2 hp2 h6 h5 hp5 hk hs hc<|h11
  repeat' (first
   | refine wu ?_|refine bV ?_|refine au ?_|refine bW λK hK=>?_
   | ((with_reducible refine kJ hK ?_);clear hK K)
   | (with_reducible first|refine wt ?_|refine bm ?_|refine cE ?_|refine bl ?_|refine aq ?_|refine bN ?_|refine bn qc ?_)
   | refine cF ?_
   | refine bX ?_
   | (with_reducible refine wQ ?_)
   | ((with_reducible refine lD ?_);refine lg (h:=?_))
   | (with_reducible first|refine lF ?_|refine lE ?_|refine li (h:=?_)|refine lf (h:=?_)|refine lj (h:=?_)|refine bY (h:=?_)|refine dh (h:=?_)|refine fw (h:=?_)|refine fz (h:=?_)|refine cG (T:=38) (h:=?_)|refine dC (T:=38) (h:=?_)|refine dD (h:=?_))
   | ((with_reducible refine nA 215 rfl ?_);refine zL (hF:=YQ _ s) (h:=?_))
   | (with_reducible refine ww (h:=?_))
   | (with_reducible refine yd (λht=>?_) (λht=>?_))
   | refine cI (h1:=?_)|refine cH (h1:=?_)
   | fail)
  all_goals try clear fx
  all_goals refine⟨k.body.length - (i+1),qA,i+1,rfl,qA,zx,jp,jq,zw,_,rfl,?_⟩
  all_goals simp at h11
  all_goals simp [nJ hs,hc,h11,h5,hp5,hxs]
  all_goals (rw [hxs] at hxl;simp at hxl;omega)
 .have h8:i=k.body.length:=by
   have:¬ i<k.body.length:=vH;omega
  subst h8;have hb:mM k=xs:=by rw [hxs];simp [mM]
  have fx:=jQ h1 h2 hp2 h6 h5 hp5<|hk;have d1:=M3 gl xs qA;refine qQ ?_;clear fx d1;rw [<- hb];exact vo (t:=4) y3 y3 qB
theorem fU (gl) (p:qC) (b:Nat) (k:qT) (d:Int) (hk:p[b]?=some k) (hs:n4 k):qM prog gl 81 [yu p,iv b,iv d] (λr y H'=>y=.hs r 1 0 (k.dc d).length/\H' r=some (.row 1 (qm (k.dc d)))):=by
 obtain⟨hl1,hl2⟩:=hs;refine qM.qa func81 [.tmp 6] ntmps81 λC w g root=>?_;refine qI ?_<| hk;refine zU (λn st=>∃ i:Nat,n=k.body.length - i/\i<=k.body.length/\st.tm 1=iv b/\st.tm 2=iv d/\st.tm 3=.pt (.s 3) 0/\st.hp (.s 3)=some (.row 1 [[vK p]])/\st.tm 8=iv i/\∃ xs:List Int,xs=((k.body.take i).filter (λs=>decide (s.kind=d))).map qP.to/\xs.length<=i/\st.tm 7=.hs (.s 7) 1 0 xs.length/\st.hp (.s 7)=some (.row 1 (qm xs))) k.body.length ?_ ?_
 .exact⟨0,qB⟩
 rintro n st - - ⟨i,rfl,hi,h1,h2,h3,hp3,h8,xs,hxs,hxl,h7,hp7⟩;refine qI ?_<|jJ h1 h2 h3 hp3 h8 h7 hp7<|hk;refine y8 ya (λht=>?_) (λhf=>?_)
 .have hlt:i<k.body.length:=yE;obtain⟨s,hs⟩:=gX hlt
  cases hc:(s.kind==d)
  all_goals have fx:=vA h1 h2 h3 hp3 h8 h7 hp7 hk hs<|hc
  repeat' (first
   | refine wu ?_|refine bV ?_|refine au ?_|refine bW λK hK=>?_
   | ((with_reducible refine kJ hK ?_);clear hK K)
   | (with_reducible first|refine wt ?_|refine bm ?_|refine cE ?_|refine bl ?_|refine aq ?_|refine bN ?_|refine bn qc ?_)
   | refine cF ?_
   | refine bX ?_
   | (with_reducible first|refine wQ ?_|refine bY (h:=?_)|refine dh (h:=?_)|refine cG (T:=38) (h:=?_)|refine dC (T:=38) (h:=?_)|refine dD (h:=?_))
   | (with_reducible refine ww (h:=?_))
   | refine cI (h1:=?_)|refine cH (h1:=?_)
   | fail)
  all_goals try clear fx
  all_goals refine⟨k.body.length - (i+1),qA,i+1,rfl,qA,zx,jp,jj,uJ,zw,_,rfl,?_⟩
  all_goals simp at hc
  all_goals simp [nJ hs,hc,h7,hp7,hxs]
  all_goals (rw [hxs] at hxl;simp at hxl;omega)
 .have h8:i=k.body.length:=by
   have:¬ i<k.body.length:=vH;omega
  subst h8;have hb:ma k d=xs:=by rw [hxs];simp [ma]
  have fx:=jJ h1 h2 h3 hp3 h8 h7 hp7<|hk;have d1:=M3 gl xs qA;refine qQ ?_;clear fx d1;simp only [qT.dc,hb];exact vo (t:=6) y3 y3 qB
theorem J1 (gl) (p:qC) (b:Nat) (k:qT) (x:Int) (hk:p[b]?=some k) (hs:n4 k):qM prog gl 125 [yu p,iv b,iv x] (λ_ y _=>y=bv (u7 b k x)):=by
 refine qM.qa func125 [.tmp 6] ntmps125 λC w g root=>?_
 all_goals have fx:= hk
 repeat' (first|refine zl ?_|refine λ(K:St->Prop) hK=>?_|refine fy (hF:=PG _ p b k hk hs) (h:=?_)|refine zL (hF:=aM _ _ _ (by first|exact ka (qT.Oi _) qc|exact ka (qT.xK _ _) qc|exact ka (qT.rd_len _) qc)) (h:=?_)|refine fy (hF:=fU _ p b k _ hk hs) (h:=?_)|(with_reducible refine yd (λht=>?_) (λht=>?_)))
 all_goals try clear fx
 all_goals refine qG [] .nil qH ?_
 all_goals simp_all [u7]
theorem lS (gl) (p:qC) (b:Nat) (k:qT) (x:Int) (hk:p[b]?=some k) (hs:uA p) (hh:zZ p):qM prog gl 83 [yu p,iv b,iv x] (λ_ y _=>y=iv (outer p b x)):=by
 refine qM.qa func83 [.tmp 6] ntmps83 λC w g root=>?_;refine qI ?_<| hk;obtain⟨hk1,hk2,_⟩:=hh b k hk;have zF:b<p.length:=(gS hk).1;refine zU (λn st=>∃ j:Int,n=(j+1).toNat /\ -1<=j/\j<p.length/\jx p x p.length j=outer p b x/\st.tm 2=iv x/\st.tm 3=.pt (.s 3) 0/\st.hp (.s 3)=some (.row 1 [[vK p]])/\st.tm 7=iv j) (k.parent+1).toNat ?_ ?_
 .exact⟨k.parent,rfl,hk1,qA,(lT hh hk).symm,qB⟩
 rintro n st - - ⟨j,rfl,hj1,hj2,ho,h2,h3,hp3,h7⟩;refine qI ?_<|zC h2 h3 hp3<|h7;refine y8 ya (λht=>?_) (λhf=>?_)
 .have hj0:0<j:=yE;obtain⟨j,rfl⟩:∃ i:Nat,j=i:=⟨j.toNat,qA⟩;have hj0:0<j:=qA;obtain⟨q,hq⟩:∃ q,p[j]?=some q:=⟨_,gE qA⟩;rw [lR hh hq hj0] at ho;obtain⟨hq1,hq2,hq3⟩:=hh j q hq
  cases hc:(q.kind==1)
  .skip
   refine qI ?_<|jQ h2 h3 hp3 h7 hq hc<|@qx;refine⟨(q.parent+1).toNat,qA,q.parent,rfl,hq1,qA,?_,by simp [h2,h3,hp3]⟩;rw [<- ho,if_pos (by simpa using hc)]
  .rw [if_neg (by simpa using hc)] at ho
   all_goals have fx:=jQ h2 h3 hp3 h7 hq hc<|@qx
   repeat' (first|refine zl ?_|refine λ(K:St->Prop) hK=>?_|refine fy (hF:=fU _ p j q _ hq (hs.uu hq)) (h:=?_)|refine zL (hF:=aM _ _ _ (ka (qT.xK _ _) qc)) (h:=?_))
   all_goals try clear fx
   refine y8 ya (λht=>?_) (λhf=>?_)
   .have hm:x∈q.dc 9:=yE;rw [if_pos hm] at ho;refine qI ?_<|zM h2 h3 hp3 h7<|hq;refine qG [] .nil fJ (by simp [<- ho])
   .have hm:¬ x∈q.dc 9:=vH;rw [if_neg hm] at ho;have fx:=zM h2 h3 hp3 h7<|hq;have c1:=J1 gl p j q x hq (hs.uu hq);refine qQ ?_;clear fx c1;refine y8 ya (λht=>?_) (λhf=>?_)
    .rw [if_pos ht] at ho;refine qI ?_<|zM h2 h3 hp3 h7<|hq;refine qG [] .nil fJ (by simp [<- ho])
    .rw [if_neg (by simp [hf])] at ho;refine qI ?_<|zM h2 h3 hp3 h7<|hq;refine⟨(q.parent+1).toNat,qA,q.parent,rfl,hq1,qA,ho,by simp [h2,h3,hp3]⟩
 .have hj:j<=0:=vH;rw [xj hj] at ho;refine qI ?_<|qS;refine qG [] .nil fJ (by simp [<- ho])
theorem Kk (gl) (p:qC) (b:Nat) (k:qT) (x:Int) (hk:p[b]?=some k) (hs:uA p) (hh:zZ p):qM prog gl 85 [yu p,iv b,iv x] (λ_ y _=>y=iv (zA p b x)):=by
 refine qM.qa func85 [.tmp 6] ntmps85 λC w g root=>?_
 all_goals have fx:= hk
 repeat' (first|refine zl ?_|refine λ(K:St->Prop) hK=>?_|refine fy (hF:=fU _ p b k _ hk (hs.uu hk)) (h:=?_)|refine zL (hF:=aM _ _ _ (ka (qT.xK _ _) qc)) (h:=?_)|refine zL (hF:=J1 _ p b k x hk (hs.uu hk)) (h:=?_)|refine zL (hF:=lS _ p b k x hk hs hh) (h:=?_)|(with_reducible refine yd (λht=>?_) (λht=>?_))|refine vj (h1:=λht=>?_) (h2:=λht=>?_))
 all_goals try clear fx
 all_goals refine qG [] .nil qH ?_
 all_goals simp_all [zA]
theorem TP (gl) (p:qC) (b:Nat) (j kind:Int) (hs:uA p) (hb:b<p.length):qM prog gl 173 [yu p,iv b,iv j,iv kind] (λ_ y _=>y=bv (ac p b j kind)):=by
 have hpl:=hs.len;have w1:IntKind.i64.wrap ((b:Int)+1)=b+1:=qi qA qA;have w2:IntKind.i64.wrap ((p.length:Int) - 1)=p.length - 1:=qi qA qA;refine qM.qa func173 [.tmp 8] ntmps173 λC w g root=>?_;by_cases hj:(b:Int)+1<=j/\j<=(p.length:Int) - 1
 .obtain⟨j,rfl⟩:∃ i:Nat,j=i:=⟨j.toNat,qA⟩;obtain⟨q,hq⟩:∃ q,p[j]?=some q:=⟨_,gE qA⟩
  all_goals have fx:=zC hq w1 w2<|hj
  repeat' (first|refine zl ?_|refine λ(K:St->Prop) hK=>?_|refine zL (hF:=fY _ _ _ _) (h:=?_)|(with_reducible refine yd (λht=>?_) (λht=>?_)))
  all_goals try clear fx
  all_goals refine qG [] .nil qH ?_
  all_goals simp_all [ac]
 .have hj':(decide ((b:Int)+1<=j)&&decide (j<=(p.length:Int) - 1))=false:=by simpa using hj
  all_goals have fx:=qk w1 w2<|hj'
  repeat' (first|refine zl ?_|refine λ(K:St->Prop) hK=>?_|refine zL (hF:=fY _ _ _ _) (h:=?_))
  all_goals try clear fx
  all_goals refine qG [] .nil qH ?_
  all_goals simp_all [ac]
  intro h1 h2;exact absurd (hj h1) qA
theorem τ (gl) (p:qC) (b:Nat) (k:qT) (hk:p[b]?=some k) (hb:b<p.length) (hs:uA p):qM prog gl 120 [yu p,iv b] (λ_ y _=>y=bv (decide (uU b k))):=by
 have hpl:=hs.len;have w2:IntKind.i64.wrap ((b:Int) - 1)=b - 1:=qi qA qA;refine qM.qa func120 [.tmp 4] ntmps120 λC w g root=>?_;obtain⟨kind,parent,params,body⟩:=k;by_cases hp:2<=params.length
 .have c0:((params.length:Int)==0)=false:=Hy;have c1:((params.length:Int)==1)=false:=Hy
  all_goals have fx:=zC hk w2 c0<|c1
  repeat' (first|refine zl ?_|refine λ(K:St->Prop) hK=>?_|refine zL (hF:=fY _ _ _ _) (h:=?_)|(with_reducible refine yd (λht=>?_) (λht=>?_))|refine vj (h1:=λht=>?_) (h2:=λht=>?_))
  all_goals try clear fx
  all_goals refine qG [] .nil qH ?_
  all_goals simp_all [uU]
  all_goals (intros;omega)
 .rcases params with _|⟨x,_|⟨y,l⟩⟩
  rotate_left 2
  .simp at hp
  all_goals have fx:=aI hk<|w2
  repeat' (first|refine zl ?_|refine λ(K:St->Prop) hK=>?_|refine zL (hF:=fY _ _ _ _) (h:=?_)|refine zL (hF:=CT _ _) (h:=?_)|(with_reducible refine yd (λht=>?_) (λht=>?_))|refine vj (h1:=λht=>?_) (h2:=λht=>?_))
  all_goals try clear fx
  all_goals refine qG [] .nil qH ?_
  all_goals simp_all [uU]
  all_goals (intros;omega)
theorem ω (gl) (p:qC) (b:Nat) (k:qT) (s:qP) (hk:p[b]?=some k) (hs:uA p) (hb:b<p.length):qM prog gl 121 [yu p,iv b,qP.av s] (λ_ y _=>y=bv (zW p b k s)):=by
 refine qM.qa func121 [.tmp 6] ntmps121 λC w g root=>?_;obtain⟨kind,to,a,c⟩:=s
 all_goals have fx:= hk
 repeat' (first|refine zl ?_|refine λ(K:St->Prop) hK=>?_|refine fy (hF:=L8 _ ⟨kind,to,a,c⟩) (h:=?_)|refine zL (hF:=CT _ _) (h:=?_)|refine vj (h1:=λht=>?_) (h2:=λht=>?_))
 all_goals try clear fx
 .have hto:gk to=false:=by
   rw [pe];intro h;simp at h ht;omega
  refine qG [] .nil qH ?_;simp only [zW,hto]
  rfl
 have hto:gk to=true:=yE;generalize hr:qP.reads ⟨kind,to,a,c⟩=rs;have hrl:rs.length<=2:=hr ▸ qP.pG _;refine zU (λn st=>∃ i:Nat,n=rs.length - i/\i<=rs.length/\st.tm 1=iv b/\st.tm 3=.pt (.s 3) 0/\st.hp (.s 3)=some (.row 1 [[vK p]])/\st.tm 5=.pt (.s 5) 0/\st.hp (.s 5)=some (.row 4 [[iv kind,iv to,iv a,iv c]])/\st.tm 8=iv i/\st.tm 7=.hs (.s 7) 1 0 rs.length/\st.hp (.s 7)=some (.row 1 (qm rs))/\(rs.take i).all gk=true) rs.length ?_ ?_
 .exact⟨0,by simp [hr]⟩
 rintro n st - - ⟨i,rfl,hi,h1,h3,hp3,h5,hp5,h8,h7,hp7,hal⟩
 all_goals have fx:=jJ h1 h3 hp3 h5 hp5 h8 h7<|hp7
 repeat' (first|refine zl ?_|refine λ(K:St->Prop) hK=>?_)
 all_goals try clear fx
 refine y8 ya (λht=>?_) (λhf=>?_)
 .have hlt:i<rs.length:=yE;obtain⟨y,hy⟩:=gX hlt;obtain⟨_,hy'⟩:=gS hy
  all_goals have fx:=vA h1 h3 hp3 h5 hp5 h8 h7 hp7 hy'<|hlt
  repeat' (first|refine zl ?_|refine λ(K:St->Prop) hK=>?_|refine zL (hF:=CT _ _) (h:=?_)|refine vj (h1:=λht=>?_) (h2:=λht=>?_))
  all_goals try clear fx
  .have hno:gk y=false:=by
    rw [pe];intro h;simp at h ht;omega
   refine qG [] .nil qH ?_
   have hall:rs.all gk=false:=by
    rw [pe];intro h;have:=yS.1 h y (gM hy);rw [hno] at this
    cases this
   simp only [zW,hr,hall];simp
  .have hyes:gk y=true:=yE;refine⟨rs.length - (i+1),qA,i+1,rfl,qA,zx,jj,uJ,yV,be,zw,du,by simp [hp7],?_⟩;rw [vM,hy,List.all_append,hal];simp only [Option.toList_some,List.all_cons,List.all_nil,hyes]
   rfl
 .have hge:i=rs.length:=by
   have:¬ i<rs.length:=vH;omega
  subst hge;rw [wD] at hal
  have hok:zW p b k ⟨kind,to,a,c⟩=(if kind=0 then decide (0<=a)&&decide (a<=99)&&c==0 else if kind=1 then c==0 else if kind=2\/kind=5 then true
   else if kind=3 then c==0&&ac p b a 1 else if kind=4 then c==0&&ac p b a 2 else if kind=6 then gk c
   else if kind=7 then to==0&&c==0 else if kind=8 then to==0&&c==0&&k.kind==1
   else if kind=9\/kind=10 then a==0&&c==0&&k.kind != 0 else if kind=11 then a==0&&c==0 else false):=by
   simp only [zW,hr,hal,hto,dk]
  rw [hok];clear hok
  all_goals have fx:=j2 h1 h3 hp3 h5 hp5<|hk
  repeat' (first|refine zl ?_|refine λ(K:St->Prop) hK=>?_|refine zL (hF:=CT _ _) (h:=?_)|refine zL (hF:=fY _ _ _ _) (h:=?_)|refine zL (hF:=TP _ p b _ _ hs hb) (h:=?_)|(with_reducible refine yd (λht=>?_) (λht=>?_))|refine vj (h1:=λht=>?_) (h2:=λht=>?_))
  all_goals try clear fx
  all_goals refine qG [] .nil qH ?_
  all_goals simp_all
  all_goals (intros;omega)
abbrev F3:qb:=bQ<|.l 11 []<|.done
abbrev LI:qb:=bQ<|.l 11 [5,4,3,2]<|.q 12<|.done
theorem TQ (gl) (p:qC) (b:Nat) (k:qT) (hk:p[b]?=some k) (h0:0<b) (hh:zZ p) (hs:uA p):qM prog gl 122 [yu p,iv b] (λ_ y _=>y=iv (ae p b)):=by
 refine qM.qa func122 [.tmp 4] ntmps122 λC w g root=>?_;obtain⟨hp1,hp2,hp3⟩:=hh b k hk;have zF:b<p.length:=(gS hk).1;have hkp:=hp3 h0;obtain⟨q,hq⟩:∃ q,p[k.parent.toNat]?=some q:=⟨_,gE qA⟩;have hmi:ae p b=((q.body.filter (λs=>eP s b)).length:Int):=by simp only [ae,hk,hq]
 rw [hmi];have hql:=(hs.uu hq).body;have fx:=qk hk hq<|hkp;refine qQ ?_
 repeat ((first|refine qf (id:=2) F3 mixed ?_);refine zQ ?_;refine qQ ?_)
 clear fx;refine zU (λn st=>∃ i:Nat,n=q.body.length - i/\i<=q.body.length/\st.tm 1=iv b/\st.tm 6=eZ q.body/\st.tm 7=iv i/\∃ c:Nat,c=((q.body.take i).filter (λs=>eP s b)).length/\c<=i/\st.tm 5=iv c) q.body.length ?_ ?_
 .exact⟨0,qB⟩
 rintro n st - - ⟨i,rfl,hi,h1,h6,h7,c,hc,hci,h5⟩;have fx:=zC h1 h6 h7<|h5;refine qQ ?_
 repeat ((first|refine qf (id:=2) F3 mixed ?_);refine zQ ?_;refine qQ ?_)
 clear fx;refine y8 ya (λht=>?_) (λhf=>?_)
 .have hlt:i<q.body.length:=yE;obtain⟨s,hs⟩:=gX hlt
  all_goals have fx:=zM h1 h6 h7 h5<|hs
  repeat' (first|refine zl ?_|refine λ(K:St->Prop) hK=>?_|(with_reducible refine yd (λht=>?_) (λht=>?_))|refine vj (h1:=λht=>?_) (h2:=λht=>?_))
  all_goals try clear fx
  all_goals refine⟨q.body.length - (i+1),qA,i+1,rfl,qA,zx,aY,zw,?_⟩
  all_goals refine⟨_,rfl,?_⟩
  all_goals simp only [nJ hs,kC]
  all_goals simp_all [eP]
  all_goals first|exact qi qA qA|omega
 .have hge:i=q.body.length:=by
   have:¬ i<q.body.length:=vH;omega
  subst hge;rw [wD] at hc;have fx:= h5;refine qQ ?_
  repeat ((first|refine qf (id:=2) F3 mixed ?_);refine zQ ?_;refine qQ ?_)
  clear fx;refine qG [] .nil fJ (by simp [hc])
theorem υ (gl) (p:qC) (b:Nat) (k:qT) (hk:p[b]?=some k) (hb:b<p.length) (hs:uA p):qM prog gl 120 [yu p,iv b] (λ_ y _=>y=bv (a6 b k)):=τ gl p b k hk hb hs
theorem sD {A G G2:Prop} (k:G2) (x:A) (h:A->jP G2->G:=by
 intro fx kk;refine qQ ?_
 repeat ((first|refine qf (id:=11) LI mixed ?_);refine zQ ?_;refine qQ ?_)
 exact kk.h):G:=h x ⟨k⟩
theorem ψ (gl) (p:qC) (hs:uA p):qM prog gl 80 [yu p] (λ_ y _=>y=bv (wk p)):=by
 have hpl:=hs.len;refine qM.qa func80 [.tmp 2] ntmps80 λC w g root=>?_
 all_goals have fx:=qS
 repeat' (first|refine zl ?_|refine λ(K:St->Prop) hK=>?_|refine zL (hF:=fY _ _ _ _) (h:=?_)|refine vj (h1:=λht=>?_) (h2:=λht=>?_))
 all_goals try clear fx
 .refine qG [] .nil qH ?_
  have hno:(decide (1<=p.length)&&decide (p.length<=7))=false:=by
   rw [pe];intro h;simp at h ht;omega
  simp only [wk,hno]
  rfl
 have hyes:(decide (1<=p.length)&&decide (p.length<=7))=true:=by
  simp at ht ⊢;omega
 have hsh:wk p=((List.range p.length).all (aE p)&&(List.range p.length).all (λi=>i==0||ae p i==1)):=by
  simp only [wk,hyes,dk]
 rw [hsh];clear hsh;refine zU (λn st=>∃ i:Nat,n=p.length - i/\i<=p.length/\st.tm 1=.pt (.s 1) 0/\st.hp (.s 1)=some (.row 1 [[vK p]])/\st.tm 3=iv i/\(List.range i).all (aE p)=true) p.length ?_ ?_
 .exact⟨0,qB⟩
 rintro n st - - ⟨i,rfl,hi,h1,hp1,h3,hal⟩;refine sD ?_<|qk h1 hp1<|h3;refine y8 ya (λht=>?_) (λhf=>?_)
 .have hlt:i<p.length:=yE;obtain⟨k,hk⟩:=gX hlt;have hbf:aE p i=(a6 i k&&decide (k.body.length<=12)&&k.body.all (zW p i k)):=by simp only [aE,hk]
  have fin:∀ R:Bool,aE p i=false->((List.range p.length).all (aE p)&&R)=false:=λR h=>by rw [l0 hlt h];rfl
  have zF:=(hs.uu hk).body
  all_goals have fx:=zC h1 hp1 h3<|hk
  repeat' (first|refine zl ?_|refine λ(K:St->Prop) hK=>?_|refine zL (hF:=υ _ p i k hk hlt hs) (h:=?_)|(with_reducible refine yd (λht=>?_) (λht=>?_))|refine vj (h1:=λht=>?_) (h2:=λht=>?_))
  all_goals try clear fx
  .refine qG [] .nil qH ?_;rw [fin _ (by rw [hbf,show a6 i k=false by simpa using ht];rfl)]
   rfl
  .refine qG [] .nil qH ?_;rw [fin _ (by rw [hbf,show decide (k.body.length<=12)=false by simp at ht ⊢;omega];simp)]
   rfl
  rename_i ht1;have hhd:a6 i k=true:=by simpa using ht1
  have hbd:k.body.length<=12:=by simp at ht;omega
  refine zU (λn st=>∃ j:Nat,n=k.body.length - j/\j<=k.body.length/\st.tm 1=.pt (.s 1) 0/\st.hp (.s 1)=some (.row 1 [[vK p]])/\st.tm 3=iv i/\st.tm 4=iv j/\(k.body.take j).all (zW p i k)=true) k.body.length ?_ ?_
  .exact⟨0,by simp [h1,hp1,h3]⟩
  clear h1 hp1 h3 ht ht1;rintro n st - - ⟨j,rfl,hj,h1,hp1,h3,h4,haj⟩;refine sD ?_<|zM h1 hp1 h3 h4<|hk;refine y8 ya (λht=>?_) (λhf=>?_)
  .have hlj:j<k.body.length:=yE;obtain⟨s,hsj⟩:=gX hlj
   all_goals have fx:=j2 h1 hp1 h3 h4 hk<|hsj
   repeat' (first
    | refine wu ?_|refine bV ?_|refine au ?_|refine bW λK hK=>?_
    | ((with_reducible refine kJ hK ?_);clear hK K)
    | (with_reducible first|refine wt ?_|refine aq ?_|refine bN ?_|refine fp ?_)
    | refine bX ?_
    | (with_reducible refine wQ ?_)
    | (with_reducible first|refine bY (h:=?_))
    | ((with_reducible refine nA 121 rfl ?_);refine zL (hF:=ω _ p i k s hk hs hlt) (h:=?_))
    | (with_reducible refine ww (h:=?_))
    | (refine qf (id:=11) LI mixed λK hK=>?_)
    | ((with_reducible refine cO hK ?_);clear hK K)
    | ((with_reducible refine aV ?_);first|refine ll (h:=?_))
    | refine iY rfl ?_|(with_reducible refine aI ?_ ?_)|exact iK|refine iQ (h2:=?_)
    | refine vj (h1:=λht=>?_) (h2:=λht=>?_)
    | fail)
   all_goals try clear fx
   .refine qG [] .nil qH ?_;rw [fin _ (by rw [hbf,HV (gM hsj) (show zW p i k s=false by simpa using ht)];simp)]
    rfl
   .refine⟨k.body.length - (j+1),qA,j+1,rfl,qA,zx,vI,jj,zw,?_⟩;rw [vM,hsj,List.all_append,haj]
    simpa using ht
  .have hge:j=k.body.length:=by
    have:¬ j<k.body.length:=vH;omega
   subst hge;rw [wD] at haj;refine sD ?_<|zM h1 hp1 h3 h4<|hk;refine⟨p.length - (i+1),qA,i+1,rfl,qA,zx,vI,zw,?_⟩;rw [mI,hal,hbf,hhd,haj]
   simpa using hbd
 .have hge:i=p.length:=by
   have:¬ i<p.length:=vH;omega
  subst hge;have hh:=JQ hal;rw [hal,dk];refine sD ?_<|aI h1<|hp1;refine zU (λn st=>∃ i:Nat,n=p.length - i/\i<=p.length/\1<=i/\st.tm 1=.pt (.s 1) 0/\st.hp (.s 1)=some (.row 1 [[vK p]])/\st.tm 5=iv i/\(List.range i).all (λi=>i==0||ae p i==1)=true) (p.length - 1) ?_ ?_
  .refine⟨1,qA,?_,qA,by simp [h1,hp1]⟩;simp at hyes;omega
  clear h1 hp1 h3 hi;rintro n st - - ⟨i,rfl,hi,hi1,h1,hp1,h5,hmi⟩;refine sD ?_<|qk h1 hp1<|h5;refine y8 ya (λht=>?_) (λhf=>?_)
  .have hlt:i<p.length:=yE;obtain⟨k,hk⟩:=gX hlt
   all_goals have fx:=zC h1 hp1 h5<|@qx
   repeat' (first|refine zl ?_|refine λ(K:St->Prop) hK=>?_|refine zL (hF:=TQ _ p i k hk hi1 hh hs) (h:=?_)|refine vj (h1:=λht=>?_) (h2:=λht=>?_))
   all_goals try clear fx
   .refine qG [] .nil qH ?_;rw [l0 hlt (show (i==0||ae p i==1)=false by simp at ht ⊢;exact⟨qA,ht⟩)]
    rfl
   .refine⟨p.length - (i+1),qA,i+1,rfl,qA,qA,zx,vI,zw,?_⟩;rw [mI,hmi];simp at ht ⊢;exact .inr ht
  .have hge:i=p.length:=by
    have:¬ i<p.length:=vH;omega
   subst hge;refine sD ?_<|qS;refine qG [] .nil fJ (by simp [hmi])
end Go.Proofs.YtjgpejikjhojcaaGreatDoor
end
