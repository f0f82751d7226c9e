import Derived.Test.YtdnebaieamppbaaGreatDoorE28
set_option linter.unusedSimpArgs false
set_option linter.unusedVariables false
set_option maxRecDepth 100000
set_option maxHeartbeats 4000000

section
namespace Go.Proofs.YtdnebaieamppbaaGreatDoor
open Go Go.Hm Go.Proofs Tryz
theorem L1 (gl) (n x y:Int):qb prog gl 87 [iv n,iv x,iv y] (λ_ z _=>z=iv (jC n x y)):=by
 refine qb.Zl func87 [.tmp 6] ntmps87 λC w g root=>?_
 cases hc:(n==x)
 all_goals
  refine qC ?_<| hc;refine qD [] .nil qE ?_;simp at hc;simp [jC,hc]
theorem rG (gl) (s:Z9) (x y:Int):qb prog gl 88 [s.av,iv x,iv y] (λ_ z _=>z=(s.Zn x y).av):=by
 obtain⟨kind,to,a,b⟩:=s;refine qb.Zl func88 [.cell 6 138] ntmps88 λC w g root=>?_
 all_goals have fx:=Zk
 repeat' (first|refine qK ?_|refine λ(K:St->Prop) hK=>?_|refine qJ (hF:=Lq _ ⟨kind,to,a,b⟩) (h:=?_)|refine qJ (hF:=L1 _ _ x y) (h:=?_)|(with_reducible refine dX (λht=>?_) (λht=>?_))|refine gn (h1:=λht=>?_) (h2:=λht=>?_))
 all_goals try clear fx
 all_goals refine qD [] .nil qE ?_
 all_goals simp_all [Z9.Zn]
 all_goals (intro h;exfalso;simp only [Z9.qBN] at h;omega)
theorem ka (gl) (p:Z0) (c b:Nat) (hs:Sml p) (hh:zS p) (hc:c<p.length):qb prog gl 82 [pav p,iv c,iv b] (λ_ z _=>z=bv (qi p c b)):=by
 refine qb.Zl func82 [.tmp 6] ntmps82 λC w g root=>?_;refine qC ?_<|Zk;refine qX (λn st=>∃ j:Int,n=(j+1).toNat /\ -1<=j/\j<p.length/\qi p j b=qi p c b/\st.tm 1=iv j/\st.tm 2=iv b/\st.tm 3=.pt (.s 3) 0/\st.hp (.s 3)=some (.row 1 [[ksl p]])) (c+1) ?_ ?_
 .exact⟨c,qA,qA,qA,rfl,qB⟩
 rintro n st - - ⟨j,rfl,hj1,hj2,ho,h1,h2,h3,hp3⟩;refine qC ?_<|yE h1 h2 h3<|hp3;refine w9 zU (λht=>?_) (λhf=>?_)
 .have hj0:(b:Int)<j:=zJ;obtain⟨j,rfl⟩:∃ i:Nat,j=i:=⟨j.toNat,qA⟩;obtain⟨q,hq⟩:∃ q,p[j]?=some q:=⟨_,gE qA⟩;obtain⟨hq1,hq2,_⟩:=hh j q hq;refine qC ?_<|yS h1 h2 h3 hp3<|hq;refine⟨(q.parent+1).toNat,qA,q.parent,rfl,hq1,qA,?_,by simp [h2,h3,hp3]⟩;rw [<- ho,zr hh qA hq hj0]
 .have hj:j<=b:=ze
  all_goals have fx:=aI h1<|h2
  repeat' (first|refine qK ?_|refine λ(K:St->Prop) hK=>?_)
  all_goals try clear fx
  rw [zf hj] at ho;refine qD [] .nil qE ?_;rw [<- ho]
  rfl
theorem Pq (gl) (p:Z0) (b:Nat) (k:Za) (hk:p[b]?=some k) (hs:BSm k):qb prog gl 135 [pav p,iv b] (λr y H'=>y=.hs r 1 0 k.rd.length/\H' r=some (.row 1 (qT k.rd))):=Sy gl p b k hk hs.body
theorem db (gl) (p:Z0) (b:Nat) (k:Za) (hk:p[b]?=some k) (hs:BSm k):qb prog gl 84 [pav p,iv b] (λr y H'=>y=.hs r 1 0 k.us.length/\H' r=some (.row 1 (qT k.us))):=by
 have l1:=k.qDN;have l2:=k.qDT;have l3:=k.qBb 9;have l4:=k.qBb 10;have t1:(k.rd++k.bd).take (k.rd.length+k.bd.length)=k.rd++k.bd:=b9 qB;have t2:(k.rd++(k.bd++k.dc 9)).take (k.rd.length+k.bd.length+(k.dc 9).length)=k.rd++(k.bd++k.dc 9):=b9 qc;have hu:k.us=sorted (k.rd++(k.bd++(k.dc 9++k.dc 10))):=by simp [Za.us]
 rw [hu];refine qb.Zl func84 [.tmp 4] ntmps84 λC w g root=>?_
 all_goals have fx:=jI hk t1<|t2
 repeat' (first
  | refine vH ?_|refine kL λK hK=>?_
  | ((with_reducible refine vA hK ?_);clear hK K)
  | (with_reducible first|refine qV ?_|refine kz ?_)
  | refine aM ?_
  | (with_reducible first|refine jL ?_|refine zL (h:=?_)|refine lu (h:=?_)|refine jw (T:=32) (h:=?_))
  | ((with_reducible refine rr 135 rfl ?_);refine jP (hF:=Pq _ p b k hk hs) (h:=?_))
  | ((with_reducible refine rr 134 rfl ?_);refine jP (hF:=Iq _ p b k hk hs) (h:=?_))
  | ((with_reducible refine rr 131 rfl ?_);refine jP (hF:=jt _ p b k _ hk hs) (h:=?_))
  | ((with_reducible refine rr 105 rfl ?_);refine jP (hF:=wn _ (k.rd++(k.bd++(k.dc 9++k.dc 10))) qc) (h:=?_))
  | (refine Ze (id:=1) (.q 0<|.q 1<|.q 3<|.q 4<|.q 7<|.q 8<|.q 11<|.q 12<|.l 2 [12,11,8,7,4,3]<|.l 5 [12,11,8,7]<|.l 6 [12,11,8,7]<|.l 9 [12,11]<|.l 10 [12,11]<|.l 13 []<|.l 14 []<|.l 15 []<|.l 16 []<|.done) mixed λK hK=>?_)
  | ((with_reducible refine u7 hK ?_);clear hK K)
  | ((with_reducible refine dZ ?_);first|refine nC (h:=?_))
  | refine a_l rfl ?_|(with_reducible refine aI ?_ ?_)|exact vL|refine wj (h2:=?_)
  | fail)
 all_goals try clear fx
 all_goals
  exact jU (t:=4) zg zg qB
theorem JJ (gl) (p:Z0) (b:Int) (hs:Sml p):qb prog gl 133 [pav p,iv b] (λ_ y _=>y=bv (jh p&&(decide (0<=b)&&decide (b<=(p.length:Int) - 1)))):=by
 have hpl:=hs.len;have w2:IntKind.i64.wrap ((p.length:Int) - 1)=p.length - 1:=Zv qA qA;refine qb.Zl func133 [.tmp 4] ntmps133 λC w g root=>?_
 all_goals have fx:= w2
 repeat' (first|refine qK ?_|refine λ(K:St->Prop) hK=>?_|refine qJ (hF:=lw _ p hs) (h:=?_)|refine qJ (hF:=jH _ _ _ _) (h:=?_)|(with_reducible refine dX (λht=>?_) (λht=>?_))|refine gn (h1:=λht=>?_) (h2:=λht=>?_))
 all_goals try clear fx
 all_goals refine qD [] .nil qE ?_
 all_goals simp_all
theorem wM (gl) (p:Z0) (b x:Int) (hs:Sml p):qb prog gl 79 [pav p,iv b,iv x] (λ_ y _=>y=bv ((jh p&&(decide (0<=b)&&decide (b<=(p.length:Int) - 1)))&&(decide (0<=x)&&decide (x<=7)))):=by
 refine qb.Zl func79 [.tmp 6] ntmps79 λC w g root=>?_
 all_goals have fx:=Zk
 repeat' (first|refine qK ?_|refine λ(K:St->Prop) hK=>?_|refine qJ (hF:=JJ _ p b hs) (h:=?_)|refine qJ (hF:=jO _ _) (h:=?_)|(with_reducible refine dX (λht=>?_) (λht=>?_))|refine gn (h1:=λht=>?_) (h2:=λht=>?_))
 all_goals try clear fx
 all_goals refine qD [] .nil qE ?_
 all_goals simp_all
 all_goals (intro h1 h2 h3;have:=ht h1 h2;omega)
end Go.Proofs.YtdnebaieamppbaaGreatDoor
end
