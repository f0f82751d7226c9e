import Derived.Test.YtdnebaieamppbaaGreatDoorF23
set_option linter.unusedSimpArgs false
set_option linter.unusedVariables false
set_option maxRecDepth 100000
set_option maxHeartbeats 4000000

section
namespace Go.Proofs.YtdnebaieamppbaaGreatDoor
open Go Go.Hm Go.Proofs Tryz
theorem yO (gl) (p:YU) (hs:Zm p):qX prog gl 78 [Zc p] (λ_ y _=>y=bv (vL p)):=by
 have hpl:=hs.len;refine qX.Yb func78 [.tmp 2] ntmps78 λC w g root=>?_
 all_goals have fx:=Ya
 repeat' (first|refine qK ?_|refine λ(K:St->Prop) hK=>?_|refine qP (hF:=xR _ p hs) (h:=?_)|(with_reducible refine bq (λht=>?_) (λht=>?_))|refine cJ (h1:=λht=>?_) (h2:=λht=>?_))
 all_goals try clear fx
 .refine qE [] .nil qF ?_;have:yn p=false:=zE;simp only [vL,this]
  rfl
 have hsh:yn p=true:=zE;obtain⟨hh,hl1,hl7,_,_⟩:=cR hsh;have hpo:vL p=(List.range p.length).all (λb=>b==0||vJ p b):=by simp only [vL,hsh,sm]
 rw [hpo];clear hpo ht;refine qR (λn st=>∃ i:Nat,n=p.length - i/\i<=p.length/\1<=i/\st.tm 1=.pt (.s 1) 0/\st.hp (.s 1)=some (.row 1 [[ZY p]])/\st.tm 3=iv i/\(List.range i).all (λb=>b==0||vJ p b)=true) (p.length - 1) ?_ ?_
 .exact⟨1,rfl,hl1,qA,qB⟩
 rintro n st - - ⟨i,rfl,hi,hi1,h1,hp1,h3,hal⟩;refine qD ?_<|jD h1 hp1<|h3;refine wJ zK (λht=>?_) (λhf=>?_)
 .have hlt:i<p.length:=zE;obtain⟨k,hk⟩:=gX hlt;have hpar:=(hs.bsm hk).params;have hdo:vJ p i=(List.range 8).all (λx=>ux p i k (x:Int)):=by simp only [vJ,hk]
  all_goals have fx:=j4 h1 hp1 h3<|hk
  repeat' (first|refine qK ?_|refine λ(K:St->Prop) hK=>?_|refine jX (hF:=jV _ p i k _ hk (hs.bsm hk)) (h:=?_)|(with_reducible refine bq (λht=>?_) (λht=>?_)))
  all_goals try clear fx
  refine qR (λn st=>∃ x:Nat,n=8 - x/\x<=8/\st.tm 1=.pt (.s 1) 0/\st.hp (.s 1)=some (.row 1 [[ZY p]])/\st.tm 3=iv i/\st.tm 4=.hs (.s 4) 1 0 (k.dc 9).length/\st.hp (.s 4)=some (.row 1 (qS (k.dc 9)))/\st.tm 5=.hs (.s 5) 1 0 (k.dc 10).length/\st.hp (.s 5)=some (.row 1 (qS (k.dc 10)))/\st.tm 6=iv x/\(List.range x).all (λx=>ux p i k (x:Int))=true) 8 ?_ ?_
  .exact⟨0,by simp [h1,hp1,h3]⟩
  clear h1 hp1 h3 ht;rintro n st - - ⟨x,rfl,hx,h1,hp1,h3,h4,hp4,h5,hp5,h6,hax⟩;refine qD ?_<|ko h1 hp1 h3 h4 hp4 h5 hp5<|h6;refine wJ zK (λht=>?_) (λhf=>?_)
  .have hx7:(x:Int)<=7:=zE;have hx8:x<8:=qA
   all_goals have fx:=er h1 hp1 h3 h4 hp4 h5 hp5 h6<|hk
   repeat' (first|refine qK ?_|refine λ(K:St->Prop) hK=>?_|refine qP (hF:=uK _ _ _ (by first|exact uS (Y4.qAW _ _) qL|omega)) (h:=?_)|refine qP (hF:=wc _ p i k _ hk hs hh) (h:=?_)|(with_reducible refine bq (λht=>?_) (λht=>?_))|refine cJ (h1:=λht=>?_) (h2:=λht=>?_))
   all_goals try clear fx
   all_goals first
    | (have hd:ux p i k x=false:=by
        simp only [ux];clear hal hax hpar hs hh h1 hp1 h3 h4 hp4 h5 hp5 h6 hdo hsh hk
        simp_all
       refine qE [] .nil qF ?_;rw [yt hlt (show (i==0||vJ p i)=false by rw [hdo,yt hx8 hd];simp;omega)]
       rfl)
    | (have hd:ux p i k x=true:=by
        simp only [ux];clear hal hax hpar hs hh h1 hp1 h3 h4 hp4 h5 hp5 h6 hdo hsh hk
        simp_all
       refine⟨8 - (x+1),qA,x+1,rfl,qA,qz,jp,zN,jW,wU,zA,uz,q8,?_⟩;rw [j3,hax,hd]
       rfl)
  .have hge:x=8:=by
    have:¬ (x:Int)<=7:=zS;omega
   subst hge;refine qD ?_<|jD h1 hp1<|h3;refine⟨p.length - (i+1),qA,i+1,rfl,qA,qA,qz,jp,q8,?_⟩;rw [j3,hal,hdo,hax];simp
 .have hge:i=p.length:=by
   have:¬ i<p.length:=zS;omega
  subst hge;refine qD ?_<|Ya;refine qE [] .nil aS (by simp [hal])
abbrev Ov:Y8:=kr<|.q 10<|.q 11<|.l2 8 [11,10,5,4,3,2,1,0] (.l 9 [11,10,5,4,3,2,1,0]<|.l 12 [5,4,3,2,1,0]<|.q 13<|.l 14 [1,0]<|.l 15 []<|.q 16<|.l 17 []<|.done) 9 [11,10,7,6,5,4,3,2,1,0] (.l 8 [11,10,5,4,3,2,1,0]<|.l 12 [5,4,3,2,1,0]<|.q 13<|.l 14 [1,0]<|.l 15 []<|.q 16<|.l 17 []<|.done)
theorem se (gl) (p:YU) (hs:Zm p):qX prog gl 85 [Zc p] (λr y H'=>y=.agg [.hs r 4 0 p.length]/\Z3 H' r p):=by
 have hpl:=hs.len;refine qX.Yb func85 [.cell 2 25] ntmps85 λC w g root=>?_;have fx:=Ya;refine qI ?_
 repeat ((first|refine Y7 (id:=6) Ov mixed ?_);refine qW ?_;refine qI ?_)
 clear fx;refine qR (λn st=>∃ i:Nat,n=p.length - i/\i<=p.length/\st.tm 1=.pt (.s 1) 0/\st.hp (.s 1)=some (.row 1 [[ZY p]])/\st.tm 2=.pt (.s 2) 0/\st.hp (.s 2)=some (.row 1 [[.hs (.c (.s 2) 0 0) 4 0 0]])/\st.tm 3=.pt (.s 3) 0/\st.tm 4=iv i/\∃ q:YU,q=p.take i/\q.length=i/\st.hp (.s 3)=some (.row 1 [[.hs (.c (.s 3) 0 0) 4 0 q.length]])/\Z3 st.hp (.c (.s 3) 0 0) q) p.length ?_ ?_
 .refine⟨0,qA,qA,qB,qB,qB,qB,qB,qB,[],rfl,rfl,qB,qB,qB,qB⟩
 rintro n st - - ⟨i,rfl,hi,h1,hp1,h2,hp2,h3,h4,q,hq,hql,hp3,⟨ht1,ht2,ht3⟩⟩;have fx:=jD h1 hp1<|h4;refine qI ?_
 repeat ((first|refine Y7 (id:=6) Ov mixed ?_);refine qW ?_;refine qI ?_)
 clear fx;refine wJ zK (λht=>?_) (λhf=>?_)
 .have hlt:i<p.length:=zE;obtain⟨k,hk⟩:=gX hlt;obtain⟨hkp,hkb⟩:=hs.bsm hk;clear ht
  all_goals have fx:=kG h1 hp1 h4 h3 hp3 ht1<|hk
  repeat' (first
   | refine uZ ?_|refine ja ?_|refine yH ?_|refine kJ λK hK=>?_
   | ((with_reducible refine vX hK ?_);clear hK K)
   | (with_reducible first|refine q9 ?_|refine jC ?_|refine jB ?_|refine vI ?_|refine za ?_|refine vk ?_|refine w5 ?_|refine jo qL ?_)
   | refine kN ?_
   | refine kV ?_
   | (with_reducible first|refine jg ?_|refine zO (h:=?_)|refine dO (h:=?_)|refine vu (h:=?_)|refine yM (h:=?_)|refine jA (T:=134) (h:=?_)|refine jm (T:=134) (h:=?_)|refine jA (T:=23) (h:=?_)|refine Bl (T:=23) (h:=?_)|refine uY (h:=?_)|refine vG (h:=?_))
   | ((with_reducible refine nI 136 rfl ?_);refine jX (hF:=gy _ k.params qA) (h:=?_))
   | (with_reducible refine x_q (h:=?_))
   | refine j8 (h1:=?_)|refine jr (h1:=?_)
   | (refine Y7 (id:=6) Ov mixed λK hK=>?_)
   | ((with_reducible refine wI hK ?_);clear hK K)
   | ((with_reducible refine em ?_);first|refine su (h:=?_)|refine gL (h:=?_)|refine gN (h:=?_)|refine gK (h:=?_))
   | ((with_reducible refine em ?_);refine gO (h1:=λht=>?_) (h2:=λht=>?_))
   | refine a_l rfl ?_|refine G3 ?_ ?_|refine G1 ?_ ?_ ?_|(with_reducible refine aI ?_ ?_)|exact vi|refine cM (h2:=?_)
   | fail)
  all_goals try clear fx
  all_goals
   refine⟨p.length - (i+1),qA,i+1,rfl,qA,qz,jp,qj,qn,zN,q8,q++[k],by rw [dN,hk,hq];rfl,by simp [hql],qB,⟨?_,?_,?_⟩⟩
   .simp [ht1,Ca]
   .intro j r hj;rcases dS j q.length with hlj|hgj
    .rw [dX hlj] at hj;have hne:¬ j=q.length:=qA;simp [ht2 j r hj,hne]
    .rw [kh hgj] at hj
     obtain rfl:j=q.length:=by
      have:=(gS hj).1;simp at this;omega
     simp at hj;subst hj;simp
   .intro j r hj;rcases dS j q.length with hlj|hgj
    .rw [dX hlj] at hj;have hne:¬ j=q.length:=qA;simp [ht3 j r hj,hne]
    .rw [kh hgj] at hj
     obtain rfl:j=q.length:=by
      have:=(gS hj).1;simp at this;omega
     simp at hj;subst hj;simp
 .have hge:i=p.length:=by
   have:¬ i<p.length:=zS;omega
  have hqp:q=p:=by rw [hq,hge,kM]
  subst hqp;have fx:=yl h1 h2 hp2 h3<|hp3;refine qI ?_
  repeat ((first|refine Y7 (id:=6) Ov mixed ?_);refine qW ?_;refine qI ?_)
  clear fx;refine qE [(.c (.s 3) 0 0,root)] (.one rfl) aR ⟨qB,⟨?_,λj r hj=>?_,λj r hj=>?_⟩⟩
  .simp [ht1,zW (n:=.c (.s 3) 0 0) (m:=root) (f:=jY Z5 [(.c (.s 3) 0 0,root)]) (p:=q) qB]
  .simp [ht2 j r hj]
  .simp [ht3 j r hj]
theorem bp (gl) (p:YU) (c b:Nat) (hs:Zm p) (hh:zD p) (hc:c<p.length):qX prog gl 82 [Zc p,iv c,iv b] (λ_ z _=>z=bv (qy p c b)):=by
 refine qX.Yb func82 [.tmp 6] ntmps82 λC w g root=>?_;refine qD ?_<|Ya;refine qR (λn st=>∃ j:Int,n=(j+1).toNat /\ -1<=j/\j<p.length/\qy p j b=qy p c b/\st.tm 1=iv j/\st.tm 2=iv b/\st.tm 3=.pt (.s 3) 0/\st.hp (.s 3)=some (.row 1 [[ZY p]])) (c+1) ?_ ?_
 .exact⟨c,qA,qA,qA,rfl,qB⟩
 rintro n st - - ⟨j,rfl,hj1,hj2,ho,h1,h2,h3,hp3⟩;refine qD ?_<|j4 h1 h2 h3<|hp3;refine wJ zK (λht=>?_) (λhf=>?_)
 .have hj0:(b:Int)<j:=zE;obtain⟨j,rfl⟩:∃ i:Nat,j=i:=⟨j.toNat,qA⟩;obtain⟨q,hq⟩:∃ q,p[j]?=some q:=⟨_,gE qA⟩;obtain⟨hq1,hq2,_⟩:=hh j q hq;refine qD ?_<|yl h1 h2 h3 hp3<|hq;refine⟨(q.parent+1).toNat,qA,q.parent,rfl,hq1,qA,?_,by simp [h2,h3,hp3]⟩;rw [<- ho,zZ hh qA hq hj0]
 .have hj:j<=b:=zS
  all_goals have fx:=aI h1<|h2
  repeat' (first|refine qK ?_|refine λ(K:St->Prop) hK=>?_)
  all_goals try clear fx
  rw [zm hj] at ho;refine qE [] .nil qF ?_;rw [<- ho]
  rfl
theorem Or (gl) (p:YU) (b:Nat) (k:Y4) (hk:p[b]?=some k) (hs:BSm k):qX prog gl 135 [Zc p,iv b] (λr y H'=>y=.hs r 1 0 k.rd.length/\H' r=some (.row 1 (qS k.rd))):=Ri gl p b k hk hs.body
theorem EK (gl) (p:YU) (b:Nat) (k:Y4) (hk:p[b]?=some k) (hs:BSm k):qX prog gl 84 [Zc p,iv b] (λr y H'=>y=.hs r 1 0 k.us.length/\H' r=some (.row 1 (qS k.us))):=by
 have l1:=k.qBt;have l2:=k.qBy;have l3:=k.qAW 9;have l4:=k.qAW 10;have t1:(k.rd++k.bd).take (k.rd.length+k.bd.length)=k.rd++k.bd:=bC qB;have t2:(k.rd++(k.bd++k.dc 9)).take (k.rd.length+k.bd.length+(k.dc 9).length)=k.rd++(k.bd++k.dc 9):=bC qv;have hu:k.us=sorted (k.rd++(k.bd++(k.dc 9++k.dc 10))):=by simp [Y4.us]
 rw [hu];refine qX.Yb func84 [.tmp 4] ntmps84 λC w g root=>?_
 all_goals have fx:=jD hk t1<|t2
 repeat' (first
  | refine uZ ?_|refine kJ λK hK=>?_
  | ((with_reducible refine vX hK ?_);clear hK K)
  | (with_reducible first|refine q9 ?_|refine w5 ?_)
  | refine kV ?_
  | (with_reducible first|refine jg ?_|refine zO (h:=?_)|refine dO (h:=?_)|refine jm (T:=32) (h:=?_))
  | ((with_reducible refine nI 135 rfl ?_);refine jX (hF:=Or _ p b k hk hs) (h:=?_))
  | ((with_reducible refine nI 134 rfl ?_);refine jX (hF:=Hu _ p b k hk hs) (h:=?_))
  | ((with_reducible refine nI 131 rfl ?_);refine jX (hF:=jV _ p b k _ hk hs) (h:=?_))
  | ((with_reducible refine nI 105 rfl ?_);refine jX (hF:=ul _ (k.rd++(k.bd++(k.dc 9++k.dc 10))) qv) (h:=?_))
  | (refine Y7 (id:=1) (.q 0<|.q 1<|.q 3<|.q 4<|.q 7<|.q 8<|.q 11<|.q 12<|.l 2 [12,11,8,7,4,3]<|.l 5 [12,11,8,7]<|.l 6 [12,11,8,7]<|.l 9 [12,11]<|.l 10 [12,11]<|.l 13 []<|.l 14 []<|.l 15 []<|.l 16 []<|.done) mixed λK hK=>?_)
  | ((with_reducible refine wI hK ?_);clear hK K)
  | ((with_reducible refine em ?_);first|refine su (h:=?_))
  | refine a_l rfl ?_|(with_reducible refine aI ?_ ?_)|exact vi|refine cM (h2:=?_)
  | fail)
 all_goals try clear fx
 all_goals
  exact zq (t:=4) zT zT qB
end Go.Proofs.YtdnebaieamppbaaGreatDoor
end
