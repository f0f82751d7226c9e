import Derived.Test.YtdnebaieamppbaaGreatDoorE27
set_option linter.unusedSimpArgs false
set_option linter.unusedVariables false
set_option maxRecDepth 100000
set_option maxHeartbeats 4000000

section
namespace Go.Proofs.YtdnebaieamppbaaGreatDoor
open Go Go.Hm Go.Proofs Tryz
theorem qr (gl) (p:Z0) (hs:Sml p):qb prog gl 78 [pav p] (λ_ y _=>y=bv (jF p)):=by
 have hpl:=hs.len;refine qb.Zl func78 [.tmp 2] ntmps78 λC w g root=>?_
 all_goals have fx:=Zk
 repeat' (first|refine qK ?_|refine λ(K:St->Prop) hK=>?_|refine qJ (hF:=lw _ p hs) (h:=?_)|(with_reducible refine dX (λht=>?_) (λht=>?_))|refine gn (h1:=λht=>?_) (h2:=λht=>?_))
 all_goals try clear fx
 .refine qD [] .nil qE ?_;have:jh p=false:=zJ;simp only [jF,this]
  rfl
 have hsh:jh p=true:=zJ;obtain⟨hh,hl1,hl7,_,_⟩:=a7 hsh;have hpo:jF p=(List.range p.length).all (λb=>b==0||vD p b):=by simp only [jF,hsh,pP]
 rw [hpo];clear hpo ht;refine qX (λn st=>∃ i:Nat,n=p.length - i/\i<=p.length/\1<=i/\st.tm 1=.pt (.s 1) 0/\st.hp (.s 1)=some (.row 1 [[ksl p]])/\st.tm 3=iv i/\(List.range i).all (λb=>b==0||vD p b)=true) (p.length - 1) ?_ ?_
 .exact⟨1,rfl,hl1,qA,qB⟩
 rintro n st - - ⟨i,rfl,hi,hi1,h1,hp1,h3,hal⟩;refine qC ?_<|jI h1 hp1<|h3;refine w9 zU (λht=>?_) (λhf=>?_)
 .have hlt:i<p.length:=zJ;obtain⟨k,hk⟩:=gX hlt;have hpar:=(hs.bsm hk).params;have hdo:vD p i=(List.range 8).all (λx=>qAI p i k (x:Int)):=by simp only [vD,hk]
  all_goals have fx:=yE h1 hp1 h3<|hk
  repeat' (first|refine qK ?_|refine λ(K:St->Prop) hK=>?_|refine jP (hF:=jt _ p i k _ hk (hs.bsm hk)) (h:=?_)|(with_reducible refine dX (λht=>?_) (λht=>?_)))
  all_goals try clear fx
  refine qX (λn st=>∃ x:Nat,n=8 - x/\x<=8/\st.tm 1=.pt (.s 1) 0/\st.hp (.s 1)=some (.row 1 [[ksl p]])/\st.tm 3=iv i/\st.tm 4=.hs (.s 4) 1 0 (k.dc 9).length/\st.hp (.s 4)=some (.row 1 (qT (k.dc 9)))/\st.tm 5=.hs (.s 5) 1 0 (k.dc 10).length/\st.hp (.s 5)=some (.row 1 (qT (k.dc 10)))/\st.tm 6=iv x/\(List.range x).all (λx=>qAI p i k (x:Int))=true) 8 ?_ ?_
  .exact⟨0,by simp [h1,hp1,h3]⟩
  clear h1 hp1 h3 ht;rintro n st - - ⟨x,rfl,hx,h1,hp1,h3,h4,hp4,h5,hp5,h6,hax⟩;refine qC ?_<|kO h1 hp1 h3 h4 hp4 h5 hp5<|h6;refine w9 zU (λht=>?_) (λhf=>?_)
  .have hx7:(x:Int)<=7:=zJ;have hx8:x<8:=qA
   all_goals have fx:=bA h1 hp1 h3 h4 hp4 h5 hp5 h6<|hk
   repeat' (first|refine qK ?_|refine λ(K:St->Prop) hK=>?_|refine qJ (hF:=vM _ _ _ (by first|exact vk (Za.qBb _ _) qO|omega)) (h:=?_)|refine qJ (hF:=ae _ p i k _ hk hs hh) (h:=?_)|(with_reducible refine dX (λht=>?_) (λht=>?_))|refine gn (h1:=λht=>?_) (h2:=λht=>?_))
   all_goals try clear fx
   all_goals first
    | (have hd:qAI p i k x=false:=by
        simp only [qAI];clear hal hax hpar hs hh h1 hp1 h3 h4 hp4 h5 hp5 h6 hdo hsh hk
        simp_all
       refine qD [] .nil qE ?_;rw [vT hlt (show (i==0||vD p i)=false by rw [hdo,vT hx8 hd];simp;omega)]
       rfl)
    | (have hd:qAI p i k x=true:=by
        simp only [qAI];clear hal hax hpar hs hh h1 hp1 h3 h4 hp4 h5 hp5 h6 hdo hsh hk
        simp_all
       refine⟨8 - (x+1),qA,x+1,rfl,qA,qy,jy,qt,jp,kj,z7,kh,zD,?_⟩;rw [jz,hax,hd]
       rfl)
  .have hge:x=8:=by
    have:¬ (x:Int)<=7:=ze;omega
   subst hge;refine qC ?_<|jI h1 hp1<|h3;refine⟨p.length - (i+1),qA,i+1,rfl,qA,qA,qy,jy,zD,?_⟩;rw [jz,hal,hdo,hax];simp
 .have hge:i=p.length:=by
   have:¬ i<p.length:=ze;omega
  subst hge;refine qC ?_<|Zk;refine qD [] .nil bu (by simp [hal])
abbrev Pv:Zh:=aS<|.q 10<|.q 11<|.l2 8 [11,10,5,4,3,2,1,0] (.l 9 [11,10,5,4,3,2,1,0]<|.l 12 [5,4,3,2,1,0]<|.q 13<|.l 14 [1,0]<|.l 15 []<|.q 16<|.l 17 []<|.done) 9 [11,10,7,6,5,4,3,2,1,0] (.l 8 [11,10,5,4,3,2,1,0]<|.l 12 [5,4,3,2,1,0]<|.q 13<|.l 14 [1,0]<|.l 15 []<|.q 16<|.l 17 []<|.done)
theorem ig (gl) (p:Z0) (hs:Sml p):qb prog gl 85 [pav p] (λr y H'=>y=.agg [.hs r 4 0 p.length]/\qAb H' r p):=by
 have hpl:=hs.len;refine qb.Zl func85 [.cell 2 25] ntmps85 λC w g root=>?_;have fx:=Zk;refine qG ?_
 repeat ((first|refine Ze (id:=6) Pv mixed ?_);refine qZ ?_;refine qG ?_)
 clear fx;refine qX (λn st=>∃ i:Nat,n=p.length - i/\i<=p.length/\st.tm 1=.pt (.s 1) 0/\st.hp (.s 1)=some (.row 1 [[ksl p]])/\st.tm 2=.pt (.s 2) 0/\st.hp (.s 2)=some (.row 1 [[.hs (.c (.s 2) 0 0) 4 0 0]])/\st.tm 3=.pt (.s 3) 0/\st.tm 4=iv i/\∃ q:Z0,q=p.take i/\q.length=i/\st.hp (.s 3)=some (.row 1 [[.hs (.c (.s 3) 0 0) 4 0 q.length]])/\qAb st.hp (.c (.s 3) 0 0) q) p.length ?_ ?_
 .refine⟨0,qA,qA,qB,qB,qB,qB,qB,qB,[],rfl,rfl,qB,qB,qB,qB⟩
 rintro n st - - ⟨i,rfl,hi,h1,hp1,h2,hp2,h3,h4,q,hq,hql,hp3,⟨ht1,ht2,ht3⟩⟩;have fx:=jI h1 hp1<|h4;refine qG ?_
 repeat ((first|refine Ze (id:=6) Pv mixed ?_);refine qZ ?_;refine qG ?_)
 clear fx;refine w9 zU (λht=>?_) (λhf=>?_)
 .have hlt:i<p.length:=zJ;obtain⟨k,hk⟩:=gX hlt;obtain⟨hkp,hkb⟩:=hs.bsm hk;clear ht
  all_goals have fx:=u4 h1 hp1 h4 h3 hp3 ht1<|hk
  repeat' (first
   | refine vH ?_|refine jd ?_|refine yH ?_|refine kL λK hK=>?_
   | ((with_reducible refine vA hK ?_);clear hK K)
   | (with_reducible first|refine qV ?_|refine jS ?_|refine jQ ?_|refine vW ?_|refine j6 ?_|refine kH ?_|refine kz ?_|refine jx qO ?_)
   | refine kR ?_
   | refine aM ?_
   | (with_reducible first|refine jL ?_|refine zL (h:=?_)|refine lu (h:=?_)|refine u5 (h:=?_)|refine jA (h:=?_)|refine jW (T:=134) (h:=?_)|refine jw (T:=134) (h:=?_)|refine jW (T:=23) (h:=?_)|refine Cj (T:=23) (h:=?_)|refine bB (h:=?_)|refine yV (h:=?_))
   | ((with_reducible refine rr 136 rfl ?_);refine jP (hF:=lU _ k.params qA) (h:=?_))
   | (with_reducible refine x_q (h:=?_))
   | refine jr (h1:=?_)|refine yF (h1:=?_)
   | (refine Ze (id:=6) Pv mixed λK hK=>?_)
   | ((with_reducible refine u7 hK ?_);clear hK K)
   | ((with_reducible refine dZ ?_);first|refine nC (h:=?_)|refine pC (h:=?_)|refine pD (h:=?_)|refine pB (h:=?_))
   | ((with_reducible refine dZ ?_);refine pE (h1:=λht=>?_) (h2:=λht=>?_))
   | refine a_l rfl ?_|refine Kq ?_ ?_|refine Kp ?_ ?_ ?_|(with_reducible refine aI ?_ ?_)|exact vL|refine wj (h2:=?_)
   | fail)
  all_goals try clear fx
  all_goals
   refine⟨p.length - (i+1),qA,i+1,rfl,qA,qy,jy,ql,zF,qt,zD,q++[k],by rw [uQ,hk,hq];rfl,by simp [hql],qB,⟨?_,?_,?_⟩⟩
   .simp [ht1,D8]
   .intro j r hj;rcases fF j q.length with hlj|hgj
    .rw [uW hlj] at hj;have hne:¬ j=q.length:=qA;simp [ht2 j r hj,hne]
    .rw [b7 hgj] at hj
     obtain rfl:j=q.length:=by
      have:=(gS hj).1;simp at this;omega
     simp at hj;subst hj;simp
   .intro j r hj;rcases fF j q.length with hlj|hgj
    .rw [uW hlj] at hj;have hne:¬ j=q.length:=qA;simp [ht3 j r hj,hne]
    .rw [b7 hgj] at hj
     obtain rfl:j=q.length:=by
      have:=(gS hj).1;simp at this;omega
     simp at hj;subst hj;simp
 .have hge:i=p.length:=by
   have:¬ i<p.length:=ze;omega
  have hqp:q=p:=by rw [hq,hge,an]
  subst hqp;have fx:=yS h1 h2 hp2 h3<|hp3;refine qG ?_
  repeat ((first|refine Ze (id:=6) Pv mixed ?_);refine qZ ?_;refine qG ?_)
  clear fx;refine qD [(.c (.s 3) 0 0,root)] (.one rfl) wJ ⟨qB,⟨?_,λj r hj=>?_,λj r hj=>?_⟩⟩
  .simp [ht1,zA (n:=.c (.s 3) 0 0) (m:=root) (f:=jc noD [(.c (.s 3) 0 0,root)]) (p:=q) qB]
  .simp [ht2 j r hj]
  .simp [ht3 j r hj]
end Go.Proofs.YtdnebaieamppbaaGreatDoor
end
