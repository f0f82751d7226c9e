import Derived.Test.YtjgpejikjhojcaaGreatDoorR22
set_option linter.unusedSimpArgs false
set_option linter.unusedVariables false
set_option maxRecDepth 100000
set_option maxHeartbeats 4000000

section
namespace Go.Proofs.YtjgpejikjhojcaaGreatDoor
open Go Go.Hm Go.Proofs Tryz
theorem tR (gl) (p:qC) (hs:jt p):qM prog gl 44 [jB p] (λ_ y _=>y=bv (jq p)):=by
 have hpl:=hs.len;refine qM.q9 func44 [.tmp 2] ntmps44 λC w g root=>?_
 all_goals have fx:=qd
 repeat' (first|refine zm ?_|refine λ(K:St->Prop) hK=>?_|refine zH (hF:=N2 _ p hs) (h:=?_)|(with_reducible refine ye (λht=>?_) (λht=>?_))|refine vb (h1:=λht=>?_) (h2:=λht=>?_))
 all_goals try clear fx
 .refine qF [] .nil qE ?_;have:uk p=false:=yW;simp only [jq,this]
  rfl
 have hsh:uk p=true:=yW;obtain⟨hh,hl1,hl7,_,_⟩:=Aa hsh;have hpo:jq p=(List.range p.length).all (λb=>b==0||aB p b):=by simp only [jq,hsh,fJ]
 rw [hpo];clear hpo ht;refine zQ (λn st=>∃ i:Nat,n=p.length - i/\i<=p.length/\1<=i/\st.tm 1=.pt (.s 1) 0/\st.hp (.s 1)=some (.row 1 [[jc p]])/\st.tm 3=iv i/\(List.range i).all (λb=>b==0||aB p b)=true) (p.length - 1) ?_ ?_
 .exact⟨1,rfl,hl1,qA,qB⟩
 rintro n st - - ⟨i,rfl,hi,hi1,h1,hp1,h3,hal⟩;refine qJ ?_<|qk h1 hp1<|h3;refine vC vE (λht=>?_) (λhf=>?_)
 .have hlt:i<p.length:=yW;obtain⟨k,hk⟩:=gX hlt;have hpar:=(hs.ko hk).params;have hdo:aB p i=(List.range 8).all (λx=>w4 p i k (x:Int)):=by simp only [aB,hk]
  all_goals have fx:=zD h1 hp1 h3<|hk
  repeat' (first|refine zm ?_|refine λ(K:St->Prop) hK=>?_|refine wW (hF:=xe _ p i k _ hk (hs.ko hk)) (h:=?_)|(with_reducible refine ye (λht=>?_) (λht=>?_)))
  all_goals try clear fx
  refine zQ (λn st=>∃ x:Nat,n=8 - x/\x<=8/\st.tm 1=.pt (.s 1) 0/\st.hp (.s 1)=some (.row 1 [[jc p]])/\st.tm 3=iv i/\st.tm 4=.hs (.s 4) 1 0 (k.dc 9).length/\st.hp (.s 4)=some (.row 1 (qj (k.dc 9)))/\st.tm 5=.hs (.s 5) 1 0 (k.dc 10).length/\st.hp (.s 5)=some (.row 1 (qj (k.dc 10)))/\st.tm 6=iv x/\(List.range x).all (λx=>w4 p i k (x:Int))=true) 8 ?_ ?_
  .exact⟨0,by simp [h1,hp1,h3]⟩
  clear h1 hp1 h3 ht;rintro n st - - ⟨x,rfl,hx,h1,hp1,h3,h4,hp4,h5,hp5,h6,hax⟩;refine qJ ?_<|jN h1 hp1 h3 h4 hp4 h5 hp5<|h6;refine vC vE (λht=>?_) (λhf=>?_)
  .have hx7:(x:Int)<=7:=yW;have hx8:x<8:=qA
   all_goals have fx:=vI h1 hp1 h3 h4 hp4 h5 hp5 h6<|hk
   repeat' (first|refine zm ?_|refine λ(K:St->Prop) hK=>?_|refine zH (hF:=pK _ _ _ (by first|exact ur (qX.sL _ _) qe|omega)) (h:=?_)|refine zH (hF:=LP _ p i k _ hk hs hh) (h:=?_)|(with_reducible refine ye (λht=>?_) (λht=>?_))|refine vb (h1:=λht=>?_) (h2:=λht=>?_))
   all_goals try clear fx
   all_goals first
    | (have hd:w4 p i k x=false:=by
        simp only [w4];clear hal hax hpar hs hh h1 hp1 h3 h4 hp4 h5 hp5 h6 hdo hsh hk
        simp_all
       refine qF [] .nil qE ?_;rw [ld hlt (show (i==0||aB p i)=false by rw [hdo,ld hx8 hd];simp;omega)]
       rfl)
    | (have hd:w4 p i k x=true:=by
        simp only [w4];clear hal hax hpar hs hh h1 hp1 h3 h4 hp4 h5 hp5 h6 hdo hsh hk
        simp_all
       refine⟨8 - (x+1),qA,x+1,rfl,qA,zl,uS,uT,wv,wu,yH,wt,jM,?_⟩;rw [mL,hax,hd]
       rfl)
  .have hge:x=8:=by
    have:¬ (x:Int)<=7:=vT;omega
   subst hge;refine qJ ?_<|qk h1 hp1<|h3;refine⟨p.length - (i+1),qA,i+1,rfl,qA,qA,zl,uS,jM,?_⟩;rw [mL,hal,hdo,hax];simp
 .have hge:i=p.length:=by
   have:¬ i<p.length:=vT;omega
  subst hge;refine qJ ?_<|qd;refine qF [] .nil fW (by simp [hal])
end Go.Proofs.YtjgpejikjhojcaaGreatDoor
end
