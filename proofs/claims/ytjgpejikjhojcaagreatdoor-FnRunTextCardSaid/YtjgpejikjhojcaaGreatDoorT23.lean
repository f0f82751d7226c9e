import Derived.Test.YtjgpejikjhojcaaGreatDoorT22
set_option linter.unusedSimpArgs false
set_option linter.unusedVariables false
set_option maxRecDepth 100000
set_option maxHeartbeats 4000000

section
namespace Go.Proofs.YtjgpejikjhojcaaGreatDoor
open Go Go.Hm Go.Proofs Tryz
theorem AW (gl) (p:qC) (hs:uA p):qM prog gl 44 [yu p] (λ_ y _=>y=bv (ye p)):=by
 have hpl:=hs.len;refine qM.qa func44 [.tmp 2] ntmps44 λC w g root=>?_
 all_goals have fx:=qS
 repeat' (first|refine zl ?_|refine λ(K:St->Prop) hK=>?_|refine zL (hF:=ψ _ p hs) (h:=?_)|(with_reducible refine yd (λht=>?_) (λht=>?_))|refine vj (h1:=λht=>?_) (h2:=λht=>?_))
 all_goals try clear fx
 .refine qG [] .nil qH ?_;have:wk p=false:=yE;simp only [ye,this]
  rfl
 have hsh:wk p=true:=yE;obtain⟨hh,hl1,hl7,_,_⟩:=AF hsh;have hpo:ye p=(List.range p.length).all (λb=>b==0||aL p b):=by simp only [ye,hsh,dk]
 rw [hpo];clear hpo ht;refine zU (λn st=>∃ i:Nat,n=p.length - i/\i<=p.length/\1<=i/\st.tm 1=.pt (.s 1) 0/\st.hp (.s 1)=some (.row 1 [[vK p]])/\st.tm 3=iv i/\(List.range i).all (λb=>b==0||aL p b)=true) (p.length - 1) ?_ ?_
 .exact⟨1,rfl,hl1,qA,qB⟩
 rintro n st - - ⟨i,rfl,hi,hi1,h1,hp1,h3,hal⟩;refine qI ?_<|qk h1 hp1<|h3;refine y8 ya (λht=>?_) (λhf=>?_)
 .have hlt:i<p.length:=yE;obtain⟨k,hk⟩:=gX hlt;have hpar:=(hs.uu hk).params;have hdo:aL p i=(List.range 8).all (λx=>w6 p i k (x:Int)):=by simp only [aL,hk]
  all_goals have fx:=zC h1 hp1 h3<|hk
  repeat' (first|refine zl ?_|refine λ(K:St->Prop) hK=>?_|refine fy (hF:=fU _ p i k _ hk (hs.uu hk)) (h:=?_)|(with_reducible refine yd (λht=>?_) (λht=>?_)))
  all_goals try clear fx
  refine zU (λn st=>∃ x:Nat,n=8 - x/\x<=8/\st.tm 1=.pt (.s 1) 0/\st.hp (.s 1)=some (.row 1 [[vK p]])/\st.tm 3=iv i/\st.tm 4=.hs (.s 4) 1 0 (k.dc 9).length/\st.hp (.s 4)=some (.row 1 (qm (k.dc 9)))/\st.tm 5=.hs (.s 5) 1 0 (k.dc 10).length/\st.hp (.s 5)=some (.row 1 (qm (k.dc 10)))/\st.tm 6=iv x/\(List.range x).all (λx=>w6 p i k (x:Int))=true) 8 ?_ ?_
  .exact⟨0,by simp [h1,hp1,h3]⟩
  clear h1 hp1 h3 ht;rintro n st - - ⟨x,rfl,hx,h1,hp1,h3,h4,hp4,h5,hp5,h6,hax⟩;refine qI ?_<|jJ h1 hp1 h3 h4 hp4 h5 hp5<|h6;refine y8 ya (λht=>?_) (λhf=>?_)
  .have hx7:(x:Int)<=7:=yE;have hx8:x<8:=qA
   all_goals have fx:=yz h1 hp1 h3 h4 hp4 h5 hp5 h6<|hk
   repeat' (first|refine zl ?_|refine λ(K:St->Prop) hK=>?_|refine zL (hF:=aM _ _ _ (by first|exact ka (qT.xK _ _) qc|omega)) (h:=?_)|refine zL (hF:=lS _ p i k _ hk hs hh) (h:=?_)|(with_reducible refine yd (λht=>?_) (λht=>?_))|refine vj (h1:=λht=>?_) (h2:=λht=>?_))
   all_goals try clear fx
   all_goals first
    | (have hd:w6 p i k x=false:=by
        simp only [w6];clear hal hax hpar hs hh h1 hp1 h3 h4 hp4 h5 hp5 h6 hdo hsh hk
        simp_all
       refine qG [] .nil qH ?_;rw [l0 hlt (show (i==0||aL p i)=false by rw [hdo,l0 hx8 hd];simp;omega)]
       rfl)
    | (have hd:w6 p i k x=true:=by
        simp only [w6];clear hal hax hpar hs hh h1 hp1 h3 h4 hp4 h5 hp5 h6 hdo hsh hk
        simp_all
       refine⟨8 - (x+1),qA,x+1,rfl,qA,zx,vI,jj,yr,aG,yV,be,zw,?_⟩;rw [mI,hax,hd]
       rfl)
  .have hge:x=8:=by
    have:¬ (x:Int)<=7:=vH;omega
   subst hge;refine qI ?_<|qk h1 hp1<|h3;refine⟨p.length - (i+1),qA,i+1,rfl,qA,qA,zx,vI,zw,?_⟩;rw [mI,hal,hdo,hax];simp
 .have hge:i=p.length:=by
   have:¬ i<p.length:=vH;omega
  subst hge;refine qI ?_<|qS;refine qG [] .nil fJ (by simp [hal])
end Go.Proofs.YtjgpejikjhojcaaGreatDoor
end
