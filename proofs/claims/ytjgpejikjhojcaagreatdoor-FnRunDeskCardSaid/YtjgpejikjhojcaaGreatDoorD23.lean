import Derived.Test.YtjgpejikjhojcaaGreatDoorD22
set_option linter.all false
set_option maxRecDepth 100000
set_option maxHeartbeats 4000000
open Option renaming some->Z
open Bool renaming true->B,false->M
open List renaming length->O

section
namespace Go.Proofs.YtjgpejikjhojcaaGreatDoor
open Go Go.Hm Go.Proofs Tryz
theorem lu(gl)(p:qC)(hs:jm p):qL prog gl 44 [jB p] (λ_ y _=>y=bv (j2 p)):=by
 have hpl:=hs.len;refine qL.q9 func44 [.tmp 2] ntmps44 λC w g root=>?_
 all_goals have fx:=qW
 repeat'(first|refine zf ?_|refine λ(K:St->Prop)hK=>?_|refine zL (hF:=Pf _ p hs) (h:=?_)|(with_reducible refine yr (λht=>?_) (λht=>?_))|refine vr (h1:=λht=>?_) (h2:=λht=>?_))
 all_goals try clear fx
 .refine qE [] .nil qD ?_;have:kL p=M:=yJ;simp only[j2,this]
  rfl
 have hsh:kL p=B:=yJ;obtain⟨hh,hl1,hl7,_,_⟩:=Bx hsh;have hpo:j2 p=(List.range (O p)).all (λb=>b==0||am p b):=by simp only[j2,hsh,gj]
 rw[hpo];clear hpo ht;refine zK (λn st=>∃i:Nat,n=O p-i/\i<=O p/\1<=i/\st.tm 1=.pt (.s 1) 0/\st.hp (.s 1)=Z (.row 1 [[j6 p]])/\st.tm 3=iv i/\(List.range i).all (λb=>b==0||am p b)=B) (O p-1) ?_ ?_
 .exact⟨1,rfl,hl1,qA,qB⟩
 rintro n st - - ⟨i,rfl,hi,hi1,h1,hp1,h3,hal⟩;refine qH ?_<|ql h1 hp1<|h3;refine yk yq (λht=>?_) (λhf=>?_)
 .have hlt:i<O p:=yJ;obtain⟨k,hk⟩:=gX hlt;have hpar:=(hs.vu hk).params;have hdo:am p i=(List.range 8).all (λx=>aM p i k (x:Int)):=by simp only[am,hk]
  all_goals have fx:=qz h1 hp1 h3<|hk
  repeat'(first|refine zf ?_|refine λ(K:St->Prop)hK=>?_|refine w8 (hF:=fZ _ p i k _ hk (hs.vu hk)) (h:=?_)|(with_reducible refine yr (λht=>?_) (λht=>?_)))
  all_goals try clear fx
  refine zK (λn st=>∃x:Nat,n=8-x/\x<=8/\st.tm 1=.pt (.s 1) 0/\st.hp (.s 1)=Z (.row 1 [[j6 p]])/\st.tm 3=iv i/\st.tm 4=.hs (.s 4) 1 0 (O (k.dc 9))/\st.hp (.s 4)=Z (.row 1 (qh (k.dc 9)))/\st.tm 5=.hs (.s 5) 1 0 (O (k.dc 10))/\st.hp (.s 5)=Z (.row 1 (qh (k.dc 10)))/\st.tm 6=iv x/\(List.range x).all (λx=>aM p i k (x:Int))=B) 8 ?_ ?_
  .exact⟨0,by simp[h1,hp1,h3]⟩
  clear h1 hp1 h3 ht;rintro n st - - ⟨x,rfl,hx,h1,hp1,h3,h4,hp4,h5,hp5,h6,hax⟩;refine qH ?_<|jA h1 hp1 h3 h4 hp4 h5 hp5<|h6;refine yk yq (λht=>?_) (λhf=>?_)
  .have hx7:(x:Int)<=7:=yJ;have hx8:x<8:=qA
   all_goals have fx:=y9 h1 hp1 h3 h4 hp4 h5 hp5 h6<|hk
   repeat'(first|refine zf ?_|refine λ(K:St->Prop)hK=>?_|refine zL (hF:=wT _ _ _ (by first|exact uV (qY.rb _ _) qf|omega)) (h:=?_)|refine zL (hF:=my _ p i k _ hk hs hh) (h:=?_)|(with_reducible refine yr (λht=>?_) (λht=>?_))|refine vr (h1:=λht=>?_) (h2:=λht=>?_))
   all_goals try clear fx
   all_goals first
    |(have hd:aM p i k x=M:=by
       simp only[aM];clear hal hax hpar hs hh h1 hp1 h3 h4 hp4 h5 hp5 h6 hdo hsh hk
       simp_all
      refine qE [] .nil qD ?_;rw[nH hlt (show(i==0||am p i)=M by rw[hdo,nH hx8 hd];simp;omega)]
      rfl)
    |(have hd:aM p i k x=B:=by
       simp only[aM];clear hal hax hpar hs hh h1 hp1 h3 h4 hp4 h5 hp5 h6 hdo hsh hk
       simp_all
      refine⟨8-(x+1),qA,x+1,rfl,qA,zY,vY,jr,vO,aJ,jh,kw,zr,?_⟩;rw[oG,hax,hd]
      rfl)
  .have hge:x=8:=by
    have:¬(x:Int)<=7:=vP;omega
   subst hge;refine qH ?_<|ql h1 hp1<|h3;refine⟨O p-(i+1),qA,i+1,rfl,qA,qA,zY,vY,zr,?_⟩;rw[oG,hal,hdo,hax];simp
 .have hge:i=O p:=by
   have:¬i<O p:=vP;omega
  subst hge;refine qH ?_<|qW;refine qE [] .nil gx (by simp[hal])
end Go.Proofs.YtjgpejikjhojcaaGreatDoor
end
