import Derived.Test.YtjgpejikjhojcaaGreatDoorD24
set_option linter.all false
set_option maxRecDepth 100000
set_option maxHeartbeats 4000000
open Option renaming some->Z
open List renaming length->O

section
namespace Go.Proofs.YtjgpejikjhojcaaGreatDoor
open Go Go.Hm Go.Proofs Tryz
abbrev He:qV:=ax<|.q 13<|.q 14<|.q 16<|.q 17<|.q 19<|.q 20<|.l2 12 [20,19,17,16,14,13,6,5,4,3,2,1,0] (.l2 15 [20,19,17,16,6,5,4,3,2,1,0] (.l2 18 [20,19,6,5,4,3,2,1,0] (.l2 21 [6,5,4,3,2,1,0] (.q 22<|.l 23 [22,6,5,4,3,2,1,0]<|.l 24 []<|.done) 23 [20,19,6,5,4,3,2,1,0] (.l 21 [6,5,4,3,2,1,0]<|.q 22<|.l 24 []<|.done)) 23 [20,19,17,16,6,5,4,3,2,1,0] (.l 18 [20,19,6,5,4,3,2,1,0]<|.l 21 [6,5,4,3,2,1,0]<|.q 22<|.l 24 []<|.done)) 23 [20,19,17,16,14,13,6,5,4,3,2,1,0] (.l 15 [20,19,17,16,6,5,4,3,2,1,0]<|.l 18 [20,19,6,5,4,3,2,1,0]<|.l 21 [6,5,4,3,2,1,0]<|.q 22<|.l 24 []<|.done)) 23 [20,19,17,16,14,13,11,10,9,8,7,6,5,4,3,2,1,0] (.l 12 [20,19,17,16,14,13,6,5,4,3,2,1,0]<|.l 15 [20,19,17,16,6,5,4,3,2,1,0]<|.l 18 [20,19,6,5,4,3,2,1,0]<|.l 21 [6,5,4,3,2,1,0]<|.q 22<|.l 24 []<|.done)
abbrev Hf:qV:=xp<|.l 13 [7,6,5,4,1,0]<|.l 14 [7,6,5,4]<|.q 15<|.l 16 []<|.done
def qBs(gl)(p:qC)(b:Nat)(k:qY)(hk:p[b]?=Z k)(hP:bL p):qL prog gl 175 [jB p,iv b] (λr y H'=>y=.agg ((zQ p b).own r 0)/\eV H' r 0 (zQ p b)):=by
 have hs:=hP.bc;have hh:=hP.jK;have hl7:=hP.len;have hkm:=gM hk;obtain⟨qv,hbE⟩:=gS hk;have hk12:=hP.sh.body k hkm;have hkinds:=(hP.sh.names k hkm).kinds;obtain⟨hpl,_⟩:=hs.vu hk;have hcode:zQ p b=⟨k.kind,k.params,zB p b,qa p b,za p b,uK p b k.body⟩:=by simp[zQ,zS,hk]
 rw[hcode];refine qL.q9 func175 [.cell 4 198] ntmps175 λC w g root=>?_;have fx:=ql hk hbE<|qv;have d1:=GK gl k.params qA;have d2:=LK gl p b k hk hP;have d3:=xB gl p b k hk hs hh hl7;have d4:=G7 gl p b qv hs hh hl7;refine qK ?_
 first|refine qP (id:=1) He mixed ?_|refine qP (id:=5) Hf mixed ?_
 refine MC (λst=>st.tm 1=iv b/\st.tm 2=.pt (.s 2) 0/\st.hp (.s 2)=Z (.row 1 [[j6 p]])/\st.tm 6=iv 0/\st.tm 5=.pt (.s 5) 0/\st.tm 4=.pt (.s 4) 0/\st.hp (.s 4)=Z (.row 6 [iQ.own (.s 4) 0])/\st.hp (.s 5)=Z (.row 6 [vE.own (.s 5) 0 ⟨k.kind,k.params,zB p b,qa p b,za p b,[]⟩])/\st.hp (.c (.s 5) 0 1)=Z (.row 1 (qh k.params))/\st.hp (.c (.s 5) 0 2)=Z (.row 1 (qh (zB p b)))/\st.hp (.c (.s 5) 0 3)=Z (.row 1 (qh (qa p b)))/\st.hp (.c (.s 5) 0 4)=Z (.row 1 (qh (za p b)))/\st.hp (.c (.s 5) 0 5)=Z (.row 2 [])) ?_;clear fx d1 d2 d3 d4;rintro st ⟨h1,h2,hp2,h6,h5,h4,hp4,hp5,q1,q2,q3,q4,q5⟩;refine zK (λn st=>∃i:Nat,n=O k.body-i/\i<=O k.body/\st.tm 1=iv b/\st.tm 2=.pt (.s 2) 0/\st.hp (.s 2)=Z (.row 1 [[j6 p]])/\st.tm 6=iv i/\st.tm 5=.pt (.s 5) 0/\st.tm 4=.pt (.s 4) 0/\st.hp (.s 4)=Z (.row 6 [iQ.own (.s 4) 0])/\∃c:vE,c=⟨k.kind,k.params,zB p b,qa p b,za p b,uK p b (k.body.take i)⟩/\st.hp (.s 5)=Z (.row 6 [c.own (.s 5) 0])/\eV st.hp (.s 5) 0 c) (O k.body) ?_ ?_
 .refine⟨0,qA,qA,h1,h2,hp2,h6,h5,h4,hp4,_,rfl,?_,⟨?_,?_,?_,?_,?_⟩⟩
  all_goals simp[uK,hp5,q1,q2,q3,q4,q5]
 clear h1 h2 hp2 h6 h5 h4 hp4 hp5 q1 q2 q3 q4 q5;rintro n st - - ⟨i,rfl,hi,h1,h2,hp2,h6,h5,h4,hp4,c,hc,hp5,⟨o1,o2,o3,o4,o5⟩⟩;have hll:=FI (p:=p) (b:=b) (k.body.take i);rw[ge]at hll;by_cases hil:i<O k.body
 .obtain⟨s,hss⟩:=gX hil;obtain⟨_,hsE⟩:=gS hss;have hnx:=Jt (p:=p) (b:=b) hss;have hsl:=I8 (p:=p) (b:=b) (s:=s);generalize hL:uK p b (k.body.take i)=L at hc hnx hll;subst hc;simp only[vE.B7]at hp5 o1 o2 o3 o4 o5;have fx:=qg h1 h2 hp2 h6 h5 hp5 o1 o2 o3 o4 o5 hk<|zy hbE qv hss hsE hil hll<|hsl;have d1:=qBv gl p b k s hk hP (hkinds s (gM hss));refine qK ?_
  repeat((first|refine qP (id:=1) He mixed ?_|refine qP (id:=5) Hf mixed ?_);refine zC ?_;refine qK ?_)
  clear fx d1;refine⟨O k.body-(i+1),qA,i+1,rfl,qA,zY,jS,jV,zr,jh,vO,aJ,_,rfl,?_,⟨?_,?_,?_,?_,?_⟩⟩
  all_goals simp[hnx,o1,o2,o3,o4,o5,hp5]
 .have hge:i=O k.body:=qA;subst hge;rw[kC]at hc;subst hc;simp only[vE.B7]at hp5 o1 o2 o3 o4 o5;have fx:=qg h1 h2 hp2 h6 h5 h4 hp4 hp5 o1 o2 o3 o4<|zJ o5 hk hbE qv<|hil;refine qK ?_
  repeat((first|refine qP (id:=1) He mixed ?_|refine qP (id:=5) Hf mixed ?_);refine zC ?_;refine qK ?_)
  clear fx;refine qE [(.s 5,root)] (.one rfl) Cj ⟨?_,⟨?_,?_,?_,?_,?_⟩⟩
  all_goals simp[h4,o1,o2,o3,o4,o5]
def qBr(gl)(p:qC)(hP:bL p):qL prog gl 128 [jB p] (λr y H'=>y=.hs r 6 0 (O (jo p (O p)))/\AP H' r (jo p (O p))):=by
 have hl7:=hP.len;refine qL.q9 func128 [.tmp 2] ntmps128 λC w g root=>?_;refine qH ?_<|qW;refine zK (λn st=>∃i:Nat,n=O p-i/\i<=O p/\st.tm 1=.pt (.s 1) 0/\st.hp (.s 1)=Z (.row 1 [[j6 p]])/\st.tm 4=iv i/\∃cs:List vE,cs=jo p i/\O cs=i/\st.tm 3=.hs (.s 3) 6 0 (O cs)/\AP st.hp (.s 3) cs) (O p) ?_ ?_
 .refine⟨0,qA,qA,qB,qB,qB,[],qB,rfl,qB,⟨qB,λi c h=>by simp at h⟩⟩
 rintro n st - - ⟨i,rfl,hi,h1,hp1,h4,cs,hcs,hcl,h3,⟨ht,he⟩⟩;by_cases hil:i<O p
 .obtain⟨k,hk⟩:=gX hil;have hnx:=Kn (p:=p) (n:=i);have hcc:=qBs gl p i k hk hP;rw[<- hcs]at hnx;generalize hC:zQ p i=c at hcc hnx;have hcl7:O cs<=7:=qA;have fx:=qz h1 hp1 h4<|hil;have e1:=hcc;refine qK ?_;clear fx e1;rintro K hK y H' ⟨rfl,hO⟩;obtain⟨o1,o2,o3,o4,o5⟩:=hO.vj;refine⟨qB,?_⟩;refine qH ?_<|jU h1 hp1 h4 h3 ht hcl7 o1 o2 o3 o4<|o5;refine⟨O p-(i+1),qA,i+1,rfl,qA,zY,vY,FO,cs++[c],hnx.symm,by simp[hcl],qB,⟨?_,λj d hj=>?_⟩⟩
  .simp [ht,MD]
  .rcases dN j (O cs)with hlj|hgj
   .rw [ua hlj]at hj;have hne:¬j=O cs:=qA;obtain⟨e1,e2,e3,e4,e5⟩:=he j d hj;exact⟨by simp[hne,e1],by simp[hne,e2],by simp[hne,e3],by simp[hne,e4],by simp[hne,e5]⟩
   .rw [bn hgj]at hj
    obtain rfl:j=O cs:=by
     have:=(gS hj).1;simp at this;omega
    simp at hj;subst hj;exact⟨by simp[o1],by simp[o2],by simp[o3],by simp[o4],by simp[o5]⟩
 .have hge:i=O p:=qA;subst hge;subst hcs;refine qH ?_<|zx h1 hp1 h4 hil h3<|ht;refine qE [(.s 2,root)] (.one rfl) qD ⟨qB,⟨by simp[ht,xM (n:=.s 2) (m:=root) (f:=zH zl [(.s 2,root)]) qB],λj d hj=>?_⟩⟩;obtain⟨e1,e2,e3,e4,e5⟩:=he j d hj;exact⟨by simp[e1],by simp[e2],by simp[e3],by simp[e4],by simp[e5]⟩
end Go.Proofs.YtjgpejikjhojcaaGreatDoor
end
