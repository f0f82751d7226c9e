import Derived.Test.YtjgpejikjhojcaaGreatDoorR41
import Derived.Test.YtjgpejikjhojcaaGreatDoorR23
set_option linter.unusedSimpArgs false
set_option linter.unusedVariables false
set_option maxRecDepth 100000
set_option maxHeartbeats 4000000

section
namespace Go.Proofs.YtjgpejikjhojcaaGreatDoor
open Go Go.Hm Go.Proofs Tryz
abbrev Lp:qV:=A5<|.l 10 [8,7,6,5,4,3,2,1,0]<|.l 11 [3,2,1,0]<|.q 12<|.q 13<|.l 14 []<|.done
abbrev Lq:qV:=A5<|.l 10 [4,3,2,1,0]<|.q 11<|.l 12 [11,4,3,2,1]<|.l 13 []<|.done
attribute [local simp] wC
theorem L3 {a b:List qU} {p q:qC} (h:uL a p=some q):uL (a++b) p=uL b q:=by
 induction a generalizing p with
 | nil=>simp [uL] at h;subst h;rfl
 | cons l a ih =>
  rw [fK];simp only [uL] at h ⊢
  cases hl:wX p l with
  | none=>rw [hl] at h;cases h
  | some r=>rw [hl] at h;exact ih h
theorem L4 {L:List qU} {i:Nat} {l:qU} {p q r:qC} (hi:L[i]?=some l) (h:uL (L.take i) p=some q) (hl:wX q l=some r):uL (L.take (i+1)) p=some r:=by
 rw [uG,hi,L3 h];simp [uL,hl]
theorem Uv {L:List qU} {i:Nat} {l:qU} {p q:qC} (hi:L[i]?=some l) (h:uL (L.take i) p=some q) (hl:wX q l=none):uL L p=none:=by
 have e:L=L.take i++l::L.drop (i+1):=by
  obtain⟨h1,hE⟩:=gS hi
  conv=>lhs;rw [<- rI i L]
  rw [gV h1,hE]
 rw [e,L3 h];simp [uL,hl]
structure dM (p:qC) (n:Nat):Prop where
 pos:1<=p.length
 len:p.length<=n+1
 each:∀ k∈p,k.body.length<=n/\k.params.length<=1048576
theorem Rl:dM uN 0:=⟨mZ,mZ,mZ⟩
theorem dM.head {p:qC} {n:Nat} {k:qX} (h:dM p n) (hk:k.body=[]/\k.params.length<=1048576):dM (p++[k]) (n+1) :=
 ⟨qB,by simp;exact h.len,λx hx=>by
   rw [y9,vD] at hx;rcases hx with hx|rfl
   .have:=h.each x hx;omega
   .rw [hk.1];exact⟨qB,hk.2⟩⟩
theorem dM.put {p:qC} {n:Nat} {k:qX} {S:q8} (h:dM p n) (hk:p[p.length - 1]?=some k):dM (bG p (p.length - 1) (k.body++[S])) (n+1):=by
 have hkb:=h.each k (gM hk);refine⟨by simp;exact h.pos,by simp;have:=h.len;omega,λx hx=>?_⟩;obtain⟨r,hr,e1,e2⟩:=Mc hx;have:=h.each r hr;rw [e1];rcases e2 with e|e <;> rw [e]
 .omega
 .simp;omega
theorem dM.br {p:qC} (h:dM p 1048575):jt p :=
 ⟨by have:=h.len;omega,λk hk=>(h.each k hk).2,λk hk=>Dv⟩
theorem Ql {s:qU} {p:qC} (hs:s.length<=1048576) (h:uL (zM 10 s).dropLast uN=some p):(zM 10 s).dropLast.length<=1048575:=by
 have hsum:=Mz (c:=10) (s:=s);have hne:=eb (c:=10) (l:=s);generalize zM 10 s=L at h hsum hne ⊢;obtain⟨I,z,rfl⟩:∃ I z,L=I++[z]:=⟨L.dropLast,L.getLast hne,(ip hne).symm⟩;rw [Av] at h ⊢
 cases I with
 | nil=>simp
 | cons l r =>
  have hl:l≠[]:=by
   rintro rfl;have hno:wX uN []=none:=qe;simp [uL,hno] at h
  have h1:=List.length_pos_iff.2 hl;simp at hsum ⊢;omega
theorem X6 {l:qU} {k:qX} (h:bq l=some k):k.body=[]/\k.params.length<=l.length:=by
 obtain⟨h1,h2,h3⟩:=MD h;refine⟨h3,?_⟩;rw [<- h1];unfold ng
 split
 .rw [h2.cls (by assumption)];simp
 .have hf:∀ ns:List Int,ns.length<=(ns.flatMap λn=>(32:UInt8)::ug n).length:=by
   intro ns
   induction ns with
   | nil=>simp
   | cons n ns ih=>simp only [List.flatMap_cons,ua,fG] at ih ⊢;omega
  have:=hf k.params;rw [gJ,ua];omega
theorem nF {A G G2:Prop} (k:G2) (x:A) (h:A->jL G2->G:=by
 intro fx kk;refine qK ?_
 repeat ((first|refine qQ (id:=13) Lp mixed ?_|refine qQ (id:=14) Lq mixed ?_);refine zK ?_;refine qK ?_)
 exact kk.h):G:=h x ⟨k⟩
theorem Mv (gl) (s:qU) (hs:s.length<=1048576):qM prog gl 18 [tx s] (λr y H'=>∃ p:qC,y=.zX [.agg [.hs r 4 0 p.length],bv (vn s).isSome]/\ew H' r p/\∀ q,vn s=some q->p=q):=by
 have hsp:=Zg gl s qA;have hlen:=tK (c:=10) (s:=s);have hpart:=pb (c:=10) (s:=s);have hne:=eb (c:=10) (l:=s)
 have hPT:vn s=match uL (zM 10 s).dropLast uN with
  | some p=>if (zM 10 s).getLast?=some []/\jq p=true then some p else none
  | none=>none:=rfl
 have hfew:∀ p,uL (zM 10 s).dropLast uN=some p->(zM 10 s).dropLast.length<=1048575:=λp h=>Ql hs h;generalize vn s=RC at hPT ⊢;generalize zM 10 s=L at hlen hpart hsp hne hPT hfew;obtain⟨I,z,rfl⟩:∃ I z,L=I++[z]:=⟨L.dropLast,L.getLast hne,(ip hne).symm⟩;rw [Av] at hPT hfew;rw [List.getLast?_concat] at hPT;rw [ua,wm] at hlen;clear hne;refine qM.q9 func18 [.cell 2 34,.tmp 3] ntmps18 λC w g root=>?_;have fx:=qd;have p1:=hsp;refine zf ?_
 repeat ((first|refine qQ (id:=13) Lp mixed ?_|refine qQ (id:=14) Lq mixed ?_);refine vU ?_;refine zf ?_)
 clear fx p1;refine zQ (λn st=>∃ (i:Nat) (p:qC),n=I.length - i/\i<=I.length/\uL (I.take i) uN=some p/\dM p i/\st.tm 2=.pt (.s 2) 0/\st.hp (.s 2)=some (.row 1 [[.hs (.c (.s 2) 0 0) 4 0 0]])/\st.hp (.c (.s 2) 0 0)=some (.row 4 [])/\st.tm 4=.pt (.s 4) 0/\st.hp (.s 4)=some (.row 1 [[.hs (.c (.s 4) 0 0) 4 0 p.length]])/\ew st.hp (.c (.s 4) 0 0) p/\st.tm 5=jd (I++[z])/\st.tm 6=iv i) I.length ?_ ?_
 .refine⟨0,uN,rfl,qA,rfl,Rl,qB,qB,qB,qB,mZ,⟨by simp [uN,vX],λj r hj=>?_,λj r hj=>?_⟩,qB,qB⟩
  all_goals
   match j,hj with
   | 0,hj=>simp [uN] at hj;subst hj;simp
   | j+1,hj=>simp [uN] at hj
 rintro n st - - ⟨i,p,rfl,hi,hpp,hG,h2,hp2,hp2',h4,hp4,⟨ho1,ho2,ho3⟩,h5,h6⟩;obtain⟨hG1,hG2,hG3⟩:=id hG;have hw1:IntKind.i64.wrap ((i:Int)+1)=(i:Int)+1:=qm qA qA;by_cases hil:i<I.length
 .have hlt:(i:Int)+1<(I.length:Int)+1:=qA;obtain⟨l,hl⟩:=gX hil;obtain⟨_,hlE⟩:=gS hl;have hla:(I++[z])[i]?=some l:=by rw [ub hil];exact hl
  obtain⟨hlaL,hlaE⟩:=gS hla;have hlb:l.length<=1048576:=by have:=hpart l (gM hla);omega
  have hrh:=Z9 gl l qA;have fx:=jI h5 h6 hw1 hlt hla hlaE<|hil;have e1:=hrh;refine nF ?_<|@fx;clear fx e1;rintro K hK y H1 ⟨k,rfl,hk2,hk3,hkk⟩;refine⟨qB,?_⟩;have hk2':=aE hk2 qB;have hk3':=aE hk3 qB
  cases hr:bq l with
  | some k' =>
   obtain rfl:=hkk k' hr;obtain⟨hkb,hkp⟩:=X6 hr;have hadd:wX p l=some (p++[k']):=by simp [wX,hr]
   have hkb0:k'.body.length=0:=by rw [hkb];rfl
   refine nF ?_<|jN h4 hp4 ho1 hk2' hk3' hr h6<|hw1;refine⟨I.length - (i+1),qA,i+1,p++[k'],rfl,qA,L4 hl hpp hadd,dM.head hG ⟨hkb,qA⟩,ya,yw,xX,wv,qB,⟨?_,λd r hd=>?_,λd r hd=>?_⟩,yH,by simp [hw1]⟩
   .rw [LX];simp [hkb0]
    try exact yG qB
   all_goals
    rw [oS] at hd
    split at hd
    .rename_i hdl;obtain⟨r0,hr0'⟩:∃ r0,p[d]?=some r0:=⟨_,gE hdl⟩;rw [hr0'] at hd;obtain rfl:=sI hd;have hdn:¬ p.length=d:=qA;have hdn':¬ d=p.length:=qA;simp [ho2 d _ hr0',ho3 d _ hr0',hdn,hdn']
    .rename_i hdl
     have hde:d=p.length:=by
      have h1:=(gS hd).1;simp at h1;omega
     subst hde;rw [Nat.sub_self] at hd;simp at hd;subst hd;simp [hk2',hk3',hkb]
  | none =>
   have hrs:=Za gl l qA;have fx:=jH h5 h6 hla hlaE hil<|hr;have e1:=hrs;refine nF ?_<|@fx;clear fx e1;rintro K hK y H2 ⟨⟨sk,so,sa,sb⟩,rfl,hSS⟩;refine⟨qB,?_⟩
   cases hs2:df l with
   | none =>
    have hadd:wX p l=none:=by simp [wX,hr,hs2]
    rw [Uv hl hpp hadd] at hPT;have hno:RC=none:=hPT;refine nF ?_<|zD h2 hp2 hp2'<|hs2;refine qF [(.c (.s 2) 0 0,root)] (.one rfl) ge ⟨[],yO,⟨qB,λj r hj=>sE,λj r hj=>sE⟩,yO⟩
   | some S' =>
    obtain rfl:=hSS S' hs2;obtain⟨k,hk⟩:∃ k,p[p.length - 1]?=some k:=⟨_,gE qA⟩;obtain⟨jw,hkE⟩:=gS hk;have hwl:IntKind.i64.wrap ((p.length:Int) - 1)=((p.length - 1:Nat):Int):=tv;have hok:=ho3 _ _ hk;have hkb:=hG3 k (gM hk);have hadd:wX p l=some (bG p (p.length - 1) (k.body++[⟨sk,so,sa,sb⟩])):=by rw [<- Le hG1 hk];simp [wX,hr,hs2]
    have hgot:=dM.put (S:=⟨sk,so,sa,sb⟩) hG hk;have yX:=LY (n:=.c (.s 4) 0 0) (a:=65) (i:=p.length - 1) (len:=k.body.length+1) (p:=p) (L:=k.body++[⟨sk,so,sa,sb⟩]) qB qB qB;have hsl:(bG p (p.length - 1) (k.body++[⟨sk,so,sa,sb⟩])).length=p.length:=Mb;refine nF ?_<|jS h4 hp4 h6 hw1 ho1 hs2 hwl hk hkE jw<|hok;refine⟨I.length - (i+1),qA,i+1,_,rfl,qA,L4 hl hpp hadd,hgot,ya,yw,xX,wv,by simp [hp4,hsl],⟨by simp [yX],λd r hd=>?_,λd r hd=>?_⟩,yH,by simp [hw1]⟩
    all_goals
     have hdp:d<p.length:=by have h1:=(gS hd).1;rwa [hsl] at h1
     obtain⟨r0,hr0'⟩:∃ r0,p[d]?=some r0:=⟨_,gE hdp⟩;rw [GR hr0'] at hd;obtain rfl:=sI hd;by_cases hpd:p.length - 1=d
     .subst hpd;simp [ho2 _ r0 hr0']
     .simp [ho2 d r0 hr0',ho3 d r0 hr0',hpd,show ¬ d=p.length - 1 from λe=>hpd e.symm]
 .have hge:i=I.length:=qA;subst hge;rw [kC] at hpp;rw [hpp] at hPT;have hfw:=hfew p hpp;have hsm:jt p:=dM.br ⟨hG1,qA,λk hk=>by have:=hG3 k hk;omega⟩;have hnlt:¬ (I.length:Int)+1<(I.length:Int)+1:=qA;have hwl:IntKind.i64.wrap (I.length:Int)=(I.length:Int):=qm qA qA;have hla:(I++[z])[I.length]?=some z:=qB;obtain⟨hlaL,hlaE⟩:=gS hla;have hlI:I.length<I.length+1:=qA;have hvp:=tR gl p hsm;by_cases hz:z=[]
  .have hzb:(z==[])=true:=by rw [hz];rfl
   cases hv:jq p
   .have hno:RC=none:=by rw [hPT];simp [hv]
    rw [hv] at hvp;have fx:=qh h2 hp2 hp2' h4 hp4 h5 h6 hw1 hnlt hla hlaE hlI<|qk hwl ho1<|hzb;have c1:=hvp;refine nF ?_<|@fx;clear fx c1;refine qF [(.c (.s 4) 0 0,root)] (.one rfl) ge ⟨p,yO,⟨?_,λj r hj=>?_,λj r hj=>?_⟩,yO⟩
    .simp [ho1,iG (n:=.c (.s 4) 0 0) (m:=root) (f:=zL zn [(.c (.s 4) 0 0,root)]) (p:=p) qB]
    .simp [ho2 j r hj]
    .simp [ho3 j r hj]
   .have hyes:RC=some p:=by rw [hPT];simp [hv,hz]
    rw [hv] at hvp;have fx:=qh h2 hp2 hp2' h4 hp4 h5 h6 hw1 hnlt hla hlaE hlI<|qk hwl ho1<|hzb;have c1:=hvp;refine nF ?_<|@fx;clear fx c1;refine qF [(.c (.s 4) 0 0,root)] (.one rfl) ge ⟨p,rR,⟨?_,λj r hj=>?_,λj r hj=>?_⟩,rR⟩
    .simp [ho1,iG (n:=.c (.s 4) 0 0) (m:=root) (f:=zL zn [(.c (.s 4) 0 0,root)]) (p:=p) qB]
    .simp [ho2 j r hj]
    .simp [ho3 j r hj]
  .have hzb:(z==[])=false:=by simpa using hz
   have hno:RC=none:=by rw [hPT];simp [hz]
   refine nF ?_<|qh h2 hp2 hp2' h4 hp4 h5 h6 hw1 hnlt hla hlaE hlI<|qk hwl ho1<|hzb;refine qF [(.c (.s 4) 0 0,root)] (.one rfl) ge ⟨p,yO,⟨?_,λj r hj=>?_,λj r hj=>?_⟩,yO⟩
   .simp [ho1,iG (n:=.c (.s 4) 0 0) (m:=root) (f:=zL zn [(.c (.s 4) 0 0,root)]) (p:=p) qB]
   .simp [ho2 j r hj]
   .simp [ho3 j r hj]
end Go.Proofs.YtjgpejikjhojcaaGreatDoor
end
