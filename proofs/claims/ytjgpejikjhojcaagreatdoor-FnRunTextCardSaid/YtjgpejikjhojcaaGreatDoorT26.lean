import Derived.Test.YtjgpejikjhojcaaGreatDoorT25
set_option linter.unusedSimpArgs false
set_option linter.unusedVariables false
set_option maxRecDepth 100000
set_option maxHeartbeats 4000000

section
namespace Go.Proofs.YtjgpejikjhojcaaGreatDoor
open Go Go.Hm Go.Proofs Tryz
theorem Af {hp:Nm->Option AO} {n:Nm} {p:qC} {j:Nat} {k:qT} (h:eh hp n p p.length) (hh:zZ p) (hk:p[j]?=some k):Bw hp zf (.pt (.c n j 0) 0) (iH p j k):=by
 have:=Ht h hh j (gS hk).1
 rwa [cq hh hk] at this
theorem Xk {n:Nm} {len j:Nat} (h:j<len):(un n len len)[j]?=some [AV.pt (.c n j 0) 0]:=by rw [xy h,if_pos h]
theorem Py {p:qC} (hp:z6 p):aL p 0=true:=by
 obtain⟨k,hk⟩:∃ k,p[0]?=some k:=⟨_,gE (by have:=hp.len.1;omega)⟩;simp only [aL,hk,yS];intro x _;simp [w6,hp.Pw hk]
theorem BZ (gl) (p:qC) (hs:uA p):qM prog gl 37 [yu p] (λ_ y _=>y=bv (ye p)):=by
 refine qM.qa func37 [.tmp 2] ntmps37 λC w g root=>?_
 cases hsh:wk p with
 | false =>
  have fx:= hsh;have c1:=JT gl p hs;refine qQ ?_;clear fx c1;refine qG [] .nil qH ?_;simp [ye,hsh]
 | true =>
  have hp:=z6.of hs hsh;have hh:=hp.jR;have hl7:=hp.len;have hpo:ye p=(List.range p.length).all (λb=>b==0||aL p b):=by simp only [ye,hsh,dk]
  rw [hpo];have fx:= hsh;have c1:=JT gl p hs;have e1:=Fx gl p hs hh hp.names;refine qQ ?_;clear fx c1 e1
  first|rintro K hK y H' ⟨rfl,hO⟩|rintro y H' ⟨rfl,hO⟩
  obtain⟨ho1,ho2⟩:=hO.uC;refine⟨qB,?_⟩;refine qI ?_<|qS;refine zU (λn st=>∃ i:Nat,n=p.length - i/\i<=p.length/\st.tm 9=.hs (.s 9) 1 0 p.length/\eh st.hp (.s 9) p p.length/\st.tm 10=iv p.length/\st.tm 11=iv i/\(List.range i).all (λb=>b==0||aL p b)=true) p.length ?_ ?_
  .exact⟨0,qB,qB,qB,⟨uw,λj k hj hk=>Av⟩,qB,qB,qB⟩
  clear ho1 ho2 hO;rintro n st - - ⟨i,rfl,hi,h9,⟨ho1,ho2⟩,h10,h11,hal⟩;refine qI ?_<|aI h10<|h11;refine y8 ya (λht=>?_) (λhf=>?_)
  .have hlt:i<p.length:=yE;obtain⟨k,hk⟩:=gX hlt;have hsg:=Xk (n:=.s 9) hlt;obtain⟨_,hse⟩:=gS hsg;clear ht
   all_goals have fx:=jQ h9 ho1 h10 h11 hsg hse<|hlt
   repeat' (first|refine zl ?_|refine λ(K:St->Prop) hK=>?_|refine zL (hB:=(by first|((repeat' (first|exact .nil|refine .cons ?_ ?_|exact .refl _|exact dl aJ aF|exact gU aJ aF rZ|exact Af (n:=.s 9) (p:=p) (k:=k) ⟨uw,λj k hj hk=>Av⟩ hh hk));done)|fail)) (hF:=χ _ p hp i k hk) (h:=?_)|refine vj (h1:=λht=>?_) (h2:=λht=>?_))
   all_goals try clear fx
   .refine qG [] .nil qH ?_;have hd:aL p i=false:=yE;have hi0:i≠0:=λe=>by rw [e,Py hp] at hd;cases hd
    rw [l0 hlt (show (i==0||aL p i)=false by simp [hd,hi0])]
    rfl
   .have hd:aL p i=true:=yE;refine⟨p.length - (i+1),qA,i+1,rfl,qA,cX,⟨uw,λj k hj hk=>Av⟩,cV,zw,?_⟩;rw [mI,hal,hd];simp
  .have hge:i=p.length:=by
    have:¬ i<p.length:=vH;omega
   subst hge;refine qI ?_<|qS;refine qG [] .nil fJ (by simp [hal])
end Go.Proofs.YtjgpejikjhojcaaGreatDoor
end
section

end
section

end
section

end
section
namespace Go.Proofs.YtjgpejikjhojcaaGreatDoor
open Go Go.Hm Go.Proofs
theorem SR {k:Int} (h:0<=k/\k<=11):k=0\/k=1\/k=2\/k=3\/k=4\/k=5\/k=6\/k=7\/k=8\/k=9\/k=10\/k=11:=qA
abbrev gz (p:qC) (b:Nat) (s:qP) (i:Nat):List (Int×Int):=(0,0)::(s.reads.take i).map λx=>zy p b x 0
theorem VF {p:qC} {b:Nat} {s:qP} {i:Nat} {u:Int} (h:s.reads[i]?=some u):gz p b s (i+1)=gz p b s i++[zy p b u 0]:=by
 simp [gz,vM,h]
theorem ZB {p:qC} {b:Nat} {s:qP}:bS p b s=gz p b s s.reads.length++(jM s++yP p b s):=by simp [bS,gz,uG]
end Go.Proofs.YtjgpejikjhojcaaGreatDoor
end
section

end
section

end
section

end
section

end
