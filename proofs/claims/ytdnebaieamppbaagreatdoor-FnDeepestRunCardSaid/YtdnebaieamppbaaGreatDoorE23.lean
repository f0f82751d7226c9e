import Derived.Test.YtdnebaieamppbaaGreatDoorE19
set_option linter.unusedSimpArgs false
set_option linter.unusedVariables false
set_option maxRecDepth 100000
set_option maxHeartbeats 4000000

section

end
section
namespace Go.Hm
open Go Go.RowKit
section
variable {p:Z0} {f:Int} {b:Nat} {x y:Int}
theorem KW {i j:Nat} (h:i<=j):ai p i<=ai p j:=by
 induction h with
 | refl=>exact qf _
 | step _ ih=>exact vk ih GX
theorem Ih (hp:Zm p) {j:Nat} (hj:j<=150):∀ i,i<=j+1->ai p i<=(wB p j).deep
 | 0,_=>Nat.zero_le _
 | i+1,h=>by
  have h1:=Ih hp hj i qA;have h2:=JU hp (n:=i) (j:=j) qA hj;simp only [ai];omega
theorem AM (hp:Zm p):∀ i,i<=151->ai p i<=1000
 | 0,_=>Nat.zero_le _
 | i+1,h=>by
  have h1:=AM hp i qA;have h2:=(lD hp.sh (show i<=150 by omega)).ok.qCJ;simp only [ai];omega
theorem N6 (hs:Sml p) (hv:jT p f=true):∃ (d e m:Nat),Bc p f=(d:Int)/\B6 p f=((e:Int),(m:Int))/\d<=m/\(ea p f).length<=d/\d<=1000/\0<=f/\f<=150/\(f=0\/∃ c:Nat,Bc p (f - 1)=(c:Int)/\c<=d):=by
 obtain⟨hpo,n,rfl,hn⟩:=jl hv;have hP:=Zm.of hs hpo;have hd:=Ih hP hn (n+1) (qf _);refine⟨ai p (n+1),(wB p n).made,(wB p n).deep,l6,CO,hd,?_,?_,qA,qA,?_⟩
 .simp only [ea,hv,if_true,xd,Eg,b6];simp only [ai];omega
 .exact AM hP (n+1) qA
 .rcases dV n with rfl|h
  .exact .inl rfl
  .refine .inr ⟨ai p n,?_,KW qA⟩
   have hf:jT p ((n:Int) - 1)=true:=by
    simp [jT,hpo];omega
   have e:n - 1+1=n:=qA;simp [Bc,hf,e]
theorem Ji (hs:Sml p) (hr:ye p b x y=true):jF (ef p b x y)=true/\Ay (ef p b x y) 150=Ay p 150:=by
 have hB:=(qCt hs hr).1
 have hpo:jF p=true:=by
  simp only [ye,ba] at hr;exact hr.1.1.1.1.1
 have hm:=(qAE.of hs hr).qEQ (Zm.of hs hpo) (f:=150) qA;have e:ef p b x y=pH p b x y:=by simp [ef,hr,pH]
 rw [e] at hB ⊢;refine⟨hB,?_⟩;simp [Ay,jT,hB,hpo,hm,On,kP]
end
end Go.Hm
end
