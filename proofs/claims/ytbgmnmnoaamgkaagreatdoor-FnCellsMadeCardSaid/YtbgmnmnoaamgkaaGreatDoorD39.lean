/-
  Own texts, joined by mkclaim.py: Kwc, Zz.
-/
import Derived.Test.YtbgmnmnoaamgkaaGreatDoorD28
import Derived.Test.YtbgmnmnoaamgkaaGreatDoorD31
import Derived.Test.YtbgmnmnoaamgkaaGreatDoorD26
import Derived.Test.YtbgmnmnoaamgkaaGreatDoorD33
import Derived.Test.YtbgmnmnoaamgkaaGreatDoorD36
import Derived.Test.YtbgmnmnoaamgkaaGreatDoorD19
import Derived.Test.YtbgmnmnoaamgkaaGreatDoorD12
set_option linter.unusedSimpArgs false
set_option linter.unusedVariables false
set_option maxRecDepth 100000
set_option maxHeartbeats 4000000

section
namespace Go.Proofs.YtbgmnmnoaamgkaaGreatDoor
open Go Go.Hm Go.Proofs
theorem qKH (gl) (p:Prg) (b:Nat) (k:Blk) (hk:p[b]?=some k) (hs:Sml p) (hv:jY p=true):qV Tryz.prog gl 21 [pav p,iv b] (fun r y H'=>y=.hs r 1 0 (qE p b).length∧H' r=some (.row 1 (qJ (qE p b)))):=by
 have hbl:=(gS hk).1
 have hp:=(qOV hs hv).sh
 have hh:=hp.heads
 refine qV.of_sem Tryz.func21 rfl (by kernel_rfl) (rs:=[.tmp 4]) rfl Tryz.ntmps21 (lB rfl) fun C w g root=>?_
 have fx:=aI hv<|hbl
 have c1:=qd gl p hs
 have c2:=jr gl p b
 have e1:=w6 gl p hs hh hp.names
 refine qB ?_
 clear fx c1 c2 e1
 rintro K hK y H' ⟨rfl,hO⟩
 obtain⟨hc1,hc2⟩:=hO.hcln
 refine⟨by simp,?_⟩
 have fx:= hc1
 have c1:=va gl p hp b k hk
 have d1:=qB5 gl p b
 refine qB ?_
 clear fx c1 d1
 exact zY (t:=4) (by first|(simp [];done)|(simp [];rfl)) (by first|(simp [];done)|(simp [];rfl)) (by simp)
theorem qDS (gl:Nat→Option (List AV)) (hgl:gl 0=some kn) (code:List Int) (hcode:∀ v∈code,0≤v∧v≤255) (hbig:code.length≤1152921504606846976) :
  qV Tryz.prog gl 6 [bsl code] (fun _ z _=>z=bv true):=by
 refine qV.of_sem Tryz.func6 rfl (by kernel_rfl) (rs:=[.tmp 2]) rfl Tryz.ntmps6 (lB rfl) fun C w g root=>?_
 by_cases hlen:1048576<code.length
 ·have hl1:(1048576:Int)<code.length:=by omega
  have fx:= hl1
  refine qB ?_
  clear fx
  refine qF [] .nil (by simp;rfl) (by simp)
 have hl1:¬ (1048576:Int)<code.length:=by omega
 have hc:CodeOk code:=⟨by omega,hcode⟩
 have fx:= hl1
 have e1:=qBk gl code hc
 refine qB ?_
 clear fx e1
 rintro K hK z H1 ⟨p,f,rfl,hO,hs⟩
 obtain⟨ho1,ho2,ho3⟩:=hO.hcln
 refine⟨by simp,?_⟩
 have hpl:=hs.len
 have fx:= ho1
 refine qB ?_
 clear fx
 intro K hK
 refine yr (fun st=>BoxP st 3 p∧st.tm 4=iv f∧st.tm 18=.agg [.hs (.c (.s 3) 0 0) 4 0 p.length]∧st.tm 19=iv f) ⟨⟨by simp,by simp,⟨by simp [ho1],fun j r hj=>by simp [ho2 j r hj],fun j r hj=>by simp [ho3 j r hj]⟩⟩,by simp,by simp,by simp⟩ ?_
 clear hO ho1 ho2 ho3
 rintro st ⟨⟨h3,hp3,⟨a1,a2,a3⟩⟩,h4,h18,h19⟩
 have him:=u4 gl hgl p f hs
 have hsm:=qAm gl p f hs
 have hif:=uC gl hgl p f hs
 have him2:=u4 gl hgl p 150 hs
 cases hv:jC p f
 ·have e1:u5 p f=-1:=by simp [u5,hv]
  rw [e1] at him hsm
  have fx:=aI h3<|aI hp3<|aI h4<|aI h18<|aI h19<|@zU
  have c1:=him
  have c2:=hsm
  refine qB ?_
  clear fx c1 c2
  refine qF [] .nil (by simp;rfl) (by simp)
 have hpo:=(vH hv).1
 obtain⟨n,d,c,e,e1,e2,e3,c1,c2,c3,c4⟩:=qMB hs hv
 rw [e1] at hif
 rw [e2] at him hsm
 rw [e3] at him2
 clear e1 e2 e3 hv
 have g0:¬ (c:Int)<0:=by omega
 have fx:=aI h3<|aI hp3<|aI h4<|aI h18<|aI h19<|aI @zU<|g0
 have c1:=him
 have c2:=hsm
 refine qB ?_
 clear fx c1 c2
 refine qY (fun n0 st=>∃ i:Nat,n0=p.length - i∧i≤p.length∧st.tm 7=iv i∧st.tm 6=iv (kZ p i:Nat)∧BoxP st 3 p∧st.tm 4=iv f∧st.tm 5=iv c) p.length ?_ ?_
 ·exact⟨0,by omega,by omega,by simp,by simp [kZ],⟨by simp [h3],by simp [hp3],⟨by simp [a1],fun j r hj=>by simp [a2 j r hj],fun j r hj=>by simp [a3 j r hj]⟩⟩,by simp [h4],by simp⟩
 clear h3 hp3 a1 a2 a3 h4 h18 h19 him hsm
 rintro n0 st - - ⟨i,rfl,hi,h7,h6,⟨h3,hp3,⟨a1,a2,a3⟩⟩,h4,h5⟩
 by_cases hil:i<p.length
 ·obtain⟨k,hk⟩:∃ k,p[i]?=some k:=⟨_,gE hil⟩
  have hm:=qEf p i
  have hcl:=zV (p:=p) (b:=i)
  have fx:=aI h3<|aI hp3<|aI a1<|aI h4<|aI h5<|aI h6<|aI h7<|hil
  have d1:=qKH gl p i k hk hs hpo
  refine qB ?_
  clear fx d1
  intro K hK
  have fx:=aI h6 h7
  refine qPq (i:=(kZ p i:Int)) (j:=((qE p i).length:Int)) (kZ p (i+1):Nat) (by simp only [kZ];omega) (h:=?_)
  clear fx
  have fx:=aI h3<|aI hp3<|aI a1<|aI h4<|aI h5<|aI h6<|aI h7<|hil
  refine qB ?_
  clear fx
  exact⟨p.length - (i+1),by omega,i+1,rfl,by omega,by simp;exact wrp (by omega) (by omega),by simp,⟨by simp [h3],by simp [hp3],⟨by simp [a1],fun j r hj=>by simp [a2 j r hj],fun j r hj=>by simp [a3 j r hj]⟩⟩,by simp [h4],by simp [h5]⟩
 ·obtain rfl:i=p.length:=by omega
  have hm:=qEf p p.length
  have w1:IntKind.i64.wrap ((n:Int) - 1)=(n:Int) - 1:=wrp (by omega) (by omega)
  have hmn:(kZ p p.length:Int) * ((n:Int) - 1)≤8 * 151:=Int.mul_le_mul (by omega) (by omega) (by omega) (by omega)
  have hm0:0≤(kZ p p.length:Int) * ((n:Int) - 1):=Int.mul_nonneg (by omega) (by omega)
  have w2:=wrp (n:=(kZ p p.length:Int) * ((n:Int) - 1)) (by omega) (by omega)
  have m2:(c:Int)≤(e:Int):=by omega
  have fx:=aI h3<|aI hp3<|aI a1<|aI h4<|aI h5<|aI h6<|aI h7<|aI hil<|aI @zU<|aI w1<|aI w2<|aI c1<|m2
  have c1:=hif
  have c2:=him2
  refine qB ?_
  clear fx c1 c2
  refine qF [] .nil (by simp;rfl) (by simp)
end Go.Proofs.YtbgmnmnoaamgkaaGreatDoor
end
