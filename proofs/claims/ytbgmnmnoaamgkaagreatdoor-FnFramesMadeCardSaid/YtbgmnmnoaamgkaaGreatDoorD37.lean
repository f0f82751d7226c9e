/-
  Own texts, joined by mkclaim.py: Zy.
-/
import Derived.Test.YtbgmnmnoaamgkaaGreatDoorD26
import Derived.Test.YtbgmnmnoaamgkaaGreatDoorD33
import Derived.Test.YtbgmnmnoaamgkaaGreatDoorD36
import Derived.Test.YtbgmnmnoaamgkaaGreatDoorD19
set_option linter.unusedSimpArgs false
set_option linter.unusedVariables false
set_option maxRecDepth 100000
set_option maxHeartbeats 4000000

section
namespace Go.Proofs.YtbgmnmnoaamgkaaGreatDoor
open Go Go.Hm Go.Proofs
abbrev qEU:Sch:=.q 0<|.q 1<|.q 2<|.q 3<|.q 4<|.q 5<|.q 6<|.q 7<|.q 8<|.q 9<|.q 10<|.q 11<|.q 12<|.q 13<|.q 14<|.q 15<|.q 16<|.q 17<|.l 18 []<|.done
theorem qDC (gl:Nat→Option (List AV)) (hgl:gl 0=some kn) (code:List Int) (hcode:∀ v∈code,0≤v∧v≤255) (hbig:code.length≤1152921504606846976) :
  qV Tryz.prog gl 5 [bsl code] (fun _ z _=>z=bv true):=by
 refine qV.of_sem Tryz.func5 rfl (by kernel_rfl) (rs:=[.tmp 2]) rfl Tryz.ntmps5 (lB rfl) fun C w g root=>?_
 by_cases hlen:1048576<code.length
 ·have hl1:(1048576:Int)<code.length:=by omega
  have fx:= hl1
  refine qB ?_
  repeat ((first|refine wSc (id:=13) qEU qA ?_);refine qC ?_;refine qB ?_)
  clear fx
  refine qF [] .nil (by simp;rfl) (by simp)
 have hl1:¬ (1048576:Int)<code.length:=by omega
 have hc:CodeOk code:=⟨by omega,hcode⟩
 have fx:= hl1
 have e1:=qBI gl code hc
 refine qB ?_
 repeat ((first|refine wSc (id:=13) qEU qA ?_);refine qC ?_;refine qB ?_)
 clear fx e1
 rintro K hK z H1 ⟨p,f,rfl,hO,hs⟩
 obtain⟨ho1,ho2,ho3⟩:=hO.hcln
 refine⟨by simp,?_⟩
 have hpl:=hs.len
 have fx:= ho1
 refine qB ?_
 repeat ((first|refine wSc (id:=13) qEU qA ?_);refine qC ?_;refine qB ?_)
 clear fx
 intro K hK
 refine yr (fun st=>BoxP st 3 p∧st.tm 4=iv f∧st.tm 22=.agg [.hs (.c (.s 3) 0 0) 4 0 p.length]∧st.tm 23=iv f) ⟨⟨by simp,by simp,⟨by simp [ho1],fun j r hj=>by simp [ho2 j r hj],fun j r hj=>by simp [ho3 j r hj]⟩⟩,by simp,by simp,by simp⟩ ?_
 clear hO ho1 ho2 ho3
 rintro st ⟨⟨h3,hp3,⟨a1,a2,a3⟩⟩,h4,h22,h23⟩
 have him:=uC gl hgl p f hs
 have hsm:=qAM gl p f hs
 have hit:=wk gl hgl p f hs
 cases hv:jC p f
 ·have e1:yU p f=(-1,-1):=by simp [yU,hv]
  rw [e1] at him hsm
  have fx:=aI h3<|aI hp3<|aI h4<|aI h22<|aI h23<|@zU
  have c1:=him
  have c2:=hsm
  refine qB ?_
  repeat ((first|refine wSc (id:=13) qEU qA ?_);refine qC ?_;refine qB ?_)
  clear fx c1 c2
  refine qF [] .nil (by simp;rfl) (by simp)
 obtain⟨n,d,T,e1,e2,c1,c2,c3,hTl,hst⟩:=qJs hs hv
 rw [e1] at him hsm
 rw [e2] at hit
 clear e1 e2 hv
 have g0:¬ (n:Int)<0:=by omega
 have fx:=aI h3<|aI hp3<|aI h4<|aI h22<|aI h23<|aI @zU<|g0
 have c1:=him
 have c2:=hsm
 have d1:=hit
 refine qB ?_
 repeat ((first|refine wSc (id:=13) qEU qA ?_);refine qC ?_;refine qB ?_)
 clear fx c1 c2 d1
 refine qY (fun n0 st=>∃ i:Nat,n0=T.length - i∧i≤T.length∧st.tm 11=iv i∧st.tm 10=iv ((1+c45 p (T.take i):Nat):Int)∧st.tm 9=.hs (.s 9) 2 0 T.length∧st.hp (.s 9)=some (.row 2 (jq T))∧BoxP st 3 p∧st.tm 5=iv n∧st.tm 6=iv d) T.length ?_ ?_
 ·exact⟨0,by omega,by omega,by simp,by simp [c45],by simp,by simp,⟨by simp [h3],by simp [hp3],⟨by simp [a1],fun j r hj=>by simp [a2 j r hj],fun j r hj=>by simp [a3 j r hj]⟩⟩,by simp,by simp⟩
 clear h3 hp3 a1 a2 a3 h4 h22 h23 him hsm
 rintro n0 st - - ⟨i,rfl,hi,h11,h10,h9,hp9,⟨h3,hp3,⟨a1,a2,a3⟩⟩,h5,h6⟩
 by_cases hil:i<T.length
 ·obtain⟨t,ht⟩:∃ t,T[i]?=some t:=⟨_,gE hil⟩
  obtain⟨_,htE⟩:=gS ht
  obtain⟨s,hs0⟩:=hst t (gM ht)
  obtain⟨k,hk,hsk⟩:∃ k,p[t.1]?=some k∧k.body[t.2]?=some s:=by
   unfold qJI at hs0
   cases hk:p[t.1]? with
   | none=>simp [hk] at hs0
   | some k=>exact⟨k,rfl,by simpa [hk] using hs0⟩
  have hkd:qNg p t=s.kind:=by simp [qNg,hs0]
  obtain⟨hkl,hkE⟩:=gS hk
  obtain⟨hsl,hsE⟩:=gS hsk
  have a3k:=a3 t.1 k hk
  have t3:=qOr (p:=p) ht
  have w3:c45 p (T.take i)≤151:=Nat.le_trans qP5 (by simp;omega)
  rw [hkd] at t3
  have l1:(t.1:Int)<p.length:=by omega
  have l2:(t.2:Int)<k.body.length:=by omega
  by_cases e5:s.kind=5
  ·have e5':(s.kind==5)=true:=by simpa using e5
   have fx:=aI h3<|aI hp3<|aI a1<|aI h5<|aI h6<|aI h9<|aI hp9<|aI h10<|aI h11<|aI hil<|aI ht<|aI htE<|aI hk<|aI hkE<|aI hkl<|aI hsk<|aI hsE<|aI hsl<|aI a3k<|e5'
   refine qB ?_
   repeat ((first|refine wSc (id:=13) qEU qA ?_);refine qC ?_;refine qB ?_)
   clear fx
   refine⟨T.length - (i+1),by omega,i+1,rfl,by omega,by simp;exact wrp (by omega) (by omega),?_,by simp [h9],by simp [hp9],⟨by simp [h3],by simp [hp3],⟨by simp [a1],fun j r hj=>by simp [a2 j r hj],fun j r hj=>by simp [a3 j r hj]⟩⟩,by simp [h5],by simp [h6]⟩
   rw [t3,if_pos (.inr e5)]
   simp
   rw [wrp (by omega) (by omega)]
   omega
  have e5':(s.kind==5)=false:=by simpa using e5
  by_cases e4:s.kind=4
  ·have e4':(s.kind==4)=true:=by simpa using e4
   have fx:=aI h3<|aI hp3<|aI a1<|aI h5<|aI h6<|aI h9<|aI hp9<|aI h10<|aI h11<|aI hil<|aI ht<|aI htE<|aI hk<|aI hkE<|aI hkl<|aI hsk<|aI hsE<|aI hsl<|aI a3k<|aI e5'<|e4'
   refine qB ?_
   repeat ((first|refine wSc (id:=13) qEU qA ?_);refine qC ?_;refine qB ?_)
   clear fx
   refine⟨T.length - (i+1),by omega,i+1,rfl,by omega,by simp;exact wrp (by omega) (by omega),?_,by simp [h9],by simp [hp9],⟨by simp [h3],by simp [hp3],⟨by simp [a1],fun j r hj=>by simp [a2 j r hj],fun j r hj=>by simp [a3 j r hj]⟩⟩,by simp [h5],by simp [h6]⟩
   rw [t3,if_pos (.inl e4)]
   simp
   rw [wrp (by omega) (by omega)]
   omega
  have e4':(s.kind==4)=false:=by simpa using e4
  have fx:=aI h3<|aI hp3<|aI a1<|aI h5<|aI h6<|aI h9<|aI hp9<|aI h10<|aI h11<|aI hil<|aI ht<|aI htE<|aI hk<|aI hkE<|aI hkl<|aI hsk<|aI hsE<|aI hsl<|aI a3k<|aI e5'<|e4'
  refine qB ?_
  repeat ((first|refine wSc (id:=13) qEU qA ?_);refine qC ?_;refine qB ?_)
  clear fx
  refine⟨T.length - (i+1),by omega,i+1,rfl,by omega,by simp;exact wrp (by omega) (by omega),?_,by simp [h9],by simp [hp9],⟨by simp [h3],by simp [hp3],⟨by simp [a1],fun j r hj=>by simp [a2 j r hj],fun j r hj=>by simp [a3 j r hj]⟩⟩,by simp [h5],by simp [h6]⟩
  rw [t3,if_neg (by omega)]
  simp [h10]
 ·obtain rfl:i=T.length:=by omega
  rw [List.take_length] at h10
  have m1:(n:Int)≤1+(c45 p T:Int):=by omega
  have m2:(d:Int)≤(n:Int):=by omega
  have m3:(1:Int)≤(d:Int):=by omega
  have fx:=aI h3<|aI hp3<|aI h5<|aI h6<|aI h9<|aI hp9<|aI h10<|aI h11<|aI hil<|aI @zU<|aI m1<|aI m2<|m3
  refine qB ?_
  repeat ((first|refine wSc (id:=13) qEU qA ?_);refine qC ?_;refine qB ?_)
  clear fx
  refine qF [] .nil (by simp;rfl) (by simp)
end Go.Proofs.YtbgmnmnoaamgkaaGreatDoor
end
