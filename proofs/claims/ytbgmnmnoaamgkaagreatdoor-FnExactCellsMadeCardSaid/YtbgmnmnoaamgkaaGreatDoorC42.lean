/-
  Own texts, joined by mkclaim.py: Zu.
-/
import Derived.Test.YtbgmnmnoaamgkaaGreatDoorC25
import Derived.Test.YtbgmnmnoaamgkaaGreatDoorC33
import Derived.Test.YtbgmnmnoaamgkaaGreatDoorC34
set_option linter.unusedSimpArgs false
set_option linter.unusedVariables false
set_option maxRecDepth 100000
set_option maxHeartbeats 4000000

section
namespace Go.Proofs.YtbgmnmnoaamgkaaGreatDoor
open Go Go.Hm Go.Proofs
abbrev qJ0:Sch:=.q 0<|.q 1<|.l 2 [0]<|.l 3 []<|.q 4<|.done
theorem qAB (gl:Nat→Option (List AV)) (hgl:gl 0=some uM) (p:Prg) (b:Int) (hb:Big p):qW Tryz.prog gl 3 [pav p,iv b] (fun _ y _=>y=bv true):=by
 refine qW.of_sem Tryz.func3 rfl (by kernel_rfl) (rs:=[.tmp 4]) rfl Tryz.ntmps3 (lB rfl) fun C w g root=>?_
 by_cases ht:tot p≤1048576
 case neg =>
  have fx:= ht
  have c1:=jV gl p hb
  refine qB ?_
  repeat ((first|refine wSc (id:=10) qJ0 qA ?_);refine qD ?_;refine qB ?_)
  clear fx c1
  refine qH [] .nil (by simp;rfl) (by simp)
 have hs:=qDy ht
 have hge:¬ 1048576 - (tot p:Int)<0:=by omega
 have hsa:=qAk gl p b hs
 have hia:=qBB gl hgl p b hs
 generalize qB1 p b=v at hsa hia
 have fx:=aI ht<|hge
 have c1:=jV gl p hb
 have e1:=zM gl p hs
 refine qB ?_
 repeat ((first|refine wSc (id:=10) qJ0 qA ?_);refine qD ?_;refine qB ?_)
 clear fx c1 e1
 rintro K hK y H1 ⟨rfl,hO⟩
 obtain⟨ho1,ho2,ho3⟩:=hO.hcln
 refine⟨by simp,?_⟩
 have fx:=aI ht<|hge
 have c1:=hsa
 refine qB ?_
 repeat ((first|refine wSc (id:=10) qJ0 qA ?_);refine qD ?_;refine qB ?_)
 clear fx c1
 intro K hK
 refine yg (fun st=>st.tm 1=iv b∧st.tm 2=.pt (.s 2) 0∧st.hp (.s 2)=some (.row 1 [[ksl p]])∧st.tm 6=iv v∧st.tm 18=pav p) ⟨by simp,by simp,by simp,by simp,by simp⟩ ?_
 clear hO ho1 ho2 ho3
 rintro st ⟨h1,h3,hp3,h6,h21⟩
 have fx:=aI h1<|aI h3<|aI hp3<|aI h6<|h21
 have e1:=zM gl p hs
 refine qB ?_
 repeat ((first|refine wSc (id:=10) qJ0 qA ?_);refine qD ?_;refine qB ?_)
 clear fx e1
 rintro y H2 ⟨rfl,hO⟩
 obtain⟨b1,b2,b3⟩:=hO.hcln
 refine⟨by simp,?_⟩
 have fx:=aI h1<|aI h3<|aI hp3<|aI h6<|aI b1<|@qr
 have c1:=hia
 have e1:=zM gl p hs
 refine qB ?_
 repeat ((first|refine wSc (id:=10) qJ0 qA ?_);refine qD ?_;refine qB ?_)
 clear fx c1 e1
 rintro K hK y H3 ⟨rfl,hO3⟩
 obtain⟨ho1,ho2,ho3⟩:=hO3.hcln
 refine⟨by simp,?_⟩
 have fx:=aI h1<|aI h3<|aI hp3<|aI b1<|ho1
 have c1:=uL gl p p hs hs
 refine qB ?_
 repeat ((first|refine wSc (id:=10) qJ0 qA ?_);refine qD ?_;refine qB ?_)
 clear fx c1
 refine qH [] .nil (by simp;rfl) (by simp)
end Go.Proofs.YtbgmnmnoaamgkaaGreatDoor
end
