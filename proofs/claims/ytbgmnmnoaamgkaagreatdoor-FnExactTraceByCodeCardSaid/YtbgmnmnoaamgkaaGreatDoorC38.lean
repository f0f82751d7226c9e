/-
  Own texts, joined by mkclaim.py: Zt.
-/
import Derived.Test.YtbgmnmnoaamgkaaGreatDoorC25
import Derived.Test.YtbgmnmnoaamgkaaGreatDoorC33
import Derived.Test.YtbgmnmnoaamgkaaGreatDoorC35
import Derived.Test.YtbgmnmnoaamgkaaGreatDoorC12
set_option linter.unusedSimpArgs false
set_option linter.unusedVariables false
set_option maxRecDepth 100000
set_option maxHeartbeats 4000000

section
namespace Go.Proofs.YtbgmnmnoaamgkaaGreatDoor
open Go Go.Hm Go.Proofs
abbrev qEQ:Sch:=.q 0<|.q 1<|.l 2 [0]<|.l 3 []<|.q 4<|.done
theorem kn (gl:Nat→Option (List AV)) (hgl:gl 0=some uM) (p:Prg) (b:Int) (hb:Big p):qW Tryz.prog gl 7 [pav p,iv b] (fun _ y _=>y=bv true):=by
 refine qW.of_sem Tryz.func7 rfl (by kernel_rfl) (rs:=[.tmp 4]) rfl Tryz.ntmps7 (lB rfl) fun C w g root=>?_
 by_cases ht:tot p≤1048576
 case neg =>
  have fx:= ht
  have c1:=jV gl p hb
  refine qB ?_
  repeat ((first|refine wSc (id:=10) qEQ qA ?_);refine qD ?_;refine qB ?_)
  clear fx c1
  refine qH [] .nil (by simp;rfl) (by simp)
 have hs:=qDy ht
 have hgt:¬ 1048576 - (tot p:Int)<0:=by omega
 have hsa:=w8 gl p b hs
 have hia:=wn gl hgl p b hs
 have hll:=qMp (f:=b) hs
 rw [qLL,← qKQ] at hsa hia
 rw [← qKQ] at hll
 generalize trI (qHr p b)=L at hsa hia hll
 have hL:L.length≤1048576:=by omega
 have heq:=qJr gl L L hL hL
 have hcp:=qEx hs p.length
 have hpl:=hs.len
 have fx:=aI ht<|hgt
 have c1:=jV gl p hb
 have e1:=zM gl p hs
 refine qB ?_
 repeat ((first|refine wSc (id:=10) qEQ qA ?_);refine qD ?_;refine qB ?_)
 clear fx c1 e1
 rintro K hK y H1 ⟨rfl,hO⟩
 obtain⟨ho1,ho2,ho3⟩:=hO.hcln
 refine⟨by simp,?_⟩
 have fx:=aI ht<|hgt
 have d1:=hsa
 refine qB ?_
 repeat ((first|refine wSc (id:=10) qEQ qA ?_);refine qD ?_;refine qB ?_)
 clear fx d1
 intro K hK
 refine yg (fun st=>st.tm 2=.pt (.s 2) 0∧st.hp (.s 2)=some (.row 1 [[ksl p]])∧st.tm 6=.hs (.s 6) 2 0 L.length∧st.hp (.s 6)=some (.row 2 (zb L))∧st.tm 1=iv b∧st.tm 22=pav p) ⟨by simp,by simp,by simp,by simp,by simp,by simp⟩ ?_
 clear hO ho1 ho2 ho3
 rintro st ⟨h2,hp2,h6,hp6,h1,h22⟩
 have fx:=aI h2<|aI hp2<|aI h6<|aI hp6<|aI h1<|h22
 have e1:=zM gl p hs
 refine qB ?_
 repeat ((first|refine wSc (id:=10) qEQ qA ?_);refine qD ?_;refine qB ?_)
 clear fx e1
 rintro y H2 ⟨rfl,hO⟩
 obtain⟨b1,b2,b3⟩:=hO.hcln
 refine⟨by simp,?_⟩
 have fx:=aI h2<|aI hp2<|aI h6<|aI hp6<|aI h1<|b1
 have c1:=heq
 have d1:=hia
 have e1:=zM gl p hs
 refine qB ?_
 repeat ((first|refine wSc (id:=10) qEQ qA ?_);refine qD ?_;refine qB ?_)
 clear fx c1 d1 e1
 rintro K hK y H3 ⟨rfl,hO3⟩
 obtain⟨ho1,ho2,ho3⟩:=hO3.hcln
 refine⟨by simp,?_⟩
 have fx:=aI h2<|aI hp2<|aI h6<|aI hp6<|aI b1<|ho1
 have c1:=uL gl p p hs hs
 refine qB ?_
 repeat ((first|refine wSc (id:=10) qEQ qA ?_);refine qD ?_;refine qB ?_)
 clear fx c1
 intro K hK
 refine yg (fun st=>st.tm 2=.pt (.s 2) 0∧st.hp (.s 2)=some (.row 1 [[ksl p]])∧st.tm 6=.hs (.s 6) 2 0 L.length∧st.hp (.s 6)=some (.row 2 (zb L))∧st.tm 1=iv b∧st.tm 8=.hs (.s 8) 2 0 L.length∧st.hp (.s 8)=some (.row 2 (zb L))∧OwnP st.hp (.c (.s 7) 0 0) p∧st.tm 36=.agg [.hs (.c (.s 7) 0 0) 4 0 p.length]∧st.tm 37=iv 1)
  ⟨by simp [h2],by simp [hp2],by simp [h6],by simp [hp6],by simp [h1],by simp,by simp,⟨by simp [b1],fun j r hj=>by simp [b2 j r hj],fun j r hj=>by simp [b3 j r hj]⟩,by simp,by simp⟩ ?_
 clear h2 hp2 h6 hp6 h1 h22 b1 b2 b3 ho1 ho2 ho3 hO hO3
 rintro st ⟨h2,hp2,h6,hp6,h1,h8,hp8,⟨b1,b2,b3⟩,h36,h37⟩
 have fx:=aI h36 h37
 refine qBH (.c (.s 7) 0 0) (.u 0 0 0) (hext:=rfl) (hs:=by simp [b1]) (hF:=wV _ _ p 1 hs ⟨by simp [b1],fun j r hj=>by simp [b2 j r hj],fun j r hj=>by simp [b3 j r hj]⟩ (by simp) (by decide)) (h:=?_)
 rintro y H6 ⟨rfl,⟨d1,d2,d3⟩⟩
 clear fx
 refine qKh (fun st=>st.tm 2=.pt (.s 2) 0∧st.hp (.s 2)=some (.row 1 [[ksl p]])∧st.tm 6=.hs (.s 6) 2 0 L.length∧st.hp (.s 6)=some (.row 2 (zb L))∧st.tm 1=iv b∧st.tm 8=.hs (.s 8) 2 0 L.length∧st.hp (.s 8)=some (.row 2 (zb L))∧st.tm 38=iv (1+cnt p))
  ⟨by simp [h2],by simp [hp2],by simp [h6],by simp [hp6],by simp [h1],by simp [h8],by simp [hp8],by simp⟩ ?_
 clear h2 hp2 h6 hp6 h1 h8 hp8 b1 b2 b3 h36 h37 d1 d2 d3
 rintro st ⟨h2,hp2,h6,hp6,h1,h8,hp8,h38⟩
 have hk1:¬ 1+(cnt p:Int)<0:=by omega
 have fx:=aI h2<|aI hp2<|aI h6<|aI hp6<|aI h1<|aI h8<|aI hp8<|aI h38<|hk1
 have c1:=heq
 refine qB ?_
 repeat ((first|refine wSc (id:=10) qEQ qA ?_);refine qD ?_;refine qB ?_)
 clear fx c1
 intro K hK
 refine yg (fun st=>st.tm 2=.pt (.s 2) 0∧st.hp (.s 2)=some (.row 1 [[ksl p]])∧st.tm 6=.hs (.s 6) 2 0 L.length∧st.hp (.s 6)=some (.row 2 (zb L))∧st.tm 1=iv b∧st.hp (.s 8)=some (.row 2 (zb L))∧st.tm 8=.hs (.s 8) 2 0 L.length∧st.tm 47=.hs (.s 8) 2 0 L.length∧st.tm 48=iv 1)
  ⟨by simp [h2],by simp [hp2],by simp [h6],by simp [hp6],by simp [h1],by simp [hp8],by simp [h8],by simp [h8],by simp⟩ ?_
 clear h2 hp2 h6 hp6 h1 hp8 h8 h38
 rintro st ⟨h2,hp2,h6,hp6,h1,hp8,h8,h47,h48⟩
 have fx:=aI h47 h48
 refine qBH (.s 8) (.u 1 0 0) (hext:=rfl) (hs:=by simp [hp8]) (hF:=qGK _ _ L 1 (by simp [hp8]) (by decide) hL) (h:=?_)
 rintro y H7 ⟨rfl,hM⟩
 clear fx
 have hMl:(u7 L.length 1).length=L.length:=by simp
 refine qKh (fun st=>st.tm 2=.pt (.s 2) 0∧st.hp (.s 2)=some (.row 1 [[ksl p]])∧st.tm 6=.hs (.s 6) 2 0 L.length∧st.hp (.s 6)=some (.row 2 (zb L))∧st.tm 1=iv b∧st.hp (.s 8)=some (.row 2 (zb (u7 L.length 1)))∧st.tm 8=.hs (.s 8) 2 0 (u7 L.length 1).length∧st.tm 49=iv (1+2 * (L.length:Int)))
  ⟨by simp [h2],by simp [hp2],by simp [h6],by simp [hp6],by simp [h1],by simp [hM],by simp [h8,hMl],by simp⟩ ?_
 clear h2 hp2 h6 hp6 h1 hp8 h8 h47 h48 hM
 rintro st ⟨h2,hp2,h6,hp6,h1,hp8,h8,h49⟩
 have hhe:=qGV gl L.length 1 (by decide) hL
 have hk2:¬ 1+2 * (L.length:Int)<0:=by omega
 generalize u7 L.length 1=M at hp8 h8 hhe
 have fx:=aI h2<|aI hp2<|aI h6<|aI hp6<|aI h1<|aI hp8<|aI h8<|aI h49<|aI hk2<|@qr
 have c1:=hhe
 have e1:=zM gl p hs
 refine qB ?_
 repeat ((first|refine wSc (id:=10) qEQ qA ?_);refine qD ?_;refine qB ?_)
 clear fx c1 e1
 rintro K hK y H8 ⟨rfl,hO⟩
 obtain⟨ho1,ho2,ho3⟩:=hO.hcln
 refine⟨by simp,?_⟩
 have fx:=aI h2<|aI hp2<|aI h6<|aI hp6<|aI h1<|aI hp8<|aI h8<|aI ho1<|aI hk2<|@qr
 have c1:=heq
 have c2:=hhe
 have d1:=hia
 refine qB ?_
 repeat ((first|refine wSc (id:=10) qEQ qA ?_);refine qD ?_;refine qB ?_)
 clear fx c1 c2 d1
 refine qH [] .nil (by simp;rfl) (by simp)
end Go.Proofs.YtbgmnmnoaamgkaaGreatDoor
end
