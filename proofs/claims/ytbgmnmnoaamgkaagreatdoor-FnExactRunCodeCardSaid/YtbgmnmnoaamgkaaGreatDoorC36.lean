/-
  Own texts, joined by mkclaim.py: Sj, Zs.
-/
import Derived.Test.YtbgmnmnoaamgkaaGreatDoorC35
import Derived.Test.YtbgmnmnoaamgkaaGreatDoorC12
import Derived.Test.YtbgmnmnoaamgkaaGreatDoorC25
import Derived.Test.YtbgmnmnoaamgkaaGreatDoorC33
set_option linter.unusedSimpArgs false
set_option linter.unusedVariables false
set_option maxRecDepth 100000
set_option maxHeartbeats 4000000

section
namespace Go.Proofs.YtbgmnmnoaamgkaaGreatDoor
open Go Go.Hm Go.Proofs
theorem qH6 (gl) (r:Rsl) (h1:r.out.length≤1048576) (h2:r.gl.length≤1048576):qW Tryz.prog gl 29 [.agg [isl r.out,iv r.en,iv r.left,isl r.gl],.agg [isl r.out,iv r.en,iv r.left,isl r.gl]] (fun _ z _=>z=bv true):=by
 refine qW.of_sem Tryz.func29 rfl (by kernel_rfl) (rs:=[.tmp 4]) rfl Tryz.ntmps29 (lB rfl) fun C w g root=>?_
 have fx:= @qr
 have c1:=qCw gl r.out r.out h1 h1
 have c2:=qCw gl r.gl r.gl h2 h2
 refine qB ?_
 clear fx c1 c2
 refine qH [] .nil (by simp;rfl) (by simp)
theorem qEm (gl) (r:Rsl) (c:Int) (hc:0≤c∧c≤1024) (h1:r.out.length≤1048576) (h2:r.gl.length≤1048576):qW Tryz.prog gl 31 [.agg [isl (r.mark c).out,iv r.en,iv r.left,isl (r.mark c).gl],iv c] (fun _ z _=>z=iv (c+r.out.length+r.gl.length)):=by
 have e1:¬ c+(r.out.length:Int)<0:=by omega
 have e2:¬ c+(r.out.length:Int)+r.gl.length<0:=by omega
 have q1:=qCl gl r.out.length c (by omega) h1
 have q2:=qCl gl r.gl.length (c+r.out.length) (by omega) h2
 simp only [Rsl.mark]
 refine qW.of_sem Tryz.func31 rfl (by kernel_rfl) (rs:=[.tmp 4]) rfl Tryz.ntmps31 (lB rfl) fun C w g root=>?_
 have fx:=aI e1<|e2
 have c1:=q1
 have c2:=q2
 refine qB ?_
 clear fx c1 c2
 refine qH [] .nil (by simp;rfl) (by simp)
theorem qEd (gl) (H:Nm→Option AO) (r:Rsl) (c:Int) (hT:H (.u 0 0 0)=some (.row 4 [r.own (.u 0 0 0)])) (hO:OwnR H (.u 0 0 0) r) (hV:H (.u 1 0 0)=none) (hc:0≤c∧c≤1024) (h1:r.out.length≤1048576) (h2:r.gl.length≤1048576) :
  FnE Tryz.prog gl 30 (Nm.under (.u 0 0 0)) [.agg [.hs (.c (.u 0 0 0) 0 0) 1 0 r.out.length,iv r.en,iv r.left,.hs (.c (.u 0 0 0) 0 3) 1 0 r.gl.length],iv c] H (fun _ y H'=>y=iv (c+r.out.length+r.gl.length)∧H' (.u 0 0 0)=some (.row 4 [r.own (.u 0 0 0)])∧OwnR H' (.u 0 0 0) (r.mark c)) noE:=by
 obtain⟨a1,a2⟩:=hO
 rw [Rsl.own_eq] at hT ⊢
 refine FnE.of_sem Tryz.func30 rfl (by kernel_rfl) (rs:=[.tmp 4]) rfl Tryz.ntmps30 (lB rfl) (fun _=>qu rfl) fun C w g root hroot=>?_
 have hx1:(ue Tryz.prog C w g H Tryz.f30.ntmps gl).ext (.u 1 0 0)=false:=by simp [ue,hV]
 have fx:=aI hT<|aI a1<|a2
 refine qB ?_
 clear fx
 intro K hK
 have fx:=fx0
 refine qBH (.c (.u 0 0 0) 0 0) (.u 1 0 0) (hext:=hx1) (hs:=by simp [a1]) (hF:=wk _ _ r.out c (by simp [a1]) (by omega) h1) (h:=?_)
 rintro y H1 ⟨rfl,hy1⟩
 clear fx
 have fx:=aI hT<|aI a1<|a2
 refine qB ?_
 clear fx
 intro K hK
 have fx:=fx0
 refine qBH (.c (.u 0 0 0) 0 3) (.u 1 0 0) (hext:=hx1) (hs:=by simp [a2]) (hF:=wk _ _ r.gl (c+r.out.length) (by simp [a2]) (by omega) h2) (h:=?_)
 rintro y H2 ⟨rfl,hy2⟩
 clear fx
 have fx:=fx0
 refine qB ?_
 clear fx
 refine qH [] .nil (by simp;rfl) ⟨by simp,by simp [hT],⟨by simp [hy1,Rsl.mark],by simp [hy2,Rsl.mark]⟩⟩
abbrev qAo:Sch:=.q 0<|.q 1<|.l 2 [0]<|.l 3 []<|.q 4<|.done
theorem qBF (gl:Nat→Option (List AV)) (hgl:gl 0=some uM) (p:Prg) (b:Int) (hb:Big p):qW Tryz.prog gl 8 [pav p,iv b] (fun _ y _=>y=bv true):=by
 refine qW.of_sem Tryz.func8 rfl (by kernel_rfl) (rs:=[.tmp 4]) rfl Tryz.ntmps8 (lB rfl) fun C w g root=>?_
 by_cases ht:tot p≤1048576
 case neg =>
  have fx:= ht
  have c1:=jV gl p hb
  refine qB ?_
  repeat ((first|refine wSc (id:=10) qAo qA ?_);refine qD ?_;refine qB ?_)
  clear fx c1
  refine qH [] .nil (by simp;rfl) (by simp)
 have hs:=qDy ht
 have hgt:¬ 1048576 - (tot p:Int)<0:=by omega
 have hsa:=qCD gl p b hs
 have hia:=qCk gl hgl p b hs
 obtain⟨hl1,hl2⟩:=qNw (f:=b) hs
 generalize qFJ p b=R at hsa hia hl1 hl2
 have heq:=qH6 gl R (by omega) (by omega)
 have hcp:=qEx hs p.length
 have hpl:=hs.len
 have fx:=aI ht<|hgt
 have c1:=jV gl p hb
 have e1:=zM gl p hs
 refine qB ?_
 repeat ((first|refine wSc (id:=10) qAo qA ?_);refine qD ?_;refine qB ?_)
 clear fx c1 e1
 rintro K hK y H1 ⟨rfl,hO⟩
 obtain⟨ho1,ho2,ho3⟩:=hO.hcln
 refine⟨by simp,?_⟩
 have fx:=aI ht<|hgt
 have e1:=hsa
 refine qB ?_
 repeat ((first|refine wSc (id:=10) qAo qA ?_);refine qD ?_;refine qB ?_)
 clear fx e1
 rintro y H2 ⟨rfl,hR⟩
 obtain⟨r1,r2⟩:=hR.hcln
 refine⟨by simp,?_⟩
 have fx:=aI ht<|aI hgt<|aI r1<|r2
 refine qB ?_
 repeat ((first|refine wSc (id:=10) qAo qA ?_);refine qD ?_;refine qB ?_)
 clear fx
 intro K hK
 refine qOR (.c (.s 21) 0 0) (.c (.s 6) 0 0) (.inl rfl) (.inl rfl) (qOR (.c (.s 21) 0 3) (.c (.s 6) 0 3) (.inl rfl) (.inl rfl) ?_)
 refine yg (fun st=>st.tm 2=.pt (.s 2) 0∧st.hp (.s 2)=some (.row 1 [[ksl p]])∧st.tm 6=.pt (.s 6) 0∧st.hp (.s 6)=some (.row 4 [R.own (.s 6)])∧OwnR st.hp (.s 6) R∧st.tm 1=iv b∧st.tm 22=pav p) ⟨by simp,by simp,by simp,by simp,⟨by simp [r1],by simp [r2]⟩,by simp,by simp⟩ ?_
 clear hO ho1 ho2 ho3 hR r1 r2
 rintro st ⟨h2,hp2,h6,hp6,⟨r1,r2⟩,h1,h22⟩
 rw [Rsl.own_eq] at hp6
 have fx:=aI h2<|aI hp2<|aI h6<|aI hp6<|aI h1<|h22
 have e1:=zM gl p hs
 refine qB ?_
 repeat ((first|refine wSc (id:=10) qAo qA ?_);refine qD ?_;refine qB ?_)
 clear fx e1
 rintro y H2 ⟨rfl,hO⟩
 obtain⟨b1,b2,b3⟩:=hO.hcln
 refine⟨by simp,?_⟩
 have fx:=aI h2<|aI hp2<|aI h6<|aI hp6<|aI h1<|aI b1<|aI r1<|r2
 have e1:=hia
 refine qB ?_
 repeat ((first|refine wSc (id:=10) qAo qA ?_);refine qD ?_;refine qB ?_)
 clear fx e1
 rintro K hK y H3 ⟨rfl,hR3⟩
 obtain⟨s1,s2⟩:=hR3.hcln
 refine⟨by simp,?_⟩
 have fx:=aI h2<|aI hp2<|aI h6<|aI hp6<|aI h1<|aI b1<|aI r1<|aI r2<|aI s1<|s2
 refine qB ?_
 repeat ((first|refine wSc (id:=10) qAo qA ?_);refine qD ?_;refine qB ?_)
 clear fx
 intro K hK
 refine qOR (.c (.s 26) 0 0) (.c (.s 8) 0 0) (.inl rfl) (.inl rfl) (qOR (.c (.s 26) 0 3) (.c (.s 8) 0 3) (.inl rfl) (.inl rfl) ?_)
 refine yg (fun st=>st.tm 2=.pt (.s 2) 0∧st.hp (.s 2)=some (.row 1 [[ksl p]])∧st.tm 6=.pt (.s 6) 0∧st.hp (.s 6)=some (.row 4 [R.own (.s 6)])∧OwnR st.hp (.s 6) R∧st.tm 1=iv b∧st.tm 7=.pt (.s 7) 0∧st.hp (.s 7)=some (.row 1 [[.hs (.c (.s 7) 0 0) 4 0 p.length]])∧OwnP st.hp (.c (.s 7) 0 0) p∧st.tm 8=.pt (.s 8) 0∧st.hp (.s 8)=some (.row 4 [R.own (.s 8)])∧OwnR st.hp (.s 8) R∧st.tm 27=.agg (R.own (.s 8))∧st.tm 28=.agg (R.own (.s 6)))
  ⟨by simp [h2],by simp [hp2],by simp [h6],by simp [hp6],⟨by simp [r1],by simp [r2]⟩,by simp [h1],by simp,by simp,⟨by simp [b1,-List.map_map];rw [vA (m:=.c (.s 7) 0 0) (by simp),vA (m:=.c (.s 7) 0 0) (by simp)],fun j r hj=>by simp [b2 j r hj],fun j r hj=>by simp [b3 j r hj]⟩,by simp,by simp,⟨by simp [s1],by simp [s2]⟩,by simp,by simp⟩ ?_
 clear h2 hp2 h6 hp6 h1 h22 r1 r2 s1 s2 hO b1 b2 b3 hR3
 rintro st ⟨h2,hp2,h6,hp6,⟨r1,r2⟩,h1,h7,hp7,⟨b1,b2,b3⟩,h8,hp8,⟨s1,s2⟩,h27,h28⟩
 rw [Rsl.own_eq] at hp6 hp8 h27 h28
 all_goals have fx:=aI h2<|aI hp2<|aI h6<|aI hp6<|aI h1<|aI h7<|aI hp7<|aI h8<|aI hp8<|aI r1<|aI r2<|aI s1<|aI s2<|aI h27<|h28
 repeat' (first
  | refine qN ?_|refine qR ?_|refine qM fun K hK=>?_
  | ((with_reducible refine qK hK ?_);clear hK K)
  | (with_reducible first|refine qC ?_|refine qI ?_|refine wL ?_)
  | refine qX ?_
  | (with_reducible refine qG ?_)
  | ((with_reducible refine yV ?_);refine q6 (h:=?_))
  | (with_reducible first|refine ze ?_|refine jE ?_|refine vG (h:=?_)|refine vj (h:=?_)|refine x_u (h:=?_)|refine qE (h:=?_)|refine zG (h:=?_)|refine qg (h:=?_)|refine qU (h:=?_)|refine jY (h:=?_))
  | ((with_reducible refine qv 29 rfl ?_);refine qL (hB:=(by first|((repeat' (first|exact .nil|refine .cons ?_ ?_|exact .refl _|exact jF (by simp [fx];first|done|rfl) (by first|(simp [fx];done)|(simp [fx];omega)|omega)|exact jt (by simp [fx];first|done|rfl) (by first|(simp [fx];done)|(simp [fx];omega)|omega) (by first|(simp;done)|fail)|exact wY (n:=.s 8) (r:=R) ⟨by simp [s1],by simp [s2]⟩|exact wY (n:=.s 6) (r:=R) ⟨by simp [r1],by simp [r2]⟩));done)|fail)) (hF:=heq) (h:=?_))
  | ((with_reducible refine qv 13 rfl ?_);refine qDt (hB:=(by first|((repeat' (first|exact .nil|refine .cons ?_ ?_|exact .refl _|exact jF (by simp [fx];first|done|rfl) (by first|(simp [fx];done)|(simp [fx];omega)|omega)|exact jt (by simp [fx];first|done|rfl) (by first|(simp [fx];done)|(simp [fx];omega)|omega) (by first|(simp;done)|fail)|exact wY (n:=.s 8) (r:=R) ⟨by simp [s1],by simp [s2]⟩|exact wY (n:=.s 6) (r:=R) ⟨by simp [r1],by simp [r2]⟩));done)|fail)) (hF:=zM gl p hs) (h:=?_))
  | (with_reducible refine x_q (h:=?_))
  | (with_reducible refine vC (fun ht=>?_) (fun ht=>?_))
  | refine qO (h1:=?_)|refine qS (h1:=?_)
  | (refine wSc (id:=10) qAo qA fun K hK=>?_)
  | ((with_reducible refine uF hK ?_);clear hK K)
  | ((with_reducible refine qAf ?_);first|refine qFT (h:=?_)|refine qBt (h:=?_)|refine qBu (h:=?_)|refine qBs (h:=?_))
  | ((with_reducible refine qAf ?_);refine qBv (h1:=fun ht=>?_) (h2:=fun ht=>?_))
  | refine a_l rfl ?_|refine qMY ?_ ?_|refine qMX ?_ ?_ ?_|(with_reducible refine aI ?_ ?_)|exact vW|refine w7 (h2:=?_)
  | fail)
 all_goals try clear fx
 rintro y H3 ⟨rfl,hO3⟩
 obtain⟨ho1,ho2,ho3⟩:=hO3.hcln
 refine⟨by simp,?_⟩
 have fx:=aI h2<|aI hp2<|aI h6<|aI hp6<|aI h7<|aI hp7<|aI h8<|aI hp8<|aI b1<|ho1
 have c1:=uL gl p p hs hs
 refine qB ?_
 repeat ((first|refine wSc (id:=10) qAo qA ?_);refine qD ?_;refine qB ?_)
 clear fx c1
 intro K hK
 refine yg (fun st=>st.tm 2=.pt (.s 2) 0∧st.hp (.s 2)=some (.row 1 [[ksl p]])∧st.tm 6=.pt (.s 6) 0∧st.hp (.s 6)=some (.row 4 [R.own (.s 6)])∧OwnR st.hp (.s 6) R∧st.tm 1=iv b∧OwnP st.hp (.c (.s 7) 0 0) p∧st.tm 8=.pt (.s 8) 0∧st.hp (.s 8)=some (.row 4 [R.own (.s 8)])∧OwnR st.hp (.s 8) R∧st.tm 36=.agg [.hs (.c (.s 7) 0 0) 4 0 p.length]∧st.tm 37=iv 1)
  ⟨by simp [h2],by simp [hp2],by simp [h6],by simp [hp6],⟨by simp [r1],by simp [r2]⟩,by simp [h1],⟨by simp [b1],fun j r hj=>by simp [b2 j r hj],fun j r hj=>by simp [b3 j r hj]⟩,by simp [h8],by simp [hp8],⟨by simp [s1],by simp [s2]⟩,by simp,by simp⟩ ?_
 clear h2 hp2 h6 hp6 r1 r2 h1 h7 hp7 b1 b2 b3 h8 hp8 s1 s2 h27 h28 ho1 ho2 ho3 hO3
 rintro st ⟨h2,hp2,h6,hp6,⟨r1,r2⟩,h1,⟨b1,b2,b3⟩,h8,hp8,⟨s1,s2⟩,h36,h37⟩
 rw [Rsl.own_eq] at hp6 hp8
 have fx:=aI h36 h37
 refine qBH (.c (.s 7) 0 0) (.u 0 0 0) (hext:=rfl) (hs:=by simp [b1]) (hF:=wV _ _ p 1 hs ⟨by simp [b1],fun j r hj=>by simp [b2 j r hj],fun j r hj=>by simp [b3 j r hj]⟩ (by simp) (by decide)) (h:=?_)
 rintro y H6 ⟨rfl,⟨d1,d2,d3⟩⟩
 clear fx
 refine qKh (fun st=>st.tm 2=.pt (.s 2) 0∧st.hp (.s 2)=some (.row 1 [[ksl p]])∧st.tm 6=.pt (.s 6) 0∧st.hp (.s 6)=some (.row 4 [R.own (.s 6)])∧OwnR st.hp (.s 6) R∧st.tm 1=iv b∧st.tm 8=.pt (.s 8) 0∧st.hp (.s 8)=some (.row 4 [R.own (.s 8)])∧OwnR st.hp (.s 8) R∧st.tm 38=iv (1+cnt p))
  ⟨by simp [h2],by simp [hp2],by simp [h6],by simp [hp6],⟨by simp [r1],by simp [r2]⟩,by simp [h1],by simp [h8],by simp [hp8],⟨by simp [s1],by simp [s2]⟩,by simp⟩ ?_
 clear h2 hp2 h6 hp6 r1 r2 h1 b1 b2 b3 h8 hp8 s1 s2 h36 h37 d1 d2 d3
 rintro st ⟨h2,hp2,h6,hp6,⟨r1,r2⟩,h1,h8,hp8,⟨s1,s2⟩,h38⟩
 rw [Rsl.own_eq] at hp6 hp8
 have hk1:¬ 1+(cnt p:Int)<0:=by omega
 all_goals have fx:=aI h2<|aI hp2<|aI h6<|aI hp6<|aI h1<|aI h8<|aI hp8<|aI r1<|aI r2<|aI s1<|aI s2<|aI h38<|hk1
 repeat' (first
  | refine qN ?_|refine qR ?_|refine qM fun K hK=>?_
  | ((with_reducible refine qK hK ?_);clear hK K)
  | (with_reducible first|refine qC ?_|refine qI ?_|refine wL ?_)
  | refine qX ?_
  | (with_reducible refine qG ?_)
  | ((with_reducible refine yV ?_);refine q6 (h:=?_))
  | (with_reducible first|refine ze ?_|refine jE ?_|refine vG (h:=?_)|refine vj (h:=?_)|refine x_u (h:=?_)|refine qE (h:=?_)|refine zG (h:=?_)|refine qg (h:=?_)|refine qU (h:=?_)|refine jY (h:=?_))
  | ((with_reducible refine qv 29 rfl ?_);refine qL (hB:=(by first|((repeat' (first|exact .nil|refine .cons ?_ ?_|exact .refl _|exact jF (by simp [fx];first|done|rfl) (by first|(simp [fx];done)|(simp [fx];omega)|omega)|exact jt (by simp [fx];first|done|rfl) (by first|(simp [fx];done)|(simp [fx];omega)|omega) (by first|(simp;done)|fail)|exact wY (n:=.s 8) (r:=R) ⟨by simp [s1],by simp [s2]⟩|exact wY (n:=.s 6) (r:=R) ⟨by simp [r1],by simp [r2]⟩));done)|fail)) (hF:=heq) (h:=?_))
  | (with_reducible refine x_q (h:=?_))
  | (with_reducible refine vC (fun ht=>?_) (fun ht=>?_))
  | refine qO (h1:=?_)|refine qS (h1:=?_)
  | (refine wSc (id:=10) qAo qA fun K hK=>?_)
  | ((with_reducible refine uF hK ?_);clear hK K)
  | ((with_reducible refine qAf ?_);first|refine qFT (h:=?_)|refine qBt (h:=?_)|refine qBu (h:=?_)|refine qBs (h:=?_))
  | ((with_reducible refine qAf ?_);refine qBv (h1:=fun ht=>?_) (h2:=fun ht=>?_))
  | refine a_l rfl ?_|refine qMY ?_ ?_|refine qMX ?_ ?_ ?_|(with_reducible refine aI ?_ ?_)|exact vW|refine w7 (h2:=?_)
  | fail)
 all_goals try clear fx
 refine yg (fun st=>st.tm 2=.pt (.s 2) 0∧st.hp (.s 2)=some (.row 1 [[ksl p]])∧st.tm 6=.pt (.s 6) 0∧st.hp (.s 6)=some (.row 4 [R.own (.s 6)])∧OwnR st.hp (.s 6) R∧st.tm 1=iv b∧st.tm 8=.pt (.s 8) 0∧st.hp (.s 8)=some (.row 4 [R.own (.s 8)])∧OwnR st.hp (.s 8) R∧st.tm 47=.agg (R.own (.s 8))∧st.tm 48=iv 1)
  ⟨by simp [h2],by simp [hp2],by simp [h6],by simp [hp6],⟨by simp [r1],by simp [r2]⟩,by simp [h1],by simp [h8],by simp [hp8],⟨by simp [s1],by simp [s2]⟩,by simp [h8,hp8],by simp⟩ ?_
 clear h2 hp2 h6 hp6 r1 r2 h1 h8 hp8 s1 s2 h38
 rintro st ⟨h2,hp2,h6,hp6,⟨r1,r2⟩,h1,h8,hp8,⟨s1,s2⟩,h47,h48⟩
 rw [Rsl.own_eq] at hp6 hp8 h47
 have fx:=aI h47 h48
 refine qBH (.s 8) (.u 0 0 0) (hext:=rfl) (hs:=by simp [hp8]) (hF:=qEd _ _ R 1 (by simp [hp8]) ⟨by simp [s1],by simp [s2]⟩ (by simp) (by decide) (by omega) (by omega)) (h:=?_)
 rintro y H7 ⟨rfl,hMt,⟨m1,m2⟩⟩
 clear fx
 rw [Rsl.own_eq] at hMt
 refine qKh (fun st=>st.tm 2=.pt (.s 2) 0∧st.hp (.s 2)=some (.row 1 [[ksl p]])∧st.tm 6=.pt (.s 6) 0∧st.hp (.s 6)=some (.row 4 [R.own (.s 6)])∧OwnR st.hp (.s 6) R∧st.tm 1=iv b∧st.tm 8=.pt (.s 8) 0∧st.hp (.s 8)=some (.row 4 [R.own (.s 8)])∧OwnR st.hp (.s 8) (R.mark 1)∧st.tm 49=iv (1+R.out.length+R.gl.length))
  ⟨by simp [h2],by simp [hp2],by simp [h6],by simp [hp6],⟨by simp [r1],by simp [r2]⟩,by simp [h1],by simp [h8],by simp [hMt],⟨by simp [m1],by simp [m2]⟩,by simp⟩ ?_
 clear h2 hp2 h6 hp6 r1 r2 h1 h8 hp8 s1 s2 h47 h48 hMt m1 m2
 rintro st ⟨h2,hp2,h6,hp6,⟨r1,r2⟩,h1,h8,hp8,⟨s1,s2⟩,h49⟩
 rw [Rsl.own_eq] at hp6 hp8
 have hhe:=qEm gl R 1 (by decide) (by omega) (by omega)
 have hmo:=Rsl.mark_out (r:=R) (c:=1)
 have hmg:=Rsl.mark_gl (r:=R) (c:=1)
 have hk2:¬ 1+(R.out.length:Int)+R.gl.length<0:=by omega
 all_goals have fx:=aI h2<|aI hp2<|aI h6<|aI hp6<|aI h1<|aI h8<|aI hp8<|aI r1<|aI r2<|aI s1<|aI s2<|aI h49<|aI hk2<|@qr
 repeat' (first
  | refine qN ?_|refine qR ?_|refine qM fun K hK=>?_
  | ((with_reducible refine qK hK ?_);clear hK K)
  | (with_reducible first|refine qC ?_|refine qI ?_|refine wL ?_)
  | refine qX ?_
  | (with_reducible refine qG ?_)
  | ((with_reducible refine yV ?_);refine q6 (h:=?_))
  | (with_reducible first|refine ze ?_|refine jE ?_|refine vG (h:=?_)|refine vj (h:=?_)|refine x_u (h:=?_)|refine qE (h:=?_)|refine zG (h:=?_)|refine qg (h:=?_)|refine qU (h:=?_)|refine jY (h:=?_))
  | ((with_reducible refine qv 31 rfl ?_);refine qL (hB:=(by first|((repeat' (first|exact .nil|refine .cons ?_ ?_|exact .refl _|exact jF (by simp [fx];first|done|rfl) (by first|(simp [fx];done)|(simp [fx];omega)|omega)|exact jt (by simp [fx];first|done|rfl) (by first|(simp [fx];done)|(simp [fx];omega)|omega) (by first|(simp;done)|fail)|exact .agg _ _ rfl (hmo ▸ hmg ▸ qDD (n:=.s 8) (r:=R.mark 1) ⟨by simp [s1],by simp [s2]⟩)));done)|fail)) (hF:=hhe) (h:=?_))
  | ((with_reducible refine qv 13 rfl ?_);refine qDt (hB:=(by first|((repeat' (first|exact .nil|refine .cons ?_ ?_|exact .refl _|exact jF (by simp [fx];first|done|rfl) (by first|(simp [fx];done)|(simp [fx];omega)|omega)|exact jt (by simp [fx];first|done|rfl) (by first|(simp [fx];done)|(simp [fx];omega)|omega) (by first|(simp;done)|fail)|exact .agg _ _ rfl (hmo ▸ hmg ▸ qDD (n:=.s 8) (r:=R.mark 1) ⟨by simp [s1],by simp [s2]⟩)));done)|fail)) (hF:=zM gl p hs) (h:=?_))
  | (with_reducible refine x_q (h:=?_))
  | (with_reducible refine vC (fun ht=>?_) (fun ht=>?_))
  | refine qO (h1:=?_)|refine qS (h1:=?_)
  | (refine wSc (id:=10) qAo qA fun K hK=>?_)
  | ((with_reducible refine uF hK ?_);clear hK K)
  | ((with_reducible refine qAf ?_);first|refine qFT (h:=?_)|refine qBt (h:=?_)|refine qBu (h:=?_)|refine qBs (h:=?_))
  | ((with_reducible refine qAf ?_);refine qBv (h1:=fun ht=>?_) (h2:=fun ht=>?_))
  | refine a_l rfl ?_|refine qMY ?_ ?_|refine qMX ?_ ?_ ?_|(with_reducible refine aI ?_ ?_)|exact vW|refine w7 (h2:=?_)
  | fail)
 all_goals try clear fx
 rintro y H8 ⟨rfl,hO⟩
 obtain⟨ho1,ho2,ho3⟩:=hO.hcln
 refine⟨by simp,?_⟩
 have fx:=aI h2<|aI hp2<|aI h6<|aI hp6<|aI h1<|aI h8<|aI hp8<|ho1
 have e1:=hia
 refine qB ?_
 repeat ((first|refine wSc (id:=10) qAo qA ?_);refine qD ?_;refine qB ?_)
 clear fx e1
 rintro y H9 ⟨rfl,hR9⟩
 obtain⟨t1,t2⟩:=hR9.hcln
 refine⟨by simp,?_⟩
 all_goals have fx:=aI h2<|aI hp2<|aI h6<|aI hp6<|aI h1<|aI h8<|aI hp8<|aI ho1<|aI r1<|aI r2<|aI s1<|aI s2<|aI t1<|aI t2<|aI hk2<|@qr
 repeat' (first
  | refine qN ?_|refine qR ?_|refine qM fun K hK=>?_
  | ((with_reducible refine qK hK ?_);clear hK K)
  | (with_reducible first|refine qC ?_|refine qI ?_|refine wL ?_)
  | refine qX ?_
  | (with_reducible refine qG ?_)
  | ((with_reducible refine yV ?_);refine q6 (h:=?_))
  | (with_reducible first|refine ze ?_|refine jE ?_|refine vG (h:=?_)|refine vj (h:=?_)|refine x_u (h:=?_)|refine qE (h:=?_)|refine zG (h:=?_)|refine qg (h:=?_)|refine qU (h:=?_)|refine jY (h:=?_))
  | ((with_reducible refine qv 29 rfl ?_);refine qL (hB:=(by first|((repeat' (first|exact .nil|refine .cons ?_ ?_|exact .refl _|exact jF (by simp [fx];first|done|rfl) (by first|(simp [fx];done)|(simp [fx];omega)|omega)|exact jt (by simp [fx];first|done|rfl) (by first|(simp [fx];done)|(simp [fx];omega)|omega) (by first|(simp;done)|fail)|exact wY (n:=.s 61) (r:=R) ⟨by simp [t1],by simp [t2]⟩|exact wY (n:=.s 6) (r:=R) ⟨by simp [r1],by simp [r2]⟩|exact .agg _ _ rfl (hmo ▸ hmg ▸ qDD (n:=.s 8) (r:=R.mark 1) ⟨by simp [s1],by simp [s2]⟩)));done)|fail)) (hF:=heq) (h:=?_))
  | ((with_reducible refine qv 31 rfl ?_);refine qL (hB:=(by first|((repeat' (first|exact .nil|refine .cons ?_ ?_|exact .refl _|exact jF (by simp [fx];first|done|rfl) (by first|(simp [fx];done)|(simp [fx];omega)|omega)|exact jt (by simp [fx];first|done|rfl) (by first|(simp [fx];done)|(simp [fx];omega)|omega) (by first|(simp;done)|fail)|exact wY (n:=.s 61) (r:=R) ⟨by simp [t1],by simp [t2]⟩|exact wY (n:=.s 6) (r:=R) ⟨by simp [r1],by simp [r2]⟩|exact .agg _ _ rfl (hmo ▸ hmg ▸ qDD (n:=.s 8) (r:=R.mark 1) ⟨by simp [s1],by simp [s2]⟩)));done)|fail)) (hF:=hhe) (h:=?_))
  | (with_reducible refine x_q (h:=?_))
  | (with_reducible refine vC (fun ht=>?_) (fun ht=>?_))
  | refine qO (h1:=?_)|refine qS (h1:=?_)
  | (refine wSc (id:=10) qAo qA fun K hK=>?_)
  | ((with_reducible refine uF hK ?_);clear hK K)
  | ((with_reducible refine qAf ?_);first|refine qFT (h:=?_)|refine qBt (h:=?_)|refine qBu (h:=?_)|refine qBs (h:=?_))
  | ((with_reducible refine qAf ?_);refine qBv (h1:=fun ht=>?_) (h2:=fun ht=>?_))
  | refine a_l rfl ?_|refine qMY ?_ ?_|refine qMX ?_ ?_ ?_|(with_reducible refine aI ?_ ?_)|exact vW|refine w7 (h2:=?_)
  | fail)
 all_goals try clear fx
 refine qH [] .nil (by simp;rfl) (by simp)
end Go.Proofs.YtbgmnmnoaamgkaaGreatDoor
end
