/-
  Own texts, joined by mkclaim.py: Sc.
-/
import Derived.Test.YtbgmnmnoaamgkaaGreatDoorC34
import Derived.Test.YtbgmnmnoaamgkaaGreatDoorC12
set_option linter.unusedSimpArgs false
set_option linter.unusedVariables false
set_option maxRecDepth 100000
set_option maxHeartbeats 4000000

section
namespace Go.Proofs.YtbgmnmnoaamgkaaGreatDoor
open Go Go.Hm Go.Proofs
abbrev qKv:Sch:=.q 0<|.q 1<|.q 2<|.q 3<|.q 4<|.q 5<|.q 6<|.q 7<|.l 8 []<|.q 9<|.done
theorem qLu (gl) (a b c d:Int):qW Tryz.prog gl 52 [.agg [iv a,iv b],.agg [iv c,iv d]] (fun _ z _=>z=bv (decide ((a,b)=(c,d)))):=by
 refine qW.of_sem Tryz.func52 rfl (by kernel_rfl) (rs:=[.tmp 4]) rfl Tryz.ntmps52 (lB rfl) fun C w g root=>?_
 by_cases h1:a=c
 ·subst h1
  by_cases h2:b=d
  ·subst h2
   have fx:= @qr
   refine qB ?_
   clear fx
   refine qH [] .nil (by simp;rfl) (by simp)
  ·have e2:(b==d)=false:=by simpa using h2
   have fx:=aI @qr<|e2
   refine qB ?_
   clear fx
   refine qH [] .nil (by simp;rfl) (by simp [h2])
 ·have e1:(a==c)=false:=by simpa using h1
  have fx:=aI @qr<|e1
  refine qB ?_
  clear fx
  refine qH [] .nil (by simp;rfl) (by simp [h1])
theorem qJr (gl) (xs ys:List (Int×Int)) (hx:xs.length≤1048576) (hy:ys.length≤1048576):qW Tryz.prog gl 23 [osl xs,osl ys] (fun _ z _=>z=bv (decide (xs=ys))):=by
 refine qW.of_sem Tryz.func23 rfl (by kernel_rfl) (rs:=[.tmp 4]) rfl Tryz.ntmps23 (lB rfl) fun C w g root=>?_
 by_cases hl:xs.length=ys.length
 case neg =>
  have h1:((xs.length:Int)==ys.length)=false:=by simp;omega
  have fx:=aI h1<|@qr
  refine qB ?_
  repeat ((first|refine wSc (id:=6) qKv qA ?_);refine qD ?_;refine qB ?_)
  clear fx
  refine qH [] .nil (by simp;rfl) ?_
  have:¬ xs=ys:=fun e=>hl (by rw [e])
  simp [this]
 have fx:=aI hl<|@qr
 refine qB ?_
 repeat ((first|refine wSc (id:=6) qKv qA ?_);refine qD ?_;refine qB ?_)
 clear fx
 refine q7 (fun n st=>∃ i:Nat,n=xs.length - i∧i≤xs.length∧st.tm 0=osl xs∧st.tm 1=osl ys∧st.tm 5=iv i∧xs.take i=ys.take i) xs.length ⟨0,by simp⟩ ?_
 rintro n st - - ⟨i,rfl,hi,h0,h1,h5,heq⟩
 by_cases hil:i<xs.length
 ·obtain⟨x,hxi⟩:∃ x,xs[i]?=some x:=⟨_,gE (by omega)⟩
  obtain⟨y,hyi⟩:∃ y,ys[i]?=some y:=⟨_,gE (by omega)⟩
  obtain⟨hil2,hxE⟩:=gS hxi
  obtain⟨hil3,hyE⟩:=gS hyi
  have hc:=qLu gl x.1 x.2 y.1 y.2
  by_cases hxy:x=y
  ·subst hxy
   simp only [decide_true] at hc
   have fx:=aI h0<|aI h1<|aI h5<|aI hil<|aI hil3<|aI hxi<|aI hyi<|aI hxE<|hyE
   have c1:=hc
   refine qB ?_
   repeat ((first|refine wSc (id:=6) qKv qA ?_);refine qD ?_;refine qB ?_)
   clear fx c1
   refine⟨xs.length - (i+1),by omega,i+1,rfl,by omega,by simp [h0],by simp [h1],by simp;exact wrp (by omega) (by omega),?_⟩
   rw [List.take_add_one,List.take_add_one,heq,hxi,hyi]
  ·have hd:decide ((x.1,x.2)=(y.1,y.2))=false:=decide_eq_false hxy
   rw [hd] at hc
   have hne:¬ xs=ys:=fun e=>hxy (by rw [e,hyi] at hxi;exact (sI hxi).symm)
   have fx:=aI h0<|aI h1<|aI h5<|aI hil<|aI hil3<|aI hxi<|aI hyi<|aI hxE<|hyE
   have c1:=hc
   refine qB ?_
   repeat ((first|refine wSc (id:=6) qKv qA ?_);refine qD ?_;refine qB ?_)
   clear fx c1
   refine qH [] .nil (by simp;rfl) (by simp [hne])
 ·have hge:i=xs.length:=by omega
  have:xs=ys:=by rw [hge,List.take_length,hl,List.take_length] at heq;exact heq
  have fx:=aI h0<|aI h1<|aI h5<|hil
  refine qB ?_
  repeat ((first|refine wSc (id:=6) qKv qA ?_);refine qD ?_;refine qB ?_)
  clear fx
  refine qH [] .nil (by simp;rfl) (by simp [this])
theorem qGK (gl) (H:Nm→Option AO) (xs:List (Int×Int)) (c:Int) (hH:H (.u 1 0 0)=some (.row 2 (zb xs))) (hc:0≤c∧c≤1152921504606846976) (hx:xs.length≤1048576) :
  FnE Tryz.prog gl 25 (Nm.under (.u 1 0 0)) [.hs (.u 1 0 0) 2 0 xs.length,iv c] H (fun _ y H'=>y=iv (c+2 * xs.length)∧H' (.u 1 0 0)=some (.row 2 (zb (u7 xs.length c)))) noE:=by
 refine FnE.of_sem Tryz.func25 rfl (by kernel_rfl) (rs:=[.tmp 4]) rfl Tryz.ntmps25 (lB rfl) (fun _=>qu rfl) fun C w g root hroot=>?_
 have fx:=fx0
 refine qB ?_
 clear fx
 refine q7 (fun n st=>∃ i:Nat,n=xs.length - i∧i≤xs.length∧st.tm 0=.hs (.u 1 0 0) 2 0 xs.length∧st.tm 1=iv (c+2 * i)∧st.hp (.u 1 0 0)=some (.row 2 (zb (u7 i c++xs.drop i)))∧st.tm 5=iv i) xs.length ?_ ?_
 ·exact⟨0,by simp,by simp,by simp,by simp,by simp [hH,u7],by simp⟩
 rintro n st - - ⟨i,rfl,hi,h0,h1,hp0,h5⟩
 by_cases hil:i<xs.length
 ·have vr:=qLX (c:=c) hil
  have hll:(u7 i c++xs.drop i).length=xs.length:=by simp;omega
  have hs4:=qJa (L:=u7 i c++xs.drop i) (i:=i) (a:=c+2 * i) (b:=c+2 * i+1) (by omega)
  rw [vr] at hs4
  obtain⟨v0,hv0⟩:∃ v,v=c+2 * (i:Int):=⟨_,rfl⟩
  rw [← hv0] at h1 hs4
  obtain⟨v1,hv1⟩:∃ v,v=v0+1:=⟨_,rfl⟩
  have hw1:IntKind.i64.wrap (v0+1)=v1:=by rw [hv1];exact wrp (by omega) (by omega)
  have hw2:IntKind.i64.wrap (v1+1)=v1+1:=wrp (by omega) (by omega)
  rw [← hv1] at hs4
  generalize u7 i c++xs.drop i=L at hp0 hll hs4
  clear vr
  have fx:=aI h0<|aI h1<|aI hp0<|aI h5<|aI hil<|aI hll<|hw1
  refine qB ?_
  clear fx
  refine⟨xs.length - (i+1),by omega,i+1,rfl,by omega,by simp [h0],?_,by simp [hw1,hs4],by simp;exact wrp (by omega) (by omega)⟩
  simp [hw1,hw2]
  omega
 ·have hge:i=xs.length:=by omega
  subst hge
  rw [List.drop_length,List.append_nil] at hp0
  have fx:=aI h0<|aI h1<|aI hp0<|aI h5<|hil
  refine qB ?_
  clear fx
  refine qH [] .nil (by simp;rfl) ⟨by simp,by simp [hp0]⟩
theorem qGV (gl) (m:Nat) (c:Int) (hc:0≤c∧c≤1152921504606846976) (hm:m≤1048576):qW Tryz.prog gl 26 [osl (u7 m c),iv c] (fun _ y _=>y=iv (c+2 * m)):=by
 have hml:(u7 m c).length=m:=qGL
 refine qW.of_sem Tryz.func26 rfl (by kernel_rfl) (rs:=[.tmp 4]) rfl Tryz.ntmps26 (lB rfl) fun C w g root=>?_
 have fx:=fx0
 refine qB ?_
 clear fx
 refine q7 (fun n st=>∃ i:Nat,n=m - i∧i≤m∧st.tm 0=osl (u7 m c)∧st.tm 1=iv (c+2 * i)∧st.tm 5=iv i) m ⟨0,by simp⟩ ?_
 rintro n st - - ⟨i,rfl,hi,h0,h1,h5⟩
 by_cases hil:i<m
 ·have hg:(u7 m c)[i]?=some (c+2 * i,c+2 * i+1):=by simp [u7,hil]
  obtain⟨v0,hv0⟩:∃ v,v=c+2 * (i:Int):=⟨_,rfl⟩
  obtain⟨v1,hv1⟩:∃ v,v=v0+1:=⟨_,rfl⟩
  have hw1:IntKind.i64.wrap (v0+1)=v1:=by rw [hv1];exact wrp (by omega) (by omega)
  have hw2:IntKind.i64.wrap (v1+1)=v1+1:=wrp (by omega) (by omega)
  rw [← hv0] at h1 hg
  rw [← hv1] at hg
  obtain⟨_,hgE⟩:=gS hg
  have fx:=aI h0<|aI h1<|aI h5<|aI hil<|aI hg<|aI hgE<|aI hw1<|@qr
  refine qB ?_
  clear fx
  refine⟨m - (i+1),by omega,i+1,rfl,by omega,by simp [h0],?_,by simp;exact wrp (by omega) (by omega)⟩
  simp [hw1,hw2]
  omega
 ·have hge:i=m:=by omega
  subst hge
  have fx:=aI h0<|aI h1<|aI h5<|hil
  refine qB ?_
  clear fx
  refine qH [] .nil (by simp;rfl) (by simp)
end Go.Proofs.YtbgmnmnoaamgkaaGreatDoor
end
