/-
  Own texts, joined by mkclaim.py: Lb, Lc, Ld, Lr, Jz.
-/
import Derived.Test.YtbgmnmnoaamgkaaGreatDoorC33
import Derived.Test.YtbgmnmnoaamgkaaGreatDoorC10
import Derived.Test.YtbgmnmnoaamgkaaGreatDoorC19
import Derived.WalkKit
import Derived.ProofKit
import Derived.OpenShut
import Derived.Test.YtbgmnmnoaamgkaaGreatDoorC12
import Derived.Test.YtbgmnmnoaamgkaaGreatDoorProg
import Derived.Test.YtbgmnmnoaamgkaaGreatDoorChecked
import Derived.KernelRfl
set_option linter.unusedSimpArgs false
set_option linter.unusedVariables false
set_option maxRecDepth 100000
set_option maxHeartbeats 4000000

section
namespace Go.Proofs.YtbgmnmnoaamgkaaGreatDoor
open Go Go.Hm Go.Proofs
abbrev qUQ:Sch:=.q 0<|.q 1<|.q 2<|.q 3<|.q 4<|.q 5<|.q 6<|.q 7<|.l 8 []<|.q 9<|.done
theorem qCw (gl) (xs ys:List Int) (hx:xs.length≤1048576) (hy:ys.length≤1048576):qW Tryz.prog gl 56 [isl xs,isl ys] (fun _ z _=>z=bv (decide (xs=ys))):=by
 refine qW.of_sem Tryz.func56 rfl (by kernel_rfl) (rs:=[.tmp 4]) rfl Tryz.ntmps56 (lB rfl) fun C w g root=>?_
 by_cases hl:xs.length=ys.length
 case neg =>
  have h1:((xs.length:Int)==ys.length)=false:=by simp;omega
  all_goals have fx:=aI h1<|@qr
  repeat' (first
   | refine qN ?_|refine qM fun K hK=>?_
   | ((with_reducible refine qK hK ?_);clear hK K)
   | (with_reducible first|refine qC ?_|refine qI ?_)
   | refine qX ?_
   | (with_reducible first|refine qG ?_|refine qE (h:=?_))
   | (with_reducible refine x_q (h:=?_))
   | refine qO (h1:=?_)
   | fail)
  all_goals try clear fx
  refine qH [] .nil (by simp;rfl) ?_
  have:¬ xs=ys:=fun e=>hl (by rw [e])
  simp [this]
 all_goals have fx:=aI hl<|@qr
 repeat' (first
  | refine qN ?_|refine qJ ?_|refine qR ?_|refine qM fun K hK=>?_
  | ((with_reducible refine qK hK ?_);clear hK K)
  | (with_reducible first|refine qC ?_)
  | (with_reducible first|refine qG ?_|refine qE (h:=?_))
  | (with_reducible refine x_q (h:=?_))
  | refine qS (h1:=?_)
  | fail)
 all_goals try clear fx
 refine q7 (fun n st=>∃ i:Nat,n=xs.length - i∧i≤xs.length∧st.tm 0=isl xs∧st.tm 1=isl ys∧st.tm 5=iv i∧xs.take i=ys.take i) xs.length ?_ ?_
 ·exact⟨0,by simp⟩
 rintro n st - - ⟨i,rfl,hi,h0,h1,h5,heq⟩
 all_goals have fx:=aI h0<|h5
 repeat' (first
  | refine qN ?_|refine qM fun K hK=>?_
  | ((with_reducible refine qK hK ?_);clear hK K)
  | (with_reducible first|refine qC ?_)
  | (with_reducible first|refine qG ?_)
  | (with_reducible refine x_q (h:=?_))
  | fail)
 all_goals try clear fx
 refine vk (by simp [];first|done|rfl|exact (Bool.not_not _).symm) (fun ht=>?_) (fun hf=>?_)
 ·have hlt:i<xs.length:=by simpa using ht
  obtain⟨x,hxi⟩:∃ x,xs[i]?=some x:=⟨_,gE (by omega)⟩
  obtain⟨y,hyi⟩:∃ y,ys[i]?=some y:=⟨_,gE (by omega)⟩
  clear ht
  all_goals have fx:=aI h0<|aI h1<|aI h5<|aI hxi<|aI hyi<|@qr
  repeat' (first
   | refine qN ?_|refine qJ ?_|refine qR ?_|refine qM fun K hK=>?_
   | ((with_reducible refine qK hK ?_);clear hK K)
   | (with_reducible first|refine qC ?_|refine qI ?_|refine qc ?_)
   | refine qX ?_
   | (with_reducible first|refine qG ?_|refine qE (h:=?_))
   | (with_reducible refine x_q (h:=?_))
   | (refine wSc (id:=6) (.q 0<|.q 1<|.q 2<|.q 3<|.q 4<|.q 5<|.q 6<|.q 7<|.q 8<|.done) qA fun K hK=>?_)
   | ((with_reducible refine uF hK ?_);clear hK K)
   | ((with_reducible refine qAf ?_);first|refine qFT (h:=?_))
   | refine uk (h1:=fun ht=>?_) (h2:=fun ht=>?_)
   | fail)
  all_goals try clear fx
  all_goals first
   | (refine qH [] .nil (by simp;rfl) ?_
      have hne:¬ xs=ys:=fun e=>by rw [e,hyi] at hxi;obtain rfl:=sI hxi;simp at ht
      simp [hne])
   | (have hxy:x=y:=by simpa using ht
      refine⟨xs.length - (i+1),by omega,i+1,rfl,by omega,by simp [h0],by simp [h1],by simp;exact wrp (by omega) (by omega),?_⟩
      rw [List.take_add_one,List.take_add_one,heq,hxi,hyi,hxy])
 ·have hge:i=xs.length:=by
   have:¬ i<xs.length:=by simpa using hf
   omega
  have:xs=ys:=by rw [hge,List.take_length,hl,List.take_length] at heq;exact heq
  all_goals have fx:=fx0
  repeat' (first
   | refine qN ?_|refine qM fun K hK=>?_
   | ((with_reducible refine qK hK ?_);clear hK K)
   | (with_reducible first|refine qC ?_)
   | refine qn ?_
   | refine qX ?_
   | (with_reducible first|refine qG ?_|refine qE (h:=?_))
   | fail)
  all_goals try clear fx
  refine qH [] .nil (by simp [];rfl) (by simp [this])
theorem qLt (gl) (s t:Stm):qW Tryz.prog gl 154 [s.av,t.av] (fun _ z _=>z=bv (decide (s=t))):=by
 obtain⟨a,b,c,d⟩:=s
 obtain⟨a',b',c',d'⟩:=t
 refine qW.of_sem Tryz.func154 rfl (by kernel_rfl) (rs:=[.tmp 4]) rfl Tryz.ntmps154 (lB rfl) fun C w g root=>?_
 all_goals have fx:= @qr
 repeat' (first
  | refine qN ?_|refine qR ?_|refine qM fun K hK=>?_
  | ((with_reducible refine qK hK ?_);clear hK K)
  | (with_reducible first|refine qC ?_|refine qI ?_)
  | refine qX ?_
  | (with_reducible first|refine qG ?_|refine qE (h:=?_)|refine zG (h:=?_))
  | (with_reducible refine x_q (h:=?_))
  | refine uk (h1:=fun ht=>?_) (h2:=fun ht=>?_)
  | fail)
 all_goals try clear fx
 all_goals refine qH [] .nil (by simp;rfl) ?_
 all_goals simp_all
theorem qJq (gl) (xs ys:List Stm) (hx:xs.length≤1048576) (hy:ys.length≤1048576):qW Tryz.prog gl 118 [ssl xs,ssl ys] (fun _ z _=>z=bv (decide (xs=ys))):=by
 refine qW.of_sem Tryz.func118 rfl (by kernel_rfl) (rs:=[.tmp 4]) rfl Tryz.ntmps118 (lB rfl) fun C w g root=>?_
 by_cases hl:xs.length=ys.length
 case neg =>
  have h1:((xs.length:Int)==ys.length)=false:=by simp;omega
  all_goals have fx:=aI h1<|@qr
  repeat' (first
   | refine qN ?_|refine qM fun K hK=>?_
   | ((with_reducible refine qK hK ?_);clear hK K)
   | (with_reducible first|refine qC ?_|refine qI ?_)
   | refine qX ?_
   | (with_reducible first|refine qG ?_|refine qE (h:=?_))
   | (with_reducible refine x_q (h:=?_))
   | refine qO (h1:=?_)
   | fail)
  all_goals try clear fx
  refine qH [] .nil (by simp;rfl) ?_
  have:¬ xs=ys:=fun e=>hl (by rw [e])
  simp [this]
 all_goals have fx:=aI hl<|@qr
 repeat' (first
  | refine qN ?_|refine qJ ?_|refine qR ?_|refine qM fun K hK=>?_
  | ((with_reducible refine qK hK ?_);clear hK K)
  | (with_reducible first|refine qC ?_)
  | (with_reducible first|refine qG ?_|refine qE (h:=?_))
  | (with_reducible refine x_q (h:=?_))
  | refine qS (h1:=?_)
  | fail)
 all_goals try clear fx
 refine q7 (fun n st=>∃ i:Nat,n=xs.length - i∧i≤xs.length∧st.tm 0=ssl xs∧st.tm 1=ssl ys∧st.tm 5=iv i∧xs.take i=ys.take i) xs.length ?_ ?_
 ·exact⟨0,by simp⟩
 rintro n st - - ⟨i,rfl,hi,h0,h1,h5,heq⟩
 all_goals have fx:=aI h0<|h5
 repeat' (first
  | refine qN ?_|refine qM fun K hK=>?_
  | ((with_reducible refine qK hK ?_);clear hK K)
  | (with_reducible first|refine qC ?_)
  | (with_reducible first|refine qG ?_)
  | (with_reducible refine x_q (h:=?_))
  | fail)
 all_goals try clear fx
 refine vk (by simp [];first|done|rfl|exact (Bool.not_not _).symm) (fun ht=>?_) (fun hf=>?_)
 ·have hlt:i<xs.length:=by simpa using ht
  obtain⟨x,hxi⟩:∃ x,xs[i]?=some x:=⟨_,gE (by omega)⟩
  obtain⟨y,hyi⟩:∃ y,ys[i]?=some y:=⟨_,gE (by omega)⟩
  clear ht
  all_goals have fx:=aI h0<|aI h1<|aI h5<|aI hxi<|hyi
  repeat' (first
   | refine qN ?_|refine qJ ?_|refine qR ?_|refine qM fun K hK=>?_
   | ((with_reducible refine qK hK ?_);clear hK K)
   | (with_reducible first|refine qC ?_|refine qI ?_|refine qc ?_|refine wL ?_)
   | refine qX ?_
   | (with_reducible first|refine qG ?_|refine qE (h:=?_))
   | ((with_reducible refine qv 154 rfl ?_);refine qL (hF:=qLt _ x y) (h:=?_))
   | (with_reducible refine x_q (h:=?_))
   | (refine wSc (id:=6) qUQ qA fun K hK=>?_)
   | ((with_reducible refine uF hK ?_);clear hK K)
   | ((with_reducible refine qAf ?_);first|refine qFT (h:=?_))
   | refine a_l rfl ?_|(with_reducible refine aI ?_ ?_)|exact vW|refine w7 (h2:=?_)
   | refine uk (h1:=fun ht=>?_) (h2:=fun ht=>?_)
   | fail)
  all_goals try clear fx
  all_goals first
   | (refine qH [] .nil (by simp;rfl) ?_
      have hne:¬ xs=ys:=fun e=>by rw [e,hyi] at hxi;obtain rfl:=sI hxi;simp at ht
      simp [hne])
   | (have hxy:x=y:=by simpa using ht
      refine⟨xs.length - (i+1),by omega,i+1,rfl,by omega,by simp [h0],by simp [h1],by simp;exact wrp (by omega) (by omega),?_⟩
      rw [List.take_add_one,List.take_add_one,heq,hxi,hyi,hxy])
 ·have hge:i=xs.length:=by
   have:¬ i<xs.length:=by simpa using hf
   omega
  have:xs=ys:=by rw [hge,List.take_length,hl,List.take_length] at heq;exact heq
  all_goals have fx:=fx0
  repeat' (first
   | refine qN ?_|refine qM fun K hK=>?_
   | ((with_reducible refine qK hK ?_);clear hK K)
   | (with_reducible first|refine qC ?_)
   | refine qn ?_
   | refine qX ?_
   | (with_reducible first|refine qG ?_|refine qE (h:=?_))
   | fail)
  all_goals try clear fx
  refine qH [] .nil (by simp [];rfl) (by simp [this])
theorem qJs (gl) (k l:Blk) (hk:BSm k) (hl:BSm l):qW Tryz.prog gl 76 [k.av,l.av] (fun _ z _=>z=bv (decide (k=l))):=by
 obtain⟨a,b,c,d⟩:=k
 obtain⟨a',b',c',d'⟩:=l
 have h1:=qCw gl c c' hk.params hl.params
 have h2:=qJq gl d d' hk.body hl.body
 refine qW.of_sem Tryz.func76 rfl (by kernel_rfl) (rs:=[.tmp 4]) rfl Tryz.ntmps76 (lB rfl) fun C w g root=>?_
 all_goals have fx:= @qr
 repeat' (first
  | refine qN ?_|refine qR ?_|refine qM fun K hK=>?_
  | ((with_reducible refine qK hK ?_);clear hK K)
  | (with_reducible first|refine qC ?_|refine qI ?_)
  | refine qX ?_
  | (with_reducible first|refine qG ?_|refine qE (h:=?_)|refine zG (h:=?_))
  | ((with_reducible refine qv 56 rfl ?_);refine qL (hF:=h1) (h:=?_))
  | ((with_reducible refine qv 118 rfl ?_);refine qL (hF:=h2) (h:=?_))
  | (with_reducible refine x_q (h:=?_))
  | refine uk (h1:=fun ht=>?_) (h2:=fun ht=>?_)
  | fail)
 all_goals try clear fx
 all_goals refine qH [] .nil (by simp;rfl) ?_
 all_goals simp_all
theorem qH7 (gl) (xs ys:Prg) (hx:Sml xs) (hy:Sml ys):qW Tryz.prog gl 45 [ksl xs,ksl ys] (fun _ z _=>z=bv (decide (xs=ys))):=by
 have hxl:=hx.len
 have hyl:=hy.len
 refine qW.of_sem Tryz.func45 rfl (by kernel_rfl) (rs:=[.tmp 4]) rfl Tryz.ntmps45 (lB rfl) fun C w g root=>?_
 by_cases hl:xs.length=ys.length
 case neg =>
  have h1:((xs.length:Int)==ys.length)=false:=by simp;omega
  all_goals have fx:=aI h1<|@qr
  repeat' (first
   | refine qN ?_|refine qM fun K hK=>?_
   | ((with_reducible refine qK hK ?_);clear hK K)
   | (with_reducible first|refine qC ?_|refine qI ?_)
   | refine qX ?_
   | (with_reducible first|refine qG ?_|refine qE (h:=?_))
   | (with_reducible refine x_q (h:=?_))
   | refine qO (h1:=?_)
   | fail)
  all_goals try clear fx
  refine qH [] .nil (by simp;rfl) ?_
  have:¬ xs=ys:=fun e=>hl (by rw [e])
  simp [this]
 all_goals have fx:=aI hl<|@qr
 repeat' (first
  | refine qN ?_|refine qJ ?_|refine qR ?_|refine qM fun K hK=>?_
  | ((with_reducible refine qK hK ?_);clear hK K)
  | (with_reducible first|refine qC ?_)
  | (with_reducible first|refine qG ?_|refine qE (h:=?_))
  | (with_reducible refine x_q (h:=?_))
  | refine qS (h1:=?_)
  | fail)
 all_goals try clear fx
 refine q7 (fun n st=>∃ i:Nat,n=xs.length - i∧i≤xs.length∧st.tm 0=ksl xs∧st.tm 1=ksl ys∧st.tm 5=iv i∧xs.take i=ys.take i) xs.length ?_ ?_
 ·exact⟨0,by simp⟩
 rintro n st - - ⟨i,rfl,hi,h0,h1,h5,heq⟩
 all_goals have fx:=aI h0<|h5
 repeat' (first
  | refine qN ?_|refine qM fun K hK=>?_
  | ((with_reducible refine qK hK ?_);clear hK K)
  | (with_reducible first|refine qC ?_)
  | (with_reducible first|refine qG ?_)
  | (with_reducible refine x_q (h:=?_))
  | fail)
 all_goals try clear fx
 refine vk (by simp [];first|done|rfl|exact (Bool.not_not _).symm) (fun ht=>?_) (fun hf=>?_)
 ·have hlt:i<xs.length:=by simpa using ht
  obtain⟨x,hxi⟩:∃ x,xs[i]?=some x:=⟨_,gE (by omega)⟩
  obtain⟨y,hyi⟩:∃ y,ys[i]?=some y:=⟨_,gE (by omega)⟩
  clear ht
  all_goals have fx:=aI h0<|aI h1<|aI h5<|aI hxi<|hyi
  repeat' (first
   | refine qN ?_|refine qJ ?_|refine qR ?_|refine qM fun K hK=>?_
   | ((with_reducible refine qK hK ?_);clear hK K)
   | (with_reducible first|refine qC ?_|refine qI ?_|refine qc ?_|refine wL ?_)
   | refine qX ?_
   | (with_reducible first|refine qG ?_|refine qE (h:=?_))
   | ((with_reducible refine qv 76 rfl ?_);refine qL (hF:=qJs _ x y (hx.bsm hxi) (hy.bsm hyi)) (h:=?_))
   | (with_reducible refine x_q (h:=?_))
   | (refine wSc (id:=6) qUQ qA fun K hK=>?_)
   | ((with_reducible refine uF hK ?_);clear hK K)
   | ((with_reducible refine qAf ?_);first|refine qFT (h:=?_))
   | refine a_l rfl ?_|(with_reducible refine aI ?_ ?_)|exact vW|refine w7 (h2:=?_)
   | refine uk (h1:=fun ht=>?_) (h2:=fun ht=>?_)
   | fail)
  all_goals try clear fx
  all_goals first
   | (refine qH [] .nil (by simp;rfl) ?_
      have hne:¬ xs=ys:=fun e=>by rw [e,hyi] at hxi;obtain rfl:=sI hxi;simp at ht
      simp [hne])
   | (have hxy:x=y:=by simpa using ht
      refine⟨xs.length - (i+1),by omega,i+1,rfl,by omega,by simp [h0],by simp [h1],by simp;exact wrp (by omega) (by omega),?_⟩
      rw [List.take_add_one,List.take_add_one,heq,hxi,hyi,hxy])
 ·have hge:i=xs.length:=by
   have:¬ i<xs.length:=by simpa using hf
   omega
  have:xs=ys:=by rw [hge,List.take_length,hl,List.take_length] at heq;exact heq
  all_goals have fx:=fx0
  repeat' (first
   | refine qN ?_|refine qM fun K hK=>?_
   | ((with_reducible refine qK hK ?_);clear hK K)
   | (with_reducible first|refine qC ?_)
   | refine qn ?_
   | refine qX ?_
   | (with_reducible first|refine qG ?_|refine qE (h:=?_))
   | fail)
  all_goals try clear fx
  refine qH [] .nil (by simp [];rfl) (by simp [this])
theorem uL (gl) (xs ys:Prg) (hx:Sml xs) (hy:Sml ys):qW Tryz.prog gl 15 [pav xs,pav ys] (fun _ z _=>z=bv (decide (xs=ys))):=by
 refine qW.of_sem Tryz.func15 rfl (by kernel_rfl) (rs:=[.tmp 4]) rfl Tryz.ntmps15 (lB rfl) fun C w g root=>?_
 all_goals have fx:=fx0
 repeat' (first
  | refine qN ?_|refine qR ?_|refine qM fun K hK=>?_
  | ((with_reducible refine qK hK ?_);clear hK K)
  | (with_reducible first|refine qC ?_|refine qI ?_)
  | refine qX ?_
  | (with_reducible first|refine qG ?_|refine qE (h:=?_)|refine zG (h:=?_))
  | ((with_reducible refine qv 45 rfl ?_);refine qL (hF:=qH7 _ xs ys hx hy) (h:=?_))
  | (with_reducible refine x_q (h:=?_))
  | refine uk (h1:=fun ht=>?_) (h2:=fun ht=>?_)
  | fail)
 all_goals try clear fx
 all_goals refine qH [] .nil (by simp;rfl) ?_
 all_goals simp_all
theorem wk (gl) (H:Nm→Option AO) (xs:List Int) (c:Int) (hH:H (.u 1 0 0)=some (.row 1 (qY xs))) (hc:0≤c∧c≤1152921504606846976) (hx:xs.length≤1048576) :
  FnE Tryz.prog gl 57 (Nm.under (.u 1 0 0)) [.hs (.u 1 0 0) 1 0 xs.length,iv c] H (fun _ y H'=>y=iv (c+xs.length)∧H' (.u 1 0 0)=some (.row 1 (qY (kg xs.length c)))) noE:=by
 refine FnE.of_sem Tryz.func57 rfl (by kernel_rfl) (rs:=[.tmp 4]) rfl Tryz.ntmps57 (lB rfl) (fun _=>qu rfl) fun C w g root hroot=>?_
 all_goals have fx:=fx0
 repeat' (first
  | refine qN ?_|refine qJ ?_|refine qM fun K hK=>?_
  | ((with_reducible refine qK hK ?_);clear hK K)
  | (with_reducible first|refine qG ?_|refine qE (h:=?_))
  | fail)
 all_goals try clear fx
 refine q7 (fun n st=>∃ i:Nat,n=xs.length - i∧i≤xs.length∧st.tm 0=.hs (.u 1 0 0) 1 0 xs.length∧st.tm 1=iv (c+i)∧st.hp (.u 1 0 0)=some (.row 1 (qY (kg i c++xs.drop i)))∧st.tm 5=iv i) xs.length ?_ ?_
 ·exact⟨0,by simp,by simp,by simp,by simp,by simp [hH,kg],by simp⟩
 rintro n st - - ⟨i,rfl,hi,h0,h1,hp0,h5⟩
 all_goals have fx:=aI h0<|h5
 repeat' (first
  | refine qN ?_|refine qM fun K hK=>?_
  | ((with_reducible refine qK hK ?_);clear hK K)
  | (with_reducible first|refine qC ?_)
  | (with_reducible first|refine qG ?_)
  | (with_reducible refine x_q (h:=?_))
  | fail)
 all_goals try clear fx
 refine vk (by simp [];first|done|rfl|exact (Bool.not_not _).symm) (fun ht=>?_) (fun hf=>?_)
 ·have hlt:i<xs.length:=by simpa using ht
  have vr:=qLY (c:=c) hlt
  have hll:(kg i c++xs.drop i).length=xs.length:=by simp;omega
  clear ht
  all_goals have fx:=aI h0<|aI h1<|aI hp0<|aI h5<|aI hlt<|hll
  repeat' (first
   | refine qN ?_|refine qJ ?_|refine qR ?_|refine qM fun K hK=>?_
   | ((with_reducible refine qK hK ?_);clear hK K)
   | (with_reducible first|refine qC ?_)
   | (with_reducible first|refine qG ?_|refine qE (h:=?_)|refine qU (h:=?_))
   | (with_reducible refine x_q (h:=?_))
   | fail)
  all_goals try clear fx
  refine⟨xs.length - (i+1),by omega,i+1,rfl,by omega,by simp [h0],?_,by simp [← vr],by simp;exact wrp (by omega) (by omega)⟩
  simp
  rw [wrp (by omega) (by omega)]
  omega
 ·have hge:i=xs.length:=by
   have:¬ i<xs.length:=by simpa using hf
   omega
  subst hge
  rw [List.drop_length,List.append_nil] at hp0
  all_goals have fx:= h1
  repeat' (first
   | refine qN ?_|refine qM fun K hK=>?_
   | ((with_reducible refine qK hK ?_);clear hK K)
   | (with_reducible first|refine qC ?_)
   | refine qn ?_
   | refine qX ?_
   | (with_reducible first|refine qG ?_|refine qE (h:=?_))
   | (with_reducible refine x_q (h:=?_))
   | fail)
  all_goals try clear fx
  refine qH [] .nil (by simp;rfl) ⟨by simp,by simp [hp0]⟩
theorem qGJ (gl) (H:Nm→Option AO) (xs:List Stm) (c:Int) (hH:H (.u 1 0 0)=some (.row 4 (yE xs))) (hc:0≤c∧c≤1152921504606846976) (hx:xs.length≤1048576) :
  FnE Tryz.prog gl 85 (Nm.under (.u 1 0 0)) [.hs (.u 1 0 0) 4 0 xs.length,iv c] H (fun _ y H'=>y=iv (c+4 * xs.length)∧H' (.u 1 0 0)=some (.row 4 (yE (qB9 xs.length c)))) noE:=by
 refine FnE.of_sem Tryz.func85 rfl (by kernel_rfl) (rs:=[.tmp 4]) rfl Tryz.ntmps85 (lB rfl) (fun _=>qu rfl) fun C w g root hroot=>?_
 all_goals have fx:=fx0
 repeat' (first
  | refine qN ?_|refine qJ ?_|refine qM fun K hK=>?_
  | ((with_reducible refine qK hK ?_);clear hK K)
  | (with_reducible first|refine qG ?_|refine qE (h:=?_))
  | fail)
 all_goals try clear fx
 refine q7 (fun n st=>∃ i:Nat,n=xs.length - i∧i≤xs.length∧st.tm 0=.hs (.u 1 0 0) 4 0 xs.length∧st.tm 1=iv (c+4 * i)∧st.hp (.u 1 0 0)=some (.row 4 (yE (qB9 i c++xs.drop i)))∧st.tm 5=iv i) xs.length ?_ ?_
 ·exact⟨0,by simp,by simp,by simp,by simp,by simp [hH,qB9],by simp⟩
 rintro n st - - ⟨i,rfl,hi,h0,h1,hp0,h5⟩
 all_goals have fx:=aI h0<|h5
 repeat' (first
  | refine qN ?_|refine qM fun K hK=>?_
  | ((with_reducible refine qK hK ?_);clear hK K)
  | (with_reducible first|refine qC ?_)
  | (with_reducible first|refine qG ?_)
  | (with_reducible refine x_q (h:=?_))
  | fail)
 all_goals try clear fx
 refine vk (by simp [];first|done|rfl|exact (Bool.not_not _).symm) (fun ht=>?_) (fun hf=>?_)
 ·have hlt:i<xs.length:=by simpa using ht
  have vr:=qLV (c:=c) hlt
  have hll:(qB9 i c++xs.drop i).length=xs.length:=by simp;omega
  have hs4:=qJD (L:=qB9 i c++xs.drop i) (i:=i) (a:=c+4 * i) (b:=c+4 * i+1) (d:=c+4 * i+2) (e:=c+4 * i+3) (by omega)
  rw [vr] at hs4
  obtain⟨v0,hv0⟩:∃ v,v=c+4 * (i:Int):=⟨_,rfl⟩
  rw [← hv0] at h1 hs4
  obtain⟨v1,hv1⟩:∃ v,v=v0+1:=⟨_,rfl⟩
  obtain⟨v2,hv2⟩:∃ v,v=v1+1:=⟨_,rfl⟩
  obtain⟨v3,hv3⟩:∃ v,v=v2+1:=⟨_,rfl⟩
  have hw1:IntKind.i64.wrap (v0+1)=v1:=by rw [hv1];exact wrp (by omega) (by omega)
  have hw2:IntKind.i64.wrap (v1+1)=v2:=by rw [hv2];exact wrp (by omega) (by omega)
  have hw3:IntKind.i64.wrap (v2+1)=v3:=by rw [hv3];exact wrp (by omega) (by omega)
  have hw4:IntKind.i64.wrap (v3+1)=v3+1:=wrp (by omega) (by omega)
  rw [← hv1,show v0+2=v2 by omega,show v0+3=v3 by omega] at hs4
  generalize qB9 i c++xs.drop i=L at hp0 hll hs4
  clear ht vr
  all_goals have fx:=aI h0<|aI h1<|aI hp0<|aI h5<|aI hlt<|aI hll<|aI hw1<|aI hw2<|hw3
  repeat' (first
   | refine qN ?_|refine qJ ?_|refine qR ?_|refine qM fun K hK=>?_
   | ((with_reducible refine qK hK ?_);clear hK K)
   | (with_reducible first|refine qC ?_)
   | (with_reducible first|refine qG ?_|refine qE (h:=?_)|refine qU (h:=?_))
   | (with_reducible refine x_q (h:=?_))
   | fail)
  all_goals try clear fx
  refine⟨xs.length - (i+1),by omega,i+1,rfl,by omega,by simp [h0],?_,by simp [hw1,hw2,hw3,hs4],by simp;exact wrp (by omega) (by omega)⟩
  simp [hw1,hw2,hw3,hw4]
  omega
 ·have hge:i=xs.length:=by
   have:¬ i<xs.length:=by simpa using hf
   omega
  subst hge
  rw [List.drop_length,List.append_nil] at hp0
  all_goals have fx:= h1
  repeat' (first
   | refine qN ?_|refine qM fun K hK=>?_
   | ((with_reducible refine qK hK ?_);clear hK K)
   | (with_reducible first|refine qC ?_)
   | refine qn ?_
   | refine qX ?_
   | (with_reducible first|refine qG ?_|refine qE (h:=?_))
   | (with_reducible refine x_q (h:=?_))
   | fail)
  all_goals try clear fx
  refine qH [] .nil (by simp;rfl) ⟨by simp,by simp [hp0]⟩
theorem qEe (gl) (H:Nm→Option AO) (p:Prg) (c:Int) (hs:Sml p) (hO:OwnP H (.u 0 0 0) p) (hV:H (.u 1 0 0)=none) (hc:0≤c∧c≤1024) :
  FnE Tryz.prog gl 53 (Nm.under (.u 0 0 0)) [.hs (.u 0 0 0) 4 0 p.length,iv c] H (fun _ y H'=>y=iv (c+cnt p)∧OwnP H' (.u 0 0 0) (qOW p c)) noE:=by
 have hpl:=hs.len
 obtain⟨ha1,ha2,ha3⟩:=hO
 refine FnE.of_sem Tryz.func53 rfl (by kernel_rfl) (rs:=[.tmp 4]) rfl Tryz.ntmps53 (lB rfl) (fun _=>qu rfl) fun C w g root hroot=>?_
 all_goals have fx:=fx0
 repeat' (first
  | refine qN ?_|refine qJ ?_|refine qM fun K hK=>?_
  | ((with_reducible refine qK hK ?_);clear hK K)
  | (with_reducible first|refine qG ?_|refine qE (h:=?_))
  | fail)
 all_goals try clear fx
 refine q7 (fun n st=>∃ i:Nat,n=p.length - i∧i≤p.length∧st.tm 0=.hs (.u 0 0 0) 4 0 p.length∧st.tm 1=iv (c+uA p i)∧OwnP st.hp (.u 0 0 0) (uG p c i)∧st.tm 5=iv i) p.length ?_ ?_
 ·refine⟨0,by simp,by simp,by simp,by simp [uA],?_,by simp⟩
  rw [qH1]
  exact⟨by simp [ha1],fun j k hk=>by simp [ha2 j k hk],fun j k hk=>by simp [ha3 j k hk]⟩
 rintro n st - - ⟨i,rfl,hi,h0,h1,⟨ho1,ho2,ho3⟩,h5⟩
 all_goals have fx:=aI h0<|h5
 repeat' (first
  | refine qN ?_|refine qM fun K hK=>?_
  | ((with_reducible refine qK hK ?_);clear hK K)
  | (with_reducible first|refine qC ?_)
  | (with_reducible first|refine qG ?_)
  | (with_reducible refine x_q (h:=?_))
  | fail)
 all_goals try clear fx
 refine vk (by simp [];first|done|rfl|exact (Bool.not_not _).symm) (fun ht=>?_) (fun hf=>?_)
 ·have hlt:i<p.length:=by simpa using ht
  obtain⟨k,hk⟩:∃ k,p[i]?=some k:=⟨_,gE hlt⟩
  obtain⟨hkp,hkb⟩:=hs.bsm hk
  have hcl:=qEx hs i
  have hcg:=qLz hk
  have hmg:=y5 (c:=c) (i:=i) hk
  rw [if_neg (Nat.lt_irrefl i)] at hmg
  have hp2:=ho2 i k hmg
  have hp3:=ho3 i k hmg
  have hKP:=qHX (n:=.u 0 0 0) (q:=uG p c i) (i:=i) (a:=c+uA p i) (b:=c+uA p i+1)
  have hmk:=qJ9 (n:=.u 0 0 0) (c:=c) hk
  rw [hmk] at hKP
  have hng:=y5 (c:=c) (i:=i+1) hk
  rw [if_pos (Nat.lt_succ_self i)] at hng
  obtain⟨_,hnge⟩:=gS hng
  obtain⟨v0,hv0⟩:∃ v,v=c+(uA p i:Int):=⟨_,rfl⟩
  rw [← hv0] at h1 hKP
  obtain⟨v1,hv1⟩:∃ v,v=v0+1:=⟨_,rfl⟩
  obtain⟨v2,hv2⟩:∃ v,v=v1+1:=⟨_,rfl⟩
  rw [← hv1] at hKP
  have hw1:IntKind.i64.wrap (v0+1)=v1:=by rw [hv1];exact wrp (by omega) (by omega)
  have hw2:IntKind.i64.wrap (v1+1)=v2:=by rw [hv2];exact wrp (by omega) (by omega)
  have hml:(uG p c i).length=p.length:=by simp
  have hml':(uG p c (i+1)).length=p.length:=by simp
  have hmp:(uV k (c+uA p i)).params.length=k.params.length:=by simp [uV]
  have hmb:(uV k (c+uA p i)).body.length=k.body.length:=by simp [uV]
  clear ht
  all_goals have fx:=aI h0<|aI h1<|aI ho1<|aI h5<|aI hlt<|aI hw1<|aI hw2<|aI hKP<|aI hml<|aI hml'<|aI hng<|aI hnge<|aI hmp<|hmb
  repeat' (first
   | refine qN ?_|refine qJ ?_|refine qR ?_|refine qM fun K hK=>?_
   | ((with_reducible refine qK hK ?_);clear hK K)
   | (with_reducible first|refine qG ?_|refine qE (h:=?_)|refine qU (h:=?_))
   | (with_reducible refine x_q (h:=?_))
   | fail)
  all_goals try clear fx
  have hx1:(ue Tryz.prog C w g H Tryz.f53.ntmps gl).ext (.u 1 0 0)=false:=by simp [ue,hV]
  have fx:=aI h0<|aI h1<|aI h5<|aI hw2 hmp
  refine qBH (.c (.u 0 0 0) i 2) (.u 1 0 0) (hext:=hx1) (hs:=by simp [hp2]) (hF:=wk _ _ k.params v2 (by simp [hp2]) (by omega) hkp) (h:=?_)
  rintro y H1 ⟨rfl,hy1⟩
  clear fx
  all_goals have fx:=aI h0<|aI h1<|aI ho1<|aI h5<|aI hlt<|aI hw1<|aI hw2<|aI hKP<|aI hml<|aI hml'<|aI hng<|aI hnge<|aI hmp<|hmb
  repeat' (first
   | refine qM fun K hK=>?_
   | ((with_reducible refine qK hK ?_);clear hK K)
   | (with_reducible first|refine qG ?_|refine qE (h:=?_))
   | (with_reducible refine x_q (h:=?_))
   | fail)
  all_goals try clear fx
  have fx:=aI h0<|aI h1<|aI h5<|aI hw2<|aI hmp hmb
  refine qBH (.c (.u 0 0 0) i 3) (.u 1 0 0) (hext:=hx1) (hs:=by simp [hp3]) (hF:=qGJ _ _ k.body (v2+k.params.length) (by simp [hp3]) (by omega) hkb) (h:=?_)
  rintro y H2 ⟨rfl,hy2⟩
  clear fx
  all_goals have fx:=aI h0<|aI h1<|h5
  repeat' (first
   | refine qM fun K hK=>?_
   | ((with_reducible refine qK hK ?_);clear hK K)
   | (with_reducible first|refine qC ?_)
   | (with_reducible first|refine qG ?_|refine qE (h:=?_))
   | (with_reducible refine x_q (h:=?_))
   | fail)
  all_goals try clear fx
  have hcb:(qUz k:Int)=2+k.params.length+4 * k.body.length:=by simp only [qUz];omega
  refine⟨p.length - (i+1),by omega,i+1,rfl,by omega,by simp [h0],?_,⟨?_,fun j r hj=>?_,fun j r hj=>?_⟩,by simp [h5];exact wrp (by omega) (by omega)⟩
  ·simp
   rw [hcg]
   omega
  ·simp [ho1,hw1,hw2,hKP]
  ·obtain⟨q,hq,rfl⟩:=qAY hj
   by_cases hji:j=i
   ·subst hji
    rw [hk] at hq
    obtain rfl:=sI hq
    rw [if_pos (Nat.lt_succ_self j)]
    have:v2=c+uA p j+2:=by omega
    simp [uV,hy1,this]
   ·have hjo:=ho2 j _ (y5 (c:=c) (i:=i) hq)
    by_cases hlj:j<i
    ·rw [if_pos hlj] at hjo
     rw [if_pos (by omega)]
     simp [hjo,hji]
    ·rw [if_neg hlj] at hjo
     rw [if_neg (by omega)]
     simp [hjo,hji]
  ·obtain⟨q,hq,rfl⟩:=qAY hj
   by_cases hji:j=i
   ·subst hji
    rw [hk] at hq
    obtain rfl:=sI hq
    rw [if_pos (Nat.lt_succ_self j)]
    have:v2=c+uA p j+2:=by omega
    simp [uV,hy2,this]
   ·have hjo:=ho3 j _ (y5 (c:=c) (i:=i) hq)
    by_cases hlj:j<i
    ·rw [if_pos hlj] at hjo
     rw [if_pos (by omega)]
     simp [hjo,hji]
    ·rw [if_neg hlj] at hjo
     rw [if_neg (by omega)]
     simp [hjo,hji]
 ·have hge:i=p.length:=by
   have:¬ i<p.length:=by simpa using hf
   omega
  subst hge
  all_goals have fx:= h1
  repeat' (first
   | refine qN ?_|refine qM fun K hK=>?_
   | ((with_reducible refine qK hK ?_);clear hK K)
   | (with_reducible first|refine qC ?_)
   | refine qn ?_
   | refine qX ?_
   | (with_reducible first|refine qG ?_|refine qE (h:=?_))
   | (with_reducible refine x_q (h:=?_))
   | fail)
  all_goals try clear fx
  refine qH [] .nil (by simp;rfl) ⟨by simp [cnt],⟨?_,fun j r hj=>?_,fun j r hj=>?_⟩⟩
  ·simp [ho1,qOW,vA (n:=.u 0 0 0) (m:=.u 0 0 0) (f:=jO (Nm.under (.u 0 0 0)) []) (p:=uG p c p.length) (by simp)]
  ·have:=ho2 j r hj
   simp [this]
  ·have:=ho3 j r hj
   simp [this]
theorem wV (gl) (H:Nm→Option AO) (p:Prg) (c:Int) (hs:Sml p) (hO:OwnP H (.u 0 0 0) p) (hV:H (.u 1 0 0)=none) (hc:0≤c∧c≤1024) :
  FnE Tryz.prog gl 24 (Nm.under (.u 0 0 0)) [.agg [.hs (.u 0 0 0) 4 0 p.length],iv c] H (fun _ y H'=>y=iv (c+cnt p)∧OwnP H' (.u 0 0 0) (qOW p c)) noE:=by
 obtain⟨ha1,ha2,ha3⟩:=hO
 refine FnE.of_sem Tryz.func24 rfl (by kernel_rfl) (rs:=[.tmp 4]) rfl Tryz.ntmps24 (lB rfl) (fun _=>qu rfl) fun C w g root hroot=>?_
 all_goals have fx:=fx0
 repeat' (first
  | refine qN ?_|refine qM fun K hK=>?_
  | ((with_reducible refine qK hK ?_);clear hK K)
  | (with_reducible first|refine qG ?_|refine qE (h:=?_)|refine zG (h:=?_))
  | (with_reducible refine x_q (h:=?_))
  | fail)
 all_goals try clear fx
 have fx:=fx0
 refine qGm (.u 0 0 0) rfl (fun _=>by simp [ha1]) (hF:=qEe _ _ p c hs ⟨by simp [ha1],fun j r hj=>by simp [ha2 j r hj],fun j r hj=>by simp [ha3 j r hj]⟩ (by simp) hc) (h:=?_)
 rintro y H' ⟨rfl,⟨ho1,ho2,ho3⟩⟩
 clear fx
 all_goals have fx:=fx0
 repeat' (first
  | refine qN ?_|refine qM fun K hK=>?_
  | ((with_reducible refine qK hK ?_);clear hK K)
  | (with_reducible first|refine qC ?_)
  | refine qX ?_
  | (with_reducible first|refine qG ?_|refine qE (h:=?_))
  | (with_reducible refine x_q (h:=?_))
  | fail)
 all_goals try clear fx
 refine qH [] .nil (by simp;rfl) ⟨by simp,⟨?_,fun j r hj=>?_,fun j r hj=>?_⟩⟩
 ·simp [ho1,vA (n:=.u 0 0 0) (m:=.u 0 0 0) (f:=jO (Nm.under (.u 0 0 0)) []) (p:=qOW p c) (by simp)]
 ·simp [ho2 j r hj]
 ·simp [ho3 j r hj]
end Go.Proofs.YtbgmnmnoaamgkaaGreatDoor
end
section
namespace Go.Proofs.YtbgmnmnoaamgkaaGreatDoor
open Go Go.Hm Go.Proofs
theorem qCl (gl) (m:Nat) (c:Int) (hc:0≤c∧c≤1152921504606846976) (hm:m≤1048576):qW Tryz.prog gl 58 [isl (kg m c),iv c] (fun _ y _=>y=iv (c+m)):=by
 have hml:(kg m c).length=m:=qGM
 refine qW.of_sem Tryz.func58 rfl (by kernel_rfl) (rs:=[.tmp 4]) rfl Tryz.ntmps58 (lB rfl) fun C w g root=>?_
 all_goals have fx:=fx0
 repeat' (first
  | refine qN ?_|refine qJ ?_|refine qM fun K hK=>?_
  | ((with_reducible refine qK hK ?_);clear hK K)
  | (with_reducible first|refine qG ?_|refine qE (h:=?_))
  | fail)
 all_goals try clear fx
 refine q7 (fun n st=>∃ i:Nat,n=m - i∧i≤m∧st.tm 0=isl (kg m c)∧st.tm 1=iv (c+i)∧st.tm 5=iv i) m ⟨0,by simp⟩ ?_
 rintro n st - - ⟨i,rfl,hi,h0,h1,h5⟩
 all_goals have fx:=aI h0<|h5
 repeat' (first
  | refine qN ?_|refine qM fun K hK=>?_
  | ((with_reducible refine qK hK ?_);clear hK K)
  | (with_reducible first|refine qC ?_)
  | (with_reducible first|refine qG ?_)
  | (with_reducible refine x_q (h:=?_))
  | fail)
 all_goals try clear fx
 refine vk (by simp [];first|done|rfl|exact (Bool.not_not _).symm) (fun ht=>?_) (fun hf=>?_)
 ·have hlt:i<m:=by simpa using ht
  have hg:(kg m c)[i]?=some (c+i):=by simp [kg,hlt]
  clear ht
  all_goals have fx:=aI h0<|aI h1<|aI h5<|aI hg<|@qr
  repeat' (first
   | refine qN ?_|refine qJ ?_|refine qR ?_|refine qM fun K hK=>?_
   | ((with_reducible refine qK hK ?_);clear hK K)
   | (with_reducible first|refine qC ?_)
   | (with_reducible first|refine qG ?_|refine qE (h:=?_))
   | (with_reducible refine x_q (h:=?_))
   | refine qS (h1:=?_)
   | fail)
  all_goals try clear fx
  refine⟨m - (i+1),by omega,i+1,rfl,by omega,by simp [h0],?_,by simp;exact wrp (by omega) (by omega)⟩
  simp
  rw [wrp (by omega) (by omega)]
  omega
 ·have hge:i=m:=by
   have:¬ i<m:=by simpa using hf
   omega
  subst hge
  all_goals have fx:= h1
  repeat' (first
   | refine qN ?_|refine qM fun K hK=>?_
   | ((with_reducible refine qK hK ?_);clear hK K)
   | (with_reducible first|refine qC ?_)
   | refine qn ?_
   | refine qX ?_
   | (with_reducible first|refine qG ?_|refine qE (h:=?_))
   | (with_reducible refine x_q (h:=?_))
   | fail)
  all_goals try clear fx
  refine qH [] .nil (by simp;rfl) (by simp)
end Go.Proofs.YtbgmnmnoaamgkaaGreatDoor
end
section
namespace Go.Proofs.YtbgmnmnoaamgkaaGreatDoor
open Go.ChangeShapes Go.WideShapes Go.ChangeAt Go.RowKit Go.Deep Go.Hm
theorem qAZ:Tryz.prog.underlying 3=some (.int .i64):=by kernel_rfl
theorem qUZ:Tryz.prog.cellsOf 3=1:=by kernel_rfl
theorem qU0:Tryz.prog.bytesOf 3=8:=by kernel_rfl
theorem qO0:Tryz.prog.underlying 196=some (.struct #[{ name:= "Kind",type:=3,offset:=0,embedded:=false,tag:= "",pkgPath:= "",byteOffset:=0 },{ name:= "To",type:=3,offset:=1,embedded:=false,tag:= "",pkgPath:= "",byteOffset:=8 },{ name:= "A",type:=3,offset:=2,embedded:=false,tag:= "",pkgPath:= "",byteOffset:=16 },{ name:= "B",type:=3,offset:=3,embedded:=false,tag:= "",pkgPath:= "",byteOffset:=24 }]):=by kernel_rfl
theorem qO1:oneCellFields Tryz.prog #[{ name:= "Kind",type:=3,offset:=0,embedded:=false,tag:= "",pkgPath:= "",byteOffset:=0 },{ name:= "To",type:=3,offset:=1,embedded:=false,tag:= "",pkgPath:= "",byteOffset:=8 },{ name:= "A",type:=3,offset:=2,embedded:=false,tag:= "",pkgPath:= "",byteOffset:=16 },{ name:= "B",type:=3,offset:=3,embedded:=false,tag:= "",pkgPath:= "",byteOffset:=24 }]=true:=by kernel_rfl
theorem qO2:Tryz.prog.cellsOf 196=4:=by kernel_rfl
theorem qO3:Tryz.prog.bytesOf 196=32:=by kernel_rfl
theorem qRU:Tryz.prog.underlying 116=some (.struct #[{ name:= "Kind",type:=3,offset:=0,embedded:=false,tag:= "",pkgPath:= "",byteOffset:=0 },{ name:= "Parent",type:=3,offset:=1,embedded:=false,tag:= "",pkgPath:= "",byteOffset:=8 },{ name:= "Params",type:=42,offset:=2,embedded:=false,tag:= "",pkgPath:= "",byteOffset:=16 },{ name:= "Body",type:=114,offset:=3,embedded:=false,tag:= "",pkgPath:= "",byteOffset:=40 }]):=by kernel_rfl
theorem qRZ:oneCellFields Tryz.prog #[{ name:= "Kind",type:=3,offset:=0,embedded:=false,tag:= "",pkgPath:= "",byteOffset:=0 },{ name:= "Parent",type:=3,offset:=1,embedded:=false,tag:= "",pkgPath:= "",byteOffset:=8 },{ name:= "Params",type:=42,offset:=2,embedded:=false,tag:= "",pkgPath:= "",byteOffset:=16 },{ name:= "Body",type:=114,offset:=3,embedded:=false,tag:= "",pkgPath:= "",byteOffset:=40 }]=true:=by kernel_rfl
theorem qR1:Tryz.prog.cellsOf 116=4:=by kernel_rfl
theorem qR3:Tryz.prog.bytesOf 116=64:=by kernel_rfl
theorem qRX:Tryz.prog.underlying 24=some (.struct #[{ name:= "Blocks",type:=22,offset:=0,embedded:=false,tag:= "",pkgPath:= "",byteOffset:=0 }]):=by kernel_rfl
theorem qR0:oneCellFields Tryz.prog #[{ name:= "Blocks",type:=22,offset:=0,embedded:=false,tag:= "",pkgPath:= "",byteOffset:=0 }]=true:=by kernel_rfl
theorem qR2:Tryz.prog.cellsOf 24=1:=by kernel_rfl
theorem qRW:Tryz.prog.underlying 42=some (.slice 3):=by kernel_rfl
theorem qRV:Tryz.prog.underlying 114=some (.slice 196):=by kernel_rfl
theorem qRY:Tryz.prog.underlying 22=some (.slice 116):=by kernel_rfl
set_option maxRecDepth 100000 in
theorem wB {H:Type} {enc:TypeId×Value→H} {w:World} {r:Reach} {b0:Nat} {v:Value} {d:DataW H} {p:List MemPlace} (hv:Value.okWide Tryz.prog w r b0 24 v) (h:DataW.Trod enc Tryz.prog w 0 (fun _=>true) true 24 v d p)
  (hw:∀ m∈d.weights Tryz.prog 24,m≤reachBytes):∃ x:Prg,Big x∧RV (g0 w) w v (pav x):=by
 refine qQk (P:=Tryz.prog) (w:=w) (tp:=(24:TypeId)) (v:=v) (d:=d) (p:=p) (r:=r) (q0:=b0) (enc:=enc) qAZ qUZ (by rw [qU0];decide) qO0 qO1 qO2 (by rw [qO3];decide) rfl rfl rfl rfl qRW qRV qRU qRZ qR1 (by rw [qR3];decide) rfl rfl rfl rfl qRY qRX qR0 qR2 rfl ?_ ?_ ?_
 ·assumption
 ·assumption
 ·assumption
theorem qEi:ownKnob Tryz.prog.godebug=none:=by kernel_rfl
theorem uI:laidOutB Tryz.prog=true:=by kernel_rfl
theorem qBk:Tryz.prog.underlying 4=some .bool:=by kernel_rfl
end Go.Proofs.YtbgmnmnoaamgkaaGreatDoor
end
section
namespace Go.Proofs.YtbgmnmnoaamgkaaGreatDoor
open Go Go.Hm Go.Proofs
theorem qRJ:laidOutB Tryz.prog=true:=by kernel_rfl
theorem qRH:mapsRowed Tryz.prog=true:=by kernel_rfl
theorem qOD:(Tryz.prog.stops==[])=true:=by kernel_rfl
theorem qOF:(Tryz.prog.stopKnobs==[])=true:=by kernel_rfl
theorem qRK:Tryz.prog.plainKeys=true:=by kernel_rfl
theorem qOG:Tryz.prog.stopsHeard=true:=by kernel_rfl
theorem qUR:Tryz.prog.mayEnter=true:=by kernel_rfl
theorem qOE:Tryz.prog.liftsFinal=false:=by kernel_rfl
theorem qRI:(Tryz.prog.make==some .cut)=true:=by kernel_rfl
theorem qAU:ProgFacts Tryz.prog:=⟨qRJ,qRH,qOD,qOF,qRK,qOG,qUR,qOE,qRI⟩
end Go.Proofs.YtbgmnmnoaamgkaaGreatDoor
end
