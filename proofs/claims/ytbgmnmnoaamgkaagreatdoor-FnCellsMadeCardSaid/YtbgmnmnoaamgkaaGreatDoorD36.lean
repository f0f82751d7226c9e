/-
  Own texts, joined by mkclaim.py: Rd, Re, Rf, Rg, Jz.
-/
import Derived.Test.YtbgmnmnoaamgkaaGreatDoorD35
import Derived.Test.YtbgmnmnoaamgkaaGreatDoorD10
import Derived.Test.YtbgmnmnoaamgkaaGreatDoorD12
import Derived.Test.YtbgmnmnoaamgkaaGreatDoorD25
import Derived.Test.YtbgmnmnoaamgkaaGreatDoorProg
import Derived.Test.YtbgmnmnoaamgkaaGreatDoorChecked
import Derived.KernelRfl
set_option linter.unusedSimpArgs false
set_option linter.unusedVariables false
set_option maxRecDepth 100000
set_option maxHeartbeats 4000000

section
namespace Go.Proofs.YtbgmnmnoaamgkaaGreatDoor
open Go Go.Hm Go.Proofs
abbrev qAX:Sch:=.q 0<|.q 1<|.q 2<|.q 3<|.q 4<|.l 5 [3,2,1,0]<|.l 6 [2,1,0]<|.q 7<|.q 8<|.l 9 []<|.done
abbrev qAW:Sch:=.q 0<|.q 1<|.q 2<|.q 3<|.q 4<|.q 5<|.q 6<|.q 7<|.q 8<|.q 9<|.q 12<|.l 10 [12,9,8,7,6,5,4,3,2,1,0]<|.l 11 [12,8,7,6,5,4,3,2,1,0]<|.q 13<|.l 14 [8,7,6,5,4,3,2,1,0]<|.l 15 [3,2,1,0]<|.q 16<|.q 17<|.l 18 []<|.done
abbrev qAV:Sch:=.q 0<|.q 1<|.q 2<|.q 3<|.q 4<|.q 5<|.q 6<|.q 7<|.q 8<|.q 9<|.l 10 [9,8,7,6,5,4,3,2,1,0]<|.l 11 [8,7,6,5,4,3,2,1,0]<|.q 12<|.l 13 [8,7,6,5,4,3,2,1,0]<|.l 14 [3,2,1,0]<|.q 15<|.q 16<|.l 17 []<|.done
abbrev qAU:Sch:=.q 0<|.q 1<|.q 2<|.q 3<|.l 4 [3,2,1,0]<|.l 5 [2,1,0]<|.l 6 [2,1,0]<|.q 7<|.q 8<|.l 9 []<|.done
theorem qFP (gl) (H:Nm→Option AO) (bs:List Int) (pos:Nat) (hb:BytesOk bs) (hpos:pos≤600000) (hH:H (.u 1 0 0)=some (rdO bs pos)) (hV:H (.u 2 0 0)=none) (hV4:H (.u 4 0 0)=none) (hV5:H (.u 5 0 0)=none) :
  FnE Tryz.prog gl 77 (Nm.under (.u 1 0 0)) [.pt (.u 1 0 0) 0] H (qHq bs (fun p pos'=>Sml p∧(1≤p.length∧p.length≤8)∧pos'≤pos+3000)) noE:=by
 refine FnE.of_sem Tryz.func77 rfl (by kernel_rfl) (rs:=[.cell 2 29]) rfl Tryz.ntmps77 (lB rfl) (fun _=>q9 rfl) fun C w g root hroot=>?_
 have hr0:=hroot root (Nm.under_self _)
 have fx:=fx0
 refine qB ?_
 repeat ((first|refine wSc (id:=7) qAX qA ?_|refine wSc (id:=9) qAW qA ?_|refine wSc (id:=11) qAV qA ?_|refine wSc (id:=13) qAU qA ?_);refine qC ?_;refine qB ?_)
 clear fx
 first|show qK _ _ _ _ _|intro K hK
 refine qB8 (bs:=bs) (hs:=by simp [hH]) (ha:=by first|(simp;done)|(simp;rfl)) (hF:=qDM _ _ bs pos hb (by omega) (by simp [hH]) (by simp) (by simp) (by simp)) (h:=?_)
 rintro z H1 ⟨p,q,rfl,⟨ho1,ho2,ho3⟩,⟨hg,hq⟩,hU⟩
 refine⟨q,hU,?_⟩
 have hgl:=hg.len
 have hs:=hg.sml
 have fx:= ho1
 refine qB ?_
 repeat ((first|refine wSc (id:=7) qAX qA ?_|refine wSc (id:=9) qAW qA ?_|refine wSc (id:=11) qAV qA ?_|refine wSc (id:=13) qAU qA ?_);refine qC ?_;refine qB ?_)
 clear fx
 first|show qK _ _ _ _ _|intro K hK
 refine qAj (hs:=by simp) (ha:=by first|(simp;done)|(simp;rfl)) (hF:=yj _ _ bs q p.length hb (by omega) (by omega) (by simp)) (h:=?_)
 rintro x px ⟨hx,rfl⟩
 have hxl:x<p.length:=by omega
 have fx:=fx0
 refine qB ?_
 repeat ((first|refine wSc (id:=7) qAX qA ?_|refine wSc (id:=9) qAW qA ?_|refine wSc (id:=11) qAV qA ?_|refine wSc (id:=13) qAU qA ?_);refine qC ?_;refine qB ?_)
 clear fx
 first|show qK _ _ _ _ _|intro K hK
 refine qAj (hs:=by simp) (ha:=by first|(simp;done)|(simp;rfl)) (hF:=yj _ _ bs (q+1) 24 hb (by omega) (by omega) (by simp)) (h:=?_)
 rintro y py ⟨hy,rfl⟩
 have hy24:y<24:=by omega
 refine qUK (fun st=>st.tm 0=.pt (.u 1 0 0) 0∧st.hp (.u 1 0 0)=some (rdO bs (q+1+1))∧st.tm 2=.pt (.s 2) 0∧st.hp (.s 2)=some (.row 1 [[.hs (.c (.s 2) 0 0) 4 0 0]])∧st.hp (.c (.s 2) 0 0)=some (.row 4 [])∧st.tm 3=.pt (.s 3) 0∧st.hp (.s 3)=some (.row 1 [[.hs (.c (.s 3) 0 0) 4 0 p.length]])∧OwnP st.hp (.c (.s 3) 0 0) p∧st.tm 4=iv x∧st.tm 13=iv y)
  ⟨by simp,by simp,by simp,by simp,by simp,by simp,by simp,⟨by simp [ho1],fun j r hj=>by simp [ho2 j r hj],fun j r hj=>by simp [ho3 j r hj]⟩,by simp,by simp⟩ ?_
 clear ho1 ho2 ho3 hU
 rintro st ⟨h0,hU,h2,hp2,hp2',h3,hp3,⟨ho1,ho2,ho3⟩,h4,h13⟩
 obtain⟨k,hk⟩:∃ k,p[x]?=some k:=⟨_,gE hxl⟩
 obtain⟨_,hkE⟩:=gS hk
 have hkp:=hg.params k (gM hk)
 have hkb:=hg.body k (gM hk)
 have hob:=ho3 x k hk
 have hyc:y=0∨y=1∨y=2∨y=3∨y=4∨5≤y:=by omega
 clear hy hx
 rcases hyc with rfl|rfl|rfl|rfl|rfl|hy5
 ·skip
  have fx:=aI h0<|h13
  refine qB ?_
  repeat ((first|refine wSc (id:=7) qAX qA ?_|refine wSc (id:=9) qAW qA ?_|refine wSc (id:=11) qAV qA ?_|refine wSc (id:=13) qAU qA ?_);refine qC ?_;refine qB ?_)
  clear fx
  first|show qK _ _ _ _ _|intro K hK
  refine qB8 (bs:=bs) (hs:=by simp [hU]) (ha:=by first|(simp [h0];done)|(simp [h0];rfl)) (hF:=ux _ _ bs (q+1+1) hb (by omega) (by simp [hU]) (by simp) (by simp) (by simp)) (h:=?_)
  rintro z H2 ⟨p2,q2,rfl,⟨hc1,hc2,hc3⟩,⟨hg2,hq2⟩,hU2⟩
  refine⟨q2,hU2,?_⟩
  have fx:=aI h2<|aI hp2<|aI hp2'<|hc1
  refine qB ?_
  repeat ((first|refine wSc (id:=7) qAX qA ?_|refine wSc (id:=9) qAW qA ?_|refine wSc (id:=11) qAV qA ?_|refine wSc (id:=13) qAU qA ?_);refine qC ?_;refine qB ?_)
  clear fx
  refine qF [(.c (.s 2) 0 0,root)] (.one rfl) (by simp [h2];rfl) ⟨p2,q2,by simp,⟨?_,fun j r hj=>?_,fun j r hj=>?_⟩,⟨hg2.sml,hg2.len,by omega⟩,by simp⟩
  ·simp [hc1,hr0,zO (n:=.c (.s 2) 0 0) (m:=root) (f:=zu (Nm.under (.u 1 0 0)) [(.c (.s 2) 0 0,root)]) (p:=p2) (by simp [hr0])]
  ·simp [hc2 j r hj,hr0]
  ·simp [hc3 j r hj,hr0]
 ·skip
  have fx:=aI h0<|aI h13<|aI h3<|aI hp3<|aI h4<|aI ho1<|aI hxl<|aI hk<|aI hkE<|hob
  refine qB ?_
  repeat ((first|refine wSc (id:=7) qAX qA ?_|refine wSc (id:=9) qAW qA ?_|refine wSc (id:=11) qAV qA ?_|refine wSc (id:=13) qAU qA ?_);refine qC ?_;refine qB ?_)
  clear fx
  first|show qK _ _ _ _ _|intro K hK
  refine uH (uN _) 25 [-2,(x:Int),7] (bs:=bs) (pos:=q+1+1) hb (by omega) (hV:=hV) (h0:=by simp [h0]) (h1:=by simp) (hH:=by simp [hU]) (hL:=by simp [qJ]) (h:=?_)
  intro v hv
  have vJ:=qGI (n:=.c (.s 3) 0 0) (v:=v) hk
  have fx:=aI h0<|aI h13<|aI h3<|aI hp3<|aI h4<|aI ho1<|aI hxl<|aI hk<|aI hkE<|aI hob<|aI vJ<|aI h2<|aI hp2<|hp2'
  refine qB ?_
  repeat ((first|refine wSc (id:=7) qAX qA ?_|refine wSc (id:=9) qAW qA ?_|refine wSc (id:=11) qAV qA ?_|refine wSc (id:=13) qAU qA ?_);refine qC ?_;refine qB ?_)
  clear fx
  refine qF [(.c (.s 3) 0 0,root)] (.one rfl) (by simp [h2];rfl) ⟨p.set x { k with parent:=v },q+1+1+1,by simp,⟨?_,fun j r hj=>?_,fun j r hj=>?_⟩,⟨hs.set (by show k.params.length≤_;omega) (by show k.body.length≤_;omega),by simp;omega,by omega⟩,by simp⟩
  ·simp [vJ,hr0,zO (n:=.c (.s 3) 0 0) (m:=root) (f:=zu (Nm.under (.u 1 0 0)) [(.c (.s 3) 0 0,root)]) (p:=p.set x { k with parent:=v }) (by simp [hr0])]
  all_goals
   rw [List.getElem?_set] at hj
   by_cases e:x=j
   ·subst e
    rw [if_pos rfl,if_pos hxl] at hj
    obtain rfl:=sI hj
    simp [ho2 x k hk,ho3 x k hk,hr0]
   ·rw [if_neg e] at hj
    simp [ho2 j r hj,ho3 j r hj,hr0,e,show ¬ j=x from fun h=>e h.symm]
 ·skip
  have fx:=aI h0<|aI h13<|aI h3<|aI hp3<|aI h4<|aI ho1<|aI hxl<|aI hk<|aI hkE<|hob
  refine qB ?_
  repeat ((first|refine wSc (id:=7) qAX qA ?_|refine wSc (id:=9) qAW qA ?_|refine wSc (id:=11) qAV qA ?_|refine wSc (id:=13) qAU qA ?_);refine qC ?_;refine qB ?_)
  clear fx
  first|show qK _ _ _ _ _|intro K hK
  refine uH (uN _) 41 [-1,12,3] (bs:=bs) (pos:=q+1+1) hb (by omega) (hV:=hV) (h0:=by simp [h0]) (h1:=by simp) (hH:=by simp [hU]) (hL:=by simp [qJ]) (h:=?_)
  intro v hv
  have vJ:=kT (n:=.c (.s 3) 0 0) (a:=46) (i:=x) (len:=k.body.length+1) (p:=p) (L:=k.body++[⟨v,0,x,0⟩]) (by simp) (by simp) (by simp)
  have fx:=aI h0<|aI h13<|aI h3<|aI hp3<|aI h4<|aI ho1<|aI hxl<|aI hk<|aI hkE<|aI hob<|aI vJ<|aI h2<|aI hp2<|hp2'
  refine qB ?_
  repeat ((first|refine wSc (id:=7) qAX qA ?_|refine wSc (id:=9) qAW qA ?_|refine wSc (id:=11) qAV qA ?_|refine wSc (id:=13) qAU qA ?_);refine qC ?_;refine qB ?_)
  clear fx
  refine qF [(.c (.s 3) 0 0,root)] (.one rfl) (by simp [h2];rfl) ⟨setBody p x (k.body++[⟨v,0,x,0⟩]),q+1+1+1,by simp,⟨?_,fun j r hj=>?_,fun j r hj=>?_⟩,⟨qCI hs (by simp;omega),by simp;omega,by omega⟩,by simp⟩
  ·simp [vJ,hr0,zO (n:=.c (.s 3) 0 0) (m:=root) (f:=zu (Nm.under (.u 1 0 0)) [(.c (.s 3) 0 0,root)]) (p:=setBody p x (k.body++[⟨v,0,x,0⟩])) (by simp [hr0])]
  all_goals
   have hjl:j<p.length:=by
    have:=(gS hj).1
    rwa [z8] at this
   obtain⟨r0,hr0'⟩:∃ r0,p[j]?=some r0:=⟨_,gE hjl⟩
   rw [jM hr0'] at hj
   obtain rfl:=sI hj
   by_cases e:x=j
   ·subst e
    rw [hk] at hr0'
    obtain rfl:=sI hr0'
    simp [ho2 x k hk,hob,hr0]
   ·simp [ho2 j r0 hr0',ho3 j r0 hr0',hr0,e,show ¬ j=x from fun h=>e h.symm]
 ·skip
  have fx:=aI h0<|aI h13<|aI h3<|aI hp3<|aI h4<|aI ho1<|aI hxl<|aI hk<|aI hkE<|hob
  refine qB ?_
  repeat ((first|refine wSc (id:=7) qAX qA ?_|refine wSc (id:=9) qAW qA ?_|refine wSc (id:=11) qAV qA ?_|refine wSc (id:=13) qAU qA ?_);refine qC ?_;refine qB ?_)
  clear fx
  first|show qK _ _ _ _ _|intro K hK
  refine uH (uN _) 61 [8,-1] (bs:=bs) (pos:=q+1+1) hb (by omega) (hV:=hV) (h0:=by simp [h0]) (h1:=by simp) (hH:=by simp [hU]) (hL:=by simp [qJ]) (h:=?_)
  intro v hv
  have vJ:=kT (n:=.c (.s 3) 0 0) (a:=65) (i:=x) (len:=k.body.length+1) (p:=p) (L:=k.body++[⟨1,v,0,0⟩]) (by simp) (by simp) (by simp)
  have fx:=aI h0<|aI h13<|aI h3<|aI hp3<|aI h4<|aI ho1<|aI hxl<|aI hk<|aI hkE<|aI hob<|aI vJ<|aI h2<|aI hp2<|hp2'
  refine qB ?_
  repeat ((first|refine wSc (id:=7) qAX qA ?_|refine wSc (id:=9) qAW qA ?_|refine wSc (id:=11) qAV qA ?_|refine wSc (id:=13) qAU qA ?_);refine qC ?_;refine qB ?_)
  clear fx
  refine qF [(.c (.s 3) 0 0,root)] (.one rfl) (by simp [h2];rfl) ⟨setBody p x (k.body++[⟨1,v,0,0⟩]),q+1+1+1,by simp,⟨?_,fun j r hj=>?_,fun j r hj=>?_⟩,⟨qCI hs (by simp;omega),by simp;omega,by omega⟩,by simp⟩
  ·simp [vJ,hr0,zO (n:=.c (.s 3) 0 0) (m:=root) (f:=zu (Nm.under (.u 1 0 0)) [(.c (.s 3) 0 0,root)]) (p:=setBody p x (k.body++[⟨1,v,0,0⟩])) (by simp [hr0])]
  all_goals
   have hjl:j<p.length:=by
    have:=(gS hj).1
    rwa [z8] at this
   obtain⟨r0,hr0'⟩:∃ r0,p[j]?=some r0:=⟨_,gE hjl⟩
   rw [jM hr0'] at hj
   obtain rfl:=sI hj
   by_cases e:x=j
   ·subst e
    rw [hk] at hr0'
    obtain rfl:=sI hr0'
    simp [ho2 x k hk,hob,hr0]
   ·simp [ho2 j r0 hr0',ho3 j r0 hr0',hr0,e,show ¬ j=x from fun h=>e h.symm]
 ·skip
  have fx:=aI h0<|aI h13<|aI h3<|aI hp3<|aI h4<|aI ho1<|aI hxl<|aI hk<|aI hkE<|hob
  refine qB ?_
  repeat ((first|refine wSc (id:=7) qAX qA ?_|refine wSc (id:=9) qAW qA ?_|refine wSc (id:=11) qAV qA ?_|refine wSc (id:=13) qAU qA ?_);refine qC ?_;refine qB ?_)
  clear fx
  first|show qK _ _ _ _ _|intro K hK
  refine uH (uN _) 74 [8,1] (bs:=bs) (pos:=q+1+1) hb (by omega) (hV:=hV) (h0:=by simp [h0]) (h1:=by simp) (hH:=by simp [hU]) (hL:=by simp [qJ]) (h:=?_)
  intro v hv
  have vJ:=qC3 (n:=.c (.s 3) 0 0) (a:=76) (len:=2) (L:=[v,2]) hk rfl (by simp) (by simp)
  have fx:=aI h0<|aI h13<|aI h3<|aI hp3<|aI h4<|aI ho1<|aI hxl<|aI hk<|aI hkE<|aI hob<|aI vJ<|aI h2<|aI hp2<|hp2'
  refine qB ?_
  repeat ((first|refine wSc (id:=7) qAX qA ?_|refine wSc (id:=9) qAW qA ?_|refine wSc (id:=11) qAV qA ?_|refine wSc (id:=13) qAU qA ?_);refine qC ?_;refine qB ?_)
  clear fx
  refine qF [(.c (.s 3) 0 0,root)] (.one rfl) (by simp [h2];rfl) ⟨p.set x { k with params:=[v,2] },q+1+1+1,by simp,⟨?_,fun j r hj=>?_,fun j r hj=>?_⟩,⟨hs.set (by show ([v,2]:List Int).length≤_;simp) (by show k.body.length≤_;omega),by simp;omega,by omega⟩,by simp⟩
  ·simp [vJ,hr0,zO (n:=.c (.s 3) 0 0) (m:=root) (f:=zu (Nm.under (.u 1 0 0)) [(.c (.s 3) 0 0,root)]) (p:=p.set x { k with params:=[v,2] }) (by simp [hr0])]
  all_goals
   rw [List.getElem?_set] at hj
   by_cases e:x=j
   ·subst e
    rw [if_pos rfl,if_pos hxl] at hj
    obtain rfl:=sI hj
    simp [ho3 x k hk,qJ,hr0]
   ·rw [if_neg e] at hj
    simp [ho2 j r hj,ho3 j r hj,hr0,e,show ¬ j=x from fun h=>e h.symm]
 ·have hy0:¬ y=0:=by omega
  have hy1:¬ y=1:=by omega
  have hy2:¬ y=2:=by omega
  have hy3:¬ y=3:=by omega
  have hy4:¬ y=4:=by omega
  have e0:((y:Int)==0)=false:=by rw [beq_eq_false_iff_ne];omega
  have e1:((y:Int)==1)=false:=by rw [beq_eq_false_iff_ne];omega
  have e2:((y:Int)==2)=false:=by rw [beq_eq_false_iff_ne];omega
  have e3:((y:Int)==3)=false:=by rw [beq_eq_false_iff_ne];omega
  have e4:((y:Int)==4)=false:=by rw [beq_eq_false_iff_ne];omega
  have fx:=aI h2<|aI hp2<|aI hp2'<|aI h3<|aI hp3<|aI h13<|aI hy0<|aI e1<|aI e2<|aI e3<|e4
  refine qB ?_
  repeat ((first|refine wSc (id:=7) qAX qA ?_|refine wSc (id:=9) qAW qA ?_|refine wSc (id:=11) qAV qA ?_|refine wSc (id:=13) qAU qA ?_);refine qC ?_;refine qB ?_)
  clear fx
  refine qF [(.c (.s 3) 0 0,root)] (.one rfl) (by simp [h2];rfl) ⟨p,q+1+1,by simp,⟨?_,fun j r hj=>?_,fun j r hj=>?_⟩,⟨hs,hgl,by omega⟩,by simp [hU]⟩
  ·simp [ho1,hr0,zO (n:=.c (.s 3) 0 0) (m:=root) (f:=zu (Nm.under (.u 1 0 0)) [(.c (.s 3) 0 0,root)]) (p:=p) (by simp [hr0])]
  ·simp [ho2 j r hj,hr0]
  ·simp [ho3 j r hj,hr0]
end Go.Proofs.YtbgmnmnoaamgkaaGreatDoor
end
section
namespace Go.Proofs.YtbgmnmnoaamgkaaGreatDoor
open Go Go.Hm Go.Proofs
attribute [local simp] qCH kO
def qM3 (bs:List Int) (m:Nat):Nm→AV→(Nm→Option AO)→Prop:=fun r z H'=>∃ (p:Prg) (b:Int) (pos':Nat),z=.tup [.agg [.hs r 4 0 p.length],iv b]∧OwnP H' r p∧Sml p∧(1≤p.length∧p.length≤8)∧pos'≤m∧H' (.u 1 0 0)=some (rdO bs pos')
end Go.Proofs.YtbgmnmnoaamgkaaGreatDoor
end
section
namespace Go.Proofs.YtbgmnmnoaamgkaaGreatDoor
open Go Go.Hm Go.Proofs
attribute [local simp] qCH kO
theorem qBX (gl) (code:List Int) (hc:code.length≤1048576):qV Tryz.prog gl 47 [bsl code] (fun r z H'=>z=.pt r 0∧H' r=some (rdO (code.take 2000) 0)):=by
 refine qV.of_sem Tryz.func47 rfl (by kernel_rfl) (rs:=[.tmp 2]) rfl Tryz.ntmps47 (lB rfl) fun C w g root=>?_
 by_cases hl:2000<code.length
 ·have hl1:(2000:Int)<code.length:=by omega
  have hl2:(2000:Int)≤code.length:=by omega
  all_goals have fx:=aI hl1<|hl2
  repeat' (first
   | refine qf ?_|refine qj fun K hK=>?_
   | ((with_reducible refine qc hK ?_);clear hK K)
   | (with_reducible first|refine qD ?_)
   | refine qw ?_
   | (with_reducible first|refine qO ?_|refine qG (h:=?_)|refine zp (h:=?_))
   | (with_reducible refine x_q (h:=?_))
   | refine qR (h1:=?_)
   | fail)
  all_goals try clear fx
  refine qF [(.s 2,root)] (.one rfl) (by simp;rfl) ⟨by simp,by simp⟩
 ·have ht:code.take 2000=code:=List.take_of_length_le (by omega)
  have hl1:¬ (2000:Int)<code.length:=by omega
  rw [ht]
  all_goals have fx:= hl1
  repeat' (first
   | refine qf ?_|refine q7 ?_|refine qj fun K hK=>?_
   | ((with_reducible refine qc hK ?_);clear hK K)
   | (with_reducible first|refine qD ?_)
   | refine qw ?_
   | (with_reducible first|refine qO ?_|refine qG (h:=?_)|refine zp (h:=?_))
   | (with_reducible refine x_q (h:=?_))
   | refine qg (h1:=?_)
   | fail)
  all_goals try clear fx
  refine qF [(.s 2,root)] (.one rfl) (by simp;rfl) ⟨by simp,by simp⟩
structure CodeOk (code:List Int):Prop where
 len:code.length≤1048576
 rng:∀ v∈code,0≤v∧v≤255
theorem CodeOk.bytes {code:List Int} (h:CodeOk code):BytesOk (code.take 2000):=⟨by simp;omega,fun v hv=>h.rng v (List.mem_of_mem_take hv)⟩
end Go.Proofs.YtbgmnmnoaamgkaaGreatDoor
end
section
namespace Go.Proofs.YtbgmnmnoaamgkaaGreatDoor
open Go Go.Hm Go.Proofs
attribute [local simp] qCH kO
theorem qIK (gl) (H:Nm→Option AO) (bs:List Int) (pos:Nat) (hb:BytesOk bs) (hpos:pos≤500000) (hH:H (.u 1 0 0)=some (rdO bs pos)) (hV:H (.u 2 0 0)=none) (hV4:H (.u 4 0 0)=none) (hV5:H (.u 5 0 0)=none) :
  FnE Tryz.prog gl 46 (Nm.under (.u 1 0 0)) [.pt (.u 1 0 0) 0] H (qM3 bs (pos+4000)) noE:=by
 refine FnE.of_sem Tryz.func46 rfl (by kernel_rfl) (rs:=[.cell 2 29,.tmp 3]) rfl Tryz.ntmps46 (lB rfl) (fun _=>q9 rfl) fun C w g root hroot=>?_
 have hr0:=hroot root (Nm.under_self _)
 all_goals have fx:=fx0
 repeat' (first
  | refine qf ?_|refine qj fun K hK=>?_
  | ((with_reducible refine qc hK ?_);clear hK K)
  | (with_reducible first|refine qO ?_|refine qG (h:=?_)|refine zk (h:=?_))
  | (with_reducible refine x_q (h:=?_))
  | fail)
 all_goals try clear fx
 refine qB8 (bs:=bs) (hs:=by simp [hH]) (ha:=by first|(simp;done)|(simp;rfl)) (hF:=qFP _ _ bs pos hb (by omega) (by simp [hH]) (by simp) (by simp) (by simp)) (h:=?_)
 rintro z H1 ⟨p,q,rfl,⟨ho1,ho2,ho3⟩,⟨hs,hpl,hq⟩,hU⟩
 refine⟨q,hU,?_⟩
 all_goals have fx:= ho1
 repeat' (first
  | (with_reducible first|refine qO ?_)
  | (with_reducible refine x_q (h:=?_))
  | fail)
 all_goals try clear fx
 refine qAj (hs:=by simp) (ha:=by first|(simp;done)|(simp;rfl)) (hF:=yj _ _ bs q 40 hb (by omega) (by omega) (by simp)) (h:=?_)
 rintro y py ⟨hy,rfl⟩
 all_goals have fx:= ho1
 repeat' (first
  | (with_reducible first|refine qO ?_|refine jp (h:=?_))
  | fail)
 all_goals try clear fx
 refine uH (uN _) 9 [150,150,(y:Int),0,20,151,-1] (bs:=bs) (pos:=q+1) hb (by omega) (hV:=hV) (h0:=by simp) (h1:=by simp) (hH:=by simp) (hL:=by simp [qJ]) (h:=?_)
 intro v hv
 all_goals have fx:= ho1
 repeat' (first
  | ((with_reducible refine qc hK ?_);clear hK K)
  | (with_reducible first|refine qD ?_)
  | refine qw ?_
  | (with_reducible first|refine qO ?_|refine qG (h:=?_)|refine qp (h:=?_))
  | fail)
 all_goals try clear fx
 refine qF [(.c (.s 2) 0 0,root)] (.one rfl) (by simp;rfl) ⟨p,v,q+1+1,by simp,⟨?_,fun j r hj=>?_,fun j r hj=>?_⟩,hs,hpl,by omega,by simp⟩
 ·simp [ho1,hr0,zO (n:=.c (.s 2) 0 0) (m:=root) (f:=zu (Nm.under (.u 1 0 0)) [(.c (.s 2) 0 0,root)]) (p:=p) (by simp [hr0])]
 ·simp [ho2 j r hj,hr0]
 ·simp [ho3 j r hj,hr0]
theorem qBk (gl) (code:List Int) (hc:CodeOk code):qV Tryz.prog gl 20 [bsl code] (fun r z H'=>∃ (p:Prg) (b:Int),z=.tup [.agg [.hs r 4 0 p.length],iv b]∧OwnP H' r p∧Sml p):=by
 have hb:=hc.bytes
 refine qV.of_sem Tryz.func20 rfl (by kernel_rfl) (rs:=[.cell 2 29,.tmp 3]) rfl Tryz.ntmps20 (lB rfl) fun C w g root=>?_
 have fx:=fx0
 refine qB ?_
 clear fx
 intro K hK
 refine qPp (ha:=by simp) (hF:=qBX _ code hc.len) (h:=?_)
 rintro z H1 ⟨rfl,hR⟩
 have fx:= hR
 refine qB ?_
 clear fx
 refine qOO (.s 5) (.u 1 0 0) (.inl rfl) (.inr rfl) ?_
 refine qB8 (bs:=code.take 2000) (hs:=by simp [hR]) (ha:=by first|(simp;done)|(simp;rfl)) (hF:=qIK _ _ (code.take 2000) 0 hb (by omega) (by simp [hR]) (by simp) (by simp) (by simp)) (h:=?_)
 rintro z H2 ⟨p,b,q,rfl,⟨ho1,ho2,ho3⟩,hs,hpl,hq,hU⟩
 refine⟨q,hU,?_⟩
 have fx:= ho1
 refine qB ?_
 clear fx
 refine qF [(.c (.s 2) 0 0,root)] (.one rfl) (by simp;rfl) ⟨p,b,by simp,⟨?_,fun j r hj=>?_,fun j r hj=>?_⟩,hs⟩
 ·simp [ho1,zO (n:=.c (.s 2) 0 0) (m:=root) (f:=zu noD [(.c (.s 2) 0 0,root)]) (p:=p) (by simp)]
 ·simp [ho2 j r hj]
 ·simp [ho3 j r hj]
theorem qBI (gl) (code:List Int) (hc:CodeOk code):qV Tryz.prog gl 18 [bsl code] (fun r z H'=>∃ (p:Prg) (b:Int),z=.tup [.agg [.hs r 4 0 p.length],iv b]∧OwnP H' r p∧Sml p):=by
 have hb:=hc.bytes
 refine qV.of_sem Tryz.func18 rfl (by kernel_rfl) (rs:=[.cell 2 29,.tmp 3]) rfl Tryz.ntmps18 (lB rfl) fun C w g root=>?_
 have fx:=fx0
 refine qB ?_
 clear fx
 intro K hK
 refine qPp (ha:=by simp) (hF:=qBX _ code hc.len) (h:=?_)
 rintro z H1 ⟨rfl,hR⟩
 have fx:= hR
 refine qB ?_
 clear fx
 refine qOO (.s 5) (.u 1 0 0) (.inl rfl) (.inr rfl) ?_
 refine qB8 (bs:=code.take 2000) (hs:=by simp [hR]) (ha:=by first|(simp;done)|(simp;rfl)) (hF:=qIK _ _ (code.take 2000) 0 hb (by omega) (by simp [hR]) (by simp) (by simp) (by simp)) (h:=?_)
 rintro z H2 ⟨p,b,q,rfl,⟨ho1,ho2,ho3⟩,hs,hpl,hq,hU⟩
 refine⟨q,hU,?_⟩
 have fx:= ho1
 refine qB ?_
 clear fx
 refine qF [(.c (.s 2) 0 0,root)] (.one rfl) (by simp;rfl) ⟨p,b,by simp,⟨?_,fun j r hj=>?_,fun j r hj=>?_⟩,hs⟩
 ·simp [ho1,zO (n:=.c (.s 2) 0 0) (m:=root) (f:=zu noD [(.c (.s 2) 0 0,root)]) (p:=p) (by simp)]
 ·simp [ho2 j r hj]
 ·simp [ho3 j r hj]
end Go.Proofs.YtbgmnmnoaamgkaaGreatDoor
end
section
namespace Go.Proofs.YtbgmnmnoaamgkaaGreatDoor
open Go Go.Hm Go.Proofs
theorem qRP:laidOutB Tryz.prog=true:=by kernel_rfl
theorem qRN:mapsRowed Tryz.prog=true:=by kernel_rfl
theorem qOA:(Tryz.prog.stops==[])=true:=by kernel_rfl
theorem qOC:(Tryz.prog.stopKnobs==[])=true:=by kernel_rfl
theorem qRQ:Tryz.prog.plainKeys=true:=by kernel_rfl
theorem qOD:Tryz.prog.stopsHeard=true:=by kernel_rfl
theorem qUS:Tryz.prog.mayEnter=true:=by kernel_rfl
theorem qOB:Tryz.prog.liftsFinal=false:=by kernel_rfl
theorem qRO:(Tryz.prog.make==some .cut)=true:=by kernel_rfl
theorem qGE:ProgFacts Tryz.prog:=⟨qRP,qRN,qOA,qOC,qRQ,qOD,qUS,qOB,qRO⟩
end Go.Proofs.YtbgmnmnoaamgkaaGreatDoor
end
