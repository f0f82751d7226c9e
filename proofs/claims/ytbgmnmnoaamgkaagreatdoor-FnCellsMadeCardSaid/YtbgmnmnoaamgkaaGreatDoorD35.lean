/-
  Own texts, joined by mkclaim.py: Rc.
-/
import Derived.Test.YtbgmnmnoaamgkaaGreatDoorD34
import Derived.Test.YtbgmnmnoaamgkaaGreatDoorD24
set_option linter.unusedSimpArgs false
set_option linter.unusedVariables false
set_option maxRecDepth 100000
set_option maxHeartbeats 4000000

section
set_option maxHeartbeats 20000000
namespace Go.Proofs.YtbgmnmnoaamgkaaGreatDoor
open Go Go.Hm Go.Proofs
abbrev wG:Sch:=.q 0<|.q 1<|.q 2<|.q 3<|.q 4<|.q 5<|.q 6<|.q 7<|.l 8 []<|.q 9<|.q 10<|.q 11<|.q 12<|.q 13<|.q 14<|.q 15<|.q 16<|.q 17<|.q 18<|.l 19 [11]<|.q 20<|.q 21<|.q 22<|.q 23<|.q 24<|.q 25<|.q 26<|.q 27<|.q 28<|.q 29<|.q 30<|.q 31<|.q 32<|.q 33<|.q 34<|.l 35 [27,11]<|.q 36<|.q 37<|.q 38<|.q 40<|.q 41<|.l 39 [41,40,27,11]<|.l 42 [27,11]<|.q 43<|.q 44<|.q 45<|.l 46 []<|.done
theorem qDM (gl) (H:Nm→Option AO) (bs:List Int) (pos:Nat) (hb:BytesOk bs) (hpos:pos≤700000) (hH:H (.u 1 0 0)=some (rdO bs pos)) (hV:H (.u 2 0 0)=none) (hV4:H (.u 4 0 0)=none) (hV5:H (.u 5 0 0)=none) :
  FnE Tryz.prog gl 119 (Nm.under (.u 1 0 0)) [.pt (.u 1 0 0) 0] H (qHq bs (fun p pos'=>GenT p∧pos'≤pos+1000)) noE:=by
 refine FnE.of_sem Tryz.func119 rfl (by kernel_rfl) (rs:=[.cell 2 29]) rfl Tryz.ntmps119 (lB rfl) (fun _=>q9 rfl) fun C w g root hroot=>?_
 have hr0:=hroot root (Nm.under_self _)
 all_goals have fx:=fx0
 repeat' (first
  | refine qf ?_|refine qS ?_|refine q7 ?_|refine qj fun K hK=>?_
  | ((with_reducible refine qc hK ?_);clear hK K)
  | (with_reducible first|refine qD ?_|refine qb ?_|refine qu ?_|refine zr ?_|refine qP ?_|refine zK ?_|refine qCL ?_|refine zP (by decide) ?_)
  | refine jS ?_
  | refine qw ?_
  | (with_reducible refine qO ?_)
  | ((with_reducible refine vR ?_);refine q6 (h:=?_))
  | (with_reducible first|refine jV ?_|refine y7 ?_|refine uz (h:=?_)|refine qAC (h:=?_)|refine x_u (h:=?_)|refine qG (h:=?_)|refine zk (h:=?_)|refine qp (h:=?_)|refine jA (T:=43) (h:=?_)|refine jP (T:=43) (h:=?_)|refine jn (h:=?_)|refine jp (h:=?_))
  | (with_reducible refine x_q (h:=?_))
  | (with_reducible refine kB (fun ht=>?_) (fun ht=>?_))
  | refine qR (h1:=?_)|refine qg (h1:=?_)
  | (refine wSc (id:=10) wG qA fun K hK=>?_)
  | ((with_reducible refine wL hK ?_);clear hK K)
  | ((with_reducible refine qDo ?_);first|refine qKR (h:=?_)|refine qDv (h:=?_)|refine qDw (h:=?_)|refine qDu (h:=?_))
  | ((with_reducible refine qDo ?_);refine qDx (h1:=fun ht=>?_) (h2:=fun ht=>?_))
  | refine a_l rfl ?_|refine qPE ?_ ?_|refine qPD ?_ ?_ ?_|(with_reducible refine aI ?_ ?_)|exact kJ|refine qBw (h2:=?_)
  | fail)
 all_goals try clear fx
 refine qB8 (bs:=bs) (hs:=by simp [hH]) (ha:=by first|(simp;done)|(simp;rfl)) (hF:=ux _ _ bs pos hb hpos (by simp [hH]) (by simp) (by simp) (by simp)) (h:=?_)
 rintro z H1 ⟨p0,q,rfl,⟨ho1,ho2,ho3⟩,⟨hg0,hq⟩,hU⟩
 refine⟨q,hU,?_⟩
 have fx:= ho1
 refine qB ?_
 repeat ((first|refine wSc (id:=10) wG qA ?_);refine qC ?_;refine qB ?_)
 clear fx
 refine qY (fun n st=>∃ (p:Prg) (b:Nat),n=p.length - b∧1≤b∧b≤p.length∧GenT p∧st.hp (.u 1 0 0)=some (rdO bs q)∧st.tm 2=.pt (.s 2) 0∧st.hp (.s 2)=some (.row 1 [[.hs (.c (.s 2) 0 0) 4 0 0]])∧st.hp (.c (.s 2) 0 0)=some (.row 4 []) ∧
  st.tm 3=.pt (.s 3) 0∧st.hp (.s 3)=some (.row 1 [[.hs (.c (.s 3) 0 0) 4 0 p.length]])∧st.tm 4=iv b∧OwnP st.hp (.c (.s 3) 0 0) p) (p0.length - 1) ?_ ?_
 ·have:=hg0.len
  refine⟨p0,1,rfl,Nat.le_refl _,by omega,hg0,by simp,by simp,by simp,by simp,by simp,by simp,by simp,⟨by simp [ho1],fun j r hj=>by simp [ho2 j r hj],fun j r hj=>by simp [ho3 j r hj]⟩⟩
 clear ho1 ho2 ho3 hU
 rintro n st - - ⟨p,b,rfl,hb1,hbl,hg,hU,h2,hp2,hp2',h3,hp3,h4,⟨ho1,ho2,ho3⟩⟩
 have hs:=hg.sml
 have hgl:=hg.len
 have hbr:(b<p.length∧jY p=false)∨¬ (b<p.length∧jY p=false):=by
  by_cases h:b<p.length∧jY p=false
  ·exact .inl h
  ·exact .inr h
 rcases hbr with⟨hbp,hpo⟩|hstop
 ·obtain⟨k,hk⟩:∃ k,p[b]?=some k:=⟨_,gE hbp⟩
  obtain⟨_,hkE⟩:=gS hk
  have hkp:=hg.params k (gM hk)
  have hkb:=hg.body k (gM hk)
  have hdcl:=k.dc_len 10
  have fx:=aI h3<|aI hp3<|aI h4<|aI hbp<|hpo
  have c1:=jT gl p hs
  refine qB ?_
  repeat ((first|refine wSc (id:=10) wG qA ?_);refine qC ?_;refine qB ?_)
  clear fx c1
  refine qY (fun n st=>∃ (j:Nat) (L:List Stm),n=k.body.length - j∧j≤k.body.length∧L.length≤j∧(∀ s∈L,TxtS s)∧st.hp (.u 1 0 0)=some (rdO bs q)∧st.tm 2=.pt (.s 2) 0∧st.hp (.s 2)=some (.row 1 [[.hs (.c (.s 2) 0 0) 4 0 0]])∧st.hp (.c (.s 2) 0 0)=some (.row 4 []) ∧
  st.tm 3=.pt (.s 3) 0∧st.hp (.s 3)=some (.row 1 [[.hs (.c (.s 3) 0 0) 4 0 p.length]])∧st.tm 4=iv b∧OwnP st.hp (.c (.s 3) 0 0) p∧st.tm 6=iv j∧st.tm 5=.hs (.s 5) 4 0 L.length∧st.hp (.s 5)=some (.row 4 (zb L))) k.body.length ?_ ?_
  ·exact⟨0,[],by omega,by omega,by simp,by simp,by simp [hU],by simp [h2],by simp [hp2],by simp [hp2'],by simp [h3],by simp [hp3],by simp [h4],⟨by simp [ho1],fun j r hj=>by simp [ho2 j r hj],fun j r hj=>by simp [ho3 j r hj]⟩,by simp,by simp,by simp⟩
  clear hU h2 hp2 hp2' h3 hp3 h4 ho1 ho2 ho3
  rintro n st - - ⟨j,L,rfl,hj,hL,hLT,hU,h2,hp2,hp2',h3,hp3,h4,⟨ho1,ho2,ho3⟩,h6,h5,hp5⟩
  have hob:=ho3 b k hk
  have hpa:=ho2 b k hk
  have fx:=aI h3<|aI hp3<|aI h4<|aI h6<|aI ho1<|aI hk<|aI hkE<|hbp
  refine qB ?_
  repeat ((first|refine wSc (id:=10) wG qA ?_);refine qC ?_;refine qB ?_)
  clear fx
  refine ub (by simp [];first|done|rfl|exact (Bool.not_not _).symm) (fun ht=>?_) (fun hf=>?_)
  ·have hjl:j<k.body.length:=by simpa using ht
   obtain⟨s,hsi⟩:∃ s,k.body[j]?=some s:=⟨_,gE hjl⟩
   obtain⟨_,hsE⟩:=gS hsi
   clear ht
   cases h10:(s.kind==10)
   ·cases h9:(s.kind==9)
    ·skip
     have fx:=aI h3<|aI hp3<|aI h4<|aI h6<|aI ho1<|aI hk<|aI hkE<|aI hbp<|aI hob<|aI hpa<|aI hsi<|aI hsE<|aI hjl<|aI h10<|aI h9<|aI h5<|hp5
     have c1:=vX gl p b k s.to hk hs hg.heads
     have c2:=yJ gl k.params s.to (by omega)
     have c3:=yJ gl (k.dc 10) s.to (by omega)
     have d1:=zm gl p b k 10 hk (hs.bsm hk)
     refine qB ?_
     repeat ((first|refine wSc (id:=10) wG qA ?_);refine qC ?_;refine qB ?_)
     clear fx c1 c2 c3 d1
     refine⟨k.body.length - (j+1),by omega,j+1,L++[s],rfl,by omega,by simp;omega,qCC hLT (hg.txt.stms k (gM hk) s (gM hsi)),by simp [hU],by simp [h2],by simp [hp2],by simp [hp2'],by simp [h3],by simp [hp3],by simp [h4],⟨by simp [ho1],fun j r hj=>by simp [ho2 j r hj],fun j r hj=>by simp [ho3 j r hj]⟩,by simp;exact wrp (by omega) (by omega),by simp,?_⟩
     rw [← v5]
     simp [hp5]
    ·by_cases hin:s.to∈k.params
     ·skip
      have fx:=aI h3<|aI hp3<|aI h4<|aI h6<|aI ho1<|aI hk<|aI hkE<|aI hbp<|aI hob<|aI hpa<|aI hsi<|aI hsE<|aI hjl<|aI h10<|aI h9<|hin
      have c1:=vX gl p b k s.to hk hs hg.heads
      have c2:=yJ gl k.params s.to (by omega)
      have c3:=yJ gl (k.dc 10) s.to (by omega)
      have d1:=zm gl p b k 10 hk (hs.bsm hk)
      refine qB ?_
      repeat ((first|refine wSc (id:=10) wG qA ?_);refine qC ?_;refine qB ?_)
      clear fx c1 c2 c3 d1
      exact⟨k.body.length - (j+1),by omega,j+1,L,rfl,by omega,by omega,hLT,by simp [hU],by simp [h2],by simp [hp2],by simp [hp2'],by simp [h3],by simp [hp3],by simp [h4],⟨by simp [ho1],fun j r hj=>by simp [ho2 j r hj],fun j r hj=>by simp [ho3 j r hj]⟩,by simp;exact wrp (by omega) (by omega),by simp [h5],by simp [hp5]⟩
     ·by_cases hdc:s.to∈k.dc 10
      ·skip
       have fx:=aI h3<|aI hp3<|aI h4<|aI h6<|aI ho1<|aI hk<|aI hkE<|aI hbp<|aI hob<|aI hpa<|aI hsi<|aI hsE<|aI hjl<|aI h10<|aI h9<|aI hin<|hdc
       have c1:=vX gl p b k s.to hk hs hg.heads
       have c2:=yJ gl k.params s.to (by omega)
       have c3:=yJ gl (k.dc 10) s.to (by omega)
       have d1:=zm gl p b k 10 hk (hs.bsm hk)
       refine qB ?_
       repeat ((first|refine wSc (id:=10) wG qA ?_);refine qC ?_;refine qB ?_)
       clear fx c1 c2 c3 d1
       exact⟨k.body.length - (j+1),by omega,j+1,L,rfl,by omega,by omega,hLT,by simp [hU],by simp [h2],by simp [hp2],by simp [hp2'],by simp [h3],by simp [hp3],by simp [h4],⟨by simp [ho1],fun j r hj=>by simp [ho2 j r hj],fun j r hj=>by simp [ho3 j r hj]⟩,by simp;exact wrp (by omega) (by omega),by simp [h5],by simp [hp5]⟩
      ·skip
       have fx:=aI h3<|aI hp3<|aI h4<|aI h6<|aI ho1<|aI hk<|aI hkE<|aI hbp<|aI hob<|aI hpa<|aI hsi<|aI hsE<|aI hjl<|aI h10<|aI h9<|aI hin<|aI hdc<|aI h5<|hp5
       have c1:=vX gl p b k s.to hk hs hg.heads
       have c2:=yJ gl k.params s.to (by omega)
       have c3:=yJ gl (k.dc 10) s.to (by omega)
       have d1:=zm gl p b k 10 hk (hs.bsm hk)
       refine qB ?_
       repeat ((first|refine wSc (id:=10) wG qA ?_);refine qC ?_;refine qB ?_)
       clear fx c1 c2 c3 d1
       refine⟨k.body.length - (j+1),by omega,j+1,L++[s],rfl,by omega,by simp;omega,qCC hLT (hg.txt.stms k (gM hk) s (gM hsi)),by simp [hU],by simp [h2],by simp [hp2],by simp [hp2'],by simp [h3],by simp [hp3],by simp [h4],⟨by simp [ho1],fun j r hj=>by simp [ho2 j r hj],fun j r hj=>by simp [ho3 j r hj]⟩,by simp;exact wrp (by omega) (by omega),by simp,?_⟩
       rw [← v5]
       simp [hp5]
   ·have h9:(s.kind==9)=false:=by
     have:s.kind=10:=by simpa using h10
     simp [this]
    by_cases hou:outer p b s.to<0
    ·skip
     have fx:=aI h3<|aI hp3<|aI h4<|aI h6<|aI ho1<|aI hk<|aI hkE<|aI hbp<|aI hob<|aI hpa<|aI hsi<|aI hsE<|aI hjl<|aI h10<|aI h9<|hou
     have c1:=vX gl p b k s.to hk hs hg.heads
     have c2:=yJ gl k.params s.to (by omega)
     have c3:=yJ gl (k.dc 10) s.to (by omega)
     have d1:=zm gl p b k 10 hk (hs.bsm hk)
     refine qB ?_
     repeat ((first|refine wSc (id:=10) wG qA ?_);refine qC ?_;refine qB ?_)
     clear fx c1 c2 c3 d1
     exact⟨k.body.length - (j+1),by omega,j+1,L,rfl,by omega,by omega,hLT,by simp [hU],by simp [h2],by simp [hp2],by simp [hp2'],by simp [h3],by simp [hp3],by simp [h4],⟨by simp [ho1],fun j r hj=>by simp [ho2 j r hj],fun j r hj=>by simp [ho3 j r hj]⟩,by simp;exact wrp (by omega) (by omega),by simp [h5],by simp [hp5]⟩
    ·by_cases hin:s.to∈k.params
     ·skip
      have fx:=aI h3<|aI hp3<|aI h4<|aI h6<|aI ho1<|aI hk<|aI hkE<|aI hbp<|aI hob<|aI hpa<|aI hsi<|aI hsE<|aI hjl<|aI h10<|aI h9<|aI hou<|hin
      have c1:=vX gl p b k s.to hk hs hg.heads
      have c2:=yJ gl k.params s.to (by omega)
      have c3:=yJ gl (k.dc 10) s.to (by omega)
      have d1:=zm gl p b k 10 hk (hs.bsm hk)
      refine qB ?_
      repeat ((first|refine wSc (id:=10) wG qA ?_);refine qC ?_;refine qB ?_)
      clear fx c1 c2 c3 d1
      exact⟨k.body.length - (j+1),by omega,j+1,L,rfl,by omega,by omega,hLT,by simp [hU],by simp [h2],by simp [hp2],by simp [hp2'],by simp [h3],by simp [hp3],by simp [h4],⟨by simp [ho1],fun j r hj=>by simp [ho2 j r hj],fun j r hj=>by simp [ho3 j r hj]⟩,by simp;exact wrp (by omega) (by omega),by simp [h5],by simp [hp5]⟩
     ·skip
      have fx:=aI h3<|aI hp3<|aI h4<|aI h6<|aI ho1<|aI hk<|aI hkE<|aI hbp<|aI hob<|aI hpa<|aI hsi<|aI hsE<|aI hjl<|aI h10<|aI h9<|aI hou<|aI hin<|aI h5<|hp5
      have c1:=vX gl p b k s.to hk hs hg.heads
      have c2:=yJ gl k.params s.to (by omega)
      have c3:=yJ gl (k.dc 10) s.to (by omega)
      have d1:=zm gl p b k 10 hk (hs.bsm hk)
      refine qB ?_
      repeat ((first|refine wSc (id:=10) wG qA ?_);refine qC ?_;refine qB ?_)
      clear fx c1 c2 c3 d1
      refine⟨k.body.length - (j+1),by omega,j+1,L++[s],rfl,by omega,by simp;omega,qCC hLT (hg.txt.stms k (gM hk) s (gM hsi)),by simp [hU],by simp [h2],by simp [hp2],by simp [hp2'],by simp [h3],by simp [hp3],by simp [h4],⟨by simp [ho1],fun j r hj=>by simp [ho2 j r hj],fun j r hj=>by simp [ho3 j r hj]⟩,by simp;exact wrp (by omega) (by omega),by simp,?_⟩
      rw [← v5]
      simp [hp5]
  ·have hge:j=k.body.length:=by
    have:¬ j<k.body.length:=by simpa using hf
    omega
   subst hge
   clear hf
   have vJ:=kT (n:=.c (.s 3) 0 0) (a:=5) (i:=b) (len:=L.length) (p:=p) (L:=L) rfl (by simp) (by simp)
   have hsl:(setBody p b L).length=p.length:=z8
   have fx:=aI h3<|aI hp3<|aI h4<|aI h5<|aI hp5<|aI ho1<|aI hk<|aI hkE<|aI hbp<|vJ
   refine qB ?_
   repeat ((first|refine wSc (id:=10) wG qA ?_);refine qC ?_;refine qB ?_)
   clear fx
   refine⟨p.length - (b+1),by omega,setBody p b L,b+1,by rw [hsl],by omega,by rw [hsl];omega,hg.setBody (by omega) hLT,by simp [hU],by simp [h2],by simp [hp2],by simp [hp2'],by simp [h3],by simp [hp3],by simp;exact wrp (by omega) (by omega),⟨by simp [vJ],fun d r hd=>?_,fun d r hd=>?_⟩⟩
   all_goals
    have hl:d<p.length:=by
     have:=(gS hd).1
     rwa [z8] at this
    obtain⟨r0,hr0'⟩:∃ r0,p[d]?=some r0:=⟨_,gE hl⟩
    rw [jM hr0'] at hd
    obtain rfl:=sI hd
    by_cases hbd:b=d
   ·subst hbd
    simp [ho2 b r0 hr0']
   ·simp [ho2 d r0 hr0',hbd,show ¬ d=b from fun e=>hbd e.symm]
   ·subst hbd
    simp [hp5]
   ·simp [ho3 d r0 hr0',hbd,show ¬ d=b from fun e=>hbd e.symm]
 ·by_cases hbp:b<p.length
  ·have hpo:jY p=true:=by
    cases h:jY p
    ·exact absurd ⟨hbp,h⟩ hstop
    ·rfl
   have fx:=aI h2<|aI hp2<|aI hp2'<|aI h3<|aI hp3<|aI h4<|aI hbp<|hpo
   have c1:=jT gl p hs
   refine qB ?_
   repeat ((first|refine wSc (id:=10) wG qA ?_);refine qC ?_;refine qB ?_)
   clear fx c1
   refine qF [(.c (.s 3) 0 0,root)] (.one rfl) (by simp [h2];rfl) ⟨p,q,by simp,⟨?_,fun j r hj=>?_,fun j r hj=>?_⟩,⟨hg,by omega⟩,by simp [hU]⟩
   ·simp [ho1,hr0,zO (n:=.c (.s 3) 0 0) (m:=root) (f:=zu (Nm.under (.u 1 0 0)) [(.c (.s 3) 0 0,root)]) (p:=p) (by simp [hr0])]
   ·simp [ho2 j r hj,hr0]
   ·simp [ho3 j r hj,hr0]
  ·cases hpo:jY p
   ·skip
    have fx:=aI h2<|aI hp2<|aI hp2'<|aI h3<|aI hp3<|aI h4<|aI hbp<|hpo
    have c1:=jT gl p hs
    have e1:=qRm gl p hs
    refine qB ?_
    repeat ((first|refine wSc (id:=10) wG qA ?_);refine qC ?_;refine qB ?_)
    clear fx c1 e1
    rintro K hK z H2 ⟨rfl,hB⟩
    obtain⟨hc1,hc2,hc3⟩:=hB.hcln
    refine⟨by simp,?_⟩
    have fx:=aI h2<|aI hp2<|aI hp2'<|hc1
    refine qB ?_
    repeat ((first|refine wSc (id:=10) wG qA ?_);refine qC ?_;refine qB ?_)
    clear fx
    have hbl2:(qAf p).length=p.length:=by simp [qAf]
    refine qF [(.c (.s 2) 0 0,root)] (.one rfl) (by simp [h2];rfl) ⟨qAf p,q,by simp [hbl2],⟨?_,fun j r hj=>?_,fun j r hj=>?_⟩,⟨hg.bare,by omega⟩,by simp [hU]⟩
    ·simp [hc1,hr0,zO (n:=.c (.s 2) 0 0) (m:=root) (f:=zu (Nm.under (.u 1 0 0)) [(.c (.s 2) 0 0,root)]) (p:=qAf p) (by simp [hr0])]
    ·simp [hc2 j r hj,hr0]
    ·simp [hc3 j r hj,hr0]
   ·skip
    have fx:=aI h2<|aI hp2<|aI hp2'<|aI h3<|aI hp3<|aI h4<|aI hbp<|hpo
    have c1:=jT gl p hs
    refine qB ?_
    repeat ((first|refine wSc (id:=10) wG qA ?_);refine qC ?_;refine qB ?_)
    clear fx c1
    refine qF [(.c (.s 3) 0 0,root)] (.one rfl) (by simp [h2];rfl) ⟨p,q,by simp,⟨?_,fun j r hj=>?_,fun j r hj=>?_⟩,⟨hg,by omega⟩,by simp [hU]⟩
    ·simp [ho1,hr0,zO (n:=.c (.s 3) 0 0) (m:=root) (f:=zu (Nm.under (.u 1 0 0)) [(.c (.s 3) 0 0,root)]) (p:=p) (by simp [hr0])]
    ·simp [ho2 j r hj,hr0]
    ·simp [ho3 j r hj,hr0]
end Go.Proofs.YtbgmnmnoaamgkaaGreatDoor
end
