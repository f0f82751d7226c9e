/-
  Own texts, joined by mkclaim.py: Gv, Gw, Rb, Ra.
-/
import Derived.Test.YtbgmnmnoaamgkaaGreatDoorD33
import Derived.Test.YtbgmnmnoaamgkaaGreatDoorD10
import Derived.Test.YtbgmnmnoaamgkaaGreatDoorD12
import Derived.Test.YtbgmnmnoaamgkaaGreatDoorD24
set_option linter.unusedSimpArgs false
set_option linter.unusedVariables false
set_option maxRecDepth 100000
set_option maxHeartbeats 4000000

section
namespace Go.Proofs.YtbgmnmnoaamgkaaGreatDoor
open Go Go.Hm Go.Proofs
abbrev qAZ:Sch:=.q 0<|.q 1<|.q 2<|.q 3<|.l 4 [1,0]<|.l 5 [1,0]<|.l 6 []<|.q 7<|.l 8 []<|.done
abbrev qAY:Sch:=.q 0<|.q 1<|.q 2<|.l 3 [2,1,0]<|.l 4 [1,0]<|.q 5<|.l 6 [1,0]<|.l 7 []<|.q 8<|.l 9 []<|.done
def qRv (bs:List Int) (Q:Blk→Nat→Prop):Nm→AV→(Nm→Option AO)→Prop:=fun r z H'=>∃ (k:Blk) (pos':Nat),z=.agg [iv k.kind,iv k.parent,.hs (.c r 0 2) 1 0 k.params.length,.hs (.c r 0 3) 4 0 k.body.length] ∧
 H' (.c r 0 2)=some (.row 1 (qJ k.params))∧H' (.c r 0 3)=some (.row 4 (zb k.body))∧Q k pos'∧H' (.u 1 0 0)=some (rdO bs pos')
theorem qBL (gl) (H:Nm→Option AO) (bs:List Int) (pos:Nat) (kind parent:Int) (hb:BytesOk bs) (hpos:pos≤800000) (hH:H (.u 1 0 0)=some (rdO bs pos)) (hV:H (.u 2 0 0)=none) :
  FnE Tryz.prog gl 156 (Nm.under (.u 1 0 0)) [.pt (.u 1 0 0) 0,iv kind,iv parent] H (qRv bs (fun k pos'=>k.kind=kind∧k.parent=parent∧k.params.length≤1∧k.body.length≤6∧pos'≤pos+60∧qYL k)) noE:=by
 refine FnE.of_sem Tryz.func156 rfl (by kernel_rfl) (rs:=[.cell 6 45]) rfl Tryz.ntmps156 (lB rfl) (fun _=>q9 rfl) fun C w g root hroot=>?_
 have hr0:=hroot root (Nm.under_self _)
 rcases (by cases hk:(kind==1) <;> simp:(kind==1)=false∨(kind==1)=true) with hk1|hk1
 case' inl =>
  have fx:= hk1
  refine qB ?_
  repeat ((first|refine wSc (id:=7) qAZ qA ?_|refine wSc (id:=9) qAY qA ?_);refine qC ?_;refine qB ?_)
  clear fx
  first|show qK _ _ _ _ _|intro K hK
  refine yr (fun st=>∃ (ps:List Int) (q:Nat),ps.length≤1∧(qFQ ps∧(¬ kind=1→ps=[]))∧q≤pos+2∧st.tm 0=.pt (.u 1 0 0) 0∧st.hp (.u 1 0 0)=some (rdO bs q)∧st.tm 1=iv kind∧st.tm 6=.pt (.s 6) 0∧st.hp (.s 6)=some (.row 4 [[iv 0,iv 0,.hs (.c (.s 6) 0 2) 1 0 0,.hs (.c (.s 6) 0 3) 4 0 0]])∧st.hp (.c (.s 6) 0 2)=some (.row 1 [])∧st.hp (.c (.s 6) 0 3)=some (.row 4 []) ∧
  st.tm 7=.pt (.s 7) 0∧st.hp (.s 7)=some (.row 4 [[iv kind,iv parent,.hs (.c (.s 7) 0 2) 1 0 ps.length,.hs (.c (.s 7) 0 3) 4 0 ([]:List Stm).length]])∧st.hp (.c (.s 7) 0 2)=some (.row 1 (qJ ps))∧st.hp (.c (.s 7) 0 3)=some (.row 4 (zb ([]:List Stm)))∧st.tm 23=.pt (.u 1 0 0) 0∧st.tm 24=.hs (.s 24) 1 0 5∧st.hp (.s 24)=some (.row 1 (qJ [3,2,4,1,5]))) ⟨[],pos,by simp,⟨by simp [qFQ],by simp⟩,by omega,by simp [hH],by simp [hH],by simp [hH],by simp [hH],by simp [hH],by simp [hH],by simp [hH],by simp [hH],by simp [hH],by simp [qJ],by simp [hH],by simp,by simp,by simp [qJ]⟩ ?_
 case' inr =>
  have fx:= hk1
  refine qB ?_
  repeat ((first|refine wSc (id:=7) qAZ qA ?_|refine wSc (id:=9) qAY qA ?_);refine qC ?_;refine qB ?_)
  clear fx
  first|show qK _ _ _ _ _|intro K hK
  refine qAj (hs:=by simp [hH]) (ha:=by first|(simp;done)|(simp;rfl)) (hF:=yj _ _ bs pos 3 hb (by omega) (by omega) (by simp [hH])) (h:=?_)
  rintro x px ⟨hx,rfl⟩
  have hx0:x=0∨¬ x=0:=by omega
  rcases hx0 with rfl|hx0
  case' inl =>
   have fx:= hk1
   refine qB ?_
   repeat ((first|refine wSc (id:=7) qAZ qA ?_|refine wSc (id:=9) qAY qA ?_);refine qC ?_;refine qB ?_)
   clear fx
   first|show qK _ _ _ _ _|intro K hK
   refine qAj (hs:=by simp) (ha:=by first|(simp;done)|(simp;rfl)) (hF:=yj _ _ bs (pos+1) 3 hb (by omega) (by omega) (by simp)) (h:=?_)
   rintro y py ⟨hy,rfl⟩
   have fx:=fx0
   refine qB ?_
   repeat ((first|refine wSc (id:=7) qAZ qA ?_|refine wSc (id:=9) qAY qA ?_);refine qC ?_;refine qB ?_)
   clear fx
   first|show qK _ _ _ _ _|intro K hK
   refine yr (fun st=>∃ (ps:List Int) (q:Nat),ps.length≤1∧(qFQ ps∧(¬ kind=1→ps=[]))∧q≤pos+2∧st.tm 0=.pt (.u 1 0 0) 0∧st.hp (.u 1 0 0)=some (rdO bs q)∧st.tm 1=iv kind∧st.tm 6=.pt (.s 6) 0∧st.hp (.s 6)=some (.row 4 [[iv 0,iv 0,.hs (.c (.s 6) 0 2) 1 0 0,.hs (.c (.s 6) 0 3) 4 0 0]])∧st.hp (.c (.s 6) 0 2)=some (.row 1 [])∧st.hp (.c (.s 6) 0 3)=some (.row 4 []) ∧
  st.tm 7=.pt (.s 7) 0∧st.hp (.s 7)=some (.row 4 [[iv kind,iv parent,.hs (.c (.s 7) 0 2) 1 0 ps.length,.hs (.c (.s 7) 0 3) 4 0 ([]:List Stm).length]])∧st.hp (.c (.s 7) 0 2)=some (.row 1 (qJ ps))∧st.hp (.c (.s 7) 0 3)=some (.row 4 (zb ([]:List Stm)))∧st.tm 23=.pt (.u 1 0 0) 0∧st.tm 24=.hs (.s 24) 1 0 5∧st.hp (.s 24)=some (.row 1 (qJ [3,2,4,1,5]))) ⟨[(y:Int)],pos+1+1,by simp,⟨by simp [qFQ];omega,fun h=>absurd (by simpa using hk1) h⟩,by omega,by simp,by simp,by simp,by simp,by simp,by simp,by simp,by simp,by simp,by simp [qJ],by simp,by simp,by simp,by simp [qJ]⟩ ?_
  case' inr =>
   have fx:=aI hk1<|hx0
   refine qB ?_
   repeat ((first|refine wSc (id:=7) qAZ qA ?_|refine wSc (id:=9) qAY qA ?_);refine qC ?_;refine qB ?_)
   clear fx
   first|show qK _ _ _ _ _|intro K hK
   refine yr (fun st=>∃ (ps:List Int) (q:Nat),ps.length≤1∧(qFQ ps∧(¬ kind=1→ps=[]))∧q≤pos+2∧st.tm 0=.pt (.u 1 0 0) 0∧st.hp (.u 1 0 0)=some (rdO bs q)∧st.tm 1=iv kind∧st.tm 6=.pt (.s 6) 0∧st.hp (.s 6)=some (.row 4 [[iv 0,iv 0,.hs (.c (.s 6) 0 2) 1 0 0,.hs (.c (.s 6) 0 3) 4 0 0]])∧st.hp (.c (.s 6) 0 2)=some (.row 1 [])∧st.hp (.c (.s 6) 0 3)=some (.row 4 []) ∧
  st.tm 7=.pt (.s 7) 0∧st.hp (.s 7)=some (.row 4 [[iv kind,iv parent,.hs (.c (.s 7) 0 2) 1 0 ps.length,.hs (.c (.s 7) 0 3) 4 0 ([]:List Stm).length]])∧st.hp (.c (.s 7) 0 2)=some (.row 1 (qJ ps))∧st.hp (.c (.s 7) 0 3)=some (.row 4 (zb ([]:List Stm)))∧st.tm 23=.pt (.u 1 0 0) 0∧st.tm 24=.hs (.s 24) 1 0 5∧st.hp (.s 24)=some (.row 1 (qJ [3,2,4,1,5]))) ⟨[],pos+1,by simp,⟨by simp [qFQ],by simp⟩,by omega,by simp,by simp,by simp,by simp,by simp,by simp,by simp,by simp,by simp,by simp [qJ],by simp,by simp,by simp,by simp [qJ]⟩ ?_
 all_goals
  rintro st ⟨ps,q,hps,hpT,hq,h0,hU,h1,h6,hp6,hp62,hp63,h7,hp7,hp72,hp73,h23,h24,hp24⟩
  refine uH (uN _) 24 [3,2,4,1,5] (bs:=bs) (pos:=q) hb (by omega) (hV:=hV) (h0:=h23) (h1:=by simp [h24]) (hH:=hU) (hL:=by simp [hp24]) (h:=?_)
  intro v hv
  have hvr:1≤v∧v≤5:=by simp at hv;omega
  obtain⟨V,rfl⟩:∃ V:Nat,v=V:=⟨v.toNat,by omega⟩
  have fx:=fx0
  refine qB ?_
  repeat ((first|refine wSc (id:=7) qAZ qA ?_|refine wSc (id:=9) qAY qA ?_);refine qC ?_;refine qB ?_)
  clear fx
  refine qY (fun n st=>∃ (L:List Stm) (q:Nat),n+L.length=V∧(∀ s∈L,TxtS s)∧q+8 * n≤pos+50∧st.tm 0=.pt (.u 1 0 0) 0∧st.hp (.u 1 0 0)=some (rdO bs q)∧st.tm 1=iv kind∧st.tm 6=.pt (.s 6) 0∧st.hp (.s 6)=some (.row 4 [[iv 0,iv 0,.hs (.c (.s 6) 0 2) 1 0 0,.hs (.c (.s 6) 0 3) 4 0 0]])∧st.hp (.c (.s 6) 0 2)=some (.row 1 [])∧st.hp (.c (.s 6) 0 3)=some (.row 4 []) ∧
  st.tm 7=.pt (.s 7) 0∧st.hp (.s 7)=some (.row 4 [[iv kind,iv parent,.hs (.c (.s 7) 0 2) 1 0 ps.length,.hs (.c (.s 7) 0 3) 4 0 L.length]])∧st.hp (.c (.s 7) 0 2)=some (.row 1 (qJ ps))∧st.hp (.c (.s 7) 0 3)=some (.row 4 (zb L))∧st.tm 8=iv n) V ?_ ?_
  ·exact⟨[],q+1,by simp,by simp,by omega,by simp [h0],by simp,by simp [h1],by simp [h6],by simp [hp6],by simp [hp62],by simp [hp63],by simp [h7],by simp [hp7],by simp [hp72],by simp [hp73],by simp⟩
  clear h0 hU h1 h6 hp6 hp62 hp63 h7 hp7 hp72 hp73 h23 h24 hp24
  rintro n st - - ⟨L,q,hL,hLT,hq,h0,hU,h1,h6,hp6,hp62,hp63,h7,hp7,hp72,hp73,h8⟩
  have fx:= h8
  refine qB ?_
  repeat ((first|refine wSc (id:=7) qAZ qA ?_|refine wSc (id:=9) qAY qA ?_);refine qC ?_;refine qB ?_)
  clear fx
  rcases Nat.eq_zero_or_pos n with rfl|hn0
  ·have hL5:L.length≤5:=by omega
   cases hkk:(kind==1)
   ·skip
    have fx:=aI h0<|aI h1<|aI h6<|aI hp6<|aI h7<|aI hp7<|hkk
    refine qB ?_
    repeat ((first|refine wSc (id:=7) qAZ qA ?_|refine wSc (id:=9) qAY qA ?_);refine qC ?_;refine qB ?_)
    clear fx
    exact qF [(.s 7,root)] (.one rfl) (by simp [h6];rfl) ⟨⟨kind,parent,ps,L⟩,q,by simp,by simp [hp72,hr0],by simp [hp73,hr0],⟨rfl,rfl,hps,by simp;omega,by omega,hLT,hpT⟩,by simp [hU]⟩
   ·skip
    have fx:=aI h0<|aI h1<|aI h6<|aI hp6<|aI h7<|aI hp7<|hkk
    refine qB ?_
    repeat ((first|refine wSc (id:=7) qAZ qA ?_|refine wSc (id:=9) qAY qA ?_);refine qC ?_;refine qB ?_)
    clear fx
    first|show qK _ _ _ _ _|intro K hK
    refine qAj (hs:=by simp [hU]) (ha:=by first|(simp [h0];done)|(simp [h0];rfl)) (hF:=yj _ _ bs q 2 hb (by omega) (by omega) (by simp [hU])) (h:=?_)
    rintro x px ⟨hx,rfl⟩
    have hx0:x=0∨¬ x=0:=by omega
    rcases hx0 with rfl|hx0
    ·skip
     have fx:=aI h0<|aI h1<|aI h6<|aI hp6<|aI h7<|aI hp7<|aI hp73<|hkk
     refine qB ?_
     repeat ((first|refine wSc (id:=7) qAZ qA ?_|refine wSc (id:=9) qAY qA ?_);refine qC ?_;refine qB ?_)
     clear fx
     first|show qK _ _ _ _ _|intro K hK
     refine uH (uN _) 48 [0,1,4,5] (bs:=bs) (pos:=q+1) hb (by omega) (hV:=hV) (h0:=by simp [h0]) (h1:=by simp) (hH:=by simp) (hL:=by simp [qJ]) (h:=?_)
     intro v2 hv2
     have hv2R:0≤v2∧v2≤99:=by simp at hv2;omega
     have fx:=aI h0<|aI h1<|aI h6<|aI hp6<|aI h7<|aI hp7<|aI hp73<|hkk
     refine qB ?_
     repeat ((first|refine wSc (id:=7) qAZ qA ?_|refine wSc (id:=9) qAY qA ?_);refine qC ?_;refine qB ?_)
     clear fx
     exact qF [(.s 7,root)] (.one rfl) (by simp [h6];rfl) ⟨⟨kind,parent,ps,L++[⟨8,0,v2,0⟩]⟩,q+1+1,by simp,by simp [hp72,hr0],by show _=some (AO.row 4 (zb (L++[⟨8,0,v2,0⟩])));rw [← v5];simp [hp73,hr0],⟨rfl,rfl,hps,by simp;omega,by omega,qCC hLT txS,hpT⟩,by simp [hU]⟩
    ·skip
     have fx:=aI h0<|aI h1<|aI h6<|aI hp6<|aI h7<|aI hp7<|aI hp73<|aI hkk<|hx0
     refine qB ?_
     repeat ((first|refine wSc (id:=7) qAZ qA ?_|refine wSc (id:=9) qAY qA ?_);refine qC ?_;refine qB ?_)
     clear fx
     exact qF [(.s 7,root)] (.one rfl) (by simp [h6];rfl) ⟨⟨kind,parent,ps,L⟩,q+1,by simp,by simp [hp72,hr0],by simp [hp73,hr0],⟨rfl,rfl,hps,by simp;omega,by omega,hLT,hpT⟩,by simp [hU]⟩
  ·have hL5:L.length≤4:=by omega
   have fx:=aI h0<|aI h1<|aI h7<|aI hp7<|aI hp73<|hn0
   refine qB ?_
   repeat ((first|refine wSc (id:=7) qAZ qA ?_|refine wSc (id:=9) qAY qA ?_);refine qC ?_;refine qB ?_)
   clear fx
   first|show qK _ _ _ _ _|intro K hK
   refine qAj (hs:=by simp [hU]) (ha:=by first|(simp [h0,h1];done)|(simp [h0,h1];rfl)) (hF:=qHG _ _ bs q kind hb (by omega) (by simp [hU]) (by simp)) (h:=?_)
   rintro s p2 ⟨⟨hp2a,hp2b⟩,hsT⟩
   have fx:=aI h0<|aI h1<|aI h7<|aI hp7<|aI hp73<|aI h8<|hn0
   refine qB ?_
   repeat ((first|refine wSc (id:=7) qAZ qA ?_|refine wSc (id:=9) qAY qA ?_);refine qC ?_;refine qB ?_)
   clear fx
   refine⟨n - 1,by omega,L++[s],p2,by simp;omega,qCC hLT hsT,by omega,by simp [h0],by simp,by simp [h1],by simp [h6],by simp [hp6],by simp [hp62],by simp [hp63],by simp [h7],by simp [hp7],by simp [hp72],by rw [← v5];simp [hp73],?_⟩
   simp
   rw [wrp (by omega) (by omega)]
   omega
def qRq (bs:List Int) (Q:List Stm→Nat→Prop):Nm→AV→(Nm→Option AO)→Prop:=fun r z H'=>∃ (L:List Stm) (pos':Nat),z=.hs r 4 0 L.length∧H' r=some (.row 4 (zb L))∧Q L pos'∧H' (.u 1 0 0)=some (rdO bs pos')
theorem qCe (gl) (H:Nm→Option AO) (bs:List Int) (pos:Nat) (kind parent b:Int) (np nb:Nat) (hbr:0≤b∧b≤99) (hb:BytesOk bs) (hpos:pos≤800000) (hH:H (.u 1 0 0)=some (rdO bs pos)) (hV:H (.u 2 0 0)=none) :
  FnE Tryz.prog gl 157 (Nm.under (.u 1 0 0)) [.pt (.u 1 0 0) 0,.agg [iv kind,iv parent,.hs (.u 4 0 0) 1 0 np,.hs (.u 5 0 0) 4 0 nb],iv b] H (qRq bs (fun L pos'=>L.length≤2∧pos'≤pos+5∧∀ s∈L,TxtS s)) noE:=by
 refine FnE.of_sem Tryz.func157 rfl (by kernel_rfl) (rs:=[.tmp 6]) rfl Tryz.ntmps157 (lB rfl) (fun _=>q9 rfl) fun C w g root hroot=>?_
 have hr0:=hroot root (Nm.under_self _)
 cases hk2:(kind==2)
 rotate_left
 ·skip
  have fx:= hk2
  refine qB ?_
  clear fx
  exact qF [(.s 6,root)] (.one rfl) (by simp;rfl) ⟨[⟨4,6,b,0⟩],pos,by simp,by simp [zb,hr0],⟨by simp,by omega,qXP txS⟩,by simp [hH]⟩
 have fx:= hk2
 refine qB ?_
 clear fx
 first|show qK _ _ _ _ _|intro K hK
 refine uH (uN _) 17 [4,5] (bs:=bs) (pos:=pos) hb (by omega) (hV:=hV) (h0:=by simp) (h1:=by simp) (hH:=by simp [hH]) (hL:=by simp [qJ]) (h:=?_)
 intro f hf
 have hfR:0≤f∧f≤99:=by simp at hf;omega
 have fx:=fx0
 refine qB ?_
 clear fx
 first|show qK _ _ _ _ _|intro K hK
 refine qAj (hs:=by simp) (ha:=by first|(simp;done)|(simp;rfl)) (hF:=yj _ _ bs (pos+1) 3 hb (by omega) (by omega) (by simp)) (h:=?_)
 rintro x px ⟨hx,rfl⟩
 have hx0:x=0∨¬ x=0:=by omega
 rcases hx0 with rfl|hx0
 ·skip
  have fx:=fx0
  refine qB ?_
  clear fx
  exact qF [(.s 6,root)] (.one rfl) (by simp;rfl) ⟨[⟨3,f,b,0⟩],pos+1+1,by simp,by simp [zb,hr0],⟨by simp,by omega,qXP txS⟩,by simp⟩
 have hxp:0<x:=by omega
 cases hn1:((np:Int)==1)
 ·skip
  have fx:=aI hxp<|hn1
  refine qB ?_
  clear fx
  first|show qK _ _ _ _ _|intro K hK
  refine uH (uN _) 34 [0,1,5] (bs:=bs) (pos:=pos+1+1) hb (by omega) (hV:=hV) (h0:=by simp) (h1:=by simp) (hH:=by simp) (hL:=by simp [qJ]) (h:=?_)
  intro v hv
  have hvR:0≤v∧v≤99:=by simp at hv;omega
  have fx:=fx0
  refine qB ?_
  clear fx
  exact qF [(.s 6,root)] (.one rfl) (by simp;rfl) ⟨[⟨3,f,b,0⟩,⟨5,v,f,-1⟩],pos+1+1+1,by simp,by simp [zb,hr0],⟨by simp,by omega,qYN txS txS⟩,by simp⟩
 ·skip
  have fx:=aI hxp<|hn1
  refine qB ?_
  clear fx
  first|show qK _ _ _ _ _|intro K hK
  refine qAj (hs:=by simp) (ha:=by first|(simp;done)|(simp;rfl)) (hF:=yP _ _ bs (pos+1+1) hb (by omega) (by simp) (by simp)) (h:=?_)
  rintro u pu ⟨huR,rfl⟩
  have fx:=fx0
  refine qB ?_
  clear fx
  first|show qK _ _ _ _ _|intro K hK
  refine uH (uN _) 34 [0,1,5] (bs:=bs) (pos:=pos+1+1+1) hb (by omega) (hV:=hV) (h0:=by simp) (h1:=by simp) (hH:=by simp) (hL:=by simp [qJ]) (h:=?_)
  intro v hv
  have hvR:0≤v∧v≤99:=by simp at hv;omega
  have fx:=fx0
  refine qB ?_
  clear fx
  exact qF [(.s 6,root)] (.one rfl) (by simp;rfl) ⟨[⟨3,f,b,0⟩,⟨5,v,f,u⟩],pos+1+1+1+1,by simp,by simp [zb,hr0],⟨by simp,by omega,qYN txS txS⟩,by simp⟩
end Go.Proofs.YtbgmnmnoaamgkaaGreatDoor
end
section
namespace Go.Proofs.YtbgmnmnoaamgkaaGreatDoor
open Go Go.Hm Go.Proofs
abbrev kQ:Sch:=.q 0<|.q 1<|.q 2<|.q 3<|.q 4<|.q 5<|.q 6<|.q 7<|.q 8<|.l 9 [4,3,2,1,0]<|.l 10 [0]<|.l 11 []<|.l 12 []<|.done
abbrev kP:Sch:=.q 1<|.q 2<|.q 3<|.q 5<|.q 6<|.q 7<|.q 8<|.q 9<|.q 12<|.l 0 [12,9,8,7,6,5,3,2,1]<|.l 4 [12,9,8,7,6,5]<|.l 10 [12]<|.l 11 [12]<|.l 13 []<|.l 14 []<|.done
attribute [local simp] qCH kO
theorem qEr {l L2:List Stm} {A:Nat} (h:A≤l.length):List.take (A+L2.length) (List.take A (List.take A l)++L2)++List.take (l.length - A) (List.take (l.length - A) (List.drop A l))=List.take A l++(L2++List.drop A l):=by
 have e1:List.take A (List.take A l)=List.take A l:=by rw [List.take_take,Nat.min_self]
 have e2:List.take (A+L2.length) (List.take A l++L2)=List.take A l++L2:=List.take_of_length_le (by simp;omega)
 have e3:List.take (l.length - A) (List.drop A l)=List.drop A l:=List.take_of_length_le (by simp)
 rw [e1,e2,e3,e3,List.append_assoc]
theorem ux (gl) (H:Nm→Option AO) (bs:List Int) (pos:Nat) (hb:BytesOk bs) (hpos:pos≤700000) (hH:H (.u 1 0 0)=some (rdO bs pos)) (hV:H (.u 2 0 0)=none) (hV4:H (.u 4 0 0)=none) (hV5:H (.u 5 0 0)=none) :
  FnE Tryz.prog gl 120 (Nm.under (.u 1 0 0)) [.pt (.u 1 0 0) 0] H (qHq bs (fun p pos'=>GenT p∧pos'≤pos+1000)) noE:=by
 refine FnE.of_sem Tryz.func120 rfl (by kernel_rfl) (rs:=[.cell 2 29]) rfl Tryz.ntmps120 (lB rfl) (fun _=>q9 rfl) fun C w g root hroot=>?_
 have hr0:=hroot root (Nm.under_self _)
 have fx:=fx0
 refine qB ?_
 repeat ((first|refine wSc (id:=5) kQ qA ?_|refine wSc (id:=12) kP qA ?_);refine qC ?_;refine qB ?_)
 clear fx
 first|show qK _ _ _ _ _|intro K hK
 refine qB8 (bs:=bs) (hs:=by simp [hH]) (ha:=by first|(simp;done)|(simp;rfl)) (hF:=qBL _ _ bs pos 0 (-1) hb (by omega) (by simp [hH]) (by simp)) (h:=?_)
 rintro z H1 ⟨k0,p0,rfl,hk2,hk3,⟨hkk,hkpar,hkp,hkb,hp0,hkT⟩,hU⟩
 refine⟨p0,hU,?_⟩
 have fx:=fx0
 refine qB ?_
 repeat ((first|refine wSc (id:=5) kQ qA ?_|refine wSc (id:=12) kP qA ?_);refine qC ?_;refine qB ?_)
 clear fx
 first|show qK _ _ _ _ _|intro K hK
 refine qOO (.c (.s 11) 0 2) (.c (.c (.s 3) 0 0) 0 2) (.inl rfl) (.inl rfl) ?_
 refine qOO (.c (.s 11) 0 3) (.c (.c (.s 3) 0 0) 0 3) (.inl rfl) (.inl rfl) ?_
 refine yr (fun st=>st.tm 0=.pt (.u 1 0 0) 0∧st.hp (.u 1 0 0)=some (rdO bs p0)∧st.tm 2=.pt (.s 2) 0∧st.hp (.s 2)=some (.row 1 [[.hs (.c (.s 2) 0 0) 4 0 0]])∧st.hp (.c (.s 2) 0 0)=some (.row 4 [])∧st.tm 3=.pt (.s 3) 0∧st.hp (.s 3)=some (.row 1 [[.hs (.c (.s 3) 0 0) 4 0 1]])∧OwnP st.hp (.c (.s 3) 0 0) [k0] ∧
  st.tm 14=.pt (.u 1 0 0) 0∧st.tm 15=.hs (.s 15) 1 0 6∧st.hp (.s 15)=some (.row 1 (qJ [3,2,4,1,5,0]))) ⟨by simp,by simp,by simp,by simp,by simp,by simp,by simp,⟨by simp [jN],fun j k hk=>?_,fun j k hk=>?_⟩,by simp,by simp,by simp [qJ]⟩ ?_
 ·cases j with
  | zero=>simp at hk;subst hk;simp [hk2]
  | succ j=>simp at hk
 ·cases j with
  | zero=>simp at hk;subst hk;simp [hk3]
  | succ j=>simp at hk
 clear hU hk2 hk3
 rintro st ⟨h0,hU,h2,hp2,hp2',h3,hp3,⟨ho1,ho2,ho3⟩,h14,h15,hp15⟩
 refine uH (uN _) 15 [3,2,4,1,5,0] (bs:=bs) (pos:=p0) hb (by omega) (hV:=hV) (h0:=h14) (h1:=by simp [h15]) (hH:=hU) (hL:=by simp [hp15]) (h:=?_)
 intro v hv
 have hvr:0≤v∧v≤5:=by simp at hv;omega
 obtain⟨V,rfl⟩:∃ V:Nat,v=V:=⟨v.toNat,by omega⟩
 have fx:=fx0
 refine qB ?_
 repeat ((first|refine wSc (id:=5) kQ qA ?_|refine wSc (id:=12) kP qA ?_);refine qC ?_;refine qB ?_)
 clear fx
 refine qY (fun n st=>∃ (p:Prg) (q:Nat),n+p.length≤6∧GenT p∧q+100 * n≤pos+700∧st.tm 0=.pt (.u 1 0 0) 0∧st.hp (.u 1 0 0)=some (rdO bs q)∧st.tm 2=.pt (.s 2) 0∧st.hp (.s 2)=some (.row 1 [[.hs (.c (.s 2) 0 0) 4 0 0]])∧st.hp (.c (.s 2) 0 0)=some (.row 4 [])∧st.tm 3=.pt (.s 3) 0∧st.hp (.s 3)=some (.row 1 [[.hs (.c (.s 3) 0 0) 4 0 p.length]])∧st.tm 4=iv n∧OwnP st.hp (.c (.s 3) 0 0) p) V ?_ ?_
 ·exact⟨[k0],p0+1,by simp;omega,GenT.one hkpar hkk (by omega) (by omega) hkT,by omega,by simp [h0],by simp,by simp [h2],by simp [hp2],by simp [hp2'],by simp [h3],by simp [hp3],by simp,⟨by simp [ho1],fun j r hj=>by simp [ho2 j r hj],fun j r hj=>by simp [ho3 j r hj]⟩⟩
 clear h0 hU h2 hp2 hp2' h3 hp3 ho1 ho2 ho3 h14 h15 hp15
 rintro n st - - ⟨p,q,hn,hg,hq,h0,hU,h2,hp2,hp2',h3,hp3,h4,⟨ho1,ho2,ho3⟩⟩
 have hgl:=hg.len
 rcases Nat.eq_zero_or_pos n with rfl|hn0
 ·skip
  have fx:=aI h4<|aI h2<|aI hp2<|aI hp2'<|aI h3<|hp3
  refine qB ?_
  repeat ((first|refine wSc (id:=5) kQ qA ?_|refine wSc (id:=12) kP qA ?_);refine qC ?_;refine qB ?_)
  clear fx
  refine qF [(.c (.s 3) 0 0,root)] (.one rfl) (by simp [h2];rfl) ⟨p,q,by simp,⟨?_,fun j r hj=>?_,fun j r hj=>?_⟩,⟨hg,by omega⟩,by simp [hU]⟩
  ·simp [ho1,hr0,zO (n:=.c (.s 3) 0 0) (m:=root) (f:=zu (Nm.under (.u 1 0 0)) [(.c (.s 3) 0 0,root)]) (p:=p) (by simp [hr0])]
  ·simp [ho2 j r hj,hr0]
  ·simp [ho3 j r hj,hr0]
 have hl1:0<p.length:=by omega
 have hwl:IntKind.i64.wrap ((p.length:Int) - 1)=((p.length - 1:Nat):Int):=by rw [wrp (by omega) (by omega)];omega
 have fx:=aI h0<|aI h3<|aI hp3<|aI h4<|aI hn0<|hwl
 refine qB ?_
 repeat ((first|refine wSc (id:=5) kQ qA ?_|refine wSc (id:=12) kP qA ?_);refine qC ?_;refine qB ?_)
 clear fx
 first|show qK _ _ _ _ _|intro K hK
 refine qAj (hs:=by simp [hU]) (ha:=by first|(simp [h0];done)|(simp [h0];rfl)) (hF:=yj _ _ bs q p.length hb (by omega) (by omega) (by simp [hU])) (h:=?_)
 rintro x px ⟨hx,rfl⟩
 have hxl:x<p.length:=by omega
 have fx:=aI h0<|aI h3<|aI hp3<|hwl
 refine qB ?_
 repeat ((first|refine wSc (id:=5) kQ qA ?_|refine wSc (id:=12) kP qA ?_);refine qC ?_;refine qB ?_)
 clear fx
 first|show qK _ _ _ _ _|intro K hK
 refine uH (uN _) 31 [((p.length - 1:Nat):Int),(x:Int)] (bs:=bs) (pos:=q+1) hb (by omega) (hV:=hV) (h0:=by simp [h0]) (h1:=by simp) (hH:=by simp) (hL:=by simp [qJ]) (h:=?_)
 intro par hpar
 obtain⟨par,rfl,hparl⟩:∃ r:Nat,par=r∧r<p.length:=by
  simp at hpar
  rcases hpar with rfl|rfl
  ·exact⟨_,rfl,by omega⟩
  ·exact⟨_,rfl,hxl⟩
 clear hpar hx
 have fx:=aI h0<|aI h3<|aI hp3<|hwl
 refine qB ?_
 repeat ((first|refine wSc (id:=5) kQ qA ?_|refine wSc (id:=12) kP qA ?_);refine qC ?_;refine qB ?_)
 clear fx
 first|show qK _ _ _ _ _|intro K hK
 refine uH (uN _) 35 [1,1,1,2] (bs:=bs) (pos:=q+1+1) hb (by omega) (hV:=hV) (h0:=by simp [h0]) (h1:=by simp) (hH:=by simp) (hL:=by simp [qJ]) (h:=?_)
 intro kd hkd
 have hkdR:kd=1∨kd=2:=by simp at hkd;omega
 have fx:=aI h0<|aI h3<|aI hp3<|hwl
 refine qB ?_
 repeat ((first|refine wSc (id:=5) kQ qA ?_|refine wSc (id:=12) kP qA ?_);refine qC ?_;refine qB ?_)
 clear fx
 first|show qK _ _ _ _ _|intro K hK
 refine qB8 (bs:=bs) (hs:=by simp) (ha:=by first|(simp [h0];done)|(simp [h0];rfl)) (hF:=qBL _ _ bs (q+1+1+1) kd par hb (by omega) (by simp) (by simp)) (h:=?_)
 rintro z H1 ⟨k1,q1,rfl,hk2,hk3,⟨hkk1,hkpar1,hkp1,hkb1,hq1,hkT1⟩,hU1⟩
 refine⟨q1,hU1,?_⟩
 obtain⟨kp,hkp'⟩:∃ k,p[par]?=some k:=⟨_,gE hparl⟩
 obtain⟨_,hkpE⟩:=gS hkp'
 have hkpT:=hg.txt.stms kp (gM hkp')
 have hbb:kp.body.length≤14:=hg.body kp (gM hkp')
 have hwk:IntKind.i64.wrap ((kp.body.length:Int)+1)=((kp.body.length+1:Nat):Int):=by rw [wrp (by omega) (by omega)];omega
 have fx:=aI h0<|aI h3<|aI hp3<|aI ho1<|aI hkp'<|aI hkpE<|aI hparl<|hwk
 refine qB ?_
 repeat ((first|refine wSc (id:=5) kQ qA ?_|refine wSc (id:=12) kP qA ?_);refine qC ?_;refine qB ?_)
 clear fx
 first|show qK _ _ _ _ _|intro K hK
 refine yr (fun st=>st.tm 0=.pt (.u 1 0 0) 0∧st.hp (.u 1 0 0)=some (rdO bs q1)∧st.tm 2=.pt (.s 2) 0∧st.hp (.s 2)=some (.row 1 [[.hs (.c (.s 2) 0 0) 4 0 0]])∧st.hp (.c (.s 2) 0 0)=some (.row 4 [])∧st.tm 3=.pt (.s 3) 0∧st.hp (.s 3)=some (.row 1 [[.hs (.c (.s 3) 0 0) 4 0 p.length]])∧st.tm 4=iv n∧OwnP st.hp (.c (.s 3) 0 0) p∧st.tm 5=iv par∧st.tm 6=.pt (.s 6) 0∧st.hp (.s 6)=some (.row 4 [[iv k1.kind,iv k1.parent,.hs (.c (.s 38) 0 2) 1 0 k1.params.length,.hs (.c (.s 38) 0 3) 4 0 k1.body.length]])∧st.hp (.c (.s 38) 0 2)=some (.row 1 (qJ k1.params))∧st.hp (.c (.s 38) 0 3)=some (.row 4 (zb k1.body)) ∧
  st.tm 7=.hs (.c (.c (.s 3) 0 0) par 3) 4 0 kp.body.length∧st.tm 45=.pt (.u 1 0 0) 0∧st.tm 48=iv ((kp.body.length+1:Nat):Int)) ⟨by simp [h0],by simp,by simp [h2],by simp [hp2],by simp [hp2'],by simp [h3],by simp [hp3],by simp [h4],⟨by simp [ho1],fun j r hj=>by simp [ho2 j r hj],fun j r hj=>by simp [ho3 j r hj]⟩,by simp,by simp,by simp,by simp [hk2],by simp [hk3],by simp,by simp [h0],by simp⟩ ?_
 clear h0 hU h2 hp2 hp2' h3 hp3 h4 ho1 ho2 ho3 hU1 hk2 hk3
 rintro st ⟨h0,hU,h2,hp2,hp2',h3,hp3,h4,⟨ho1,ho2,ho3⟩,h5,h6,hp6,hp62,hp63,h7,h45,h48⟩
 have hob:=ho3 par kp hkp'
 refine qAj (hs:=by simp [hU]) (ha:=by first|(simp [h45,h48];done)|(simp [h45,h48];rfl)) (hF:=yj _ _ bs q1 (kp.body.length+1) hb (by omega) (by omega) (by simp [hU])) (h:=?_)
 rintro at0 px ⟨hx,rfl⟩
 have hat:at0≤kp.body.length:=by omega
 clear hx
 have hV4':(un Tryz.prog C w g H Tryz.f120.ntmps gl).ext (.u 4 0 0)=false:=by simp [un,hV4]
 have hV5':(un Tryz.prog C w g H Tryz.f120.ntmps gl).ext (.u 5 0 0)=false:=by simp [un,hV5]
 have hbr:at0=0∨0<at0:=Nat.eq_zero_or_pos at0
 rcases hbr with rfl|hat0
 case' inl =>
  have fx:=aI h0<|aI h3<|aI hp3<|aI h5<|aI h6<|aI hp6<|aI h7<|hob
  refine qB ?_
  repeat ((first|refine wSc (id:=5) kQ qA ?_|refine wSc (id:=12) kP qA ?_);refine qC ?_;refine qB ?_)
  clear fx
  first|show qK _ _ _ _ _|intro K hK
  refine qAw (.c (.s 38) 0 2) (.u 4 0 0) 74 hV4' ?_
  refine qAw (.c (.s 38) 0 3) (.u 5 0 0) 74 hV5' ?_
  refine qB8 (bs:=bs) (hs:=by simp [hU]) (ha:=by first|(simp [h0];done)|(simp [h0];rfl)) (hF:=qCe _ _ bs (q1+1) k1.kind k1.parent p.length k1.params.length k1.body.length (by omega) hb (by omega) (by simp [hU]) (by simp)) (h:=?_)
  rintro y H2 ⟨L2,q2,rfl,hL2,⟨hL2l,hq2,hL2T⟩,hU2⟩
  refine⟨q2,hU2,?_⟩
  have fx:=aI h0<|aI h3<|aI hp3<|aI h5<|aI h6<|aI hp6<|aI h7<|aI hob<|hL2
  refine qB ?_
  repeat ((first|refine wSc (id:=5) kQ qA ?_|refine wSc (id:=12) kP qA ?_);refine qC ?_;refine qB ?_)
  clear fx
  refine yd (fun st=>∃ (X:List Stm) (q2:Nat),X.length≤16∧(∀ s∈X,TxtS s)∧q2≤q1+6∧st.tm 0=.pt (.u 1 0 0) 0∧st.hp (.u 1 0 0)=some (rdO bs q2)∧st.tm 2=.pt (.s 2) 0∧st.hp (.s 2)=some (.row 1 [[.hs (.c (.s 2) 0 0) 4 0 0]])∧st.hp (.c (.s 2) 0 0)=some (.row 4 [])∧st.tm 3=.pt (.s 3) 0∧st.hp (.s 3)=some (.row 1 [[.hs (.c (.s 3) 0 0) 4 0 p.length]])∧st.tm 4=iv n∧OwnP st.hp (.c (.s 3) 0 0) p∧st.tm 5=iv par∧st.tm 6=.pt (.s 6) 0∧st.hp (.s 6)=some (.row 4 [[iv k1.kind,iv k1.parent,.hs (.c (.s 38) 0 2) 1 0 k1.params.length,.hs (.c (.s 38) 0 3) 4 0 k1.body.length]])∧st.hp (.c (.s 38) 0 2)=some (.row 1 (qJ k1.params))∧st.hp (.c (.s 38) 0 3)=some (.row 4 (zb k1.body)) ∧
  st.tm 7=.hs (.s 7) 4 0 X.length∧st.hp (.s 7)=some (.row 4 (zb X))∧st.tm 84=bv (decide (X.length≤12))) ⟨(kp.body.take (0)++L2++kp.body.drop (0)),q2,by simp;omega,qK2 hkpT hL2T,by omega,by simp [h0],by simp,by simp [h2],by simp [hp2],by simp [hp2'],by simp [h3],by simp [hp3],by simp [h4],⟨by simp [ho1],fun j r hj=>by simp [ho2 j r hj],fun j r hj=>by simp [ho3 j r hj]⟩,by simp [h5],by simp [h6],by simp [hp6],by simp [hp62],by simp [hp63],by simp;try omega,by first|(simp;done)|(simp;rw [qEr (by omega)]),by simp;try omega⟩ ?_
  clear hU2 hL2
 case' inr =>
  obtain⟨s1,hs1⟩:∃ s1,kp.body[at0 - 1]?=some s1:=⟨_,gE (by omega)⟩
  obtain⟨hs1l,hs1E⟩:=gS hs1
  have hwa:IntKind.i64.wrap ((at0:Int) - 1)=((at0 - 1:Nat):Int):=by rw [wrp (by omega) (by omega)];omega
  have hle1:at0 - 1≤kp.body.length:=by omega
  rcases (by cases hk:(s1.kind==8) <;> simp:(s1.kind==8)=false∨(s1.kind==8)=true) with hk8|hk8
  case' inl =>
   have fx:=aI h0<|aI h3<|aI hp3<|aI h5<|aI h6<|aI hp6<|aI h7<|aI hob<|aI hat0<|aI hs1<|aI hs1E<|aI hs1l<|aI hwa<|aI hat<|hk8
   refine qB ?_
   repeat ((first|refine wSc (id:=5) kQ qA ?_|refine wSc (id:=12) kP qA ?_);refine qC ?_;refine qB ?_)
   clear fx
   first|show qK _ _ _ _ _|intro K hK
   refine qAw (.c (.s 38) 0 2) (.u 4 0 0) 74 hV4' ?_
   refine qAw (.c (.s 38) 0 3) (.u 5 0 0) 74 hV5' ?_
   refine qB8 (bs:=bs) (hs:=by simp [hU]) (ha:=by first|(simp [h0];done)|(simp [h0];rfl)) (hF:=qCe _ _ bs (q1+1) k1.kind k1.parent p.length k1.params.length k1.body.length (by omega) hb (by omega) (by simp [hU]) (by simp)) (h:=?_)
   rintro y H2 ⟨L2,q2,rfl,hL2,⟨hL2l,hq2,hL2T⟩,hU2⟩
   refine⟨q2,hU2,?_⟩
   have fx:=aI h0<|aI h3<|aI hp3<|aI h5<|aI h6<|aI hp6<|aI h7<|aI hob<|hL2
   refine qB ?_
   repeat ((first|refine wSc (id:=5) kQ qA ?_|refine wSc (id:=12) kP qA ?_);refine qC ?_;refine qB ?_)
   clear fx
   refine yd (fun st=>∃ (X:List Stm) (q2:Nat),X.length≤16∧(∀ s∈X,TxtS s)∧q2≤q1+6∧st.tm 0=.pt (.u 1 0 0) 0∧st.hp (.u 1 0 0)=some (rdO bs q2)∧st.tm 2=.pt (.s 2) 0∧st.hp (.s 2)=some (.row 1 [[.hs (.c (.s 2) 0 0) 4 0 0]])∧st.hp (.c (.s 2) 0 0)=some (.row 4 [])∧st.tm 3=.pt (.s 3) 0∧st.hp (.s 3)=some (.row 1 [[.hs (.c (.s 3) 0 0) 4 0 p.length]])∧st.tm 4=iv n∧OwnP st.hp (.c (.s 3) 0 0) p∧st.tm 5=iv par∧st.tm 6=.pt (.s 6) 0∧st.hp (.s 6)=some (.row 4 [[iv k1.kind,iv k1.parent,.hs (.c (.s 38) 0 2) 1 0 k1.params.length,.hs (.c (.s 38) 0 3) 4 0 k1.body.length]])∧st.hp (.c (.s 38) 0 2)=some (.row 1 (qJ k1.params))∧st.hp (.c (.s 38) 0 3)=some (.row 4 (zb k1.body)) ∧
  st.tm 7=.hs (.s 7) 4 0 X.length∧st.hp (.s 7)=some (.row 4 (zb X))∧st.tm 84=bv (decide (X.length≤12))) ⟨(kp.body.take (at0)++L2++kp.body.drop (at0)),q2,by simp;omega,qK2 hkpT hL2T,by omega,by simp [h0],by simp,by simp [h2],by simp [hp2],by simp [hp2'],by simp [h3],by simp [hp3],by simp [h4],⟨by simp [ho1],fun j r hj=>by simp [ho2 j r hj],fun j r hj=>by simp [ho3 j r hj]⟩,by simp [h5],by simp [h6],by simp [hp6],by simp [hp62],by simp [hp63],by simp;try omega,by first|(simp;done)|(simp;rw [qEr (by omega)]),by simp;try omega⟩ ?_
   clear hU2 hL2
  case' inr =>
   have fx:=aI h0<|aI h3<|aI hp3<|aI h5<|aI h6<|aI hp6<|aI h7<|aI hob<|aI hat0<|aI hs1<|aI hs1E<|aI hs1l<|aI hwa<|aI hle1<|hk8
   refine qB ?_
   repeat ((first|refine wSc (id:=5) kQ qA ?_|refine wSc (id:=12) kP qA ?_);refine qC ?_;refine qB ?_)
   clear fx
   first|show qK _ _ _ _ _|intro K hK
   refine qAw (.c (.s 38) 0 2) (.u 4 0 0) 74 hV4' ?_
   refine qAw (.c (.s 38) 0 3) (.u 5 0 0) 74 hV5' ?_
   refine qB8 (bs:=bs) (hs:=by simp [hU]) (ha:=by first|(simp [h0];done)|(simp [h0];rfl)) (hF:=qCe _ _ bs (q1+1) k1.kind k1.parent p.length k1.params.length k1.body.length (by omega) hb (by omega) (by simp [hU]) (by simp)) (h:=?_)
   rintro y H2 ⟨L2,q2,rfl,hL2,⟨hL2l,hq2,hL2T⟩,hU2⟩
   refine⟨q2,hU2,?_⟩
   have fx:=aI h0<|aI h3<|aI hp3<|aI h5<|aI h6<|aI hp6<|aI h7<|aI hob<|hL2
   refine qB ?_
   repeat ((first|refine wSc (id:=5) kQ qA ?_|refine wSc (id:=12) kP qA ?_);refine qC ?_;refine qB ?_)
   clear fx
   refine yd (fun st=>∃ (X:List Stm) (q2:Nat),X.length≤16∧(∀ s∈X,TxtS s)∧q2≤q1+6∧st.tm 0=.pt (.u 1 0 0) 0∧st.hp (.u 1 0 0)=some (rdO bs q2)∧st.tm 2=.pt (.s 2) 0∧st.hp (.s 2)=some (.row 1 [[.hs (.c (.s 2) 0 0) 4 0 0]])∧st.hp (.c (.s 2) 0 0)=some (.row 4 [])∧st.tm 3=.pt (.s 3) 0∧st.hp (.s 3)=some (.row 1 [[.hs (.c (.s 3) 0 0) 4 0 p.length]])∧st.tm 4=iv n∧OwnP st.hp (.c (.s 3) 0 0) p∧st.tm 5=iv par∧st.tm 6=.pt (.s 6) 0∧st.hp (.s 6)=some (.row 4 [[iv k1.kind,iv k1.parent,.hs (.c (.s 38) 0 2) 1 0 k1.params.length,.hs (.c (.s 38) 0 3) 4 0 k1.body.length]])∧st.hp (.c (.s 38) 0 2)=some (.row 1 (qJ k1.params))∧st.hp (.c (.s 38) 0 3)=some (.row 4 (zb k1.body)) ∧
  st.tm 7=.hs (.s 7) 4 0 X.length∧st.hp (.s 7)=some (.row 4 (zb X))∧st.tm 84=bv (decide (X.length≤12))) ⟨(kp.body.take (at0 - 1)++L2++kp.body.drop (at0 - 1)),q2,by simp;omega,qK2 hkpT hL2T,by omega,by simp [h0],by simp,by simp [h2],by simp [hp2],by simp [hp2'],by simp [h3],by simp [hp3],by simp [h4],⟨by simp [ho1],fun j r hj=>by simp [ho2 j r hj],fun j r hj=>by simp [ho3 j r hj]⟩,by simp [h5],by simp [h6],by simp [hp6],by simp [hp62],by simp [hp63],by simp;try omega,by first|(simp;done)|(simp;rw [qEr (by omega)]),by simp;try omega⟩ ?_
   clear hU2 hL2
 all_goals
  rintro st ⟨X,q2,hXl,hXT,hq2,h0,hU,h2,hp2,hp2',h3,hp3,h4,⟨ho1,ho2,ho3⟩,h5,h6,hp6,hp62,hp63,h7,hp7,h84⟩
  have hwn:IntKind.i64.wrap ((n:Int) - 1)=((n - 1:Nat):Int):=by rw [wrp (by omega) (by omega)];omega
  by_cases hx12:X.length≤12
  ·have vJ:=kT (n:=.c (.s 3) 0 0) (a:=7) (i:=par) (len:=X.length) (p:=p) (L:=X) rfl (by simp) (by simp)
   have hsl:(setBody p par X).length=p.length:=z8
   have fx:=aI h0<|aI h3<|aI hp3<|aI h4<|aI h5<|aI h6<|aI hp6<|aI h7<|aI hp7<|aI h84<|aI ho1<|aI hkp'<|aI hkpE<|aI hparl<|aI hx12<|aI vJ<|aI hsl<|hwn
   refine qB ?_
   repeat ((first|refine wSc (id:=5) kQ qA ?_|refine wSc (id:=12) kP qA ?_);refine qC ?_;refine qB ?_)
   clear fx
   have hg':GenT (setBody p par X++[k1]):=(hg.setBody (by omega) hXT).add (by rw [hsl];omega) (by rw [hkpar1,hsl];omega) (by rw [hkk1];exact hkdR) (by omega) (by omega) hkT1
   refine⟨n - 1,by omega,setBody p par X++[k1],q2,by simp;omega,hg',by omega,by simp [h0],by simp [hU],by simp [h2],by simp [hp2],by simp [hp2'],by simp [h3],by simp,by simp,⟨?_,fun d r hd=>?_,fun d r hd=>?_⟩⟩
   ·rw [qGJ]
    simp
    exact List.take_of_length_le (by simp)
   all_goals
    rw [List.getElem?_append] at hd
    split at hd
    ·rename_i hdl
     have hdp:d<p.length:=by rwa [hsl] at hdl
     obtain⟨r0,hr0'⟩:∃ r0,p[d]?=some r0:=⟨_,gE hdp⟩
     rw [jM hr0'] at hd
     obtain rfl:=sI hd
     have hdn:¬ p.length=d:=by omega
     have hdn':¬ d=p.length:=by omega
     by_cases hpd:par=d
     ·subst hpd
      simp [ho2 par r0 hr0',hp7,hdn,hdn']
     ·simp [ho2 d r0 hr0',ho3 d r0 hr0',hpd,show ¬ d=par from fun e=>hpd e.symm,hdn,hdn']
    ·rename_i hdl
     have hde:d=p.length:=by
      have h1:=(gS hd).1
      simp at h1
      omega
     subst hde
     rw [hsl,Nat.sub_self] at hd
     simp at hd
     subst hd
     simp [hp62,hp63]
  ·skip
   have fx:=aI h4<|aI h84<|aI hx12<|hwn
   refine qB ?_
   repeat ((first|refine wSc (id:=5) kQ qA ?_|refine wSc (id:=12) kP qA ?_);refine qC ?_;refine qB ?_)
   clear fx
   exact⟨n - 1,by omega,p,q2,by omega,hg,by omega,by simp [h0],by simp [hU],by simp [h2],by simp [hp2],by simp [hp2'],by simp [h3],by simp [hp3],by simp,⟨by simp [ho1],fun j r hj=>by simp [ho2 j r hj],fun j r hj=>by simp [ho3 j r hj]⟩⟩
end Go.Proofs.YtbgmnmnoaamgkaaGreatDoor
end
section
namespace Go.Proofs.YtbgmnmnoaamgkaaGreatDoor
open Go Go.Hm Go.Proofs
theorem qRm (gl) (p:Prg) (hs:Sml p):qV Tryz.prog gl 155 [pav p] (fun r z H'=>z=.agg [.hs r 4 0 p.length]∧OwnP H' r (qAf p)):=by
 have hpl:=hs.len
 refine qV.of_sem Tryz.func155 rfl (by kernel_rfl) (rs:=[.cell 2 29]) rfl Tryz.ntmps155 (lB rfl) fun C w g root=>?_
 have fx:=fx0
 have e1:=qDO gl p hs
 refine qB ?_
 clear fx e1
 first|rintro K hK z H' ⟨rfl,hO⟩|rintro z H' ⟨rfl,hO⟩
 obtain⟨ho1,ho2,ho3⟩:=hO.hcln
 refine⟨by simp,?_⟩
 have fx:= ho1
 refine qB ?_
 clear fx
 refine qY (fun n st=>∃ i:Nat,n=p.length - i∧i≤p.length∧st.tm 1=.pt (.s 1) 0∧st.hp (.s 1)=some (.row 1 [[ksl p]])∧st.tm 2=.pt (.s 2) 0∧st.hp (.s 2)=some (.row 1 [[.hs (.c (.s 2) 0 0) 4 0 0]])∧st.hp (.c (.s 2) 0 0)=some (.row 4 []) ∧
  st.tm 3=.pt (.s 3) 0∧st.hp (.s 3)=some (.row 1 [[.hs (.c (.s 3) 0 0) 4 0 p.length]])∧st.tm 4=iv i∧OwnP st.hp (.c (.s 3) 0 0) (uO qAA p i)) p.length ?_ ?_
 ·refine⟨0,by omega,by omega,by simp,by simp,by simp,by simp,by simp,by simp,by simp,by simp,?_⟩
  rw [qJf]
  exact⟨by simp [ho1],fun j r hj=>by simp [ho2 j r hj],fun j r hj=>by simp [ho3 j r hj]⟩
 clear ho1 ho2 ho3 hO
 rintro n st - - ⟨i,rfl,hi,h1,hp1,h2,hp2,hp2',h3,hp3,h4,⟨ho1,ho2,ho3⟩⟩
 have fx:=aI h3<|aI hp3<|h4
 refine qB ?_
 clear fx
 refine ub (by simp [];first|done|rfl|exact (Bool.not_not _).symm) (fun ht=>?_) (fun hf=>?_)
 ·have hlt:i<p.length:=by simpa using ht
  obtain⟨k,hk⟩:∃ k,p[i]?=some k:=⟨_,gE hlt⟩
  obtain⟨_,hkE⟩:=gS hk
  obtain⟨hkp,hkb⟩:=hs.bsm hk
  clear ht
  have fx:=fx0
  refine qB ?_
  clear fx
  refine qY (fun n st=>∃ j:Nat,n=k.body.length - j∧j≤k.body.length∧st.tm 1=.pt (.s 1) 0∧st.hp (.s 1)=some (.row 1 [[ksl p]])∧st.tm 2=.pt (.s 2) 0∧st.hp (.s 2)=some (.row 1 [[.hs (.c (.s 2) 0 0) 4 0 0]])∧st.hp (.c (.s 2) 0 0)=some (.row 4 []) ∧
   st.tm 3=.pt (.s 3) 0∧st.hp (.s 3)=some (.row 1 [[.hs (.c (.s 3) 0 0) 4 0 p.length]])∧st.tm 4=iv i∧OwnP st.hp (.c (.s 3) 0 0) (uO qAA p i)∧st.tm 6=iv j∧st.tm 5=.hs (.s 5) 4 0 (wJ (k.body.take j)).length∧st.hp (.s 5)=some (.row 4 (zb (wJ (k.body.take j))))) k.body.length ?_ ?_
  ·refine⟨0,by omega,by omega,by simp [h1],by simp [hp1],by simp [h2],by simp [hp2],by simp [hp2'],by simp [h3],by simp [hp3],by simp [h4],⟨by simp [ho1],fun j r hj=>by simp [ho2 j r hj],fun j r hj=>by simp [ho3 j r hj]⟩,by simp,by simp [wJ],by simp [wJ]⟩
  clear h1 hp1 h2 hp2 hp2' h3 hp3 h4 ho1 ho2 ho3
  rintro n st - - ⟨j,rfl,hj,h1,hp1,h2,hp2,hp2',h3,hp3,h4,⟨ho1,ho2,ho3⟩,h6,h5,hp5⟩
  have hbl:(wJ (k.body.take j)).length≤j:=Nat.le_trans qGp (by simp;omega)
  have hst:=fun s (h:k.body[j]?=some s)=>qKF h
  generalize hL:wJ (k.body.take j)=L at h5 hp5 hbl hst
  have fx:=aI h1<|aI hp1<|aI h4<|aI h6<|aI hk<|aI hkE<|hlt
  refine qB ?_
  clear fx
  refine ub (by simp [];first|done|rfl|exact (Bool.not_not _).symm) (fun ht=>?_) (fun hf=>?_)
  ·have hjl:j<k.body.length:=by simpa using ht
   obtain⟨s,hsi⟩:∃ s,k.body[j]?=some s:=⟨_,gE hjl⟩
   obtain⟨_,hsE⟩:=gS hsi
   have hst:=hst s hsi
   clear ht
   cases hd:((s.kind==9)||(s.kind==10))
   ·obtain⟨h9,h10⟩:(s.kind==9)=false∧(s.kind==10)=false:=by simpa using hd
    rw [hd] at hst
    simp only [Bool.false_eq_true,if_false] at hst
    have fx:=aI h1<|aI hp1<|aI h4<|aI h6<|aI hk<|aI hkE<|aI hlt<|aI hsi<|aI hsE<|aI hjl<|aI h9<|aI h10<|aI @zU<|aI h5<|hp5
    refine qB ?_
    clear fx
    refine⟨k.body.length - (j+1),by omega,j+1,rfl,by omega,by simp [h1],by simp [hp1],by simp [h2],by simp [hp2],by simp [hp2'],by simp [h3],by simp [hp3],by simp [h4],⟨by simp [ho1],fun j r hj=>by simp [ho2 j r hj],fun j r hj=>by simp [ho3 j r hj]⟩,by simp;exact wrp (by omega) (by omega),by simp [hst],?_⟩
    rw [hst,← v5]
    simp [hp5]
   ·have hd':(s.kind==9)=true∨((s.kind==9)=false∧(s.kind==10)=true):=by
     revert hd
     cases (s.kind==9) <;> cases (s.kind==10) <;> simp
    rw [hd] at hst
    simp only [if_true] at hst
    rcases hd' with h9|⟨h9,h10⟩
    case' inl=>have h10:True:=trivial
    all_goals
     have fx:=aI h1<|aI hp1<|aI h4<|aI h6<|aI hk<|aI hkE<|aI hlt<|aI hsi<|aI hsE<|aI hjl<|aI h9<|aI h10<|@zU
     refine qB ?_
     clear fx
     exact⟨k.body.length - (j+1),by omega,j+1,rfl,by omega,by simp [h1],by simp [hp1],by simp [h2],by simp [hp2],by simp [hp2'],by simp [h3],by simp [hp3],by simp [h4],⟨by simp [ho1],fun j r hj=>by simp [ho2 j r hj],fun j r hj=>by simp [ho3 j r hj]⟩,by simp;exact wrp (by omega) (by omega),by simp [hst,h5],by simp [hst,hp5]⟩
  ·have hge:j=k.body.length:=by
    have:¬ j<k.body.length:=by simpa using hf
    omega
   subst hge
   rw [List.take_length] at hL
   subst hL
   clear hf hst
   have vJ:=kT (n:=.c (.s 3) 0 0) (a:=5) (i:=i) (len:=(wJ k.body).length) (p:=uO qAA p i) (L:=wJ k.body) rfl (by simp) (by simp)
   have hmg:=qGT (f:=qAA) hk
   obtain⟨_,hmgE⟩:=gS hmg
   have hml:=qGS (f:=qAA) (l:=p) hi
   have fx:=aI h3<|aI hp3<|aI h4<|aI h5<|aI hp5<|aI ho1<|aI hmg<|aI hmgE<|aI hlt<|aI vJ<|hml
   refine qB ?_
   clear fx
   refine⟨p.length - (i+1),by omega,i+1,rfl,by omega,by simp [h1],by simp [hp1],by simp [h2],by simp [hp2],by simp [hp2'],by simp [h3],by simp [hp3],by simp [h4];exact wrp (by omega) (by omega),?_⟩
   rw [← qHm hk]
   refine⟨by simp [vJ],fun d r hd=>?_,fun d r hd=>?_⟩
   all_goals
    have hl:d<(uO qAA p i).length:=by
     have:=(gS hd).1
     rwa [z8] at this
    obtain⟨q,hq⟩:∃ q,(uO qAA p i)[d]?=some q:=⟨_,gE hl⟩
    rw [jM hq] at hd
    obtain rfl:=sI hd
    by_cases hid:i=d
   ·subst hid
    simp [ho2 i q hq]
   ·simp [ho2 d q hq,hid,show ¬ d=i from fun e=>hid e.symm]
   ·subst hid
    simp [hp5]
   ·simp [ho3 d q hq,hid,show ¬ d=i from fun e=>hid e.symm]
 ·have hge:i=p.length:=by
   have:¬ i<p.length:=by simpa using hf
   omega
  subst hge
  rw [qLU] at ho1 ho2 ho3
  have hbp:p.map qAA=qAf p:=rfl
  rw [hbp] at ho1 ho2 ho3
  have fx:=aI h2<|aI hp2<|aI hp2'<|aI h3<|hp3
  refine qB ?_
  clear fx
  refine qF [(.c (.s 3) 0 0,root)] (.one rfl) (by simp [h2];rfl) ⟨by simp,⟨?_,fun j r hj=>?_,fun j r hj=>?_⟩⟩
  ·simp [ho1,zO (n:=.c (.s 3) 0 0) (m:=root) (f:=zu noD [(.c (.s 3) 0 0,root)]) (p:=qAf p) (by simp)]
  ·simp [ho2 j r hj]
  ·simp [ho3 j r hj]
end Go.Proofs.YtbgmnmnoaamgkaaGreatDoor
end
