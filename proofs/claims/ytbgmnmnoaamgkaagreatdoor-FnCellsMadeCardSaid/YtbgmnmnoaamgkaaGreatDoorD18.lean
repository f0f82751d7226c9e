/-
  Own texts, joined by mkclaim.py: Hm176, Hm177, Hm178, Hm179, Hm180, Hm181, Hm182, Hm183, Hm184, Hm185, Hm186, Hm187, Hm188, Hm189.
-/
import Derived.Test.YtbgmnmnoaamgkaaGreatDoorD17
import Derived.Test.YtbgmnmnoaamgkaaGreatDoorD16
import Derived.Test.YtbgmnmnoaamgkaaGreatDoorD15
set_option linter.unusedSimpArgs false
set_option linter.unusedVariables false
set_option maxRecDepth 100000
set_option maxHeartbeats 4000000

section
namespace Go.Hm
open Go Go.RowKit
def qHr (hp:Nm→Option AO) (p:Prg) (m:Mch) (h:Nat):Prop:=∃ J:Nat→List AV,(∀ i,(J i).length=29)∧hp Yn=some (.row 4415 [ql p m h (yc m.frames J)])∧OwnY (wrO Yn (.row 4415 [ql p m m.frames.length (yc m.frames J)]) hp) p m
section
variable {hp hp':Nm→Option AO} {p:Prg} {m:Mch} {fs:List Frm} {f:Frm} {h:Nat} {F:Nm→Option Nm} {J:Nat→List AV} {vals R:List AV}
theorem qUL (hJ:∀ i,(J i).length=29) (hi:fs.length<151) (hv:vals.length=29) (hF:∀ j,j≠yo fs.length+2→j≠yo fs.length+3→j≠yo fs.length+28→F (.c Yn 0 j)=some (.c Yn 0 j)) :
  spl ((ql p m h (yc (fs++[f]) J)).map (AV.tr F)) (yo fs.length) vals=ql p m h (yc fs fun k=>if k=fs.length then vals else (J k).map (AV.tr F)):=by
 have hl:∀ j,j<32→F (.c Yn 0 j)=some (.c Yn 0 j):=fun j hj=>hF j (by simp only [yo];omega) (by simp only [yo];omega) (by simp only [yo];omega)
 have eA:(yA p m).map (AV.tr F)=yA p m:=by simp [yA,hl,AV.tr,jL]
 have eB:(yB m).map (AV.tr F)=yB m:=by simp [yB,hl,AV.tr,jL]
 rw [qPI,eA,eB]
 have e:yA p m++(vo m.globals++(yB m++(cat (fun i=>(yc (fs++[f]) J i).map (AV.tr F)) 151++yZ m h)))=ql p m h fun i=>(yc (fs++[f]) J i).map (AV.tr F):=rfl
 rw [e,show yo fs.length=32+(29 * fs.length+0) by simp only [yo];omega]
 refine qHv (fun i=>by simp [jm hJ]) hi (by omega) (fun k hk=>?_) ?_
 ·unfold yc
  rcases Nat.lt_trichotomy k fs.length with e|e|e
  ·rw [List.getElem?_append_left e,gE e]
   have h1:∀ a,a<29→a=2∨a=3∨a=28→F (.c Yn 0 (32+29 * k+a))=some (.c Yn 0 (32+29 * k+a)):=fun a ha _=>hF _ (by simp only [yo];omega) (by simp only [yo];omega) (by simp only [yo];omega)
   have h2:=h1 2 (by omega) (by omega)
   have h3:=h1 3 (by omega) (by omega)
   have h28:=h1 28 (by omega) (by omega)
   simp only [yfr,List.map_append,ki,List.map_cons,List.map_nil]
   simp [AV.tr,h2,h3,h28]
  ·exact absurd e hk
  ·rw [List.getElem?_eq_none (by omega),List.getElem?_eq_none (by simp;omega)]
   simp [hk]
 ·have h1:((yc (fs++[f]) J fs.length).map (AV.tr F)).length=29:=by simp [jm hJ]
  have h2:yc fs (fun k=>if k=fs.length then vals else (J k).map (AV.tr F)) fs.length=vals:=by simp [yc]
  rw [h2]
  simp [spl,List.drop_eq_nil_of_le,hv,h1,jm hJ]
theorem OwnY.endF (h:OwnY hp p m) (hm:m.frames=fs++[f]) (hi:fs.length<151) (hr:hp Yn=some (.row 4415 [R]))
  (hv:vals.length=29) (hF:∀ j,j≠yo fs.length+2→j≠yo fs.length+3→j≠yo fs.length+28→F (.c Yn 0 j)=some (.c Yn 0 j))
  (h0:hp' Yn=some (.row 4415 [spl (R.map (AV.tr F)) (yo fs.length) vals]))
  (h1:hp' (.c Yn 0 1)=some (.row 1 (jc p p.length)):=by simp [h.caps])
  (h2:hp' (.c Yn 0 4)=some (.row 1 (qJ m.out)):=by simp [h.out])
  (h3:hp' (.c Yn 0 5)=some (.row 2 (jq m.trace)):=by simp [h.trc])
  (h4:hp' (.c Yn 0 30)=some (.row 2 (jZ m.funs)):=by simp [h.funs])
  (h5:hp' (.c Yn 0 31)=some (.row 24 (jb m.classes)):=by simp [h.clss])
  (h6:∀ (i:Nat) x,i<fs.length→hp (.c Yn 0 (32+29 * i+2))=some (.row 3 (qN x))→hp' (.c Yn 0 (32+29 * i+2))=some (.row 3 (qN x)):=by intro i x hi hx;have e:=wU hi;simp [hx,e.1,e.2.1,e.2.2.1,e.2.2.2])
  (h7:∀ (i:Nat) x,i<fs.length→hp (.c Yn 0 (32+29 * i+3))=some (.row 1 (zA x))→hp' (.c Yn 0 (32+29 * i+3))=some (.row 1 (zA x)):=by intro i x hi hx;have e:=wU hi;simp [hx,e.1,e.2.1,e.2.2.1,e.2.2.2])
  (h8:∀ (i:Nat) x,i<fs.length→hp (.c Yn 0 (32+29 * i+28))=some (.row 2 (qt x))→hp' (.c Yn 0 (32+29 * i+28))=some (.row 2 (qt x)):=by intro i x hi hx;have e:=wU hi;simp [hx,e.1,e.2.1,e.2.2.1,e.2.2.2])
  (h9:∀ (c:Nat) s,m.cells[c]?=some s→hp' (En c)=some (.row 3 [zx s]):=by intro c s hc;simp [h.cell c s hc])
  (hA:∀ k i j,fM k=true→¬ (k=1∧i=0∧j=0)→hp' (.u k i j)≠none→hp (.u k i j)≠none:=by intro k i j hk e hn;simpa [hk,e] using hn) :
  qHr hp' p { m with frames:=fs } (fs.length+1):=by
 obtain⟨J,hJ,e⟩:=h.top
 have hR:R=ql p m (fs.length+1) (yc (fs++[f]) J):=by
  rw [hm] at e
  simp only [List.length_append,List.length_singleton] at e
  exact (qCS hr e).symm
 have key:∀ (i:Nat) f',fs[i]?=some f'→i<fs.length∧m.frames[i]?=some f':=fun i f' hf=>by
  have hl:=(gS hf).1
  exact⟨hl,by rw [hm,List.getElem?_append_left hl];exact hf⟩
 have hrow:=qUL (p:=p) (m:=m) (f:=f) (h:=fs.length+1) hJ hi hv hF
 refine⟨fun k=>if k=fs.length then vals else (J k).map (AV.tr F),fun i=>?_,?_,⟨fun k=>if k=fs.length then vals else (J k).map (AV.tr F),fun i=>?_,?_⟩,by simpa [wrO] using h1,by simpa [wrO] using h2,by simpa [wrO] using h3,by simpa [wrO] using h4,by simpa [wrO] using h5,fun i f' hf=>?_,fun i f' hf=>?_,fun i f' hf=>?_,fun c s hc=>?_,fun k i j hk hn=>?_⟩
 ·show (if i=fs.length then vals else (J i).map (AV.tr F)).length=29
  split
  ·exact hv
  ·simp [hJ]
 ·rw [h0,hR,hrow]
  rfl
 ·show (if i=fs.length then vals else (J i).map (AV.tr F)).length=29
  split
  ·exact hv
  ·simp [hJ]
 ·simp [wrO]
 ·obtain⟨a,b⟩:=key i f' hf
  simp only [wrO];rw [if_neg (by simp)]
  exact h6 i _ a (h.fasts i f' b)
 ·obtain⟨a,b⟩:=key i f' hf
  simp only [wrO];rw [if_neg (by simp)]
  exact h7 i _ a (h.cls i f' b)
 ·obtain⟨a,b⟩:=key i f' hf
  obtain⟨j,hj⟩:=h.stack i f' b
  refine⟨j,?_⟩
  simp only [wrO];rw [if_neg (by simp)]
  exact h8 i _ a hj
 ·simp only [wrO];rw [if_neg (by simp)]
  exact h9 c s hc
 ·by_cases e:k=1∧i=0∧j=0
  ·exact .inl e
  ·refine h.only k i j hk (hA k i j hk e ?_)
   simp only [wrO] at hn
   rwa [if_neg (by simpa using e)] at hn
theorem qHr.done (hY:qHr hp p m h) (hr:hp Yn=some (.row 4415 [R])) (h0:hp' Yn=some (.row 4415 [spl R 4411 [iv (m.frames.length:Nat)]])) (hh:∀ q,DM q=true→q≠Yn→hp' q=hp q):OwnY hp' p m:=by
 obtain⟨J,hJ,e,hO⟩:=hY
 refine hO.ren (f:=some) (fun _ _=>rfl) fun q hq=>?_
 by_cases hq1:q=Yn
 ·subst hq1
  have:=qCS hr e
  rw [h0,← this,qPJ (jm hJ)]
  simp only [wrO,if_true,Option.map_some,AO.tr_some]
 ·rw [hh q hq hq1]
  simp only [wrO]
  rw [if_neg hq1]
  cases hp q <;> simp [AO.tr_some]
theorem qHr.ht (hY:qHr hp p m h):∃ R,hp Yn=some (.row 4415 [R])∧R.length=4415∧R[4411]?=some (iv h):=by
 obtain⟨J,hJ,e,_⟩:=hY
 exact⟨_,e,yx (jm hJ),qAE (jm hJ)⟩
end
section
variable {st:St} {p:Prg} {m:Mch} {d:Option Nat} {a:AV} {i j:Nat} {o:AO}
theorem vu (h:OwnY st.hp p m):OwnY (st.put d a).hp p m:=by cases d <;> exact h
theorem y9 {n:Nm} (hn:DM n=false) (h:OwnY st.hp p m):OwnY (st.setO n o).hp p m:=by
 refine h.ren (f:=some) (fun _ _=>rfl) fun k hk=>?_
 have:k≠n:=fun e=>by rw [e,hn] at hk;cases hk
 rw [qEI,if_neg this]
 cases st.hp k <;> simp [AO.tr_some]
theorem yb (h:OwnY st.hp p m):OwnY (st.kill (.s i)).hp p m :=
 h.ren (f:=kl (.s i)) (fun k hk=>by simp [kl,(D_s (fun _=>qH) hk i).2]) fun k hk=>by
  have:=(D_s (fun _=>qH) hk i).2
  simp [this]
theorem ya (h:OwnY st.hp p m):OwnY (st.move (.s i) (.s j)).hp p m :=
 h.ren (f:=mv (.s i) (.s j)) (fun k hk=>by simp [mv,(D_s (fun _=>qH) hk i).2,(D_s (fun _=>qH) hk j).2]) fun k hk=>by
  have h1:=(D_s (fun _=>qH) hk i).2
  have h2:=(D_s (fun _=>qH) hk j).2
  rw [qEe,h1,h2]
  simp
theorem vv (h:OwnY st.hp p m):OwnY (st.apd i (some (.s j))).hp p m :=
 h.ren (f:=kl (.s i)) (fun k hk=>by simp [kl,(D_s (fun _=>qH) hk i).2]) fun k hk=>by
  have h1:=(D_s (fun _=>qH) hk i).2
  have h2:=(D_s (fun _=>qH) hk j).1
  rw [qMT,if_neg (fun e=>h2 (sI e).symm)]
  simp [h1]
end
end Go.Hm
end
section
namespace Go.Hm
open Go Go.RowKit
def jE (hp:Nm→Option AO) (p:Prg) (m:Mch) (C:List Slt):Prop:=∃ J:Nat→List AV,(∀ i,(J i).length=29)∧hp Yn=some (.row 4415 [ql p m m.frames.length (yc m.frames J)])∧OwnY (wrO Yn (.row 4415 [ql p { m with cells:=C } m.frames.length (yc m.frames J)]) hp) p { m with cells:=C }
section
variable {hp hp' H:Nm→Option AO} {p:Prg} {m:Mch} {C:List Slt} {F:Nm→Option Nm} {st:St} {d:Option Nat} {a:AV} {i j c:Nat} {o:AO} {s:Slt}
theorem OwnY.yc (h:OwnY hp p m):jE hp p m m.cells:=by
 obtain⟨J,hJ,e⟩:=h.top
 refine⟨J,hJ,e,h.ren (f:=some) (fun _ _=>rfl) fun q hq=>?_⟩
 by_cases h1:q=Yn
 ·subst h1
  rw [e]
  simp only [wrO,if_true,Option.map_some,AO.tr_some]
 ·simp only [wrO]
  rw [if_neg h1]
  cases hp q <;> simp [AO.tr_some]
theorem qBv {h:Nat} {L:List Frm} {J:Nat→List AV} (hc:∀ j,F (.c Yn 0 j)=some (.c Yn 0 j)):(ql p m h (yc L J)).map (AV.tr F)=ql p m h (yc L fun i=>(J i).map (AV.tr F)):=by
 rw [qPI,qFX fun j _=>hc j]
 simp [ql,yA,yB,hc,AV.tr,jL]
theorem jE.ren (h:jE hp p m C) (hf:∀ k,DM k=true→F k=some k) (hh:∀ k,DM k=true→hp' k=(hp k).map (AO.tr F)):jE hp' p m C:=by
 obtain⟨J,hJ,e,hO⟩:=h
 refine⟨fun i=>(J i).map (AV.tr F),fun i=>by simp [hJ],?_,hO.ren (f:=F) hf fun q hq=>?_⟩
 ·rw [hh _ rfl,e]
  simp only [Option.map_some,AO.tr,List.map_cons,List.map_nil]
  rw [qBv fun j=>hf _ rfl]
 ·by_cases h1:q=Yn
  ·subst h1
   simp only [wrO,if_true,Option.map_some,AO.tr,List.map_cons,List.map_nil]
   rw [qBv fun j=>hf _ rfl]
  ·simp only [wrO]
   rw [if_neg h1,if_neg h1,hh q hq]
theorem yQ {n:Nm} (hn:n.sroot=true):∀ k,DM k=true→Nm.under n k=false:=fun k hk=>by
 cases h:Nm.under n k with
 | false=>rfl
 | true=>have:=Nm.sroot_under hn h;rw [qH hk] at this;cases this
theorem qPG {n:Nm} (hn:n.sroot=true):DM n=false:=by
 cases h:DM n with
 | false=>rfl
 | true=>rw [qH h] at hn;cases hn
theorem qBJ (h:jE st.hp p m C):jE (st.put d a).hp p m C:=by cases d <;> exact h
theorem wV {n:Nm} (hn:n.sroot=true) (h:jE st.hp p m C):jE (st.setO n o).hp p m C:=by
 refine h.ren (F:=some) (fun _ _=>rfl) fun k hk=>?_
 have:k≠n:=fun e=>by rw [e,qPG hn] at hk;cases hk
 rw [qEI,if_neg this]
 cases st.hp k <;> simp [AO.tr_some]
theorem wZ {n:Nm} (hn:n.sroot=true) (h:jE st.hp p m C):jE (st.kill n).hp p m C :=
 h.ren (F:=kl n) (fun k hk=>by simp [kl,yQ hn k hk]) fun k hk=>by
  rw [qR0,yQ hn k hk]
  simp
theorem wW {n n':Nm} (hn:n.sroot=true) (hn':n'.sroot=true) (h:jE st.hp p m C):jE (st.move n n').hp p m C :=
 h.ren (F:=mv n n') (fun k hk=>by simp [mv,yQ hn k hk,yQ hn' k hk]) fun k hk=>by
  rw [qEe,yQ hn k hk,yQ hn' k hk]
  simp
theorem qBt {n:Nm} (hn:n.sroot=true) (h:jE st.hp p m C):jE (st.apd i (some n)).hp p m C :=
 h.ren (F:=kl (.s i)) (fun k hk=>by simp [kl,(D_s (fun _=>qH) hk i).2]) fun k hk=>by
  have h1:=(D_s (fun _=>qH) hk i).2
  rw [qMT,if_neg (fun e=>by rw [sI e] at hn;rw [qH hk] at hn;cases hn)]
  simp [h1]
theorem OwnY.free (h:OwnY hp p m) (hc:m.cells.length≤c):hp (.u 7 c 0)=none:=by
 cases e:hp (.u 7 c 0) with
 | none=>rfl
 | some o =>
  rcases h.only 7 c 0 rfl (by rw [e];simp) with⟨h1,_⟩|⟨_,h2,_⟩
  ·cases h1
  ·omega
theorem jE.set (h:jE hp p m C) (hc:c<C.length) (hw:hp' (En c)=some (.row 3 [zx s])) (hh:∀ q,DM q=true→q≠En c→hp' q=hp q):jE hp' p m (C.set c s):=by
 obtain⟨J,hJ,e,hO⟩:=h
 have hY:Yn≠En c:=by simp
 have hE:∀ j,Nm.c Yn 0 j≠En c:=fun j=>by simp
 have hE2:∀ j,Nm.c Yn 0 j≠Yn:=fun j=>by simp
 have rd:∀ q,DM q=true→q≠En c→q≠Yn→∀ z,wrO Yn z hp' q=wrO Yn (.row 4415 [ql p { m with cells:=C } m.frames.length (yc m.frames J)]) hp q:=fun q h1 h2 h3 z=>by
  simp only [wrO]
  rw [if_neg h3,if_neg h3,hh q h1 h2]
 refine⟨J,hJ,by rw [hh _ rfl hY];exact e,⟨J,hJ,by simp [wrO]⟩,?_,?_,?_,?_,?_,fun i f hf=>?_,fun i f hf=>?_,fun i f hf=>?_,fun c' s' hs'=>?_,fun k i j hk hn=>?_⟩
 ·rw [rd _ rfl (hE _) (hE2 _)];exact hO.caps
 ·rw [rd _ rfl (hE _) (hE2 _)];exact hO.out
 ·rw [rd _ rfl (hE _) (hE2 _)];exact hO.trc
 ·rw [rd _ rfl (hE _) (hE2 _)];exact hO.funs
 ·rw [rd _ rfl (hE _) (hE2 _)];exact hO.clss
 ·rw [rd _ rfl (hE _) (hE2 _)];exact hO.fasts i f hf
 ·rw [rd _ rfl (hE _) (hE2 _)];exact hO.cls i f hf
 ·obtain⟨j,hj⟩:=hO.stack i f hf
  exact⟨j,by rw [rd _ rfl (hE _) (hE2 _)];exact hj⟩
 ·simp only [List.getElem?_set] at hs'
  by_cases e1:c=c'
  ·subst e1
   rw [if_pos rfl,if_pos hc] at hs'
   obtain rfl:=sI hs'
   simp only [wrO]
   rw [if_neg (by simp)]
   exact hw
  ·rw [if_neg e1] at hs'
   rw [rd _ rfl (by simp [Ne.symm e1]) (by simp)]
   exact hO.cell c' s' hs'
 ·simp only [List.length_set]
  by_cases e1:Nm.u k i j=En c
  ·right
   injection e1 with a b d
   subst a b d
   exact⟨rfl,hc,rfl⟩
  ·by_cases e2:k=1∧i=0∧j=0
   ·exact .inl e2
   ·refine hO.only k i j hk fun e3=>hn ?_
    rw [rd (.u k i j) hk e1 (by simpa using e2)]
    exact e3
theorem qPh (s:Slt) (hc:c<C.length) (h:jE st.hp p m C):jE (st.setO (.u 7 c 0) (.row 3 [zx s])).hp p m (C.set c s) :=
 jE.set h hc (by simp) fun q _ hn=>by rw [qEI,if_neg hn]
theorem qLk {l:List (Nat×List Nat)} (h:∀ g∈l,∀ i∈g.2,F (En i)=some (En i)):(jZ l).map (fun y=>y.map (AV.tr F))=jZ l:=by
 simp only [jZ,List.map_map]
 apply List.map_congr_left
 intro g hg
 have:(zA g.2).map (fun y=>y.map (AV.tr F))=zA g.2:=qBp (h g hg)
 simp [AV.tr,jL,this]
theorem jE.add {n0:Nm} (h0:n0.sroot=true) (h:jE st.hp p m C) (hs:st.hp n0=some (.row 3 [zx s])) (hfr:∀ f∈m.frames,∀ c∈f.cells,c<C.length) (hfn:∀ g∈m.funs,∀ c∈g.2,c<C.length):jE (st.move n0 (.u 7 C.length 0)).hp p m (C++[s]):=by
 obtain⟨J,hJ,e,hO⟩:=h
 have rd:∀ q,Nm.under (.u 7 C.length 0) q=false→Nm.under n0 q=false→(st.move n0 (.u 7 C.length 0)).hp q=(st.hp q).map (AO.tr (mv n0 (.u 7 C.length 0))):=fun q h1 h2=>by
  rw [qEe,h1,h2];simp
 have rc:∀ j,(st.move n0 (.u 7 C.length 0)).hp (.c Yn 0 j)=(st.hp (.c Yn 0 j)).map (AO.tr (mv n0 (.u 7 C.length 0))):=fun j=>rd _ (by simp) (yQ h0 _ rfl)
 have fc:∀ j,mv n0 (.u 7 C.length 0) (.c Yn 0 j)=some (.c Yn 0 j):=fun j=>by simp [mv,yQ h0 (.c Yn 0 j) rfl]
 have fe:∀ c,c<C.length→mv n0 (.u 7 C.length 0) (En c)=some (En c):=fun c hc=>by
  have:¬ C.length=c:=by omega
  simp [mv,Nat.ne_of_lt hc,yQ h0 (En c) rfl]
 have o1:=hO.caps
 have o2:=hO.out
 have o3:=hO.trc
 have o4:=hO.funs
 have o5:=hO.clss
 simp only [wrO] at o1 o2 o3 o4 o5
 rw [if_neg (by simp)] at o1 o2 o3 o4 o5
 have eY:(st.move n0 (.u 7 C.length 0)).hp Yn=some (.row 4415 [ql p m m.frames.length (yc m.frames fun k=>(J k).map (AV.tr (mv n0 (.u 7 C.length 0))))]):=by
  rw [rd _ (by simp) (yQ h0 _ rfl),e]
  simp only [Option.map_some,AO.tr,List.map_cons,List.map_nil]
  rw [qBv fc]
 refine⟨fun k=>(J k).map (AV.tr (mv n0 (.u 7 C.length 0))),fun k=>by simp [hJ],eY,⟨fun k=>(J k).map (AV.tr (mv n0 (.u 7 C.length 0))),fun k=>by simp [hJ],by simp [wrO]⟩,?_,?_,?_,?_,?_,fun i f hf=>?_,fun i f hf=>?_,fun i f hf=>?_,fun c' s' hs'=>?_,fun k a b hk hn=>?_⟩
 ·simp only [wrO];rw [if_neg (by simp),rc,o1];simp [AO.tr]
 ·simp only [wrO];rw [if_neg (by simp),rc,o2];simp [AO.tr]
 ·simp only [wrO];rw [if_neg (by simp),rc,o3];simp [AO.tr]
 ·simp only [wrO];rw [if_neg (by simp),rc,o4]
  simp only [Option.map_some,AO.tr]
  rw [qLk fun g hg c hc=>fe c (hfn g hg c hc)]
 ·simp only [wrO];rw [if_neg (by simp),rc,o5];simp [AO.tr]
 ·have o:=hO.fasts i f hf
  simp only [wrO] at o ⊢
  rw [if_neg (by simp)] at o ⊢
  rw [rc,o];simp [AO.tr]
 ·have o:=hO.cls i f hf
  simp only [wrO] at o ⊢
  rw [if_neg (by simp)] at o ⊢
  rw [rc,o]
  simp only [Option.map_some,AO.tr]
  rw [qBp fun c hc=>fe c (hfr f (gM hf) c hc)]
 ·obtain⟨j,o⟩:=hO.stack i f hf
  simp only [wrO] at o ⊢
  rw [if_neg (by simp)] at o ⊢
  exact⟨j,by rw [rc,o];simp [AO.tr]⟩
 ·simp only [wrO];rw [if_neg (by simp)]
  rcases Nat.lt_trichotomy c' C.length with e1|e1|e1
  ·have o:=hO.cell c' s' (by simp only at hs' ⊢;rwa [List.getElem?_append_left e1] at hs')
   simp only [wrO] at o
   rw [if_neg (by simp)] at o
   rw [rd _ (by simp [Nat.ne_of_lt e1]) (yQ h0 _ rfl),o]
   simp [AO.tr]
  ·subst e1
   simp at hs'
   subst hs'
   simp [hs,AO.tr]
  ·simp only at hs'
   rw [List.getElem?_eq_none (by simp;omega)] at hs'
   cases hs'
 ·simp only [List.length_append,List.length_singleton]
  by_cases e1:k=7∧a=C.length∧b=0
  ·obtain⟨rfl,rfl,rfl⟩:=e1
   exact .inr ⟨rfl,by omega,rfl⟩
  ·by_cases e2:k=1∧a=0∧b=0
   ·exact .inl e2
   ·have hn2:wrO Yn (.row 4415 [ql p { m with cells:=C } m.frames.length (yc m.frames J)]) st.hp (.u k a b)≠none:=fun e3=>hn (by
     simp only [wrO] at e3 ⊢
     rw [if_neg (by simpa using e2)] at e3 ⊢
     rw [rd _ (by simpa using e1) (yQ h0 (.u k a b) hk),e3];rfl)
    rcases hO.only k a b hk hn2 with h1|⟨h1,h2,h3⟩
    ·exact .inl h1
    ·simp only at h2
     exact .inr ⟨h1,by omega,h3⟩
theorem jE.add' {n0:Nm} {L:Nat} (hL:L=C.length) (h0:n0.sroot=true) (h:jE st.hp p m C) (hs:st.hp n0=some (.row 3 [zx s])) (hfr:∀ f∈m.frames,∀ c∈f.cells,c<C.length) (hfn:∀ g∈m.funs,∀ c∈g.2,c<C.length):jE (st.move n0 (.u 7 L 0)).hp p m (C++[s]):=by
 subst hL
 exact jE.add h0 h hs hfr hfn
end
section
variable {p:Prg} {m:Mch} {fs:List Frm} {g:Frm} {h:Nat} {F:Nm→Option Nm} {J:Nat→List AV}
theorem qUM (hJ:∀ i,(J i).length=29) (hi:fs.length<151) (hF:∀ j,j≠yo fs.length+2→j≠yo fs.length+3→j≠yo fs.length+28→F (.c Yn 0 j)=some (.c Yn 0 j)) :
  spl ((ql p m h (yc fs J)).map (AV.tr F)) (yo fs.length) (yfr fs.length g)=ql p m h (yc (fs++[g]) fun k=>(J k).map (AV.tr F)):=by
 have hl:∀ j,j<32→F (.c Yn 0 j)=some (.c Yn 0 j):=fun j hj=>hF j (by simp only [yo];omega) (by simp only [yo];omega) (by simp only [yo];omega)
 have eA:(yA p m).map (AV.tr F)=yA p m:=by simp [yA,hl,AV.tr,jL]
 have eB:(yB m).map (AV.tr F)=yB m:=by simp [yB,hl,AV.tr,jL]
 rw [qPI,eA,eB]
 have e:yA p m++(vo m.globals++(yB m++(cat (fun i=>(yc fs J i).map (AV.tr F)) 151++yZ m h)))=ql p m h fun i=>(yc fs J i).map (AV.tr F):=rfl
 rw [e,show yo fs.length=32+(29 * fs.length+0) by simp only [yo];omega]
 refine qHv (fun i=>by simp [jm hJ]) hi (by simp) (fun k hk=>?_) ?_
 ·unfold yc
  rcases Nat.lt_trichotomy k fs.length with e|e|e
  ·rw [List.getElem?_append_left e,gE e]
   have h1:∀ a,a<29→F (.c Yn 0 (32+29 * k+a))=some (.c Yn 0 (32+29 * k+a)):=fun a ha=>hF _ (by simp only [yo];omega) (by simp only [yo];omega) (by simp only [yo];omega)
   have h2:=h1 2 (by omega)
   have h3:=h1 3 (by omega)
   have h28:=h1 28 (by omega)
   simp only [yfr,List.map_append,ki,List.map_cons,List.map_nil]
   simp [AV.tr,h2,h3,h28]
  ·exact absurd e hk
  ·rw [List.getElem?_eq_none (by simp;omega),List.getElem?_eq_none (by omega)]
 ·have h1:((yc fs J fs.length).map (AV.tr F)).length=29:=by simp [jm hJ]
  have h2:yc (fs++[g]) (fun k=>(J k).map (AV.tr F)) fs.length=yfr fs.length g:=qGv (by simp)
  rw [h2]
  simp [spl,List.drop_eq_nil_of_le,h1,jm hJ]
end
end Go.Hm
end
section
namespace Go.Hm
open Go Go.RowKit
def qDR (hp:Nm→Option AO) (p:Prg) (m M:Mch) (h:Nat):Prop:=∃ J:Nat→List AV,(∀ i,(J i).length=29)∧hp Yn=some (.row 4415 [ql p m h (yc M.frames J)])∧OwnY (wrO Yn (.row 4415 [ql p M M.frames.length (yc M.frames J)]) hp) p M
section
variable {hp hp':Nm→Option AO} {p:Prg} {m m' M:Mch} {h h' k:Nat} {R:List AV} {v:AV}
theorem qDR.row (hY:qDR hp p m M h):∃ R,hp Yn=some (.row 4415 [R])∧R.length=4415∧R[4411]?=some (iv h)∧R[4412]?=some (iv m.deep)∧R[4413]?=some (iv m.made)∧R[4414]?=some (iv m.cells.length):=by
 obtain⟨J,hJ,e,_⟩:=hY
 have hc:=jm (fs:=M.frames) hJ
 exact⟨_,e,yx hc,qAE hc,qF2 hc,qF1 hc,qF0 hc⟩
theorem qDR.set (hY:qDR hp p m M h) (hr:hp Yn=some (.row 4415 [R])) (h0:hp' Yn=some (.row 4415 [spl R k [v]]))
  (hs:∀ J:Nat→List AV,(∀ i,(yc M.frames J i).length=29)→spl (ql p m h (yc M.frames J)) k [v]=ql p m' h' (yc M.frames J)) (hh:∀ q,DM q=true→q≠Yn→hp' q=hp q):qDR hp' p m' M h':=by
 obtain⟨J,hJ,e,hO⟩:=hY
 refine⟨J,hJ,?_,hO.ren (f:=some) (fun _ _=>rfl) fun q hq=>?_⟩
 ·rw [h0,← qCS hr e,hs J (jm hJ)]
 ·by_cases h1:q=Yn
  ·subst h1
   simp only [wrO,if_true,Option.map_some,AO.tr_some]
  ·simp only [wrO]
   rw [if_neg h1,if_neg h1,hh q hq h1]
   cases hp q <;> simp [AO.tr_some]
theorem qDR.done (hY:qDR hp p m M h) (hs:∀ J:Nat→List AV,ql p m h (yc M.frames J)=ql p M M.frames.length (yc M.frames J)):OwnY hp p M:=by
 obtain⟨J,hJ,e,hO⟩:=hY
 refine hO.ren (f:=some) (fun _ _=>rfl) fun q hq=>?_
 by_cases h1:q=Yn
 ·subst h1
  rw [e,hs J]
  simp only [wrO,if_true,Option.map_some,AO.tr_some]
 ·simp only [wrO]
  rw [if_neg h1]
  cases hp q <;> simp [AO.tr_some]
end
section
variable {p:Prg} {m:Mch} {fs:List Frm} {f g:Frm} {o:Int×Int} {v:Val}
theorem qC5 (h1:2≤o.1) (h2:o.1≤13) (n8:o.1≠8) (n11:o.1≠11):yq p m fs f o=zf m fs f o ((o.1 - 2) % 3).toNat (wE p f o):=by
 have h0:¬ o.1=0:=by omega
 simp only [yq]
 rw [if_neg h0,if_pos ⟨h1,h2⟩]
 have h3:(o.1 - 2) % 3=0∨(o.1 - 2) % 3=1∨(o.1 - 2) % 3=2:=by omega
 rcases h3 with h|h|h
 ·have hw:¬ wE p f o=4:=by
   have:o.1=2∨o.1=5:=by omega
   rcases this with e|e
   ·simp [wE,e]
   ·simp only [wE,e]
    rw [if_neg (by omega),if_pos (by omega)]
    split <;> omega
  rw [h,if_pos rfl]
  unfold jw zf
  simp only [Int.toNat_zero]
  rw [if_neg (by omega)]
  cases qA5 m f o with
  | none=>simp [hw]
  | some v=>simp
 ·rw [h,if_neg (by omega),if_pos rfl]
  rfl
 ·rw [h,if_neg (by omega),if_neg (by omega)]
  unfold qFA zf
  rw [if_neg (by decide)]
  cases qA5 m f o with
  | none=>rfl
  | some v=>exact (if_neg (by decide)).symm
theorem qI2 (h:o.1=8∨o.1=11):yq p m fs f o=jw p m fs f o:=by
 simp only [yq]
 rw [if_neg (by omega),if_pos (by omega),if_pos (by omega)]
theorem qOK (h0:¬ o.1=0) (h:¬ (2≤o.1∧o.1≤13)):yq p m fs f o=zI p m fs f o:=by
 simp only [yq]
 rw [if_neg h0,if_neg h]
end
end Go.Hm
end
section
namespace Go.Hm
open Go Go.RowKit
theorem qA7:vo qe=[bv false,iv 0,iv 0,bv false,iv 0,iv 0,bv false,iv 0,iv 0,bv false,iv 0,iv 0,bv false,iv 0,iv 0,bv false,iv 0,iv 0,bv false,iv 0,iv 0,bv false,iv 0,iv 0]:=rfl
section
variable {hp hp':Nm→Option AO} {p:Prg} {m:Mch} {C:List Slt} {g:Frm} {F:Nm→Option Nm} {R:List AV} {mk dp i c:Nat} {f:Frm} {s:Slt}
theorem jE.caps (h:jE hp p m C):hp (.c Yn 0 1)=some (.row 1 (jc p p.length)):=by obtain⟨J,_,_,hO⟩:=h;simpa [wrO] using hO.caps
theorem jE.out (h:jE hp p m C):hp (.c Yn 0 4)=some (.row 1 (qJ m.out)):=by obtain⟨J,_,_,hO⟩:=h;simpa [wrO] using hO.out
theorem jE.trc (h:jE hp p m C):hp (.c Yn 0 5)=some (.row 2 (jq m.trace)):=by obtain⟨J,_,_,hO⟩:=h;simpa [wrO] using hO.trc
theorem jE.funs (h:jE hp p m C):hp (.c Yn 0 30)=some (.row 2 (jZ m.funs)):=by obtain⟨J,_,_,hO⟩:=h;simpa [wrO] using hO.funs
theorem jE.clss (h:jE hp p m C):hp (.c Yn 0 31)=some (.row 24 (jb m.classes)):=by obtain⟨J,_,_,hO⟩:=h;simpa [wrO] using hO.clss
theorem jE.cell (h:jE hp p m C) (hc:C[c]?=some s):hp (En c)=some (.row 3 [zx s]):=by obtain⟨J,_,_,hO⟩:=h;simpa [wrO] using hO.cell c s hc
theorem jE.beg (h:jE hp p m C) (hi:m.frames.length<151) (hr:hp Yn=some (.row 4415 [R]))
  (hF:∀ j,j≠yo m.frames.length+2→j≠yo m.frames.length+3→j≠yo m.frames.length+28→F (.c Yn 0 j)=some (.c Yn 0 j))
  (h0:hp' Yn=some (.row 4415 [spl (R.map (AV.tr F)) (yo m.frames.length) (yfr m.frames.length g)]))
  (h6t:hp' (.c Yn 0 (yo m.frames.length+2))=some (.row 3 (qN g.fasts))) (h7t:hp' (.c Yn 0 (yo m.frames.length+3))=some (.row 1 (zA g.cells))) (h8t:hp' (.c Yn 0 (yo m.frames.length+28))=some (.row 2 (qt g.stack)))
  (h1:hp' (.c Yn 0 1)=some (.row 1 (jc p p.length)):=by simp [h.caps])
  (h2:hp' (.c Yn 0 4)=some (.row 1 (qJ m.out)):=by simp [h.out])
  (h3:hp' (.c Yn 0 5)=some (.row 2 (jq m.trace)):=by simp [h.trc])
  (h4:hp' (.c Yn 0 30)=some (.row 2 (jZ m.funs)):=by simp [h.funs])
  (h5:hp' (.c Yn 0 31)=some (.row 24 (jb m.classes)):=by simp [h.clss])
  (h6:∀ (i:Nat) x,i<m.frames.length→hp (.c Yn 0 (32+29 * i+2))=some (.row 3 (qN x))→hp' (.c Yn 0 (32+29 * i+2))=some (.row 3 (qN x)):=by intro i x hi hx;have e:=wU hi;simp [hx,e.1,e.2.1,e.2.2.1,e.2.2.2])
  (h7:∀ (i:Nat) x,i<m.frames.length→hp (.c Yn 0 (32+29 * i+3))=some (.row 1 (zA x))→hp' (.c Yn 0 (32+29 * i+3))=some (.row 1 (zA x)):=by intro i x hi hx;have e:=wU hi;simp [hx,e.1,e.2.1,e.2.2.1,e.2.2.2])
  (h8:∀ (i:Nat) x,i<m.frames.length→hp (.c Yn 0 (32+29 * i+28))=some (.row 2 (qt x))→hp' (.c Yn 0 (32+29 * i+28))=some (.row 2 (qt x)):=by intro i x hi hx;have e:=wU hi;simp [hx,e.1,e.2.1,e.2.2.1,e.2.2.2])
  (h9:∀ (c:Nat) s,C[c]?=some s→hp' (En c)=some (.row 3 [zx s]):=by intro c s hc;simp [h.cell hc])
  (hA:∀ k i j,fM k=true→¬ (k=1∧i=0∧j=0)→hp' (.u k i j)≠none→hp (.u k i j)≠none:=by intro k i j hk e hn;simpa [hk,e] using hn) :
  qDR hp' p m { m with cells:=C,made:=mk,deep:=dp,frames:=m.frames++[g] } m.frames.length:=by
 obtain⟨J,hJ,e,hO⟩:=h
 have hrow:=qUM (p:=p) (m:=m) (g:=g) (h:=m.frames.length) (F:=F) hJ hi hF
 have hJ':∀ i,((fun k=>(J k).map (AV.tr F)) i).length=29:=fun i=>by simp [hJ]
 have key:∀ (i:Nat) f',(m.frames++[g])[i]?=some f'→(i=m.frames.length∧f'=g)∨(i<m.frames.length∧m.frames[i]?=some f'):=by
  intro i f' hf
  rcases Nat.lt_trichotomy i m.frames.length with e|e|e
  ·rw [List.getElem?_append_left e] at hf
   exact .inr ⟨e,hf⟩
  ·subst e
   simp at hf
   exact .inl ⟨rfl,hf.symm⟩
  ·rw [List.getElem?_eq_none (by simp;omega)] at hf
   cases hf
 refine⟨fun k=>(J k).map (AV.tr F),hJ',?_,⟨fun k=>(J k).map (AV.tr F),hJ',?_⟩,by simpa [wrO] using h1,by simpa [wrO] using h2,by simpa [wrO] using h3,by simpa [wrO] using h4,by simpa [wrO] using h5,fun i f' hf=>?_,fun i f' hf=>?_,fun i f' hf=>?_,fun c s hc=>?_,fun k i j hk hn=>?_⟩
 ·rw [h0,← qCS hr e,hrow]
 ·simp [wrO]
 ·simp only [wrO];rw [if_neg (by simp)]
  rcases key i f' hf with⟨rfl,rfl⟩|⟨a,b⟩
  ·exact h6t
  ·have:=hO.fasts i f' b
   simp only [wrO] at this;rw [if_neg (by simp)] at this
   exact h6 i _ a this
 ·simp only [wrO];rw [if_neg (by simp)]
  rcases key i f' hf with⟨rfl,rfl⟩|⟨a,b⟩
  ·exact h7t
  ·have:=hO.cls i f' b
   simp only [wrO] at this;rw [if_neg (by simp)] at this
   exact h7 i _ a this
 ·simp only [wrO];rw [if_neg (by simp)]
  rcases key i f' hf with⟨rfl,rfl⟩|⟨a,b⟩
  ·exact⟨[],by simpa using h8t⟩
  ·obtain⟨j,this⟩:=hO.stack i f' b
   simp only [wrO] at this;rw [if_neg (by simp)] at this
   exact⟨j,h8 i _ a this⟩
 ·simp only [wrO];rw [if_neg (by simp)]
  exact h9 c s hc
 ·by_cases e:k=1∧i=0∧j=0
  ·exact .inl e
  ·refine hO.only k i j hk ?_
   simp only [wrO] at hn ⊢
   rw [if_neg (by simpa using e)] at hn ⊢
   exact hA k i j hk e hn
end
section
variable {p:Prg} {m:Mch} {fs:List Frm} {f:Frm} {b n:Nat} {k:Blk}
theorem qUT (hP:ValP p) (hk:p[b]?=some k) (hl:qIZ p b≤1):(q8 p b).params=[]∨∃ x,(q8 p b).params=[x]∧((x∈qI p b∧x∉qE p b)∨(x∉qI p b∧x∈qE p b)):=by
 have hkp:(q8 p b).params=k.params:=by simp [q8,hk]
 have hpn:k.params.length≤1:=by simpa [qIZ,hk] using hl
 rw [hkp]
 match h:k.params,hpn with
 | [],_=>exact .inl rfl
 | [x],_ =>
  refine .inr ⟨x,rfl,?_⟩
  by_cases hx:x∈qI p b
  ·exact .inl ⟨hx,qEz hx⟩
  ·exact .inr ⟨hx,(qC2 hP hk (by rw [h];simp)).resolve_left hx⟩
theorem qKU {l:List Val}:∀ r∈qt l,r.length=2:=by
 intro r hr
 simp only [qt,List.mem_map] at hr
 obtain⟨v,_,rfl⟩:=hr
 rfl
theorem qGc {l:List Nat}:∀ r∈zA l,r.length=1:=by
 intro r hr
 simp only [zA,List.mem_map] at hr
 obtain⟨v,_,rfl⟩:=hr
 rfl
theorem qFM {cs:List Nat} {vs:List Val}:(qk p m b cs vs).en=m.en:=by
 unfold qk
 split
 ·split <;> rfl
 ·rfl
theorem qIc {v:Val}:(zD m fs v).en=m.en:=by
 unfold zD
 split <;> rfl
theorem vO {st:St} {t i:Nat} {x:AV} (h:OwnY st.hp p m):OwnY (st.stl t (.s i) x).hp p m :=
 h.ren (f:=kl (.s i)) (fun k hk=>by simp [kl,(D_s (fun _=>qH) hk i).2]) fun k hk=>by
  have:=(D_s (fun _=>qH) hk i).2
  simp [this]
theorem MOk.frc {g:Frm} (h:MOk p m fs f) (hg:g.cells=f.cells):∀ f'∈fs++[g],∀ c∈f'.cells,c<m.cells.length:=by
 intro f' hf c hc
 rw [List.mem_append,List.mem_singleton] at hf
 rcases hf with hf|rfl
 ·exact (h.low f' hf).cr c hc
 ·rw [hg] at hc
  exact h.top.cr c hc
theorem MOk.fnc (h:MOk p m fs f):∀ g∈m.funs,∀ c∈g.2,c<m.cells.length:=fun g hg=>by
 obtain⟨k,_,_,_,h4⟩:=h.funs g hg
 exact h4
end
end Go.Hm
end
section
namespace Go.Hm
open Go Go.RowKit
theorem qMj {X:Ctx} {st:St} {Q:Ex→St→Prop} {A B:Code} (l:Nat) (hA:findLabel A l=none) (I:Nat→St→Prop) (h0:qW X A (qHA (fun s=>∃ n,I n s) (qR4 l (fun _=>False) Q)) st)
  (hpass:∀ n s,s.n=X.n→s.gl=X.gl→I n s→qW X B (qR4 l (fun s'=>∃ m,m<n∧I m s') Q) s):qW X (.scope (.seq A (.seq (.label l) B))) Q st:=by
 refine qPs l (rest:=.seq .skip B) (by simp [findLabel,hA]) I ?_ fun n s h1 h2 hI=>qf (q7 (qD (hpass n s h1 h2 hI)))
 refine qf (h0.mono fun e s he=>?_)
 cases e with
 | normal =>
  obtain⟨n,hI⟩:=he
  intro a w hR
  have hR1:=hR
  obtain⟨C,g,x1,x2,x3,x4,x5,x6⟩:=hR1
  refine qf (qAl (qD ((hpass n s x3 x4 hI).mono fun e s he=>?_))) a w hR
  cases e with
  | goto l' =>
   obtain⟨e1,m,_,hm⟩:=he
   exact⟨e1,m,hm⟩
  | normal=>exact he
  | exit id=>exact he
  | ret=>exact he
  | pan x=>exact he
 | goto l'=>exact he.2.elim
 | exit id=>exact he
 | ret=>exact he
 | pan x=>exact he
theorem qKj {g:Gh} {w:World} {v:Value} {z:Nat} (h:RV g w v (.sc (.slice none 0 0))):RV g w v (.sl z []):=by
 rw [h.sc_eq]
 exact .slN _ _ _
theorem FnE.args {P:Program} {gl:Nat→Option (List AV)} {f:FuncId} {D:Nm→Bool} {az az':List AV} {H:Nm→Option AO} {R E:Nm→AV→(Nm→Option AO)→Prop} (h:FnE P gl f D az H R E)
  (hl:az'.length=az.length) (ha:∀ (j:Nat) x',az[j]?=some x'→∃ x,az'[j]?=some x∧∀ g w v,RV g w v x→RV g w v x'):FnE P gl f D az' H R E:=by
 refine⟨h.1,fun root C w g args h1 h2 h3 h4 h5 h6 h7=>h.2 root C w g args h1 h2 h3 h4 h5 (by rw [h6,hl]) fun j v x' hv hx=>?_⟩
 obtain⟨x,e1,e2⟩:=ha j x' hx
 exact e2 _ _ _ (h7 j v x hv e1)
end Go.Hm
end
section
namespace Go.Hm
open Go Go.RowKit
section
variable {p:Prg} {f:Frm} {nf nk nc e b:Nat} {k:Blk} {P:Program} {gl:Nat→Option (List AV)} {c:FuncId} {D:Nm→Bool} {x y:AV} {cs:List (List AV)} {z z':Nat} {H:Nm→Option AO} {R E:Nm→AV→(Nm→Option AO)→Prop}
theorem qVA (hh:z6 p) (h:FOk p nf nk nc f e) (hk:p[b]?=some k) (hpar:k.parent=f.blk):∀ y∈zE p b,∃ q:Nat,y=q∧q<f.cells.length:=by
 intro y hy
 obtain⟨i,hi⟩:=List.getElem?_of_mem hy
 obtain⟨q,rfl,c,hc,_⟩:=qMH hh h hk hpar i y hi
 exact⟨q,rfl,by simpa [zg] using (gS hc).1⟩
theorem FnE.nil4 (h:FnE P gl c D [x,y,.sl z cs,.sl z' []] H R E):FnE P gl c D [x,y,.sl z cs,.sc (.slice none 0 0)] H R E :=
 h.args rfl fun j a ha=>match j,ha with
  | 0,ha=>⟨_,rfl,fun _ _ _ hv=>by simp at ha;subst ha;exact hv⟩
  | 1,ha=>⟨_,rfl,fun _ _ _ hv=>by simp at ha;subst ha;exact hv⟩
  | 2,ha=>⟨_,rfl,fun _ _ _ hv=>by simp at ha;subst ha;exact hv⟩
  | 3,ha=>⟨_,rfl,fun _ _ _ hv=>by simp at ha;subst ha;exact qKj hv⟩
  | j+4,ha=>by simp at ha
theorem FnE.nil34 (h:FnE P gl c D [x,y,.sl z [],.sl z' []] H R E):FnE P gl c D [x,y,.sc (.slice none 0 0),.sc (.slice none 0 0)] H R E :=
 h.args rfl fun j a ha=>match j,ha with
  | 0,ha=>⟨_,rfl,fun _ _ _ hv=>by simp at ha;subst ha;exact hv⟩
  | 1,ha=>⟨_,rfl,fun _ _ _ hv=>by simp at ha;subst ha;exact hv⟩
  | 2,ha=>⟨_,rfl,fun _ _ _ hv=>by simp at ha;subst ha;exact qKj hv⟩
  | 3,ha=>⟨_,rfl,fun _ _ _ hv=>by simp at ha;subst ha;exact qKj hv⟩
  | j+4,ha=>by simp at ha
end
section
variable {st:St} {N V m n:Nm} {d t:Nat} {D:Nm→Bool} {hp hp' H':Nm→Option AO}
theorem qLM {F:Nm→Option Nm} {y:AV} (hV:V.isU=true) (hNV:Nm.under V N=false) (hDN:∀ k,Nm.under N k=true→D k=true) (hDV:∀ k,Nm.under V k=true→D k=false) (hF:∀ k,(D k||Nm.under V k)=true→F k=some k)
  (hR:∀ k,(D k||Nm.under V k)=true→H' k=(jl (fun k=>D k||Nm.under V k) (hmv N V st.hp) k).map (AO.tr F)) :
  qBH D ((((st.move N V).call d (fun k=>D k||Nm.under V k) (jl (fun k=>D k||Nm.under V k) (st.move N V).hp) H').put (some d) y).move V N).hp st.hp:=by
 refine⟨fun k=>((mv N V k).bind F).bind (mv V N),fun k hk=>?_,fun k hk=>?_⟩
 ·by_cases hx:Nm.under N k=true
  ·have hu:Nm.under V (Nm.ren N V k)=true:=Nm.under_ren k hx
   show ((mv N V k).bind F).bind (mv V N)=some k
   rw [show mv N V k=some (Nm.ren N V k) by simp only [mv,hx,if_true],Option.bind_some,hF _ (by simp [hu]),Option.bind_some]
   simp only [mv,hu,if_true,Nm.ren_ren_back hx]
  ·simp only [Bool.not_eq_true] at hx
   have hv:Nm.under V k=false:=by
    cases h:Nm.under V k with
    | false=>rfl
    | true=>rw [hDV k h] at hk;cases hk
   show ((mv N V k).bind F).bind (mv V N)=some k
   rw [show mv N V k=some k by simp [mv,hx,hv],Option.bind_some,hF _ (by simp [hk]),Option.bind_some]
   simp [mv,hx,hv]
 ·have e2:∀ o:AO,((o.tr (mv N V)).tr F).tr (mv V N)=o.tr (fun k=>((mv N V k).bind F).bind (mv V N)):=by
   intro o
   rw [AO.tr_tr (mv N V),AO.tr_tr]
  by_cases hx:Nm.under N k=true
  ·have hu:Nm.under V (Nm.ren N V k)=true:=Nm.under_ren k hx
   have hb:=Nm.ren_ren_back (k1:=V) hx
   have hb2:mv V N (Nm.ren N V k)=some k:=by simp only [mv,hu,if_true,hb]
   have hb3:mv N V k=some (Nm.ren N V k):=by simp only [mv,hx,if_true]
   have hR1:=hR (Nm.ren N V k) (by simp [hu])
   simp only [jl,hu,Bool.or_true,if_true,hmv,hb,hb3] at hR1
   simp only [St.move,St.nm,St.put,St.call]
   simp only [hmv,hx,if_true,hb2,hu,Bool.or_true,Bool.true_or,hR1]
   cases st.hp k with
   | none=>rfl
   | some o=>simp only [Option.map_some];rw [← e2 o]
  ·simp only [Bool.not_eq_true] at hx
   have hv:Nm.under V k=false:=by
    cases h:Nm.under V k with
    | false=>rfl
    | true=>rw [hDV k h] at hk;cases hk
   have hR1:=hR k (by simp [hk])
   simp only [jl,hk,Bool.true_or,if_true,hmv,hx,hv,Bool.false_eq_true,if_false] at hR1
   simp only [St.move,St.nm,St.put,St.call]
   simp only [hmv,hx,hv,hk,Bool.false_eq_true,if_false,Bool.true_or,if_true,hR1]
   cases st.hp k with
   | none=>rfl
   | some o=>simp only [Option.map_some];rw [← e2 o]
section
variable {H:Nm→Option AO} {i j:Nat} {o:AO} {a:AV} {c:Option Nat} {sbs:List (Nm×Nm)}
theorem qBH.step {F:Nm→Option Nm} (h:qBH D hp H) (hF:∀ k,D k=true→F k=some k) (hh:∀ k,D k=true→hp' k=(hp k).map (AO.tr F)):qBH D hp' H:=by
 obtain⟨G,h1,h2⟩:=h
 refine⟨fun k=>(G k).bind F,fun k hk=>by simp [h1 k hk,hF k hk],fun k hk=>?_⟩
 rw [hh k hk,h2 k hk]
 cases H k with
 | none=>rfl
 | some o=>simp only [Option.map_some];rw [AO.tr_tr]
theorem qQg:qBH D H H:=⟨some,fun _ _=>rfl,fun k _=>by cases H k <;> simp [AO.tr_some]⟩
theorem qK9 (h:qBH D st.hp H):qBH D (st.put c a).hp H:=by cases c <;> exact h
theorem qHH (hD:∀ k,D k=true→k.sroot=false) (h:qBH D st.hp H):qBH D (st.setO (.s i) o).hp H :=
 h.step (F:=some) (fun _ _=>rfl) fun k hk=>by
  rw [qEI,if_neg (D_s hD hk i).1]
  cases st.hp k <;> simp [AO.tr_some]
theorem qHJ (hD:∀ k,D k=true→k.sroot=false) (h:qBH D st.hp H):qBH D (st.kill (.s i)).hp H :=
 h.step (F:=kl (.s i)) (fun k hk=>by simp [kl,(D_s hD hk i).2]) fun k hk=>by simp [(D_s hD hk i).2]
theorem qHI (hD:∀ k,D k=true→k.sroot=false) (h:qBH D st.hp H):qBH D (st.move (.s i) (.s j)).hp H :=
 h.step (F:=mv (.s i) (.s j)) (fun k hk=>by simp [mv,(D_s hD hk i).2,(D_s hD hk j).2]) fun k hk=>by
  rw [qEe,(D_s hD hk i).2,(D_s hD hk j).2]
  simp
theorem qKa (hD:∀ k,D k=true→k.sroot=false) (h:qBH D st.hp H):qBH D (st.apd i (some (.s j))).hp H :=
 h.step (F:=kl (.s i)) (fun k hk=>by simp [kl,(D_s hD hk i).2]) fun k hk=>by
  have h1:=(D_s hD hk i).2
  have h2:=(D_s hD hk j).1
  rw [qMT,if_neg (fun e=>h2 (sI e).symm)]
  simp [h1]
theorem qUH (hD:∀ k,D k=true→k.sroot=false) (hs:∀ q∈sbs,q.1.sroot=true) (h:qBH D hp H):qBH D (wS D sbs hp) H :=
 h.step (F:=zu D sbs) (fun k hk=>qDi hD hk hs) fun k hk=>by simp only [wS,hk,if_true]
end
end
section
variable {X:Ctx} {st:St} {K:St→Prop} {E:AV→St→Prop} {d f:Nat} {ty:TypeId} {pos:String} {aft:Array Edge} {g:Option (Nat×Bool)} {args:Array Operand} {Ts:Array TypeId} {az:List AV}
theorem qPr (D:Nm→Bool) (N V:Nm) {z len:Nat} {rows:List (List AV)} (hV:V.isU=true:=by rfl) (hN:N.isU=false:=by rfl) (hVe:X.ext V=false) (hDr:∀ k,D k=true→k.sroot=false) (hNV:Nm.under V N=false) (hDN:∀ k,Nm.under N k=true→D k=true) (hDV:∀ k,Nm.under V k=true→D k=false) (hs:(st.hp N).isSome=true)
  (hext:∀ k i j,X.ext (.u k i j)=true→D (.u k i j)=false∨st.hp (.u k i j)≠none) (hNd:Nm.under N (.s d)=false) (hrow:rows.map (fun r=>r.map (AV.tr (mv V N)))=rows) (hd:d<X.n:=by first|(simp;done)|fail)
  (ha:args.toList.map (ev (st.move N V))=az:=by simp [fx];first|done|rfl)
  (hF:FnE X.P X.gl f (fun k=>D k||Nm.under V k) az (jl (fun k=>D k||Nm.under V k) (hmv N V st.hp)) (fun r y H'=>(y=.hs r z 0 len∧H' r=some (.row z rows))∧qBH (fun k=>D k||Nm.under V k) H' (jl (fun k=>D k||Nm.under V k) (hmv N V st.hp))) noE)
  (h:∀ hp',qBH D hp' st.hp→hp' (.s d)=some (.row z rows)→K ((st.mutn N V d D hp').put (some d) (.hs (.s d) z 0 len))) :
  qK X ⟨some d,.call ⟨.value (.func f),args,Ts⟩,ty,pos,aft,g⟩ K E st:=by
 refine qOO N V (.inl hN) (.inr hVe) (yM V N (.inr hVe) (.inl hN) ?_)
 refine qDV (fun k=>D k||Nm.under V k) (fun k hk=>?_) (fun k i j he=>?_) hd ha hF ?_
 ·rcases Bool.or_eq_true _ _ ▸ hk with h|h
  ·exact hDr k h
  ·exact q9 hV h
 ·by_cases hD:D (.u k i j)=true
  ·right
   rcases hext k i j he with h|h
   ·rw [h] at hD;cases hD
   ·have hn:Nm.under N (.u k i j)=false:=by cases N <;> simp [Nm.isU,Nm.under] at *
    have hv:Nm.under V (.u k i j)=false:=by
     cases h:Nm.under V (.u k i j) with
     | false=>rfl
     | true=>rw [hDV _ h] at hD;cases hD
    simp only [jl,hD,Bool.true_or,if_true,St.move,St.nm,hmv,hn,hv,Bool.false_eq_true,if_false]
    cases hx:st.hp (.u k i j) with
    | none=>exact absurd hx h
    | some o=>simp
  ·simp only [Bool.not_eq_true] at hD
   by_cases hv:Nm.under V (.u k i j)=true
   ·have:Nm.u k i j=V:=by cases V <;> simp [Nm.isU,Nm.under] at * <;> exact⟨hv.1,hv.2.1,hv.2.2⟩
    rw [this,hVe] at he
    cases he
   ·simp only [Bool.not_eq_true] at hv
    exact .inl (by simp [hD,hv])
 ·rintro y H' ⟨⟨rfl,hr⟩,F,hF1,hF2⟩
  have hVd:Nm.under V (.s d)=false:=by cases V <;> simp [Nm.isU] at *
  obtain⟨q,hq,e⟩:=qLN (d:=d) (H':=H') (st:=st) (y:=.hs (.s d) z 0 len) hV hNV hDN hDV hDr hs (by simp [mv,hVd,hNd])
  have hS:=qLM (d:=d) (y:=.hs (.s d) z 0 len) (st:=st) hV hNV hDN hDV hF1 hF2
  have hq2:q.hp (.s d)=some (.row z rows):=by
   rw [hq]
   simp [hmv,hVd,hNd,hr,AO.tr,hrow]
  rw [← hq] at hS ⊢
  rw [e]
  exact h _ hS hq2
end
end Go.Hm
end
section
namespace Go.Hm
open Go Go.RowKit
section
variable {p:Prg} {m:Mch} {fs:List Frm} {f:Frm} {o:Int×Int}
theorem qRR (hM:MOk p m fs f) (ho:(jO p f.blk)[f.pc]?=some o) (h:o.1=16∨o.1=17):m.made≤150:=by
 have h1:=hM.made
 have h2:1≤jk p f:=by
  unfold jk
  rw [uD ho]
  simp only [zy]
  rw [if_neg (by omega),if_pos (by omega)]
  omega
 omega
variable {c x:Int} {w:Nat}
theorem qEc (h1:2≤c) (h2:c≤4) (hw:((c - 2) % 3).toNat=w):yq p m fs f (c,x)=zf m fs f (c,x) w 2:=by
 rw [qC5 (o:=(c,x)) h1 (by simp only;omega) (by simp only;omega) (by simp only;omega),show wE p f (c,x)=2 by simp only [wE];rw [if_pos h2],← hw]
theorem qI3 (h1:5≤c) (h2:c≤7) (hw:((c - 2) % 3).toNat=w):yq p m fs f (c,x)=zf m fs f (c,x) w (if x<(qE p f.blk).length then 2 else 3):=by
 rw [qC5 (o:=(c,x)) (by simp only;omega) (by simp only;omega) (by simp only;omega) (by simp only;omega),show wE p f (c,x)=if x<(qE p f.blk).length then 2 else 3 by simp only [wE];rw [if_neg (by omega),if_pos h2],← hw]
theorem qEd (h1:9≤c) (h2:c≤13) (h3:c≠11) (hw:((c - 2) % 3).toNat=w):yq p m fs f (c,x)=zf m fs f (c,x) w 4:=by
 rw [qC5 (o:=(c,x)) (by simp only;omega) h2 (by simp only;omega) h3,show wE p f (c,x)=4 by simp only [wE];rw [if_neg (by omega),if_neg (by omega)],← hw]
end
section
variable {p:Prg} {m:Mch} {fs:List Frm} {f:Frm} {o:Int×Int} {b n:Nat} {v:Val} {k:Blk}
theorem qK5 (hP:ValP p):(q8 p 0).params=[]:=by
 have hl:=hP.sh.len
 obtain⟨k,hk⟩:∃ k,p[0]?=some k:=⟨_,gE (by omega)⟩
 have:=hP.sh.head 0 k hk
 unfold jJ at this
 rw [if_pos rfl] at this
 simp only [q8,hk]
 exact List.eq_nil_of_length_eq_zero this.2.2
theorem qFL {cs:List Nat} {vs:List Val}:(qk p m b cs vs).frames≠[]:=by
 unfold qk
 split
 ·split <;> simp
 ·simp
theorem qNi (hP:ValP p):¬ (qL p n).ended:=by
 rintro (h|h)
 ·exact qFL h
 ·exact h qFM
theorem qIb (h:fs≠[]):(zD m fs v).frames≠[]:=by
 unfold zD
 split
 ·simp
 ·rename_i e
  exact absurd (List.getLast?_eq_none_iff.1 e) h
theorem qKc {s:Slt}:(setS m fs f o s).frames≠[]:=by
 unfold setS
 repeat' split
 all_goals simp [Mch.top]
theorem qUU (hc:0≤o.1∧o.1≤20) (h:o.1=20→fs≠[]):(yq p m fs f o).frames≠[]:=by
 have hT:∀ g:Frm,(m.top fs g).frames≠[]:=fun g=>by simp [Mch.top]
 have hS:∀ (g:Frm) (e:Int),(m.stop fs g e).frames≠[]:=fun g e=>by simp [Mch.stop,Mch.top]
 unfold yq
 split
 ·unfold vq
  split
  ·exact hS _ _
  ·simp [Mch.top]
 ·split
  ·split
   ·unfold jw
    repeat' split
    all_goals first|exact hT _|exact hS _ _
   ·split
    ·exact qKc
    ·unfold qFA
     split
     ·exact qKc
     ·exact hS _ _
  ·unfold zI
   repeat' split
   all_goals first
    | exact hT _
    | exact qFL
    | (unfold qIz;dsimp only;split <;> first|exact hT _|exact hS _ _)
    | (unfold uo;dsimp only;repeat' split
       all_goals first|exact hS _ _|exact qFL)
    | (unfold wK;dsimp only;repeat' split
       all_goals first|exact hT _|exact hS _ _)
    | (simp [Mch.top];done)
    | exact qIb (h (by omega))
end
end Go.Hm
end
