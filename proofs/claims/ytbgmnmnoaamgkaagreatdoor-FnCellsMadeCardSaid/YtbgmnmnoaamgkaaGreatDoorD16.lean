/-
  Own texts, joined by mkclaim.py: Hm155, Hm159, Hm160, Hm161, Hm162, Hm163, Hm164, Hm165.
-/
import Derived.Test.YtbgmnmnoaamgkaaGreatDoorD10
import Derived.Test.YtbgmnmnoaamgkaaGreatDoorD15
import Derived.Test.YtbgmnmnoaamgkaaGreatDoorD09
import Derived.Test.YtbgmnmnoaamgkaaGreatDoorD14
import Derived.Test.YtbgmnmnoaamgkaaGreatDoorD12
import Derived.Test.YtbgmnmnoaamgkaaGreatDoorD11
import Derived.ScopeJumps
set_option linter.unusedSimpArgs false
set_option linter.unusedVariables false
set_option maxRecDepth 100000
set_option maxHeartbeats 4000000

section
namespace Go.Hm
open Go Go.RowKit
theorem txS {k t a b:Int} (hk:0≤k∧k≤11:=by omega) (ht:0≤t∧t≤99:=by omega) (ha:0≤a∧a≤99:=by omega) (hb:(0≤b∧b≤99)∨(k=5∧b=-1):=by omega)
  (hto:k=7∨k=8→t=0∧b=0:=by omega) (hb0:k=0∨k=1∨k=3∨k=4→b=0:=by omega) (ha0:9≤k→a=0∧b=0:=by omega):TxtS ⟨k,t,a,b⟩:=by
 refine⟨hk,?_,hto,hb0,ha0⟩
 intro n hn
 simp only [qPX] at hn
 split at hn
 ·simp at hn;omega
 ·split at hn
  ·simp at hn;omega
  ·split at hn
   ·split at hn
    ·simp at hn;omega
    ·simp at hn;omega
   ·split at hn
    ·simp at hn;omega
    ·simp at hn;omega
theorem qXP {x:Stm} (h:TxtS x):∀ s∈[x],TxtS s:=by simpa using h
theorem qYN {x y:Stm} (h:TxtS x) (h2:TxtS y):∀ s∈[x,y],TxtS s:=by simpa using ⟨h,h2⟩
theorem qK3 {L M:List Stm} (h:∀ s∈L,TxtS s) (h2:∀ s∈M,TxtS s):∀ s∈L++M,TxtS s:=fun s hs=>by
 rcases List.mem_append.1 hs with hs|hs
 ·exact h s hs
 ·exact h2 s hs
theorem qCC {L:List Stm} {x:Stm} (h:∀ s∈L,TxtS s) (h2:TxtS x):∀ s∈L++[x],TxtS s:=qK3 h (qXP h2)
theorem qK2 {L M:List Stm} {a:Nat} (h:∀ s∈L,TxtS s) (h2:∀ s∈M,TxtS s):∀ s∈L.take a++M++L.drop a,TxtS s :=
 qK3 (qK3 (fun s hs=>h s (List.mem_of_mem_take hs)) h2) fun s hs=>h s (List.mem_of_mem_drop hs)
def qYL (k:Blk):Prop:=(∀ s∈k.body,TxtS s)∧qFQ k.params∧(¬ k.kind=1→k.params=[])
structure GenT (p:Prg):Prop extends GenP p where
 txt:TxtP p
 parT:∀ k∈p,k.params.length≤1
 lenT:p.length≤7
theorem GenT.one {k:Blk} (h:k.parent=-1) (hk:k.kind=0) (hp:k.params.length≤1) (hb:k.body.length≤14) (hT:qYL k):GenT [k]:=by
 refine⟨GenP.one h (by omega) hb,⟨⟨k.body,[],?_⟩,fun i q hq hi=>?_,fun q hq=>?_⟩,by simpa using hp,by simp⟩
 ·have:=hT.2.2 (by omega)
  obtain⟨a,b,c,d⟩:=k
  simp only at h hk this
  subst h hk this
  rfl
 ·rw [List.getElem?_singleton,if_neg (by omega)] at hq
  cases hq
 ·simp at hq
  subst hq
  exact hT.1
theorem GenT.add {p:Prg} {k:Blk} (h:GenT p) (hl:p.length≤6) (hp:0≤k.parent∧k.parent<p.length) (hk:k.kind=1∨k.kind=2) (h1:k.params.length≤1) (h2:k.body.length≤14) (hT:qYL k):GenT (p++[k]):=by
 refine⟨GenP.add h.toGenP (by omega) hp (by omega) h2,⟨?_,fun i q hq hi=>?_,fun q hq=>?_⟩,fun q hq=>?_,by simp;omega⟩
 ·obtain⟨b,ks,e⟩:=h.txt.head
  exact⟨b,ks++[k],by rw [e];rfl⟩
 ·rw [List.getElem?_append] at hq
  split at hq
  ·exact h.txt.heads i q hq hi
  ·have:q=k:=by
    have:=gM hq
    simpa using this
   subst this
   exact⟨hk,by omega,hT.2.1,fun e=>hT.2.2 (by omega)⟩
 ·rcases List.mem_append.1 hq with hq|hq
  ·exact h.txt.stms q hq
  ·simp at hq;subst hq;exact hT.1
 ·rcases List.mem_append.1 hq with hq|hq
  ·exact h.parT q hq
  ·simp at hq;subst hq;exact h1
theorem qFg {p:Prg} {i c:Nat} {L:List Stm} {q:Blk} (h:(setBody p i L)[c]?=some q):∃ r,p[c]?=some r∧q.kind=r.kind∧q.parent=r.parent∧q.params=r.params∧(q.body=r.body∨q.body=L):=by
 cases hr:p[c]? with
 | none =>
  have:=(gS h).1
  rw [z8] at this
  rw [gE this] at hr
  cases hr
 | some r =>
  rw [jM hr] at h
  refine⟨r,rfl,?_⟩
  split at h
  ·obtain rfl:=sI h
   exact⟨rfl,rfl,rfl,.inr rfl⟩
  ·obtain rfl:=sI h
   exact⟨rfl,rfl,rfl,.inl rfl⟩
theorem qIA {p q:Prg} (h:TxtP p) (hl:q.length=p.length) (hs:∀ (c:Nat) k,q[c]?=some k→∃ r,p[c]?=some r∧k.kind=r.kind∧k.parent=r.parent∧k.params=r.params∧∀ s∈k.body,TxtS s):TxtP q:=by
 obtain⟨b,ks,e⟩:=h.head
 have hne:0<q.length:=by rw [hl,e];simp
 refine⟨?_,fun i k hk hi=>?_,fun k hk=>?_⟩
 ·obtain⟨k,qs,rfl⟩:∃ k qs,q=k::qs:=by cases q with
   | nil=>simp at hne
   | cons k qs=>exact⟨k,qs,rfl⟩
  obtain⟨r,hr,e1,e2,e3,_⟩:=hs 0 k rfl
  rw [e] at hr
  obtain rfl:=sI hr
  obtain⟨a,b,c,d⟩:=k
  simp only at e1 e2 e3
  subst e1 e2 e3
  exact⟨d,qs,rfl⟩
 ·obtain⟨r,hr,e1,e2,e3,_⟩:=hs i k hk
  obtain⟨h1,h2,h3,h4⟩:=h.heads i r hr hi
  exact⟨by rw [e1];exact h1,by rw [e2];exact h2,by rw [e3];exact h3,by rw [e1,e3];exact h4⟩
 ·obtain⟨i,hi⟩:=List.getElem?_of_mem hk
  obtain⟨r,_,_,_,_,h5⟩:=hs i k hi
  exact h5
theorem GenT.setBody {p:Prg} {i:Nat} {L:List Stm} (h:GenT p) (hL:L.length≤14) (hT:∀ s∈L,TxtS s):GenT (setBody p i L):=by
 refine⟨GenP.setBody h.toGenP hL,qIA h.txt z8 fun c k hk=>?_,fun k hk=>?_,by rw [z8];exact h.lenT⟩
 ·obtain⟨r,hr,e1,e2,e3,e4⟩:=qFg hk
  refine⟨r,hr,e1,e2,e3,?_⟩
  rcases e4 with e|e <;> rw [e]
  ·exact h.txt.stms r (gM hr)
  ·exact hT
 ·obtain⟨r,hr,h1,_⟩:=ve hk
  rw [h1];exact h.parT r hr
theorem GenT.bare {p:Prg} (h:GenT p):GenT (qAf p):=by
 refine⟨GenP.bare h.toGenP,qIA h.txt (by simp [qAf]) fun c k hk=>?_,fun k hk=>?_,by simpa [qAf] using h.lenT⟩
 ·simp only [qAf,List.getElem?_map] at hk
  obtain⟨r,hr,rfl⟩:=Option.map_eq_some_iff.1 hk
  exact⟨r,hr,rfl,rfl,rfl,fun s hs=>h.txt.stms r (gM hr) s (List.mem_filter.1 hs).1⟩
 ·obtain⟨r,hr,rfl⟩:=List.mem_map.1 hk
  exact h.parT r hr
theorem w5 {l:List (Nm×Nat)} {st:St} {m:Nm}:(St.setNils l st).hp m=match l.find? (fun p=>decide (p.1=m)) with
  | some p=>some (.row p.2 [])
  | none=>st.hp m:=by
 induction l with
 | nil=>rfl
 | cons p l ih =>
  rw [qFf]
  by_cases e:p.1=m
  ·simp [St.setO,e]
  ·have e2:¬ m=p.1:=fun h=>e h.symm
   simp only [St.setO,e2,if_false,ih,List.find?_cons,e,decide_false]
end Go.Hm
end
section
namespace Go.Hm
open Go Go.RowKit
section
variable {hp hp':Nm→Option AO} {p:Prg} {n:Nm} {m m':Mch} {dp dp':Nat} {fs L:List Frm} {f g:Frm} {o:Int×Int} {s:Slt}
@[simp] theorem kG:(m.top fs f).cells=m.cells:=rfl
@[simp] theorem qGy:(m.top fs f).globals=m.globals:=rfl
@[simp] theorem ud:(m.top fs f).funs=m.funs:=rfl
@[simp] theorem qGz:(m.top fs f).classes=m.classes:=rfl
@[simp] theorem qBl:(m.top fs f).made=m.made:=rfl
@[simp] theorem top_deep:(m.top fs f).deep=m.deep:=rfl
@[simp] theorem qPu:(m.top fs f).out=m.out:=rfl
@[simp] theorem top_trace:(m.top fs f).trace=m.trace:=rfl
@[simp] theorem top_en:(m.top fs f).en=m.en:=rfl
@[simp] theorem top_left:(m.top fs f).left=m.left:=rfl
@[simp] theorem qJD:(m.top fs f).frames=fs++[f]:=rfl
@[simp] theorem stop_cells {e:Int}:(m.stop fs f e).cells=m.cells:=rfl
@[simp] theorem stop_globals {e:Int}:(m.stop fs f e).globals=m.globals:=rfl
@[simp] theorem stop_funs {e:Int}:(m.stop fs f e).funs=m.funs:=rfl
@[simp] theorem stop_classes {e:Int}:(m.stop fs f e).classes=m.classes:=rfl
@[simp] theorem stop_made {e:Int}:(m.stop fs f e).made=m.made:=rfl
@[simp] theorem stop_deep {e:Int}:(m.stop fs f e).deep=m.deep:=rfl
@[simp] theorem stop_out {e:Int}:(m.stop fs f e).out=m.out:=rfl
@[simp] theorem stop_trace {e:Int}:(m.stop fs f e).trace=m.trace:=rfl
@[simp] theorem stop_left {e:Int}:(m.stop fs f e).left=m.left:=rfl
@[simp] theorem stop_en {e:Int}:(m.stop fs f e).en=e:=rfl
@[simp] theorem stop_frames {e:Int}:(m.stop fs f e).frames=fs++[f]:=rfl
theorem zX {d:Nat} {v:Val} (hi:L[fs.length]?=some f):(qa (qh p (.u 2 0 0) L) fs.length 6 [.hs (.s d) 2 0 (f.stack.length+1)]).map (fun r=>r.map (AV.tr (mv (.s d) (.c (.u 2 0 0) fs.length 6))))=qh p (.u 2 0 0) (L.set fs.length (f.push v)):=by
 have hl:=(gS hi).1
 apply List.ext_getElem?
 intro j
 simp only [qa,List.getElem?_map,List.getElem?_modify,zT,List.getElem?_set]
 by_cases e:fs.length=j
 ·subst e
  rw [hi]
  simp [z9,Frm.push,vN,hl]
 ·simp only [e,if_false]
  cases hj:L[j]? with
  | none=>rfl
  | some g =>
   have e':¬ j=fs.length:=fun h=>e h.symm
   simp [z9,e,e']
theorem OwnX.topF (h:OwnX hp p n m dp) (hm:m.frames=fs++[f]):∃ (L:List Frm) (j:List Val),(∃ js,L=fs++f::js)∧L[fs.length]?=some f∧fs.length<L.length∧hp n=some (.row 7 (qh p n L))∧hp (.c n fs.length 3)=some (.row 3 (qN f.fasts))∧hp (.c n fs.length 5)=some (.row 3 (qN f.names))∧hp (.c n fs.length 6)=some (.row 2 (qt (f.stack++j))):=by
 obtain⟨js,hj⟩:=h.fr.top
 have hf:m.frames[fs.length]?=some f:=by simp [hm]
 obtain⟨j,hs⟩:=h.fr.stack _ f hf
 refine⟨m.frames++js,j,⟨js,by simp [hm]⟩,by simp [hm],by simp [hm],hj,h.fr.fasts _ f hf,h.fr.names _ f hf,hs⟩
theorem OwnX.reT (h:OwnX hp p n m dp) (hm:m.frames=fs++[f]) (hL:∃ js,L=fs++f::js) (hm':m'.frames=fs++[g])
  (h8:hp' n=some (.row 7 (qh p n (L.set fs.length g))))
  (h9:hp' (.c n fs.length 3)=some (.row 3 (qN g.fasts)))
  (hA:hp' (.c n fs.length 5)=some (.row 3 (qN g.names)))
  (hB:∃ j,hp' (.c n fs.length 6)=some (.row 2 (qt (g.stack++j))))
  (h0:hp' Xn=some (.row 13 [jR p n m' dp']):=by simp [h.top,jR])
  (h1:hp' (.c Xn 0 1)=some (.row 1 (yV qOo p)):=by simp [h.caps])
  (h2:hp' (.c Xn 0 2)=some (.row 3 (qN m'.cells)):=by simp [h.cells])
  (h3:hp' (.c Xn 0 3)=some (.row 3 (qN m'.globals)):=by simp [h.glob])
  (h4:hp' (.c Xn 0 4)=some (.row 2 (y4 m'.funs)):=by simp [h.funs])
  (h5:hp' (.c Xn 0 5)=some (.row 1 (jX m'.classes)):=by simp [h.clss])
  (h6:hp' (.c Xn 0 9)=some (.row 1 (qJ m'.out)):=by simp [h.out])
  (h7:hp' (.c Xn 0 10)=some (.row 2 (jq m'.trace)):=by simp [h.trc])
  (hC:∀ (i:Nat) (f':Frm),i<fs.length→hp (.c n i 3)=some (.row 3 (qN f'.fasts))→hp' (.c n i 3)=some (.row 3 (qN f'.fasts)):=by intro i f' hi hf;simp [hf,Nat.ne_of_lt hi,Nat.ne_of_gt hi])
  (hD:∀ (i:Nat) (f':Frm),i<fs.length→hp (.c n i 5)=some (.row 3 (qN f'.names))→hp' (.c n i 5)=some (.row 3 (qN f'.names)):=by intro i f' hi hf;simp [hf,Nat.ne_of_lt hi,Nat.ne_of_gt hi])
  (hE:∀ (i:Nat) (f':Frm) j,i<fs.length→hp (.c n i 6)=some (.row 2 (qt (f'.stack++j)))→hp' (.c n i 6)=some (.row 2 (qt (f'.stack++j))):=by intro i f' j hi hf;simp [hf,Nat.ne_of_lt hi,Nat.ne_of_gt hi]):OwnX hp' p n m' dp':=by
 obtain⟨js,rfl⟩:=hL
 have hs:(fs++f::js).set fs.length g=m'.frames++js:=by rw [hm'];simp
 rw [hs] at h8
 have key:∀ (i:Nat) f',m'.frames[i]?=some f'→(i=fs.length∧f'=g)∨(i<fs.length∧m.frames[i]?=some f'):=by
  intro i f' hf
  rw [hm'] at hf
  rcases Nat.lt_trichotomy i fs.length with e|e|e
  ·rw [List.getElem?_append_left e] at hf
   exact .inr ⟨e,by rw [hm,List.getElem?_append_left e];exact hf⟩
  ·subst e
   simp at hf
   exact .inl ⟨rfl,hf.symm⟩
  ·rw [List.getElem?_eq_none (by simp;omega)] at hf
   cases hf
 refine⟨h0,h1,h2,h3,h4,h5,h6,h7,⟨js,h8⟩,fun i f' hf=>?_,fun i f' hf=>?_,fun i f' hf=>?_⟩
 ·rcases key i f' hf with⟨rfl,rfl⟩|⟨hi,hf⟩
  ·exact h9
  ·exact hC i f' hi (h.fr.fasts i f' hf)
 ·rcases key i f' hf with⟨rfl,rfl⟩|⟨hi,hf⟩
  ·exact hA
  ·exact hD i f' hi (h.fr.names i f' hf)
 ·rcases key i f' hf with⟨rfl,rfl⟩|⟨hi,hf⟩
  ·exact hB
  ·exact (h.fr.stack i f' hf).imp fun j hj=>hE i f' j hi hj
def slN (n:Nm) (i:Nat) (o:Int×Int):Nm:=if o.1≤4 then .c n i 3 else if o.1≤7 then .c Xn 0 2 else if o.1≤10 then .c Xn 0 3 else .c n i 5
def slI (f:Frm) (o:Int×Int):Nat:=if o.1≤4 then o.2.toNat else if o.1≤7 then f.cells.getD o.2.toNat 0 else o.2.toNat
def slL (m:Mch) (f:Frm) (o:Int×Int):List Slt:=if o.1≤4 then f.fasts else if o.1≤7 then m.cells else if o.1≤10 then m.globals else f.names
theorem qR8:qA5 m f o=yn (slL m f o) (slI f o):=by
 unfold qA5 slL slI
 repeat' split
 all_goals rfl
theorem OwnX.slot (h:OwnX hp p n (m.top fs f) dp):hp (slN n fs.length o)=some (.row 3 (qN (slL m f o))):=by
 have hf:(m.top fs f).frames[fs.length]?=some f:=by simp [Mch.top]
 unfold slN slL
 repeat' split
 ·exact h.fr.fasts _ f hf
 ·exact h.cells
 ·exact h.glob
 ·exact h.fr.names _ f hf
theorem OwnX.setS (h:OwnX hp p n (m.top fs f) dp) (hn:n=.u 2 0 0) (hh:∀ k,D12 k=true→hp' k=if k=slN n fs.length o then some (.row 3 (qN ((slL m f o).set (slI f o) s))) else hp k):OwnX hp' p n (Hm.setS m fs f o s) dp:=by
 subst hn
 have hf:(m.top fs f).frames[fs.length]?=some f:=by simp [Mch.top]
 have hX:∀ j,D12 (.c Xn 0 j)=true:=fun j=>by simp [Nm.under]
 have hF:∀ i j,D12 (.c (.u 2 0 0) i j)=true:=fun i j=>by simp [Nm.under]
 have h00:D12 Xn=true:=by simp [Nm.under]
 have h20:D12 (.u 2 0 0)=true:=by simp [Nm.under]
 have fr:∀ {g:Frm} (js:List Frm),g.blk=f.blk→g.pc=f.pc→g.cells=f.cells→g.fasts.length=f.fasts.length→g.stack=f.stack→qh p (.u 2 0 0) (fs++[g]++js)=qh p (.u 2 0 0) (fs++[f]++js):=by
  intro g js e1 e2 e3 e4 e5
  apply List.ext_getElem?
  intro i
  rw [zT,zT]
  rcases Nat.lt_trichotomy i fs.length with e|e|e
  ·simp only [List.append_assoc,List.getElem?_append_left e]
  ·subst e
   simp [z9,vN,e1,e2,e3,e4,e5]
  ·rw [List.getElem?_append_right (by simp;omega),List.getElem?_append_right (by simp;omega)]
   simp
 have key:∀ {g:Frm} (i:Nat) f',(fs++[g])[i]?=some f'→(i=fs.length∧f'=g)∨(i<fs.length∧(m.top fs f).frames[i]?=some f'):=by
  intro g i f' hf
  rcases Nat.lt_trichotomy i fs.length with e|e|e
  ·rw [List.getElem?_append_left e] at hf
   exact .inr ⟨e,by simp only [Mch.top];rw [List.getElem?_append_left e];exact hf⟩
  ·subst e
   simp at hf
   exact .inl ⟨rfl,hf.symm⟩
  ·rw [List.getElem?_eq_none (by simp;omega)] at hf
   cases hf
 have hlc:∀ {l:List Slt} {i:Nat},(l.set i s).length=l.length:=by intros;simp
 unfold Hm.setS
 by_cases c4:o.1≤4
 ·have e1:slN (.u 2 0 0) fs.length o=.c (.u 2 0 0) fs.length 3:=by simp [slN,c4]
  have e2:slL m f o=f.fasts:=by simp [slL,c4]
  have e3:slI f o=o.2.toNat:=by simp [slI,c4]
  rw [e1,e2,e3] at hh
  rw [if_pos c4]
  refine⟨?_,?_,?_,?_,?_,?_,?_,?_,?_,fun i f' hf'=>?_,fun i f' hf'=>?_,fun i f' hf'=>?_⟩
  ·rw [hh _ h00,h.top];simp [jR,Mch.top]
  ·rw [hh _ (hX 1),h.caps];simp
  ·rw [hh _ (hX 2),h.cells];simp [Mch.top]
  ·rw [hh _ (hX 3),h.glob];simp [Mch.top]
  ·rw [hh _ (hX 4),h.funs];simp [Mch.top]
  ·rw [hh _ (hX 5),h.clss];simp [Mch.top]
  ·rw [hh _ (hX 9),h.out];simp [Mch.top]
  ·rw [hh _ (hX 10),h.trc];simp [Mch.top]
  ·obtain⟨js,hj⟩:=h.fr.top
   refine⟨js,?_⟩
   have:=fr (g:={ f with fasts:=f.fasts.set o.2.toNat s }) js rfl rfl rfl (by simp) rfl
   rw [hh _ h20,hj]
   simp only [Mch.top] at this ⊢
   rw [this]
   simp
  ·rcases key i f' hf' with⟨rfl,rfl⟩|⟨hi,hf'⟩
   ·rw [hh _ (hF _ _)];simp
   ·rw [hh _ (hF _ _),h.fr.fasts i f' hf'];simp [Nat.ne_of_lt hi]
  ·rcases key i f' hf' with⟨rfl,rfl⟩|⟨hi,hf'⟩
   ·rw [hh _ (hF _ _),h.fr.names _ f hf];simp
   ·rw [hh _ (hF _ _),h.fr.names i f' hf'];simp
  ·rcases key i f' hf' with⟨rfl,rfl⟩|⟨hi,hf'⟩
   ·exact (h.fr.stack _ f hf).imp fun j hj=>by rw [hh _ (hF _ _),hj];simp
   ·exact (h.fr.stack i f' hf').imp fun j hj=>by rw [hh _ (hF _ _),hj];simp
 rw [if_neg c4]
 by_cases c7:o.1≤7
 ·have e1:slN (.u 2 0 0) fs.length o=.c Xn 0 2:=by simp [slN,c4,c7]
  have e2:slL m f o=m.cells:=by simp [slL,c4,c7]
  have e3:slI f o=f.cells.getD o.2.toNat 0:=by simp [slI,c4,c7]
  rw [e1,e2,e3] at hh
  rw [if_pos c7]
  refine⟨?_,?_,?_,?_,?_,?_,?_,?_,?_,fun i f' hf'=>?_,fun i f' hf'=>?_,fun i f' hf'=>?_⟩
  ·rw [hh _ h00,h.top];simp [jR,Mch.top]
  ·rw [hh _ (hX 1),h.caps];simp
  ·rw [hh _ (hX 2)];simp
  ·rw [hh _ (hX 3),h.glob];simp [Mch.top]
  ·rw [hh _ (hX 4),h.funs];simp [Mch.top]
  ·rw [hh _ (hX 5),h.clss];simp [Mch.top]
  ·rw [hh _ (hX 9),h.out];simp [Mch.top]
  ·rw [hh _ (hX 10),h.trc];simp [Mch.top]
  ·exact h.fr.top.imp fun js hj=>by rw [hh _ h20,hj];simp [Mch.top]
  ·rw [hh _ (hF _ _),h.fr.fasts i f' hf'];simp
  ·rw [hh _ (hF _ _),h.fr.names i f' hf'];simp
  ·exact (h.fr.stack i f' hf').imp fun j hj=>by rw [hh _ (hF _ _),hj];simp
 rw [if_neg c7]
 by_cases c10:o.1≤10
 ·have e1:slN (.u 2 0 0) fs.length o=.c Xn 0 3:=by simp [slN,c4,c7,c10]
  have e2:slL m f o=m.globals:=by simp [slL,c4,c7,c10]
  have e3:slI f o=o.2.toNat:=by simp [slI,c4,c7]
  rw [e1,e2,e3] at hh
  rw [if_pos c10]
  refine⟨?_,?_,?_,?_,?_,?_,?_,?_,?_,fun i f' hf'=>?_,fun i f' hf'=>?_,fun i f' hf'=>?_⟩
  ·rw [hh _ h00,h.top];simp [jR,Mch.top]
  ·rw [hh _ (hX 1),h.caps];simp
  ·rw [hh _ (hX 2),h.cells];simp [Mch.top]
  ·rw [hh _ (hX 3)];simp
  ·rw [hh _ (hX 4),h.funs];simp [Mch.top]
  ·rw [hh _ (hX 5),h.clss];simp [Mch.top]
  ·rw [hh _ (hX 9),h.out];simp [Mch.top]
  ·rw [hh _ (hX 10),h.trc];simp [Mch.top]
  ·exact h.fr.top.imp fun js hj=>by rw [hh _ h20,hj];simp [Mch.top]
  ·rw [hh _ (hF _ _),h.fr.fasts i f' hf'];simp
  ·rw [hh _ (hF _ _),h.fr.names i f' hf'];simp
  ·exact (h.fr.stack i f' hf').imp fun j hj=>by rw [hh _ (hF _ _),hj];simp
 ·have e1:slN (.u 2 0 0) fs.length o=.c (.u 2 0 0) fs.length 5:=by simp [slN,c4,c7,c10]
  have e2:slL m f o=f.names:=by simp [slL,c4,c7,c10]
  have e3:slI f o=o.2.toNat:=by simp [slI,c4,c7]
  rw [e1,e2,e3] at hh
  rw [if_neg c10]
  refine⟨?_,?_,?_,?_,?_,?_,?_,?_,?_,fun i f' hf'=>?_,fun i f' hf'=>?_,fun i f' hf'=>?_⟩
  ·rw [hh _ h00,h.top];simp [jR,Mch.top]
  ·rw [hh _ (hX 1),h.caps];simp
  ·rw [hh _ (hX 2),h.cells];simp [Mch.top]
  ·rw [hh _ (hX 3),h.glob];simp [Mch.top]
  ·rw [hh _ (hX 4),h.funs];simp [Mch.top]
  ·rw [hh _ (hX 5),h.clss];simp [Mch.top]
  ·rw [hh _ (hX 9),h.out];simp [Mch.top]
  ·rw [hh _ (hX 10),h.trc];simp [Mch.top]
  ·obtain⟨js,hj⟩:=h.fr.top
   refine⟨js,?_⟩
   have:=fr (g:={ f with names:=f.names.set o.2.toNat s }) js rfl rfl rfl rfl rfl
   rw [hh _ h20,hj]
   simp only [Mch.top] at this ⊢
   rw [this]
   simp
  ·rcases key i f' hf' with⟨rfl,rfl⟩|⟨hi,hf'⟩
   ·rw [hh _ (hF _ _),h.fr.fasts _ f hf];simp
   ·rw [hh _ (hF _ _),h.fr.fasts i f' hf'];simp
  ·rcases key i f' hf' with⟨rfl,rfl⟩|⟨hi,hf'⟩
   ·rw [hh _ (hF _ _)];simp
   ·rw [hh _ (hF _ _),h.fr.names i f' hf'];simp [Nat.ne_of_lt hi]
  ·rcases key i f' hf' with⟨rfl,rfl⟩|⟨hi,hf'⟩
   ·exact (h.fr.stack _ f hf).imp fun j hj=>by rw [hh _ (hF _ _),hj];simp
   ·exact (h.fr.stack i f' hf').imp fun j hj=>by rw [hh _ (hF _ _),hj];simp
theorem OwnX.mvF {n':Nm} (h:OwnX hp p n m dp) (hn:(n=.c Xn 0 6∧n'=.u 2 0 0)∨(n=.u 2 0 0∧n'=.c Xn 0 6)):OwnX (hmv n n' hp) p n' m dp:=by
 rcases hn with⟨rfl,rfl⟩|⟨rfl,rfl⟩ <;>
 ·refine⟨?_,?_,?_,?_,?_,?_,?_,?_,?_,fun i f' hf'=>?_,fun i f' hf'=>?_,fun i f' hf'=>?_⟩
  ·simp [hmv,Nm.under,mv,h.top,AO.tr,jR,AV.tr,Nm.ren,jL]
  ·simp [hmv,Nm.under,h.caps,AO.tr]
  ·simp [hmv,Nm.under,h.cells,AO.tr]
  ·simp [hmv,Nm.under,h.glob,AO.tr]
  ·simp [hmv,Nm.under,h.funs,AO.tr]
  ·simp [hmv,Nm.under,h.clss,AO.tr]
  ·simp [hmv,Nm.under,h.out,AO.tr]
  ·simp [hmv,Nm.under,h.trc,AO.tr]
  ·refine h.fr.top.imp fun js hj=>?_
   simp [hmv,Nm.under,mv,Nm.ren,hj,AO.tr]
   exact qDh fun i j _=>by simp [mv,Nm.under,Nm.ren]
  ·simp [hmv,Nm.under,mv,Nm.ren,h.fr.fasts i f' hf',AO.tr]
  ·simp [hmv,Nm.under,mv,Nm.ren,h.fr.names i f' hf',AO.tr]
  ·exact (h.fr.stack i f' hf').imp fun j hj=>by simp [hmv,Nm.under,mv,Nm.ren,hj,AO.tr]
end
theorem Nm.ren_ren_back {k0 k1:Nm}:∀ {k:Nm},Nm.under k0 k=true→Nm.ren k1 k0 (Nm.ren k0 k1 k)=k:=by
 have base:∀ k:Nm,k=k0→Nm.ren k1 k0 (Nm.ren k0 k1 k)=k:=by
  intro k e
  have h1:Nm.ren k0 k1 k=k1:=by cases k <;> simp [Nm.ren,e]
  rw [h1,e]
  cases k1 <;> simp [Nm.ren]
 intro k
 induction k with
 | s d=>intro h;simp [Nm.under] at h;exact base _ h
 | u a b d=>intro h;simp [Nm.under] at h;exact base _ h
 | c q i j ih =>
  intro h
  by_cases hq:Nm.c q i j=k0
  ·exact base _ hq
  ·simp [Nm.under,hq] at h
   have h1:Nm.ren k0 k1 (.c q i j)=.c (Nm.ren k0 k1 q) i j:=by simp [Nm.ren,hq]
   have h2:=Nm.not_under_c (i:=i) (j:=j) (Nm.under_ren (k1:=k1) q h)
   rw [h1]
   simp only [Nm.ren,h2,if_false,ih h]
def wrO (n:Nm) (o:AO) (hp:Nm→Option AO):Nm→Option AO:=fun m=>if m=n then some o else hp m
@[simp] theorem wrO_eq {n m:Nm} {o:AO} {hp:Nm→Option AO}:wrO n o hp m=if m=n then some o else hp m:=rfl
def qBH (D:Nm→Bool) (hp' hp:Nm→Option AO):Prop:=∃ F:Nm→Option Nm,(∀ k,D k=true→F k=some k)∧∀ k,D k=true→hp' k=(hp k).map (AO.tr F)
def qDp (D:Nm→Bool) (v:AV) (n:Nm) (o:AO) (H:Nm→Option AO):Nm→AV→(Nm→Option AO)→Prop:=fun _ y H'=>y=v∧∀ k,D k=true→H' k=(wrO n o H k).map (AO.tr (zu D []))
def rtn (D:Nm→Bool) (N V:Nm) (d:Nat) (hp:Nm→Option AO) (m:Nm):Option Nm :=
 if Nm.under N m then (if m=N then some N else none) else if Nm.under V m then none else if Nm.under (.s d) m then none else if D m then (if m.isU&&(hp m).isSome then some m else none) else some m
def St.mutn (st:St) (N V:Nm) (d:Nat) (D:Nm→Bool) (hp':Nm→Option AO):St :=
 { tm:=fun t=>(st.tm t).tr (rtn D N V d st.hp),
   hp:=fun m=>if D m||Nm.under (.s d) m then hp' m else if Nm.under V m then none else (st.hp m).map (AO.tr (rtn D N V d st.hp)),
   n:=st.n,gl:=st.gl }
section
variable {st:St} {N V m n:Nm} {d t:Nat} {D:Nm→Bool} {hp hp' H':Nm→Option AO}
@[simp] theorem rtn_eq:rtn D N V d hp m=if Nm.under N m then (if m=N then some N else none) else if Nm.under V m then none else if Nm.under (.s d) m then none else if D m then (if m.isU&&(hp m).isSome then some m else none) else some m:=rfl
@[simp] theorem mutn_tm:(st.mutn N V d D hp').tm t=(st.tm t).tr (rtn D N V d st.hp):=rfl
@[simp] theorem mutn_gl:(st.mutn N V d D hp').gl=st.gl:=rfl
@[simp] theorem mutn_hp:(st.mutn N V d D hp').hp m=if D m||Nm.under (.s d) m then hp' m else if Nm.under V m then none else (st.hp m).map (AO.tr (rtn D N V d st.hp)):=rfl
theorem qNp (hV:V.isU=true) (hNV:Nm.under V N=false) (hDN:∀ k,Nm.under N k=true→D k=true) (hDV:∀ k,Nm.under V k=true→D k=false) (hs:(hp N).isSome=true) :
  (fun m=>((mv N V m).bind (cf d (fun k=>D k||Nm.under V k) (jl (fun k=>D k||Nm.under V k) (hmv N V hp)))).bind (mv V N))=rtn D N V d hp:=by
 funext x
 by_cases hx:Nm.under N x=true
 ·have hu:Nm.under V (Nm.ren N V x)=true:=Nm.under_ren x hx
  have hsd:=qF5 (d:=d) hV hu
  by_cases e:x=N
  ·subst e
   obtain⟨o,ho⟩:=Option.isSome_iff_exists.1 hs
   simp [hV,Nm.under_self,hsd] at hsd ⊢
   simp [hsd,hmv,ho]
  ·have:=qKn (V:=V) hx e
   simp [hx,hu,hsd,this,e]
 ·simp only [Bool.not_eq_true] at hx
  by_cases hv:Nm.under V x=true
  ·simp [hx,hv]
  ·simp only [Bool.not_eq_true] at hv
   by_cases hd:Nm.under (.s d) x=true
   ·simp [hx,hv,hd]
   ·simp only [Bool.not_eq_true] at hd
    by_cases hD:D x=true
    ·simp [hx,hv,hd,hD,hmv]
     cases hp x <;> cases x.isU <;> simp [hx,hv]
    ·simp only [Bool.not_eq_true] at hD
     simp [hx,hv,hd,hD]
theorem qLN {y:AV} (hV:V.isU=true) (hNV:Nm.under V N=false) (hDN:∀ k,Nm.under N k=true→D k=true) (hDV:∀ k,Nm.under V k=true→D k=false) (hDr:∀ k,D k=true→k.sroot=false) (hs:(st.hp N).isSome=true) (hy:y.tr (mv V N)=y) :
  ∃ q,q=((((st.move N V).call d (fun k=>D k||Nm.under V k) (jl (fun k=>D k||Nm.under V k) (st.move N V).hp) H').put (some d) y).move V N)∧q=(st.mutn N V d D q.hp).put (some d) y:=by
 refine⟨_,rfl,?_⟩
 have hc:=qNp (hp:=st.hp) (d:=d) hV hNV hDN hDV hs
 have e1:∀ a:AV,((a.tr (mv N V)).tr (cf d (fun k=>D k||Nm.under V k) (jl (fun k=>D k||Nm.under V k) (hmv N V st.hp)))).tr (mv V N)=a.tr (rtn D N V d st.hp):=by
  intro a
  rw [AV.tr_tr (mv N V),AV.tr_tr,← hc]
 have e2:∀ o:AO,((o.tr (mv N V)).tr (cf d (fun k=>D k||Nm.under V k) (jl (fun k=>D k||Nm.under V k) (hmv N V st.hp)))).tr (mv V N)=o.tr (rtn D N V d st.hp):=by
  intro o
  rw [AO.tr_tr (mv N V),AO.tr_tr,← hc]
 generalize hq:((((st.move N V).call d (fun k=>D k||Nm.under V k) (jl (fun k=>D k||Nm.under V k) (st.move N V).hp) H').put (some d) y).move V N)=q
 have h1:q.tm=((st.mutn N V d D q.hp).put (some d) y).tm:=by
  subst hq
  funext t
  simp only [St.move,St.nm,St.put,St.mutn,St.call]
  by_cases h:t=d
  ·simp [h,hy]
  ·simp only [h,if_false]
   exact e1 _
 have h2:q.hp=((st.mutn N V d D q.hp).put (some d) y).hp:=by
  funext m
  simp only [St.put,St.mutn]
  by_cases hD:D m=true
  ·simp [hD]
  simp only [Bool.not_eq_true] at hD
  by_cases hd:Nm.under (.s d) m=true
  ·simp [hd]
  simp only [Bool.not_eq_true] at hd
  have hN:Nm.under N m=false:=by
   cases h:Nm.under N m with
   | false=>rfl
   | true=>rw [hDN m h] at hD;cases hD
  simp only [hD,hd,Bool.or_false,Bool.false_eq_true,if_false]
  subst hq
  simp only [St.move,St.nm,St.put,St.call,hmv,hN,Bool.false_eq_true,if_false]
  by_cases hv:Nm.under V m=true
  ·simp [hv]
  ·simp only [Bool.not_eq_true] at hv
   simp only [hv,hD,hd,Bool.or_false,Bool.false_eq_true,if_false]
   cases hm:st.hp m with
   | none=>rfl
   | some o=>simp only [Option.map_some];rw [← e2 o]
 have h3:q.n=((st.mutn N V d D q.hp).put (some d) y).n:=by subst hq;rfl
 have h4:q.gl=((st.mutn N V d D q.hp).put (some d) y).gl:=by subst hq;rfl
 cases q
 simp only [St.put,St.mutn] at h1 h2 h3 h4 ⊢
 congr 1
theorem qLL {o:AO} {y:AV} (hV:V.isU=true) (hNV:Nm.under V N=false) (hDN:∀ k,Nm.under N k=true→D k=true) (hDV:∀ k,Nm.under V k=true→D k=false) (hDn:D n=true) (hNn:Nm.under N n=false)
  (hR:∀ k,(D k||Nm.under V k)=true→H' k=(wrO n (o.tr (mv N V)) (jl (fun k=>D k||Nm.under V k) (hmv N V st.hp)) k).map (AO.tr (zu (fun k=>D k||Nm.under V k) []))) :
  qBH D ((((st.move N V).call d (fun k=>D k||Nm.under V k) (jl (fun k=>D k||Nm.under V k) (st.move N V).hp) H').put (some d) y).move V N).hp (wrO n o st.hp):=by
 have hVn:Nm.under V n=false:=by
  cases h:Nm.under V n with
  | false=>rfl
  | true=>rw [hDV n h] at hDn;cases hDn
 refine⟨fun k=>((mv N V k).bind (zu (fun k=>D k||Nm.under V k) [])).bind (mv V N),fun k hk=>?_,fun k hk=>?_⟩
 ·by_cases hx:Nm.under N k=true
  ·have hu:Nm.under V (Nm.ren N V k)=true:=Nm.under_ren k hx
   simp only [mv,hx,if_true,Option.bind_some,zu,hu,Bool.or_true,Nm.ren_ren_back hx]
  ·simp only [Bool.not_eq_true] at hx
   have hv:Nm.under V k=false:=by
    cases h:Nm.under V k with
    | false=>rfl
    | true=>rw [hDV k h] at hk;cases hk
   simp [mv,hx,hv,zu,hk]
 ·have e2:∀ o:AO,((o.tr (mv N V)).tr (zu (fun k=>D k||Nm.under V k) [])).tr (mv V N)=o.tr (fun k=>((mv N V k).bind (zu (fun k=>D k||Nm.under V k) [])).bind (mv V N)):=by
   intro o
   rw [AO.tr_tr (mv N V),AO.tr_tr]
  by_cases hx:Nm.under N k=true
  ·have hu:Nm.under V (Nm.ren N V k)=true:=Nm.under_ren k hx
   have hne:¬ Nm.ren N V k=n:=fun e=>by rw [e,hVn] at hu;cases hu
   have hne2:¬ k=n:=fun e=>by rw [e,hNn] at hx;cases hx
   have hb:=Nm.ren_ren_back (k1:=V) hx
   have hb2:mv V N (Nm.ren N V k)=some k:=by simp only [mv,hu,if_true,hb]
   have hb3:mv N V k=some (Nm.ren N V k):=by simp only [mv,hx,if_true]
   have hR1:=hR (Nm.ren N V k) (by simp [hu])
   simp only [wrO,hne,if_false,jl,hu,Bool.or_true,if_true,hmv,hb,hb3] at hR1
   simp only [St.move,St.nm,St.put,St.call]
   simp only [hmv,hx,if_true,hb2,hu,Bool.or_true,Bool.true_or,hR1,wrO,hne2,if_false]
   cases st.hp k with
   | none=>rfl
   | some o=>simp only [Option.map_some];rw [← e2 o]
  ·simp only [Bool.not_eq_true] at hx
   have hv:Nm.under V k=false:=by
    cases h:Nm.under V k with
    | false=>rfl
    | true=>rw [hDV k h] at hk;cases hk
   have hR1:=hR k (by simp [hk])
   simp only [wrO,jl,hk,Bool.true_or,if_true,hmv,hx,hv,Bool.false_eq_true,if_false] at hR1
   simp only [St.move,St.nm,St.put,St.call]
   simp only [hmv,hx,hv,hk,Bool.false_eq_true,if_false,Bool.true_or,if_true,hR1,wrO]
   by_cases e:k=n
   ·simp only [e,if_true,Option.map_some];rw [← e2 o]
   ·simp only [e,if_false]
    cases st.hp k with
    | none=>rfl
    | some o=>simp only [Option.map_some];rw [← e2 o]
end
section
variable {D:Nm→Bool} {d i off:Nat} {rows:List (List AV)} {vals:List AV} {o:Option AO}
theorem kz {F:Nm→Option Nm}:(qa rows i off vals).map (fun r=>r.map (AV.tr F))=qa (rows.map (fun r=>r.map (AV.tr F))) i off (vals.map (AV.tr F)):=by
 apply List.ext_getElem?
 intro q
 simp only [qa,List.getElem?_map,List.getElem?_modify]
 by_cases e:i=q
 ·subst e
  cases rows[i]? with
  | none=>simp
  | some r=>simp [List.map_take,List.map_drop]
 ·cases rows[q]? with
  | none=>simp [e]
  | some r=>simp [e]
theorem qP4 (hD:∀ k,D k=true→k.sroot=false):(fun m=>(kl (.s d) m).bind (zu D []))=zu D []:=by
 funext m
 by_cases h:Nm.under (.s d) m=true
 ·have h1:=Nm.sroot_under (a:=.s d) rfl h
  have h2:D m=false:=by
   cases hx:D m with
   | false=>rfl
   | true=>rw [hD m hx] at h1;cases h1
  simp [h,zu,h2]
 ·simp only [Bool.not_eq_true] at h
  simp [h]
theorem qLs (hD:∀ k,D k=true→k.sroot=false) {a:AV}:(a.tr (kl (.s d))).tr (zu D [])=a.tr (zu D []):=by rw [AV.tr_tr,qP4 hD]
theorem qLq (hD:∀ k,D k=true→k.sroot=false):(o.map (AO.tr (kl (.s d)))).map (AO.tr (zu D []))=o.map (AO.tr (zu D [])):=by
 cases o with
 | none=>rfl
 | some o=>simp only [Option.map_some,AO.tr_tr,qP4 hD]
theorem qLp (hD:∀ k,D k=true→k.sroot=false):(rows.map (fun r=>r.map (AV.tr (kl (.s d))))).map (fun r=>r.map (AV.tr (zu D [])))=rows.map (fun r=>r.map (AV.tr (zu D []))):=by
 simp only [List.map_map]
 refine List.map_congr_left fun r _=>?_
 simp only [Function.comp,List.map_map]
 refine List.map_congr_left fun a _=>?_
 exact qLs hD
theorem qOd {b:Nat} (hD:∀ k,D k=true→k.sroot=false):(rows.map ((fun r=>r.map (AV.tr (kl (.s b))))∘fun r=>r.map (AV.tr (kl (.s d))))).map (fun r=>r.map (AV.tr (zu D [])))=rows.map (fun r=>r.map (AV.tr (zu D []))):=by
 rw [← List.map_map,qLp hD,qLp hD]
theorem D_s (hD:∀ k,D k=true→k.sroot=false) {q:Nm} (hq:D q=true) (d:Nat):¬ q=.s d∧Nm.under (.s d) q=false:=by
 have h:Nm.under (.s d) q=false:=by
  cases h:Nm.under (.s d) q with
  | false=>rfl
  | true=>have:=Nm.sroot_under (a:=.s d) rfl h;rw [hD _ hq] at this;cases this
 refine⟨fun e=>?_,h⟩
 rw [e] at h
 simp at h
end
section
variable {X:Ctx} {st:St} {K:St→Prop} {E:AV→St→Prop} {d f:Nat} {ty:TypeId} {pos:String} {aft:Array Edge} {g:Option (Nat×Bool)} {args:Array Operand} {Ts:Array TypeId} {az:List AV}
theorem qHx (D:Nm→Bool) (N V n:Nm) (o:AO) (v:AV) (hV:V.isU=true:=by rfl) (hN:N.isU=false:=by rfl) (hVe:X.ext V=false) (hDr:∀ k,D k=true→k.sroot=false) (hNV:Nm.under V N=false) (hDN:∀ k,Nm.under N k=true→D k=true) (hDV:∀ k,Nm.under V k=true→D k=false) (hs:(st.hp N).isSome=true)
  (hext:∀ k i j,X.ext (.u k i j)=true→D (.u k i j)=false∨st.hp (.u k i j)≠none) (hDn:D n=true) (hNn:Nm.under N n=false) (hv:v.tr (mv V N)=v) (hd:d<X.n:=by first|(simp;done)|fail)
  (ha:args.toList.map (ev (st.move N V))=az:=by simp [fx];first|done|rfl)
  (hF:FnE X.P X.gl f (fun k=>D k||Nm.under V k) az (jl (fun k=>D k||Nm.under V k) (hmv N V st.hp)) (qDp (fun k=>D k||Nm.under V k) v n (o.tr (mv N V)) (jl (fun k=>D k||Nm.under V k) (hmv N V st.hp))) noE)
  (h:∀ hp',qBH D hp' (wrO n o st.hp)→K ((st.mutn N V d D hp').put (some d) v)) :
  qK X ⟨some d,.call ⟨.value (.func f),args,Ts⟩,ty,pos,aft,g⟩ K E st:=by
 refine qOO N V (.inl hN) (.inr hVe) (yM V N (.inr hVe) (.inl hN) ?_)
 refine qDV (fun k=>D k||Nm.under V k) (fun k hk=>?_) (fun k i j he=>?_) hd ha hF ?_
 ·rcases Bool.or_eq_true _ _ ▸ hk with h|h
  ·exact hDr k h
  ·exact q9 hV h
 ·by_cases hD:D (.u k i j)=true
  ·right
   rcases hext k i j he with h|h
   ·rw [h] at hD;cases hD
   ·have hn:Nm.under N (.u k i j)=false:=by cases N <;> simp [Nm.isU,Nm.under] at *
    have hv:Nm.under V (.u k i j)=false:=by
     cases h:Nm.under V (.u k i j) with
     | false=>rfl
     | true=>rw [hDV _ h] at hD;cases hD
    simp only [jl,hD,Bool.true_or,if_true,St.move,St.nm,hmv,hn,hv,Bool.false_eq_true,if_false]
    cases hx:st.hp (.u k i j) with
    | none=>exact absurd hx h
    | some o=>simp
  ·simp only [Bool.not_eq_true] at hD
   by_cases hv:Nm.under V (.u k i j)=true
   ·have:Nm.u k i j=V:=by cases V <;> simp [Nm.isU,Nm.under] at * <;> exact⟨hv.1,hv.2.1,hv.2.2⟩
    rw [this,hVe] at he
    cases he
   ·simp only [Bool.not_eq_true] at hv
    exact .inl (by simp [hD,hv])
 ·rintro y H' ⟨rfl,hR⟩
  obtain⟨q,hq,e⟩:=qLN (d:=d) (H':=H') (st:=st) hV hNV hDN hDV hDr hs hv
  have hS:=qLL (d:=d) (y:=y) (st:=st) hV hNV hDN hDV hDn hNn hR
  rw [← hq] at hS ⊢
  rw [e]
  exact h _ hS
end
end Go.Hm
end
section
namespace Go.Hm
open Go Go.RowKit
section
variable {hp hp':Nm→Option AO} {p:Prg} {n:Nm} {m m':Mch} {dp dp' i k:Nat} {fs L:List Frm} {f g:Frm} {o:Int×Int} {s:Slt} {rows:List (List AV)} {j:List Val}
theorem OwnX.same (h:OwnX hp p n m dp) (hn:Nm.under Xn n=true∨n=.u 2 0 0) (hs:qBH D12 hp' hp):OwnX hp' p n m dp:=by
 obtain⟨F,h1,h2⟩:=hs
 exact h.ren hn h1 h2
theorem qCF (h:f.stack.length=k+1):f.stack=f.pop.stack++[f.tos]:=by
 have hne:f.stack≠[]:=fun e=>by rw [e] at h;simp at h
 simp only [Frm.pop,Frm.tos]
 rw [List.getLastD_eq_getLast?,List.getLast?_eq_some_getLast hne]
 exact (List.dropLast_concat_getLast hne).symm
theorem j8 (h:f.stack.length=k+1):(f.stack++j)[k]?=some f.tos:=by
 have h1:=qCF h
 have h2:f.pop.stack.length=k:=by simp [Frm.pop,h]
 rw [h1,List.append_assoc,List.getElem?_append_right (by omega),h2]
 simp
theorem v8 (h:f.stack.length=k+1):f.pop.stack.length=k:=by simp [Frm.pop,h]
theorem OwnX.popped (h:OwnX hp p (.u 2 0 0) (m.top fs f) dp) (hr:hp (.u 2 0 0)=some (.row 7 rows)) (hk:f.stack.length=k+1):OwnX (wrO (.u 2 0 0) (.row 7 (qa rows fs.length 6 [.hs (.c (.u 2 0 0) fs.length 6) 2 0 k])) hp) p (.u 2 0 0) (m.top fs f.pop) dp:=by
 obtain⟨L,j,hL,hat,hlt,hF,h3,h5,h6⟩:=h.topF rfl
 obtain rfl:rows=qh p (.u 2 0 0) L:=by
  rw [hr] at hF
  injection hF with e
  injection e
 have hs:qa (qh p (.u 2 0 0) L) fs.length 6 [.hs (.c (.u 2 0 0) fs.length 6) 2 0 k]=qh p (.u 2 0 0) (L.set fs.length f.pop):=qCn hat (by simp [z9,Frm.pop,hk,vN])
 rw [hs]
 refine h.reT rfl hL (g:=f.pop) rfl (by simp) (by simp [h3,Frm.pop]) (by simp [h5,Frm.pop]) ⟨[f.tos]++j,?_⟩ (h0:=by simp [h.top,jR,Mch.top]) (h2:=by simp [h.cells,Mch.top]) (h3:=by simp [h.glob,Mch.top]) (h4:=by simp [h.funs,Mch.top]) (h5:=by simp [h.clss,Mch.top]) (h6:=by simp [h.out,Mch.top]) (h7:=by simp [h.trc,Mch.top])
 have e:=qCF hk
 simp only [wrO]
 rw [if_neg (by simp),h6,← List.append_assoc,← e]
end
section
variable {p:Prg} {m:Mch} {fs:List Frm} {f:Frm} {o:Int×Int}
structure SlOk (m:Mch) (f:Frm) (o:Int×Int):Prop where
 arg:0≤o.2∧o.2≤1000
 lt:slI f o<(slL m f o).length
 cell:5≤o.1→o.1≤7→f.cells[o.2.toNat]?=some (slI f o)
theorem SlOk.of (hM:MOk p m fs f) (hO:OrdOk p f.blk o) (hc:2≤o.1∧o.1≤13):SlOk m f o:=by
 have h1:=hM.top.fl
 have h2:=hM.top.cl
 have h3:=hM.top.nm.1
 have h4:=hM.glob.1
 have h5:=hO.arg
 have h6:=hO.fast hc.1
 have h7:=hO.cell
 have h8:=hO.name
 have key:5≤o.1→o.1≤7→f.cells[o.2.toNat]?=some (slI f o):=by
  intro e1 e2
  have hl:o.2.toNat<f.cells.length:=by have:=h7 e1 e2;omega
  simp only [slI]
  rw [if_neg (by omega),if_pos e2,List.getD_eq_getElem?_getD,gE hl]
  rfl
 refine⟨h5,?_,key⟩
 unfold slL
 by_cases c4:o.1≤4
 ·have:=h6 c4
  simp only [slI,c4,if_true]
  omega
 by_cases c7:o.1≤7
 ·have:=hM.top.cr _ (gM (key (by omega) c7))
  simpa [c4,c7] using this
 by_cases c10:o.1≤10
 ·have:=h8 (by omega) hc.2
  simp only [slI,c4,c7,c10,if_true,if_false]
  omega
 ·have:=h8 (by omega) hc.2
  simp only [slI,c4,c7,c10,if_false]
  omega
variable {hp:Nm→Option AO} {dp k:Nat} {N:Nm}
def qMb (hp:Nm→Option AO) (p:Prg) (n:Nm) (m:Mch) (dp:Nat):Prop:=∃ fr,(m.en=0→fr=m.frames)∧OwnX hp p n { m with frames:=fr } dp
theorem OwnX.out' {n:Nm} (h:OwnX hp p n m dp):qMb hp p n m dp:=⟨m.frames,fun _=>rfl,h⟩
def D9:Nm→Bool:=fun k=>D12 k||Nm.under (.u 9 0 0) k
theorem qM1 {q:Nm} (h:D9 q=true):q.sroot=false:=by
 rcases Bool.or_eq_true _ _ ▸ h with h|h
 ·exact zM h
 ·exact q9 rfl h
theorem OwnX.keep (h:OwnX hp p (.u 2 0 0) (m.top fs f) dp) (hk:f.stack.length=k+1) (h1:Nm.under N (.u 2 0 0)=false) (h2:Nm.under N (.c (.u 2 0 0) fs.length 6)=false):∃ (rows rows':List (List AV)) (a0 a1 a2 a3 a4 a5:AV) (vs:List Val),hp (.u 2 0 0)=some (.row 7 rows)∧(jl D9 (hmv N (.u 9 0 0) hp)) (.u 2 0 0)=some (.row 7 rows')∧rows'[fs.length]?=some [a0,a1,a2,a3,a4,a5,.hs (.c (.u 2 0 0) fs.length 6) 2 0 (k+1)]∧(jl D9 (hmv N (.u 9 0 0) hp)) (.c (.u 2 0 0) fs.length 6)=some (.row 2 (qt vs))∧vs[k]?=some f.tos ∧
  (AO.row 7 (qa rows fs.length 6 [.hs (.c (.u 2 0 0) fs.length 6) 2 0 k])).tr (mv N (.u 9 0 0))=.row 7 (qa rows' fs.length 6 [.hs (.c (.u 2 0 0) fs.length 6) 2 0 k]):=by
 obtain⟨L,j,hL,hat,hlt,hF,h3,h5,h6⟩:=h.topF rfl
 have hm:mv N (.u 9 0 0) (.c (.u 2 0 0) fs.length 6)=some (.c (.u 2 0 0) fs.length 6):=by simp only [mv,h2,Bool.false_eq_true,if_false];simp
 have he:∀ q,(AV.hs (.c (.u 2 0 0) fs.length 6) 2 0 q).tr (mv N (.u 9 0 0))=.hs (.c (.u 2 0 0) fs.length 6) 2 0 q:=fun q=>by simp only [AV.tr,hm]
 refine⟨qh p (.u 2 0 0) L,(qh p (.u 2 0 0) L).map fun r=>r.map (AV.tr (mv N (.u 9 0 0))),(iv f.blk).tr (mv N (.u 9 0 0)),(iv f.pc).tr (mv N (.u 9 0 0)),(iv (vN p f)).tr (mv N (.u 9 0 0)),(AV.hs (.c (.u 2 0 0) fs.length 3) 3 0 f.fasts.length).tr (mv N (.u 9 0 0)),(isl (zg f.cells)).tr (mv N (.u 9 0 0)),(AV.hs (.c (.u 2 0 0) fs.length 5) 3 0 8).tr (mv N (.u 9 0 0)),f.stack++j,hF,?_,?_,?_,j8 hk,?_⟩
 ·simp only [jl,D9,hmv,h1,hF]
  simp [AO.tr]
 ·rw [List.getElem?_map,zT,hat]
  simp only [Option.map_some,z9,List.map_cons,List.map_nil,hk,he]
 ·simp only [jl,D9,hmv,h2,h6]
  simp [AO.tr]
 ·simp only [AO.tr,kz,List.map_cons,List.map_nil,he]
theorem OwnX.take (h:OwnX hp p (.u 2 0 0) (m.top fs f) dp) (hk:f.stack.length=k+1):∃ (rows:List (List AV)) (a0 a1 a2 a3 a4 a5:AV) (vs:List Val),hp (.u 2 0 0)=some (.row 7 rows)∧(jl D12 hp) (.u 2 0 0)=some (.row 7 rows)∧rows[fs.length]?=some [a0,a1,a2,a3,a4,a5,.hs (.c (.u 2 0 0) fs.length 6) 2 0 (k+1)]∧(jl D12 hp) (.c (.u 2 0 0) fs.length 6)=some (.row 2 (qt vs))∧vs[k]?=some f.tos:=by
 obtain⟨L,j,hL,hat,hlt,hF,h3,h5,h6⟩:=h.topF rfl
 refine⟨qh p (.u 2 0 0) L,iv f.blk,iv f.pc,iv (vN p f),.hs (.c (.u 2 0 0) fs.length 3) 3 0 f.fasts.length,isl (zg f.cells),.hs (.c (.u 2 0 0) fs.length 5) 3 0 8,f.stack++j,hF,by simp [hF],?_,by simp [h6],j8 hk⟩
 rw [zT,hat]
 simp only [Option.map_some,z9,hk]
theorem OwnX.taken {H':Nm→Option AO} {r:Nm} {y v:AV} {rows:List (List AV)} (h:OwnX hp p (.u 2 0 0) (m.top fs f) dp) (hr:hp (.u 2 0 0)=some (.row 7 rows)) (hk:f.stack.length=k+1) (hw:qDp D12 v (.u 2 0 0) (.row 7 (qa rows fs.length 6 [.hs (.c (.u 2 0 0) fs.length 6) 2 0 k])) (jl D12 hp) r y H'):OwnX H' p (.u 2 0 0) (m.top fs f.pop) dp:=by
 refine (h.popped hr hk).ren (f:=zu D12 []) (.inr rfl) (fun q hq=>by simp only [zu,hq,if_true]) fun q hq=>?_
 rw [hw.2 q hq]
 simp only [wrO,jl,hq,if_true]
theorem qM2 (h1:hp Xn≠none) (h2:hp (.u 2 0 0)≠none) (k i j:Nat):D12 (.u k i j)=false∨hp (.u k i j)≠none:=by
 by_cases e1:Nm.u k i j=.u 1 0 0
 ·exact .inr (e1 ▸ h1)
 by_cases e2:Nm.u k i j=.u 2 0 0
 ·exact .inr (e2 ▸ h2)
 ·left
  simp at e1 e2
  simp only [qB7,Nm.under,Bool.or_eq_false_iff,decide_eq_false_iff_not]
  refine⟨fun e=>?_,fun e=>?_⟩
  ·injection e with x1 x2 x3
   exact e1 x1 x2 x3
  ·injection e with x1 x2 x3
   exact e2 x1 x2 x3
theorem qVR {q:Nm} (h:Nm.under (.u 9 0 0) q=true):D12 q=false:=by
 induction q with
 | s d=>simp at h
 | u a b c =>
  simp at h
  obtain⟨rfl,rfl,rfl⟩:=h
  simp
 | c r i j ih =>
  simp only [qEA] at h
  have:=ih h
  simpa using this
theorem OwnX.cong {hp':Nm→Option AO} {n:Nm} (h:OwnX hp p n m dp) (hn:Nm.under Xn n=true∨n=.u 2 0 0) (hh:∀ q,D12 q=true→hp' q=hp q):OwnX hp' p n m dp:=by
 refine h.ren hn (f:=some) (fun _ _=>rfl) fun q hq=>?_
 rw [hh q hq]
 cases hp q with
 | none=>rfl
 | some o=>simp [AO.tr_some]
theorem OwnX.cut {hp':Nm→Option AO} {n:Nm} (h:OwnX hp p n m dp) (hm:m.frames=fs++[f])
  (h0:hp' Xn=some (.row 13 [jR p n { m with frames:=fs } dp]))
  (hh:∀ q,q≠Xn→D12 q=true→hp' q=hp q) (hn:n=.u 2 0 0):OwnX hp' p n { m with frames:=fs } dp:=by
 subst hn
 have hX:∀ j,hp' (.c Xn 0 j)=hp (.c Xn 0 j):=fun j=>hh _ (by simp) (by simp)
 have hF:∀ i j,hp' (.c (.u 2 0 0) i j)=hp (.c (.u 2 0 0) i j):=fun i j=>hh _ (by simp) (by simp)
 have hf:∀ (i:Nat) g,fs[i]?=some g→m.frames[i]?=some g:=fun i g hg=>by
  rw [hm,List.getElem?_append_left (gS hg).1];exact hg
 refine⟨h0,by rw [hX];exact h.caps,by rw [hX];exact h.cells,by rw [hX];exact h.glob,by rw [hX];exact h.funs,by rw [hX];exact h.clss,by rw [hX];exact h.out,by rw [hX];exact h.trc,?_,fun i g hg=>?_,fun i g hg=>?_,fun i g hg=>?_⟩
 ·obtain⟨js,hj⟩:=h.fr.top
  refine⟨f::js,?_⟩
  rw [hh _ (by simp) (by simp),hj,hm]
  simp
 ·rw [hF];exact h.fr.fasts i g (hf i g hg)
 ·rw [hF];exact h.fr.names i g (hf i g hg)
 ·exact (h.fr.stack i g (hf i g hg)).imp fun j hj=>by rw [hF];exact hj
theorem OwnX.ends {hp':Nm→Option AO} {e:Int} {n:Nm} (h:OwnX hp p n m dp) (hn:n=.u 2 0 0) (hh:∀ q,D12 q=true→hp' q=if q=Xn then some (.row 13 [jR p n { m with en:=e } dp]) else hp q):OwnX hp' p n { m with en:=e } dp:=by
 subst hn
 have h2:OwnX (fun q=>if q=Xn then some (.row 13 [jR p (.u 2 0 0) { m with en:=e } dp]) else hp q) p (.u 2 0 0) { m with en:=e } dp:=OwnX.re h (h0:=by simp) (h1:=by simp [h.caps]) (h2:=by simp [h.cells]) (h3:=by simp [h.glob]) (h4:=by simp [h.funs]) (h5:=by simp [h.clss]) (h6:=by simp [h.out]) (h7:=by simp [h.trc]) (h8:=h.fr.re)
 exact h2.cong (.inr rfl) hh
structure SlN (N:Nm):Prop where
 isU:N.isU=false
 D:∀ k,Nm.under N k=true→D12 k=true
 u9:Nm.under (.u 9 0 0) N=false
 u2:Nm.under N (.u 2 0 0)=false
 x:Nm.under N Xn=false
 st:∀ i,Nm.under N (.c (.u 2 0 0) i 6)=false
 s:∀ d,Nm.under (.s d) N=false∧N≠.s d
 b:∃ b,Nm.under (.u 1 0 0) N=b∧Nm.under (.u 2 0 0) N=!b
theorem qUJ {i:Nat}:SlN (slN (.u 2 0 0) i o):=by
 unfold slN
 repeat' split
 all_goals refine⟨rfl,fun k hk=>?_,by simp,by simp,by simp,by simp,by simp,by simp⟩
 ·have:=Nm.under_trans (a:=.u 2 0 0) (by simp) hk;simp [this]
 ·have:=Nm.under_trans (a:=.u 1 0 0) (by simp) hk;simp [this]
 ·have:=Nm.under_trans (a:=.u 1 0 0) (by simp) hk;simp [this]
 ·have:=Nm.under_trans (a:=.u 2 0 0) (by simp) hk;simp [this]
end
end Go.Hm
end
section
namespace Go.Hm
open Go Go.RowKit
def St.stl (st:St) (t:Nat) (N:Nm) (x:AV):St:={ tm:=fun s=>if s=t then x else (st.tm s).tr (kl N),hp:=hkl N st.hp,n:=st.n,gl:=st.gl }
section
variable {X:Ctx} {st:St} {a:Go.Act} {w:World} {K:St→Prop} {E:AV→St→Prop} {o:Oper} {t s:Nat} {N m:Nm} {x:AV}
@[simp] theorem stl_tm:(st.stl t N x).tm s=if s=t then x else (st.tm s).tr (kl N):=rfl
@[simp] theorem stl_hp:(st.stl t N x).hp m=if Nm.under N m then none else (st.hp m).map (AO.tr (kl N)):=rfl
@[simp] theorem stl_gl:(st.stl t N x).gl=st.gl:=rfl
theorem Rw.settle (h:Rw X st a w) (hb:Bw st.hp (fun n=>decide (n≠N)) (st.tm t) x):Rw X (st.stl t N x) a w:=by
 obtain⟨C,g,h1,h2,h3,h4,h5,hg⟩:=h
 have hCN:∀ b,g.φ N=some b→st.hp N≠none→¬ C b∧(X.w0.heap.size≤b∨X.own b)∧b<w.heap.size:=by
  intro b hb hn
  obtain⟨o,ho⟩:=Option.ne_none_iff_exists'.1 hn
  exact hg.inv.blk N o b ho hb
 let C':Nat→Prop:=fun b=>C b∨(g.φ N=some b∧st.hp N≠none)
 have hS:=hg.stepC (C':=C') (g':=g.more C') (w':=w) (f:=kl N) (hp':=hkl N st.hp) rfl (fun b hb=>.inl hb) (by
  rintro b (hb|⟨hb,hn⟩)
  ·exact hg.inv.clt b hb
  ·exact (hCN b hb hn).2.2) (by
  intro n n' e
  simp only [kl] at e
  split at e
  ·cases e
  ·obtain rfl:=sI e;exact⟨rfl,rfl⟩) rfl rfl rfl (Nat.le_refl _) (fun _ _=>rfl) (fun b hb ho=>rfl) (by
  intro n' o' e
  left
  simp only [hkl] at e
  split at e
  ·cases e
  ·rename_i hu
   obtain⟨o,ho,rfl⟩:=Option.map_eq_some_iff.1 e
   refine⟨n',o,by simp [kl,hu],ho,rfl,fun b hb=>⟨rfl,?_⟩⟩
   rintro (hc|⟨hc,hn⟩)
   ·exact (hg.inv.blk n' o b ho hb).1 hc
   ·obtain⟨o2,ho2⟩:=Option.ne_none_iff_exists'.1 hn
    have:=hg.inv.inj n' N o o2 b ho ho2 hb hc
    subst this
    exact hu (Nm.under_self _))
 refine⟨C',g.more C',fun b hb=>.inl (h1 b hb),?_,h3,h4,h5,?_⟩
 ·rintro b (hb|⟨hb,hn⟩)
  ·exact h2 b hb
  ·exact .inr (hCN b hb hn).2.1
 ·refine⟨hS.inv,hS.defers,hS.size,fun s=>?_,hS.glob⟩
  by_cases e:s=t
  ·subst e
   simp only [St.stl,if_true]
   refine RV.bw hg.inv (fun b hb=>.inl hb) (fun n o b hD ho hk=>?_) hb (hg.slots s)
   have:n=N:=by simpa using hD
   subst this
   exact .inr ⟨hk,by rw [ho];simp⟩
  ·have:=hS.slots s
   simp only [St.nm] at this
   simp only [St.stl,e,if_false]
   exact this
theorem qON (t:Nat) (N:Nm) (x:AV) (hb:Bw st.hp (fun n=>decide (n≠N)) (st.tm t) x) (h:qK X o K E (st.stl t N x)):qK X o K E st:=fun a w Q hR hE=>h a w Q (hR.settle hb) hE
theorem qGN (t:Nat) (N:Nm) (h:qK X o (fun s=>∃ x,Bw s.hp (fun n=>decide (n≠N)) (s.tm t) x∧K (s.stl t N x)) E st):qK X o K E st:=by
 refine qK.post h ?_
 rintro s a w hR ⟨x,hb,hK⟩
 exact⟨_,hR.settle hb,hK⟩
theorem qML {hp:Nm→Option AO} {N:Nm} {z len:Nat} {rows:List (List AV)} (hn:hp N=some (.row z rows)) (hl:len=rows.length) (hu:∀ r∈rows,r.length=z):Bw hp (fun n=>decide (n≠N)) (.hs N z 0 len) (.sl z rows):=by
 refine .hs N z 0 len rows rows (by simp) hn (by omega) hl.symm hu fun i r r' h1 h2 j a a' h3 h4=>?_
 rw [Nat.zero_add,h2] at h1
 obtain rfl:=sI h1
 rw [h3] at h4
 obtain rfl:=sI h4
 exact .refl _
theorem qC7 (t:Nat) (N:Nm) (z len:Nat) (rows:List (List AV)) (ht:st.tm t=.hs N z 0 len) (hn:st.hp N=some (.row z rows)) (hl:len=rows.length) (hu:∀ r∈rows,r.length=z) (h:qK X o K E (st.stl t N (.sl z rows))):qK X o K E st :=
 qON t N _ (by rw [ht];exact qML hn hl hu) h
theorem qXW {a:AV} {d:Nat}:(a.tr (kl (.s d))).tr (kl (.s d))=a.tr (kl (.s d)):=by
 rw [AV.tr_tr]
 congr 1
 funext m
 by_cases h:Nm.under (.s d) m=true <;> simp [h]
theorem qBx {d z n:Nat} {rows:List (List AV)} (hcall:∀ K':St→Prop,K' (((st.kill (.s d)).setO (.s d) (.row z rows)).put (some d) (.hs (.s d) z 0 n))→qK X o K' E st) (hl:n=rows.length) (hu:∀ r∈rows,r.length=z) (h:K ((st.kill (.s d)).put (some d) (.sl z rows))):qK X o K E st:=by
 refine qGN d (.s d) (hcall _ ⟨.sl z rows,?_,?_⟩)
 ·have:((((st.kill (.s d)).setO (.s d) (.row z rows)).put (some d) (.hs (.s d) z 0 n)).tm d)=.hs (.s d) z 0 n:=by simp
  rw [this]
  exact qML (by simp) hl hu
 ·have:((((st.kill (.s d)).setO (.s d) (.row z rows)).put (some d) (.hs (.s d) z 0 n)).stl d (.s d) (.sl z rows))=(st.kill (.s d)).put (some d) (.sl z rows):=by
   simp only [St.stl,St.put,St.setO,St.kill,St.nm]
   congr 1
   ·funext s
    by_cases e:s=d
    ·simp [e]
    ·simp only [e,if_false]
     exact qXW
   ·funext m
    simp only [hkl]
    by_cases e:Nm.under (.s d) m=true
    ·simp [e]
    ·have hne:¬ m=.s d:=fun e'=>e (by rw [e'];simp)
     simp only [e,hne,if_false]
     cases st.hp m with
     | none=>rfl
     | some o =>
      have:(fun m=>(kl (.s d) m).bind (kl (.s d)))=kl (.s d):=by
       funext m
       by_cases h:Nm.under (.s d) m=true <;> simp [h]
      have h2:(o.tr (kl (.s d))).tr (kl (.s d))=o.tr (kl (.s d)):=by rw [AO.tr_tr,this]
      simp [h2]
  rw [this]
  exact h
end
theorem qR2 {X:Ctx} {c:Code} {Q:Ex→St→Prop} {G:Prop} (I:St→Prop) (k:∀ st,I st→qW X c Q st) (h:KTag (∀ st,I st→qW X c Q st)→G):G:=h ⟨k⟩
theorem qM4 {X:Ctx} {st:St} {c:Code} {Q:Ex→St→Prop} (n0 n1:Nm) (h0:n0.isU=false∨X.ext n0=false) (h1:n1.isU=false∨X.ext n1=false) (h:qW X c Q (st.move n0 n1)):qW X c Q st:=fun a w hR=>h a w (hR.move n0 n1 h0 h1)
def qR4 (l:Nat) (I:St→Prop) (Q:Ex→St→Prop):Ex→St→Prop
 | .goto l',st=>l'=l∧I st
 | .normal,st=>Q .normal st
 | .exit id,st=>Q (.exit id) st
 | .ret,st=>Q .ret st
 | .pan x,st=>Q (.pan x) st
section
variable {X:Ctx} {st:St} {Q:Ex→St→Prop} {l:Nat} {I:St→Prop} {id:Nat} {x:AV}
theorem qJm (h:Q .normal st):qR4 l I Q .normal st:=h
theorem qR3 (h:Q .ret st):qR4 l I Q .ret st:=h
theorem qId (h:I st):qR4 l I Q (.goto l) st:=⟨rfl,h⟩
theorem qPs {c rest:Code} (l:Nat) (hf:findLabel c l=some rest) (I:Nat→St→Prop) (h0:qW X c (qR4 l (fun s=>∃ n,I n s) Q) st) (hpass:∀ n s,s.n=X.n→s.gl=X.gl→I n s→qW X rest (qR4 l (fun s'=>∃ m,m<n∧I m s') Q) s):qW X (.scope c) Q st:=by
 intro a w hR
 let J:Nat→Go.Act→World→Prop:=fun n a w=>∃ st,Rw X st a w∧I n st
 let μ:Go.Act→World→Nat:=fun a w=>open Classical in if h:∃ n,J n a w then (qJk h).choose else 0
 have hμ:∀ n a w,J n a w→μ a w≤n:=by
  intro n a w hJ
  have hex:∃ n,J n a w:=⟨n,hJ⟩
  simp only [μ,dif_pos hex]
  exact (qJk hex).choose_spec.2 n hJ
 refine wp_scope_jumps l (fun a w=>∃ n,J n a w) μ hf (wp_mono (h0 a w hR) fun e a' w' he=>?_) fun a w hJ=>?_
 ·cases e with
  | goto l' =>
   obtain⟨st',hR',rfl,n,hI⟩:=he
   exact⟨rfl,n,st',hR',hI⟩
  | normal=>exact he
  | exit id=>exact he
  | ret=>exact he
  | panic ch=>exact he
  | outgrown=>exact he
 ·have hspec:J (μ a w) a w:=by
   simp only [μ,dif_pos hJ]
   exact (qJk hJ).choose_spec.1
  obtain⟨st1,hR1,hI1⟩:=hspec
  have hR1':=hR1
  obtain⟨C,g,x1,x2,x3,x4,x5,x6⟩:=hR1
  refine wp_mono (hpass _ st1 x3 x4 hI1 a w hR1') fun e a' w' he=>?_
  cases e with
  | goto l' =>
   obtain⟨st',hR',rfl,m,hlt,hI⟩:=he
   exact⟨rfl,⟨m,st',hR',hI⟩,Nat.lt_of_le_of_lt (hμ m a' w' ⟨st',hR',hI⟩) hlt⟩
  | normal=>exact he
  | exit id=>exact he
  | ret=>exact he
  | panic ch=>exact he
  | outgrown=>exact he
end
end Go.Hm
end
