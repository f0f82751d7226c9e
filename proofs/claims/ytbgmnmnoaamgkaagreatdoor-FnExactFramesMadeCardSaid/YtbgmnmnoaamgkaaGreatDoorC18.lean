/-
  Own texts, joined by mkclaim.py: Hm180, Hm181, Hm182, Hm183, Hm184, Hm185, Hm186, Hm187, Hm188, Hm189, Hm190, Hm191.
-/
import Derived.Test.YtbgmnmnoaamgkaaGreatDoorC17
import Derived.Test.YtbgmnmnoaamgkaaGreatDoorC16
import Derived.Test.YtbgmnmnoaamgkaaGreatDoorC15
import Derived.Test.YtbgmnmnoaamgkaaGreatDoorC09
set_option linter.unusedSimpArgs false
set_option linter.unusedVariables false
set_option maxRecDepth 100000
set_option maxHeartbeats 4000000

section
namespace Go.Hm
open Go Go.RowKit
def qDQ (hp:Nm→Option AO) (p:Prg) (m M:Mch) (h:Nat):Prop:=∃ J:Nat→List AV,(∀ i,(J i).length=29)∧hp Yn=some (.row 4415 [qw p m h (yc M.frames J)])∧OwnY (wrO Yn (.row 4415 [qw p M M.frames.length (yc M.frames J)]) hp) p M
section
variable {hp hp':Nm→Option AO} {p:Prg} {m m' M:Mch} {h h' k:Nat} {R:List AV} {v:AV}
theorem qDQ.row (hY:qDQ hp p m M h):∃ R,hp Yn=some (.row 4415 [R])∧R.length=4415∧R[4411]?=some (iv h)∧R[4412]?=some (iv m.deep)∧R[4413]?=some (iv m.made)∧R[4414]?=some (iv m.cells.length):=by
 obtain⟨J,hJ,e,_⟩:=hY
 have hc:=j8 (fs:=M.frames) hJ
 exact⟨_,e,yN hc,qAD hc,qFS hc,qFR hc,qFQ hc⟩
theorem qDQ.set (hY:qDQ hp p m M h) (hr:hp Yn=some (.row 4415 [R])) (h0:hp' Yn=some (.row 4415 [spl R k [v]]))
  (hs:∀ J:Nat→List AV,(∀ i,(yc M.frames J i).length=29)→spl (qw p m h (yc M.frames J)) k [v]=qw p m' h' (yc M.frames J)) (hh:∀ q,DM q=true→q≠Yn→hp' q=hp q):qDQ hp' p m' M h':=by
 obtain⟨J,hJ,e,hO⟩:=hY
 refine⟨J,hJ,?_,hO.ren (f:=some) (fun _ _=>rfl) fun q hq=>?_⟩
 ·rw [h0,← qCO hr e,hs J (j8 hJ)]
 ·by_cases h1:q=Yn
  ·subst h1
   simp only [wrO,if_true,Option.map_some,AO.tr_some]
  ·simp only [wrO]
   rw [if_neg h1,if_neg h1,hh q hq h1]
   cases hp q <;> simp [AO.tr_some]
theorem qDQ.done (hY:qDQ hp p m M h) (hs:∀ J:Nat→List AV,qw p m h (yc M.frames J)=qw p M M.frames.length (yc M.frames J)):OwnY hp p M:=by
 obtain⟨J,hJ,e,hO⟩:=hY
 refine hO.ren (f:=some) (fun _ _=>rfl) fun q hq=>?_
 by_cases h1:q=Yn
 ·subst h1
  rw [e,hs J]
  simp only [wrO,if_true,Option.map_some,AO.tr_some]
 ·simp only [wrO]
  rw [if_neg h1]
  cases hp q <;> simp [AO.tr_some]
end
section
variable {p:Prg} {m:Mch} {fs:List Frm} {f g:Frm} {o:Int×Int} {v:Val}
theorem qC0 (h1:2≤o.1) (h2:o.1≤13) (n8:o.1≠8) (n11:o.1≠11):vQ p m fs f o=zl m fs f o ((o.1 - 2) % 3).toNat (wH p f o):=by
 have h0:¬ o.1=0:=by omega
 simp only [vQ]
 rw [if_neg h0,if_pos ⟨h1,h2⟩]
 have h3:(o.1 - 2) % 3=0∨(o.1 - 2) % 3=1∨(o.1 - 2) % 3=2:=by omega
 rcases h3 with h|h|h
 ·have hw:¬ wH p f o=4:=by
   have:o.1=2∨o.1=5:=by omega
   rcases this with e|e
   ·simp [wH,e]
   ·simp only [wH,e]
    rw [if_neg (by omega),if_pos (by omega)]
    split <;> omega
  rw [h,if_pos rfl]
  unfold yj zl
  simp only [Int.toNat_zero]
  rw [if_neg (by omega)]
  cases qBc m f o with
  | none=>simp [hw]
  | some v=>simp
 ·rw [h,if_neg (by omega),if_pos rfl]
  rfl
 ·rw [h,if_neg (by omega),if_neg (by omega)]
  unfold qIh zl
  rw [if_neg (by decide)]
  cases qBc m f o with
  | none=>rfl
  | some v=>exact (if_neg (by decide)).symm
theorem qIT (h:o.1=8∨o.1=11):vQ p m fs f o=yj p m fs f o:=by
 simp only [vQ]
 rw [if_neg (by omega),if_pos (by omega),if_pos (by omega)]
theorem qON (h0:¬ o.1=0) (h:¬ (2≤o.1∧o.1≤13)):vQ p m fs f o=zS p m fs f o:=by
 simp only [vQ]
 rw [if_neg h0,if_neg h]
end
end Go.Hm
end
section
namespace Go.Hm
open Go Go.RowKit
theorem qA4:vR qm=[bv false,iv 0,iv 0,bv false,iv 0,iv 0,bv false,iv 0,iv 0,bv false,iv 0,iv 0,bv false,iv 0,iv 0,bv false,iv 0,iv 0,bv false,iv 0,iv 0,bv false,iv 0,iv 0]:=rfl
section
variable {hp hp':Nm→Option AO} {p:Prg} {m:Mch} {C:List Slt} {g:Frm} {F:Nm→Option Nm} {R:List AV} {mk dp i c:Nat} {f:Frm} {s:Slt}
theorem jH.caps (h:jH hp p m C):hp (.c Yn 0 1)=some (.row 1 (jd p p.length)):=by obtain⟨J,_,_,hO⟩:=h;simpa [wrO] using hO.caps
theorem jH.out (h:jH hp p m C):hp (.c Yn 0 4)=some (.row 1 (qY m.out)):=by obtain⟨J,_,_,hO⟩:=h;simpa [wrO] using hO.out
theorem jH.trc (h:jH hp p m C):hp (.c Yn 0 5)=some (.row 2 (yI m.trace)):=by obtain⟨J,_,_,hO⟩:=h;simpa [wrO] using hO.trc
theorem jH.funs (h:jH hp p m C):hp (.c Yn 0 30)=some (.row 2 (jW m.funs)):=by obtain⟨J,_,_,hO⟩:=h;simpa [wrO] using hO.funs
theorem jH.clss (h:jH hp p m C):hp (.c Yn 0 31)=some (.row 24 (jc m.classes)):=by obtain⟨J,_,_,hO⟩:=h;simpa [wrO] using hO.clss
theorem jH.cell (h:jH hp p m C) (hc:C[c]?=some s):hp (En c)=some (.row 3 [zu s]):=by obtain⟨J,_,_,hO⟩:=h;simpa [wrO] using hO.cell c s hc
theorem jH.beg (h:jH hp p m C) (hi:m.frames.length<151) (hr:hp Yn=some (.row 4415 [R]))
  (hF:∀ j,j≠yo m.frames.length+2→j≠yo m.frames.length+3→j≠yo m.frames.length+28→F (.c Yn 0 j)=some (.c Yn 0 j))
  (h0:hp' Yn=some (.row 4415 [spl (R.map (AV.tr F)) (yo m.frames.length) (yfr m.frames.length g)]))
  (h6t:hp' (.c Yn 0 (yo m.frames.length+2))=some (.row 3 (qV g.fasts))) (h7t:hp' (.c Yn 0 (yo m.frames.length+3))=some (.row 1 (zI g.cells))) (h8t:hp' (.c Yn 0 (yo m.frames.length+28))=some (.row 2 (zB g.stack)))
  (h1:hp' (.c Yn 0 1)=some (.row 1 (jd p p.length)):=by simp [h.caps])
  (h2:hp' (.c Yn 0 4)=some (.row 1 (qY m.out)):=by simp [h.out])
  (h3:hp' (.c Yn 0 5)=some (.row 2 (yI m.trace)):=by simp [h.trc])
  (h4:hp' (.c Yn 0 30)=some (.row 2 (jW m.funs)):=by simp [h.funs])
  (h5:hp' (.c Yn 0 31)=some (.row 24 (jc m.classes)):=by simp [h.clss])
  (h6:∀ (i:Nat) x,i<m.frames.length→hp (.c Yn 0 (32+29 * i+2))=some (.row 3 (qV x))→hp' (.c Yn 0 (32+29 * i+2))=some (.row 3 (qV x)):=by intro i x hi hx;have e:=wZ hi;simp [hx,e.1,e.2.1,e.2.2.1,e.2.2.2])
  (h7:∀ (i:Nat) x,i<m.frames.length→hp (.c Yn 0 (32+29 * i+3))=some (.row 1 (zI x))→hp' (.c Yn 0 (32+29 * i+3))=some (.row 1 (zI x)):=by intro i x hi hx;have e:=wZ hi;simp [hx,e.1,e.2.1,e.2.2.1,e.2.2.2])
  (h8:∀ (i:Nat) x,i<m.frames.length→hp (.c Yn 0 (32+29 * i+28))=some (.row 2 (zB x))→hp' (.c Yn 0 (32+29 * i+28))=some (.row 2 (zB x)):=by intro i x hi hx;have e:=wZ hi;simp [hx,e.1,e.2.1,e.2.2.1,e.2.2.2])
  (h9:∀ (c:Nat) s,C[c]?=some s→hp' (En c)=some (.row 3 [zu s]):=by intro c s hc;simp [h.cell hc])
  (hA:∀ k i j,fM k=true→¬ (k=1∧i=0∧j=0)→hp' (.u k i j)≠none→hp (.u k i j)≠none:=by intro k i j hk e hn;simpa [hk,e] using hn) :
  qDQ hp' p m { m with cells:=C,made:=mk,deep:=dp,frames:=m.frames++[g] } m.frames.length:=by
 obtain⟨J,hJ,e,hO⟩:=h
 have hrow:=qUK (p:=p) (m:=m) (g:=g) (h:=m.frames.length) (F:=F) hJ hi hF
 have hJ':∀ i,((fun k=>(J k).map (AV.tr F)) i).length=29:=fun i=>by simp [hJ]
 have key:∀ (i:Nat) f',(m.frames++[g])[i]?=some f'→(i=m.frames.length∧f'=g)∨(i<m.frames.length∧m.frames[i]?=some f'):=by
  intro i f' hf
  rcases Nat.lt_trichotomy i m.frames.length with e|e|e
  ·rw [List.getElem?_append_left e] at hf
   exact .inr ⟨e,hf⟩
  ·subst e
   simp at hf
   exact .inl ⟨rfl,hf.symm⟩
  ·rw [List.getElem?_eq_none (by simp;omega)] at hf
   cases hf
 refine⟨fun k=>(J k).map (AV.tr F),hJ',?_,⟨fun k=>(J k).map (AV.tr F),hJ',?_⟩,by simpa [wrO] using h1,by simpa [wrO] using h2,by simpa [wrO] using h3,by simpa [wrO] using h4,by simpa [wrO] using h5,fun i f' hf=>?_,fun i f' hf=>?_,fun i f' hf=>?_,fun c s hc=>?_,fun k i j hk hn=>?_⟩
 ·rw [h0,← qCO hr e,hrow]
 ·simp [wrO]
 ·simp only [wrO];rw [if_neg (by simp)]
  rcases key i f' hf with⟨rfl,rfl⟩|⟨a,b⟩
  ·exact h6t
  ·have:=hO.fasts i f' b
   simp only [wrO] at this;rw [if_neg (by simp)] at this
   exact h6 i _ a this
 ·simp only [wrO];rw [if_neg (by simp)]
  rcases key i f' hf with⟨rfl,rfl⟩|⟨a,b⟩
  ·exact h7t
  ·have:=hO.cls i f' b
   simp only [wrO] at this;rw [if_neg (by simp)] at this
   exact h7 i _ a this
 ·simp only [wrO];rw [if_neg (by simp)]
  rcases key i f' hf with⟨rfl,rfl⟩|⟨a,b⟩
  ·exact⟨[],by simpa using h8t⟩
  ·obtain⟨j,this⟩:=hO.stack i f' b
   simp only [wrO] at this;rw [if_neg (by simp)] at this
   exact⟨j,h8 i _ a this⟩
 ·simp only [wrO];rw [if_neg (by simp)]
  exact h9 c s hc
 ·by_cases e:k=1∧i=0∧j=0
  ·exact .inl e
  ·refine hO.only k i j hk ?_
   simp only [wrO] at hn ⊢
   rw [if_neg (by simpa using e)] at hn ⊢
   exact hA k i j hk e hn
end
section
variable {p:Prg} {m:Mch} {fs:List Frm} {f:Frm} {b n:Nat} {k:Blk}
theorem qUS (hP:ValP p) (hk:p[b]?=some k) (hl:qIP p b≤1):(qk p b).params=[]∨∃ x,(qk p b).params=[x]∧((x∈qT p b∧x∉qF p b)∨(x∉qT p b∧x∈qF p b)):=by
 have hkp:(qk p b).params=k.params:=by simp [qk,hk]
 have hpn:k.params.length≤1:=by simpa [qIP,hk] using hl
 rw [hkp]
 match h:k.params,hpn with
 | [],_=>exact .inl rfl
 | [x],_ =>
  refine .inr ⟨x,rfl,?_⟩
  by_cases hx:x∈qT p b
  ·exact .inl ⟨hx,qEt hx⟩
  ·exact .inr ⟨hx,(qCY hP hk (by rw [h];simp)).resolve_left hx⟩
theorem qKO {l:List Val}:∀ r∈zB l,r.length=2:=by
 intro r hr
 simp only [zB,List.mem_map] at hr
 obtain⟨v,_,rfl⟩:=hr
 rfl
theorem qG3 {l:List Nat}:∀ r∈zI l,r.length=1:=by
 intro r hr
 simp only [zI,List.mem_map] at hr
 obtain⟨v,_,rfl⟩:=hr
 rfl
theorem qFG {cs:List Nat} {vs:List Val}:(z6 p m b cs vs).en=m.en:=by
 unfold z6
 split
 ·split <;> rfl
 ·rfl
theorem qI2 {v:Val}:(zf m fs v).en=m.en:=by
 unfold zf
 split <;> rfl
theorem ya {st:St} {t i:Nat} {x:AV} (h:OwnY st.hp p m):OwnY (st.stl t (.s i) x).hp p m :=
 h.ren (f:=kl (.s i)) (fun k hk=>by simp [kl,(D_s (fun _=>qQ) hk i).2]) fun k hk=>by
  have:=(D_s (fun _=>qQ) hk i).2
  simp [this]
theorem MOk.frc {g:Frm} (h:MOk p m fs f) (hg:g.cells=f.cells):∀ f'∈fs++[g],∀ c∈f'.cells,c<m.cells.length:=by
 intro f' hf c hc
 rw [List.mem_append,List.mem_singleton] at hf
 rcases hf with hf|rfl
 ·exact (h.low f' hf).cr c hc
 ·rw [hg] at hc
  exact h.top.cr c hc
theorem MOk.fnc (h:MOk p m fs f):∀ g∈m.funs,∀ c∈g.2,c<m.cells.length:=fun g hg=>by
 obtain⟨k,_,_,_,h4⟩:=h.funs g hg
 exact h4
end
end Go.Hm
end
section
namespace Go.Hm
open Go Go.RowKit
theorem qMj {X:Ctx} {st:St} {Q:Ex→St→Prop} {A B:Code} (l:Nat) (hA:findLabel A l=none) (I:Nat→St→Prop) (h0:qa X A (qGs (fun s=>∃ n,I n s) (qR7 l (fun _=>False) Q)) st)
  (hpass:∀ n s,s.n=X.n→s.gl=X.gl→I n s→qa X B (qR7 l (fun s'=>∃ m,m<n∧I m s') Q) s):qa X (.scope (.seq A (.seq (.label l) B))) Q st:=by
 refine qPj l (rest:=.seq .skip B) (by simp [findLabel,hA]) I ?_ fun n s h1 h2 hI=>qN (qR (qC (hpass n s h1 h2 hI)))
 refine qN (h0.mono fun e s he=>?_)
 cases e with
 | normal =>
  obtain⟨n,hI⟩:=he
  intro a w hR
  have hR1:=hR
  obtain⟨C,g,x1,x2,x3,x4,x5,x6⟩:=hR1
  refine qN (qAj (qC ((hpass n s x3 x4 hI).mono fun e s he=>?_))) a w hR
  cases e with
  | goto l' =>
   obtain⟨e1,m,_,hm⟩:=he
   exact⟨e1,m,hm⟩
  | normal=>exact he
  | exit id=>exact he
  | ret=>exact he
  | pan x=>exact he
 | goto l'=>exact he.2.elim
 | exit id=>exact he
 | ret=>exact he
 | pan x=>exact he
theorem qKj {g:Gh} {w:World} {v:Value} {z:Nat} (h:RV g w v (.sc (.slice none 0 0))):RV g w v (.sl z []):=by
 rw [h.sc_eq]
 exact .slN _ _ _
theorem FnE.args {P:Program} {gl:Nat→Option (List AV)} {f:FuncId} {D:Nm→Bool} {az az':List AV} {H:Nm→Option AO} {R E:Nm→AV→(Nm→Option AO)→Prop} (h:FnE P gl f D az H R E)
  (hl:az'.length=az.length) (ha:∀ (j:Nat) x',az[j]?=some x'→∃ x,az'[j]?=some x∧∀ g w v,RV g w v x→RV g w v x'):FnE P gl f D az' H R E:=by
 refine⟨h.1,fun root C w g args h1 h2 h3 h4 h5 h6 h7=>h.2 root C w g args h1 h2 h3 h4 h5 (by rw [h6,hl]) fun j v x' hv hx=>?_⟩
 obtain⟨x,e1,e2⟩:=ha j x' hx
 exact e2 _ _ _ (h7 j v x hv e1)
end Go.Hm
end
section
namespace Go.Hm
open Go Go.RowKit
section
variable {p:Prg} {f:Frm} {nf nk nc e b:Nat} {k:Blk} {P:Program} {gl:Nat→Option (List AV)} {c:FuncId} {D:Nm→Bool} {x y:AV} {cs:List (List AV)} {z z':Nat} {H:Nm→Option AO} {R E:Nm→AV→(Nm→Option AO)→Prop}
theorem qVB (hh:zj p) (h:FOk p nf nk nc f e) (hk:p[b]?=some k) (hpar:k.parent=f.blk):∀ y∈zL p b,∃ q:Nat,y=q∧q<f.cells.length:=by
 intro y hy
 obtain⟨i,hi⟩:=List.getElem?_of_mem hy
 obtain⟨q,rfl,c,hc,_⟩:=qMF hh h hk hpar i y hi
 exact⟨q,rfl,by simpa [zm] using (gS hc).1⟩
theorem FnE.nil4 (h:FnE P gl c D [x,y,.sl z cs,.sl z' []] H R E):FnE P gl c D [x,y,.sl z cs,.sc (.slice none 0 0)] H R E :=
 h.args rfl fun j a ha=>match j,ha with
  | 0,ha=>⟨_,rfl,fun _ _ _ hv=>by simp at ha;subst ha;exact hv⟩
  | 1,ha=>⟨_,rfl,fun _ _ _ hv=>by simp at ha;subst ha;exact hv⟩
  | 2,ha=>⟨_,rfl,fun _ _ _ hv=>by simp at ha;subst ha;exact hv⟩
  | 3,ha=>⟨_,rfl,fun _ _ _ hv=>by simp at ha;subst ha;exact qKj hv⟩
  | j+4,ha=>by simp at ha
theorem FnE.nil34 (h:FnE P gl c D [x,y,.sl z [],.sl z' []] H R E):FnE P gl c D [x,y,.sc (.slice none 0 0),.sc (.slice none 0 0)] H R E :=
 h.args rfl fun j a ha=>match j,ha with
  | 0,ha=>⟨_,rfl,fun _ _ _ hv=>by simp at ha;subst ha;exact hv⟩
  | 1,ha=>⟨_,rfl,fun _ _ _ hv=>by simp at ha;subst ha;exact hv⟩
  | 2,ha=>⟨_,rfl,fun _ _ _ hv=>by simp at ha;subst ha;exact qKj hv⟩
  | 3,ha=>⟨_,rfl,fun _ _ _ hv=>by simp at ha;subst ha;exact qKj hv⟩
  | j+4,ha=>by simp at ha
end
section
variable {st:St} {N V m n:Nm} {d t:Nat} {D:Nm→Bool} {hp hp' H':Nm→Option AO}
theorem qLP {F:Nm→Option Nm} {y:AV} (hV:V.isU=true) (hNV:Nm.under V N=false) (hDN:∀ k,Nm.under N k=true→D k=true) (hDV:∀ k,Nm.under V k=true→D k=false) (hF:∀ k,(D k||Nm.under V k)=true→F k=some k)
  (hR:∀ k,(D k||Nm.under V k)=true→H' k=(yC (fun k=>D k||Nm.under V k) (hmv N V st.hp) k).map (AO.tr F)) :
  qBE D ((((st.move N V).call d (fun k=>D k||Nm.under V k) (yC (fun k=>D k||Nm.under V k) (st.move N V).hp) H').put (some d) y).move V N).hp st.hp:=by
 refine⟨fun k=>((mv N V k).bind F).bind (mv V N),fun k hk=>?_,fun k hk=>?_⟩
 ·by_cases hx:Nm.under N k=true
  ·have hu:Nm.under V (Nm.ren N V k)=true:=Nm.under_ren k hx
   show ((mv N V k).bind F).bind (mv V N)=some k
   rw [show mv N V k=some (Nm.ren N V k) by simp only [mv,hx,if_true],Option.bind_some,hF _ (by simp [hu]),Option.bind_some]
   simp only [mv,hu,if_true,Nm.ren_ren_back hx]
  ·simp only [Bool.not_eq_true] at hx
   have hv:Nm.under V k=false:=by
    cases h:Nm.under V k with
    | false=>rfl
    | true=>rw [hDV k h] at hk;cases hk
   show ((mv N V k).bind F).bind (mv V N)=some k
   rw [show mv N V k=some k by simp [mv,hx,hv],Option.bind_some,hF _ (by simp [hk]),Option.bind_some]
   simp [mv,hx,hv]
 ·have e2:∀ o:AO,((o.tr (mv N V)).tr F).tr (mv V N)=o.tr (fun k=>((mv N V k).bind F).bind (mv V N)):=by
   intro o
   rw [AO.tr_tr (mv N V),AO.tr_tr]
  by_cases hx:Nm.under N k=true
  ·have hu:Nm.under V (Nm.ren N V k)=true:=Nm.under_ren k hx
   have hb:=Nm.ren_ren_back (k1:=V) hx
   have hb2:mv V N (Nm.ren N V k)=some k:=by simp only [mv,hu,if_true,hb]
   have hb3:mv N V k=some (Nm.ren N V k):=by simp only [mv,hx,if_true]
   have hR1:=hR (Nm.ren N V k) (by simp [hu])
   simp only [yC,hu,Bool.or_true,if_true,hmv,hb,hb3] at hR1
   simp only [St.move,St.nm,St.put,St.call]
   simp only [hmv,hx,if_true,hb2,hu,Bool.or_true,Bool.true_or,hR1]
   cases st.hp k with
   | none=>rfl
   | some o=>simp only [Option.map_some];rw [← e2 o]
  ·simp only [Bool.not_eq_true] at hx
   have hv:Nm.under V k=false:=by
    cases h:Nm.under V k with
    | false=>rfl
    | true=>rw [hDV k h] at hk;cases hk
   have hR1:=hR k (by simp [hk])
   simp only [yC,hk,Bool.true_or,if_true,hmv,hx,hv,Bool.false_eq_true,if_false] at hR1
   simp only [St.move,St.nm,St.put,St.call]
   simp only [hmv,hx,hv,hk,Bool.false_eq_true,if_false,Bool.true_or,if_true,hR1]
   cases st.hp k with
   | none=>rfl
   | some o=>simp only [Option.map_some];rw [← e2 o]
section
variable {H:Nm→Option AO} {i j:Nat} {o:AO} {a:AV} {c:Option Nat} {sbs:List (Nm×Nm)}
theorem qBE.step {F:Nm→Option Nm} (h:qBE D hp H) (hF:∀ k,D k=true→F k=some k) (hh:∀ k,D k=true→hp' k=(hp k).map (AO.tr F)):qBE D hp' H:=by
 obtain⟨G,h1,h2⟩:=h
 refine⟨fun k=>(G k).bind F,fun k hk=>by simp [h1 k hk,hF k hk],fun k hk=>?_⟩
 rw [hh k hk,h2 k hk]
 cases H k with
 | none=>rfl
 | some o=>simp only [Option.map_some];rw [AO.tr_tr]
theorem qQb:qBE D H H:=⟨some,fun _ _=>rfl,fun k _=>by cases H k <;> simp [AO.tr_some]⟩
theorem qK7 (h:qBE D st.hp H):qBE D (st.put c a).hp H:=by cases c <;> exact h
theorem qGz (hD:∀ k,D k=true→k.sroot=false) (h:qBE D st.hp H):qBE D (st.setO (.s i) o).hp H :=
 h.step (F:=some) (fun _ _=>rfl) fun k hk=>by
  rw [qEE,if_neg (D_s hD hk i).1]
  cases st.hp k <;> simp [AO.tr_some]
theorem qHB (hD:∀ k,D k=true→k.sroot=false) (h:qBE D st.hp H):qBE D (st.kill (.s i)).hp H :=
 h.step (F:=kl (.s i)) (fun k hk=>by simp [kl,(D_s hD hk i).2]) fun k hk=>by simp [(D_s hD hk i).2]
theorem qHA (hD:∀ k,D k=true→k.sroot=false) (h:qBE D st.hp H):qBE D (st.move (.s i) (.s j)).hp H :=
 h.step (F:=mv (.s i) (.s j)) (fun k hk=>by simp [mv,(D_s hD hk i).2,(D_s hD hk j).2]) fun k hk=>by
  rw [qEa,(D_s hD hk i).2,(D_s hD hk j).2]
  simp
theorem qK8 (hD:∀ k,D k=true→k.sroot=false) (h:qBE D st.hp H):qBE D (st.apd i (some (.s j))).hp H :=
 h.step (F:=kl (.s i)) (fun k hk=>by simp [kl,(D_s hD hk i).2]) fun k hk=>by
  have h1:=(D_s hD hk i).2
  have h2:=(D_s hD hk j).1
  rw [qMR,if_neg (fun e=>h2 (sI e).symm)]
  simp [h1]
theorem qUG (hD:∀ k,D k=true→k.sroot=false) (hs:∀ q∈sbs,q.1.sroot=true) (h:qBE D hp H):qBE D (wX D sbs hp) H :=
 h.step (F:=jO D sbs) (fun k hk=>qDh hD hk hs) fun k hk=>by simp only [wX,hk,if_true]
end
end
section
variable {X:Ctx} {st:St} {K:St→Prop} {E:AV→St→Prop} {d f:Nat} {ty:TypeId} {pos:String} {aft:Array Edge} {g:Option (Nat×Bool)} {args:Array Operand} {Ts:Array TypeId} {az:List AV}
theorem qPi (D:Nm→Bool) (N V:Nm) {z len:Nat} {rows:List (List AV)} (hV:V.isU=true:=by rfl) (hN:N.isU=false:=by rfl) (hVe:X.ext V=false) (hDr:∀ k,D k=true→k.sroot=false) (hNV:Nm.under V N=false) (hDN:∀ k,Nm.under N k=true→D k=true) (hDV:∀ k,Nm.under V k=true→D k=false) (hs:(st.hp N).isSome=true)
  (hext:∀ k i j,X.ext (.u k i j)=true→D (.u k i j)=false∨st.hp (.u k i j)≠none) (hNd:Nm.under N (.s d)=false) (hrow:rows.map (fun r=>r.map (AV.tr (mv V N)))=rows) (hd:d<X.n:=by first|(simp;done)|fail)
  (ha:args.toList.map (ev (st.move N V))=az:=by simp [fx];first|done|rfl)
  (hF:FnE X.P X.gl f (fun k=>D k||Nm.under V k) az (yC (fun k=>D k||Nm.under V k) (hmv N V st.hp)) (fun r y H'=>(y=.hs r z 0 len∧H' r=some (.row z rows))∧qBE (fun k=>D k||Nm.under V k) H' (yC (fun k=>D k||Nm.under V k) (hmv N V st.hp))) noE)
  (h:∀ hp',qBE D hp' st.hp→hp' (.s d)=some (.row z rows)→K ((st.mutn N V d D hp').put (some d) (.hs (.s d) z 0 len))) :
  qj X ⟨some d,.call ⟨.value (.func f),args,Ts⟩,ty,pos,aft,g⟩ K E st:=by
 refine qOR N V (.inl hN) (.inr hVe) (j6 V N (.inr hVe) (.inl hN) ?_)
 refine qFU (fun k=>D k||Nm.under V k) (fun k hk=>?_) (fun k i j he=>?_) hd ha hF ?_
 ·rcases Bool.or_eq_true _ _ ▸ hk with h|h
  ·exact hDr k h
  ·exact qu hV h
 ·by_cases hD:D (.u k i j)=true
  ·right
   rcases hext k i j he with h|h
   ·rw [h] at hD;cases hD
   ·have hn:Nm.under N (.u k i j)=false:=by cases N <;> simp [Nm.isU,Nm.under] at *
    have hv:Nm.under V (.u k i j)=false:=by
     cases h:Nm.under V (.u k i j) with
     | false=>rfl
     | true=>rw [hDV _ h] at hD;cases hD
    simp only [yC,hD,Bool.true_or,if_true,St.move,St.nm,hmv,hn,hv,Bool.false_eq_true,if_false]
    cases hx:st.hp (.u k i j) with
    | none=>exact absurd hx h
    | some o=>simp
  ·simp only [Bool.not_eq_true] at hD
   by_cases hv:Nm.under V (.u k i j)=true
   ·have:Nm.u k i j=V:=by cases V <;> simp [Nm.isU,Nm.under] at * <;> exact⟨hv.1,hv.2.1,hv.2.2⟩
    rw [this,hVe] at he
    cases he
   ·simp only [Bool.not_eq_true] at hv
    exact .inl (by simp [hD,hv])
 ·rintro y H' ⟨⟨rfl,hr⟩,F,hF1,hF2⟩
  have hVd:Nm.under V (.s d)=false:=by cases V <;> simp [Nm.isU] at *
  obtain⟨q,hq,e⟩:=qLQ (d:=d) (H':=H') (st:=st) (y:=.hs (.s d) z 0 len) hV hNV hDN hDV hDr hs (by simp [mv,hVd,hNd])
  have hS:=qLP (d:=d) (y:=.hs (.s d) z 0 len) (st:=st) hV hNV hDN hDV hF1 hF2
  have hq2:q.hp (.s d)=some (.row z rows):=by
   rw [hq]
   simp [hmv,hVd,hNd,hr,AO.tr,hrow]
  rw [← hq] at hS ⊢
  rw [e]
  exact h _ hS hq2
end
end Go.Hm
end
section
namespace Go.Hm
open Go Go.RowKit
section
variable {p:Prg} {m:Mch} {fs:List Frm} {f:Frm} {o:Int×Int}
theorem qRL (hM:MOk p m fs f) (ho:(jx p f.blk)[f.pc]?=some o) (h:o.1=16∨o.1=17):m.made≤150:=by
 have h1:=hM.made
 have h2:1≤jk p f:=by
  unfold jk
  rw [kC ho]
  simp only [jA]
  rw [if_neg (by omega),if_pos (by omega)]
  omega
 omega
variable {c x:Int} {w:Nat}
theorem qE8 (h1:2≤c) (h2:c≤4) (hw:((c - 2) % 3).toNat=w):vQ p m fs f (c,x)=zl m fs f (c,x) w 2:=by
 rw [qC0 (o:=(c,x)) h1 (by simp only;omega) (by simp only;omega) (by simp only;omega),show wH p f (c,x)=2 by simp only [wH];rw [if_pos h2],← hw]
theorem qIU (h1:5≤c) (h2:c≤7) (hw:((c - 2) % 3).toNat=w):vQ p m fs f (c,x)=zl m fs f (c,x) w (if x<(qF p f.blk).length then 2 else 3):=by
 rw [qC0 (o:=(c,x)) (by simp only;omega) (by simp only;omega) (by simp only;omega) (by simp only;omega),show wH p f (c,x)=if x<(qF p f.blk).length then 2 else 3 by simp only [wH];rw [if_neg (by omega),if_pos h2],← hw]
theorem qE9 (h1:9≤c) (h2:c≤13) (h3:c≠11) (hw:((c - 2) % 3).toNat=w):vQ p m fs f (c,x)=zl m fs f (c,x) w 4:=by
 rw [qC0 (o:=(c,x)) (by simp only;omega) h2 (by simp only;omega) h3,show wH p f (c,x)=4 by simp only [wH];rw [if_neg (by omega),if_neg (by omega)],← hw]
end
section
variable {p:Prg} {m:Mch} {fs:List Frm} {f:Frm} {o:Int×Int} {b n:Nat} {v:Val} {k:Blk}
theorem qK1 (hP:ValP p):(qk p 0).params=[]:=by
 have hl:=hP.sh.len
 obtain⟨k,hk⟩:∃ k,p[0]?=some k:=⟨_,gE (by omega)⟩
 have:=hP.sh.head 0 k hk
 unfold jL at this
 rw [if_pos rfl] at this
 simp only [qk,hk]
 exact List.eq_nil_of_length_eq_zero this.2.2
theorem qFF {cs:List Nat} {vs:List Val}:(z6 p m b cs vs).frames≠[]:=by
 unfold z6
 split
 ·split <;> simp
 ·simp
theorem qNn (hP:ValP p):¬ (qb p n).ended:=by
 rintro (h|h)
 ·exact qFF h
 ·exact h qFG
theorem qI1 (h:fs≠[]):(zf m fs v).frames≠[]:=by
 unfold zf
 split
 ·simp
 ·rename_i e
  exact absurd (List.getLast?_eq_none_iff.1 e) h
theorem qKa {s:Slt}:(setS m fs f o s).frames≠[]:=by
 unfold setS
 repeat' split
 all_goals simp [Mch.top]
theorem qUT (hc:0≤o.1∧o.1≤20) (h:o.1=20→fs≠[]):(vQ p m fs f o).frames≠[]:=by
 have hT:∀ g:Frm,(m.top fs g).frames≠[]:=fun g=>by simp [Mch.top]
 have hS:∀ (g:Frm) (e:Int),(m.stop fs g e).frames≠[]:=fun g e=>by simp [Mch.stop,Mch.top]
 unfold vQ
 split
 ·unfold un
  split
  ·exact hS _ _
  ·simp [Mch.top]
 ·split
  ·split
   ·unfold yj
    repeat' split
    all_goals first|exact hT _|exact hS _ _
   ·split
    ·exact qKa
    ·unfold qIh
     split
     ·exact qKa
     ·exact hS _ _
  ·unfold zS
   repeat' split
   all_goals first
    | exact hT _
    | exact qFF
    | (unfold qMV;dsimp only;split <;> first|exact hT _|exact hS _ _)
    | (unfold qA9;dsimp only;repeat' split
       all_goals first|exact hS _ _|exact qFF)
    | (unfold qBD;dsimp only;repeat' split
       all_goals first|exact hT _|exact hS _ _)
    | (simp [Mch.top];done)
    | exact qI1 (h (by omega))
end
end Go.Hm
end
section
namespace Go.Hm
open Go Go.RowKit
section
variable {key:Nat→Nm} {es:List Nat} {l l':List AV} {i j z n:Nat} {x:AV} {m:Nm}
theorem qP7:zcs key es j (l++l')=zcs key es j l++zcs key es (j+l.length) l':=by
 induction l generalizing j with
 | nil=>simp [zcs]
 | cons y l ih =>
  have e:j+1+l.length=j+(y::l).length:=by simp;omega
  simp only [List.cons_append,zcs,ih,e]
theorem qP6:(zcs key es j l).length=l.length:=by
 induction l generalizing j with
 | nil=>rfl
 | cons y l ih=>simp [zcs,ih]
theorem qGG (hk:∀ a b,key a=key b→a=b) (h:l[i]?=some x) (hx:qy x=true):(zA key es j l).find? (fun p=>decide (p.1=key (j+i)))=some (key (j+i),es.getD (j+i) 0):=by
 induction l generalizing i j with
 | nil=>cases h
 | cons y l ih =>
  cases i with
  | zero =>
   obtain rfl:y=x:=by simpa using h
   simp [zA,hx]
  | succ i =>
   have hn:¬ key j=key (j+(i+1)):=fun e=>by have:=hk _ _ e;omega
   have:=ih (j:=j+1) (i:=i) (by simpa using h)
   rw [show j+1+i=j+(i+1) by omega] at this
   simp only [zA]
   split
   ·rw [List.find?_cons_of_neg (by simpa using hn)]
    exact this
   ·exact this
theorem qC4 (h:∀ a,m≠key a):(zA key es j l).find? (fun p=>decide (p.1=m))=none:=by
 induction l generalizing j with
 | nil=>rfl
 | cons y l ih =>
  simp only [zA]
  split
  ·rw [List.find?_cons_of_neg (by simpa using fun e=>h j e.symm)]
   exact ih
  ·exact ih
theorem qOp:cat (fun i=>(l.drop (z * i)).take z) n=l.take (z * n):=by
 induction n with
 | zero=>simp [cat]
 | succ n ih=>rw [v9,ih,Nat.mul_succ,List.take_add]
end
structure PreY (hp:Nm→Option AO) (p:Prg) (n b:Nat):Prop where
 top:∃ J:Nat→List AV,(∀ i,(J i).length=29)∧hp Yn=some (.row 4415 [spl (qw p (qi n) 0 J) 1 [.hs (.c Yn 0 1) 1 0 b]])
 caps:hp (.c Yn 0 1)=some (.row 1 (jd p b))
 out:hp (.c Yn 0 4)=some (.row 1 [])
 trc:hp (.c Yn 0 5)=some (.row 2 [])
 funs:hp (.c Yn 0 30)=some (.row 2 [])
 clss:hp (.c Yn 0 31)=some (.row 24 [])
 only:∀ k i j,fM k=true→hp (.u k i j)≠none→k=1∧i=0∧j=0
section
variable {hp hp':Nm→Option AO} {p:Prg} {n b:Nat} {R:List AV}
theorem PreY.own (h:PreY hp p n p.length):OwnY hp p (qi n):=by
 obtain⟨J,hJ,e⟩:=h.top
 refine⟨⟨J,hJ,?_⟩,h.caps,by simpa [qi,qY] using h.out,by simpa [qi,yI] using h.trc,by simpa [qi] using h.funs,by simpa [qi] using h.clss,fun i f hf=>by simp [qi] at hf,fun i f hf=>by simp [qi] at hf,fun i f hf=>by simp [qi] at hf,fun c s hs=>by simp [qi] at hs,fun k i j hk hn=>.inl (h.only k i j hk hn)⟩
 rw [e]
 rfl
theorem PreY.row (h:PreY hp p n b):∃ R,hp Yn=some (.row 4415 [R])∧R.length=4415∧R[1]?=some (.hs (.c Yn 0 1) 1 0 b):=by
 obtain⟨J,hJ,e⟩:=h.top
 exact⟨_,e,by rw [qQa (by rw [yN hJ];simp),yN hJ],rfl⟩
theorem PreY.step {b':Nat} {R':List AV} (h:PreY hp p n b) (hr:hp Yn=some (.row 4415 [R])) (h0:hp' Yn=some (.row 4415 [R'])) (hR:∃ F:Nm→Option Nm,(∀ j,j≠1→F (.c Yn 0 j)=some (.c Yn 0 j))∧R'=(R.map (AV.tr F)).take 1++.hs (.c Yn 0 1) 1 0 b'::(R.map (AV.tr F)).drop 2)
  (h1:hp' (.c Yn 0 1)=some (.row 1 (jd p b')))
  (h2:hp' (.c Yn 0 4)=some (.row 1 []):=by simp [h.out]) (h3:hp' (.c Yn 0 5)=some (.row 2 []):=by simp [h.trc])
  (h4:hp' (.c Yn 0 30)=some (.row 2 []):=by simp [h.funs]) (h5:hp' (.c Yn 0 31)=some (.row 24 []):=by simp [h.clss])
  (hA:∀ k i j,fM k=true→¬ (k=1∧i=0∧j=0)→hp' (.u k i j)≠none→hp (.u k i j)≠none:=by intro k i j hk e hn;simpa [hk,e] using hn):PreY hp' p n b':=by
 obtain⟨J,hJ,e⟩:=h.top
 obtain⟨F,hF,rfl⟩:=hR
 refine⟨⟨fun i=>(J i).map (AV.tr F),fun i=>by simp [hJ],?_⟩,h1,h2,h3,h4,h5,fun k i j hk hn=>?_⟩
 ·rw [h0,← qCO hr e]
  have hm:(qw p (qi n) 0 J).map (AV.tr F)=(yA p (qi n)).map (AV.tr F)++(vR qm++(yB (qi n)++(cat (fun i=>(J i).map (AV.tr F)) 151++yZ (qi n) 0))):=by
   rw [qPB]
   simp [yB,hF,AV.tr,qi]
  simp only [spl,List.map_append,List.map_take,List.map_drop,hm]
  simp [qw,yA,hF,AV.tr,jM,qi]
 ·by_cases e:k=1∧i=0∧j=0
  ·exact e
  ·exact h.only k i j hk (hA k i j hk e hn)
theorem qKz {P:Program} {T:TypeId} {st:St} {Z:List AV} {d:Nat} (hz:Z.length=4415) (hz1:Z.take 32=[.sc (.slice none 0 0),.sc (.slice none 0 0),iv 0,iv 0,.sc (.slice none 0 0),.sc (.slice none 0 0)]++(vR qm++[.sc (.slice none 0 0),.sc (.slice none 0 0)])) (hz2:Z.drop 4411=[iv 0,iv 0,iv 0,iv 0])
  (he:∀ k,(k=1∨k=4)→(tce P T).getD k 0=1) (he2:∀ k,(k=5∨k=30)→(tce P T).getD k 0=2) (he31:(tce P T).getD 31 0=24)
  (hD:∀ k i j,fM k=true→st.hp (.u k i j)=none) :
  PreY ((((St.setNils (zA (Nm.c (.s d) 0) (tce P T) 0 (spl (spl (spl Z 0 [csl (qf p p.length)]) 2 [iv n]) 3 [iv 0])) (st.kill (.s d))).setO (.s d) (.row 4415 [zcs (Nm.c (.s d) 0) (tce P T) 0 (spl (spl (spl Z 0 [csl (qf p p.length)]) 2 [iv n]) 3 [iv 0])])).move (.s d) Yn).hp) p n 0:=by
 obtain⟨mid,hmid,hml⟩:∃ mid,Z.drop 32=mid++[iv 0,iv 0,iv 0,iv 0]∧mid.length=29 * 151:=by
  refine⟨(Z.drop 32).take 4379,?_,by simp [hz]⟩
  have e:=List.take_append_drop 4379 (Z.drop 32)
  rw [List.drop_drop,hz2] at e
  exact e.symm
 have hZ:Z=([.sc (.slice none 0 0),.sc (.slice none 0 0),iv 0,iv 0,.sc (.slice none 0 0),.sc (.slice none 0 0)]++(vR qm++[.sc (.slice none 0 0),.sc (.slice none 0 0)]))++(mid++[iv 0,iv 0,iv 0,iv 0]):=by
  have e:=List.take_append_drop 32 Z
  rw [hz1,hmid] at e
  exact e.symm
 obtain⟨C,hC⟩:∃ C,C=spl (spl (spl Z 0 [csl (qf p p.length)]) 2 [iv n]) 3 [iv 0]:=⟨_,rfl⟩
 have hC2:C=([csl (qf p p.length),.sc (.slice none 0 0),iv n,iv 0,.sc (.slice none 0 0),.sc (.slice none 0 0)]++(vR qm++[.sc (.slice none 0 0),.sc (.slice none 0 0)]))++(mid++[iv 0,iv 0,iv 0,iv 0]):=by
  rw [hC,hZ]
  simp [spl,qA4]
 have e1:=he 1 (.inl rfl)
 have e4:=he 4 (.inr rfl)
 have e5:=he2 5 (.inl rfl)
 have e30:=he2 30 (.inr rfl)
 rw [← hC]
 generalize tce P T=es at *
 have hrow:zcs (Nm.c (.s d) 0) es 0 C=([csl (qf p p.length),.hs (.c (.s d) 0 1) 1 0 0,iv n,iv 0,.hs (.c (.s d) 0 4) 1 0 0,.hs (.c (.s d) 0 5) 2 0 0]++(vR qm++[.hs (.c (.s d) 0 30) 2 0 0,.hs (.c (.s d) 0 31) 24 0 0]))++(zcs (Nm.c (.s d) 0) es 32 mid++[iv 0,iv 0,iv 0,iv 0]):=by
  rw [hC2]
  simp only [List.getD_eq_getElem?_getD] at e1 e4 e5 e30 he31
  simp [qA4,qP7,zcs,zc,qy,e1,e4,e5,e30,he31]
 have hk:∀ k z,C[k]?=some (.sc (.slice none 0 0))→es.getD k 0=z→(St.setNils (zA (Nm.c (.s d) 0) es 0 C) (st.kill (.s d))).hp (.c (.s d) 0 k)=some (.row z []):=by
  intro k z h1 h2
  have:=qGG (es:=es) (j:=0) (key:=Nm.c (.s d) 0) (fun a b e=>by injection e) h1 rfl
  rw [Nat.zero_add] at this
  rw [wa,this,h2]
 have hc:∀ k,k<32→C[k]?=([csl (qf p p.length),.sc (.slice none 0 0),iv n,iv 0,.sc (.slice none 0 0),.sc (.slice none 0 0)]++(vR qm++[.sc (.slice none 0 0),.sc (.slice none 0 0)]))[k]?:=fun k hk=>by
  rw [hC2,List.getElem?_append_left (by simpa using hk)]
 have g1:=hk 1 1 (by rw [hc 1 (by omega)];rfl) e1
 have g4:=hk 4 1 (by rw [hc 4 (by omega)];rfl) e4
 have g5:=hk 5 2 (by rw [hc 5 (by omega)];rfl) e5
 have g30:=hk 30 2 (by rw [hc 30 (by omega)];rfl) e30
 have g31:=hk 31 24 (by rw [hc 31 (by omega)];rfl) he31
 rw [hrow]
 obtain⟨mm,hmm⟩:∃ mm,mm=(zcs (Nm.c (.s d) 0) es 32 mid).map (AV.tr (mv (.s d) Yn)):=⟨_,rfl⟩
 have hmml:mm.length=29 * 151:=by rw [hmm,List.length_map,qP6,hml]
 obtain⟨J,hJ1,hJ2⟩:∃ J:Nat→List AV,(∀ i,(J i).length=29)∧cat J 151=mm:=by
  refine⟨fun i=>if i<151 then (mm.drop (29 * i)).take 29 else List.replicate 29 .bot,fun i=>?_,?_⟩
  ·dsimp only
   split
   ·simp [hmml];omega
   ·simp
  ·rw [qGc (c:=fun i=>(mm.drop (29 * i)).take 29) fun i hi=>by simp [hi],qOp]
   exact List.take_of_length_le (by omega)
 refine⟨⟨J,hJ1,?_⟩,by simp [g1,AO.tr],by simp [g4,AO.tr],by simp [g5,AO.tr],by simp [g30,AO.tr],by simp [g31,AO.tr],fun k i j hk hn=>?_⟩
 ·simp [AO.tr,qw,yA,yB,yZ,hJ2,spl,qi,hmm,AV.tr,jM,kA]
 ·by_cases e:k=1∧i=0∧j=0
  ·exact e
  ·refine absurd ?_ hn
   have hno:(St.setNils (zA (Nm.c (.s d) 0) es 0 C) (st.kill (.s d))).hp (.u k i j)=none:=by
    rw [wa,qC4 fun a e=>by cases e]
    simp [hD k i j hk]
   simp [e,hno]
end
section
variable {P:Program} {T:TypeId} {l:List Value} {a b c:AV} {e0 e2 e3:TypeId} {key:Nat→Nm} {es:List Nat} {j:Nat} {L:List AV} {x:AV}
theorem qMP (h1:yr P T=true) (h2:ju P T=some l) (hl:l.length=4415) (f0:tfo P T 0=some (0,e0)) (f2:tfo P T 2=some (2,e2)) (f3:tfo P T 3=some (3,e3)) (s0:tsz P e0=1) (s2:tsz P e2=1) (s3:tsz P e3=1)
  (ha:a.cells=some [a]) (hb:b.cells=some [b]) (hc:c.cells=some [c]):qHg P T [(0,a),(2,b),(3,c)]=some (.agg (spl (spl (spl (l.map .sc) 0 [a]) 2 [b]) 3 [c])):=by
 unfold qHg
 rw [if_pos h1,h2]
 simp [qEs,f0,f2,f3,s0,s2,s3,ha,hb,hc,hl,spl]
theorem qP5 (h:x∈zcs key es j L):(∃ k z,x=.hs (key k) z 0 0)∨x∈L:=by
 induction L generalizing j with
 | nil=>simp [zcs] at h
 | cons y L ih =>
  simp only [zcs,List.mem_cons] at h
  rcases h with rfl|h
  ·unfold zc
   split
   ·exact .inl ⟨_,_,rfl⟩
   ·exact .inr (by simp)
  ·rcases ih h with h|h
   ·exact .inl h
   ·exact .inr (by simp [h])
end
section
variable {X:Ctx} {st:St} {K:St→Prop} {E:AV→St→Prop} {d:Nat} {ty:TypeId} {pos:String} {aft:Array Edge} {g:Option (Nat×Bool)}
theorem qSc {T:TypeId} {x:Operand} {cs:List AV} (hd:d<X.n) (hq:(ev st x).cells=some cs) (z:Nat) (hz:cs.length=z) (hsz:tsz X.P T=z) (hs:∀ y∈cs,(∃ v,y=.sc v)∨∃ z rows,y=.sl z rows∧y.tr (kl (.s d))=y)
  (h:K (((St.setNils (zA (Nm.c (.s d) 0) (tce X.P T) 0 cs) (st.kill (.s d))).setO (.s d) (.row z [zcs (Nm.c (.s d) 0) (tce X.P T) 0 cs])).put (some d) (.pt (.s d) 0))) :
  qj X ⟨some d,.box T x,ty,pos,aft,g⟩ K E st:=by
 subst hsz
 refine zG hd hq hz ?_ h
 have hkl:cs.map (AV.tr (kl (.s d)))=cs:=by
  rw [List.map_congr_left (g:=id) fun y hy=>?_,List.map_id]
  rcases hs y hy with⟨v,rfl⟩|⟨z,rows,_,e⟩
  ·rfl
  ·exact e
 unfold wx
 simp only [hkl]
 rw [qE3 fun y hy=>?_]
 ·rfl
 ·rcases qP5 hy with⟨k,z,rfl⟩|hy
  ·rfl
  ·rcases hs y hy with⟨v,rfl⟩|⟨z,rows,rfl,_⟩ <;> rfl
end
end Go.Hm
end
