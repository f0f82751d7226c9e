import Derived.Test.YtdnebaieamppbaaGreatDoorE19
set_option linter.unusedSimpArgs false
set_option linter.unusedVariables false
set_option maxRecDepth 100000
set_option maxHeartbeats 4000000

section
namespace Go.Hm
open Go Go.RowKit
section
variable {hp hp':Nm->Option AO} {p:Z0} {m m':Zb} {fs:List Z8} {f g:Z8} {R R':List AV} {i:Nat} {e:Int} {v:Zd}
theorem VA {o:List AV} (h:hp Yn=some (.row 4415 [R])) (h':hp Yn=some (.row 4415 [o])):o=R:=by
 simp_all
theorem pg {i k:Nat} (h:i<k):¬ i=k/\(29 * i=29 * k)=False/\(∀ a,a<29->(32+29 * i+a=yo k)=False)/\∀ a,(32+29 * i=yo k+a)=False :=
 ⟨qA,eq_false qA,λa ha=>eq_false qj,λa=>eq_false qj⟩
theorem ZY.reT (h:ZY hp p m) (hm:m.ZW=fs++[f]) (hm':m'.ZW=fs++[g]) (hc:m'.cells.length=m.cells.length)
  (h0:∀ J:Nat->List AV,(∀ i,(J i).length=29)->hp Yn=some (.row 4415 [zV p m (fs.length+1) (yc (fs++[f]) J)])->∃ J':Nat->List AV,(∀ i,(J' i).length=29)/\hp' Yn=some (.row 4415 [zV p m' (fs.length+1) (yc (fs++[g]) J')]))
  (h1:hp' (.c Yn 0 1)=some (.row 1 (ve p p.length)):=by simp [h.qAZ])
  (h2:hp' (.c Yn 0 4)=some (.row 1 (qT m'.out)):=by simp [h.out])
  (h3:hp' (.c Yn 0 5)=some (.row 2 (yw m'.trace)):=by simp [h.trc])
  (h4:hp' (.c Yn 0 30)=some (.row 2 (vN m'.ZZ)):=by simp [h.ZZ])
  (h5:hp' (.c Yn 0 31)=some (.row 24 (uj m'.ZV)):=by simp [h.Zw])
  (h6:∀ (i:Nat) x,i<fs.length->hp (.c Yn 0 (32+29 * i+2))=some (.row 3 (qW x))->hp' (.c Yn 0 (32+29 * i+2))=some (.row 3 (qW x)):=by intro i x hi hx;have e:=pg hi;simp [hx,e.1,e.2.1,e.2.2.1,e.2.2.2])
  (h6t:hp' (.c Yn 0 (yo fs.length+2))=some (.row 3 (qW g.Z3)):=by simp [h.Z3])
  (h7:∀ (i:Nat) x,i<fs.length->hp (.c Yn 0 (32+29 * i+3))=some (.row 1 (zQ x))->hp' (.c Yn 0 (32+29 * i+3))=some (.row 1 (zQ x)):=by intro i x hi hx;have e:=pg hi;simp [hx,e.1,e.2.1,e.2.2.1,e.2.2.2])
  (h7t:hp' (.c Yn 0 (yo fs.length+3))=some (.row 1 (zQ g.cells)))
  (h8:∀ (i:Nat) x,i<fs.length->hp (.c Yn 0 (32+29 * i+28))=some (.row 2 (zn x))->hp' (.c Yn 0 (32+29 * i+28))=some (.row 2 (zn x)):=by intro i x hi hx;have e:=pg hi;simp [hx,e.1,e.2.1,e.2.2.1,e.2.2.2])
  (h8t:∃ j,hp' (.c Yn 0 (yo fs.length+28))=some (.row 2 (zn (g.stack++j))))
  (h9:∀ (c:Nat) s,m'.cells[c]?=some s->hp' (En c)=some (.row 3 [jm s]):=by intro c s hc;simp [h.cell c s hc])
  (hA:∀ k i j,fM k=true->¬ (k=1/\i=0/\j=0)->hp' (.u k i j)≠none->hp (.u k i j)≠none:=by intro k i j hk e hn;simpa [hk,e] using hn):ZY hp' p m':=by
 have key:∀ (i:Nat) f',m'.ZW[i]?=some f'->(i=fs.length/\f'=g)\/(i<fs.length/\m.ZW[i]?=some f'):=by
  grind
 refine⟨?_,h1,h2,h3,h4,h5,λi f' hf=>?_,λi f' hf=>?_,λi f' hf=>?_,h9,λk i j hk hn=>?_⟩
 .grind[top]
 .rcases key i f' hf with⟨rfl,rfl⟩|⟨h1,h2⟩
  .exact h6t
  .exact h6 i _ h1 (h.Z3 i f' h2)
 .rcases key i f' hf with⟨rfl,rfl⟩|⟨h1,h2⟩
  .exact h7t
  .exact h7 i _ h1 (h.cls i f' h2)
 .rcases key i f' hf with⟨rfl,rfl⟩|⟨h1,h2⟩
  .exact h8t
  .obtain⟨j,hj⟩:=h.stack i f' h2
   grind
 .by_cases e:k=1/\i=0/\j=0
  .omega
  .rw [hc];exact h.only k i j hk (hA k i j hk e hn)
theorem ZY.qAO (h:ZY hp p m) (hm:m.ZW=fs++[f]) (hi:fs.length<151):∃ R j,hp Yn=some (.row 4415 [R])/\qCh p m fs.length f R/\hp (.c Yn 0 (yo fs.length+2))=some (.row 3 (qW f.Z3))/\hp (.c Yn 0 (yo fs.length+3))=some (.row 1 (zQ f.cells))/\hp (.c Yn 0 (yo fs.length+28))=some (.row 2 (zn (f.stack++j))):=by
 obtain⟨J,j,hJ,hT,h2,h3,h28⟩:=h.qAj hm
 grind[ZC]
theorem od (hr:hp Yn=some (.row 4415 [R])) (h':hp' Yn=some (.row 4415 [R'])) (h0:∀ J:Nat->List AV,(∀ i,(J i).length=29)->R=zV p m (fs.length+1) (yc (fs++[f]) J)->R'=zV p m' (fs.length+1) (yc (fs++[g]) J)) :
  ∀ J:Nat->List AV,(∀ i,(J i).length=29)->hp Yn=some (.row 4415 [zV p m (fs.length+1) (yc (fs++[f]) J)])->∃ J':Nat->List AV,(∀ i,(J' i).length=29)/\hp' Yn=some (.row 4415 [zV p m' (fs.length+1) (yc (fs++[g]) J')]):=λJ hJ e =>
 ⟨J,hJ,qj⟩
theorem Ax (hr:hp Yn=some (.row 4415 [R])) (h':hp' Yn=some (.row 4415 [R'])) (h0:∀ J:Nat->List AV,(∀ i,(J i).length=29)->R=zV p m (fs.length+1) (yc (fs++[f]) J)->∃ J':Nat->List AV,(∀ i,(J' i).length=29)/\R'=zV p m' (fs.length+1) (yc (fs++[g]) J')) :
  ∀ J:Nat->List AV,(∀ i,(J i).length=29)->hp Yn=some (.row 4415 [zV p m (fs.length+1) (yc (fs++[f]) J)])->∃ J':Nat->List AV,(∀ i,(J' i).length=29)/\hp' Yn=some (.row 4415 [zV p m' (fs.length+1) (yc (fs++[g]) J')]):=λJ hJ e=>by
 grind
@[simp] theorem yo_ne {k:Nat} (h:k<32):(32+29 * i=k)↔False:=iff_false_intro qA
theorem eC {a b:Nm->Option Nm}:(AV.tr a∘AV.tr b)=AV.tr (λm=>(b m).bind a):=by
 grind[AV.qAW]
theorem mD {l:List AV} {v:AV} {k:Nat}:l.take k++v::l.drop (k+1)=Zz l k [v]:=te
section
variable {F:Nm->Option Nm} {h:Nat} {c J:Nat->List AV} {x:AV} {L:List Z8}
theorem RZ:(zV p m h c).map (AV.tr F)=(yA p m).map (AV.tr F)++(aK m.globals++((yB m).map (AV.tr F)++(cat (λi=>(c i).map (AV.tr F)) 151++yZ m h))):=by
 have h1:(cat c 151).map (AV.tr F)=cat (λi=>(c i).map (AV.tr F)) 151:=Ik λi _=>rfl
 simp_all[zV,yZ]
theorem Ce (hF:∀ j,32<=j->F (.c Yn 0 j)=some (.c Yn 0 j)):(λi=>(yc L J i).map (AV.tr F))=yc L λi=>(J i).map (AV.tr F):=by
 funext i
 unfold yc
 split
 .simp [yfr,hF _ (show 32<=32+29 * i+2 by omega),hF _ (show 32<=32+29 * i+3 by omega),hF _ (show 32<=32+29 * i+28 by omega),AV.tr]
 .rfl
theorem U8 (hF:∀ j,j≠4->F (.c Yn 0 j)=some (.c Yn 0 j)):Zz ((zV p m h (yc L J)).map (AV.tr F)) 4 [x]=Zz (zV p m h (yc L λi=>(J i).map (AV.tr F))) 4 [x]:=by
 rw [RZ,Ce λj hj=>hF j qA]
 simp_all[zV,yA,yB,Zz]
theorem U7 (hF:∀ j,j≠5->F (.c Yn 0 j)=some (.c Yn 0 j)):Zz ((zV p m h (yc L J)).map (AV.tr F)) 5 [x]=Zz (zV p m h (yc L λi=>(J i).map (AV.tr F))) 5 [x]:=by
 rw [RZ,Ce λj hj=>hF j qA]
 simp_all[zV,yA,yB,Zz]
theorem R4 {a b a' b' x:AV} {S:List AV} {P:List AV} {k:Nat} (hP:P.length=30) (hk:(k=30/\b=b')\/(k=31/\a=a')):Zz (P++([a,b]++S)) k [x]=Zz (P++([a',b']++S)) k [x]:=by
 rcases hk with⟨rfl,rfl⟩|⟨rfl,rfl⟩
 .have h1:=nM (P:=P) (X:=[a,b]) (S:=S) (k:=0) (vals:=[x]) qB
  grind[Zz]
 .have h1:=nM (P:=P) (X:=[a,b]) (S:=S) (k:=1) (vals:=[x]) qB;have h2:=nM (P:=P) (X:=[a,b']) (S:=S) (k:=1) (vals:=[x]) qB
  grind[Zz]
theorem SS (hF:∀ j,j≠30->F (.c Yn 0 j)=some (.c Yn 0 j)):Zz ((zV p m h (yc L J)).map (AV.tr F)) 30 [x]=Zz (zV p m h (yc L λi=>(J i).map (AV.tr F))) 30 [x]:=by
 rw [RZ,Ce λj hj=>hF j qA,Ra];have e:(yA p m).map (AV.tr F)=yA p m:=by simp_all[yA]
 rw [e,<- xW];exact R4 (by simp [yA]) (.inl ⟨rfl,qH⟩)
theorem SR (hF:∀ j,j≠31->F (.c Yn 0 j)=some (.c Yn 0 j)):Zz ((zV p m h (yc L J)).map (AV.tr F)) 31 [x]=Zz (zV p m h (yc L λi=>(J i).map (AV.tr F))) 31 [x]:=by
 rw [RZ,Ce λj hj=>hF j qA,Ra];have e:(yA p m).map (AV.tr F)=yA p m:=by simp_all[yA]
 rw [e,<- xW];exact R4 (by simp [yA]) (.inr ⟨rfl,qH⟩)
theorem ZE {o:List (Nat×Nat)} (hF:∀ j,j≠5->F (.c Yn 0 j)=some (.c Yn 0 j)):Zz ((zV p m h (yc L J)).map (AV.tr F)) 5 [.hs (.c Yn 0 5) 2 0 o.length]=zV p { m with trace:=o } h (yc L λi=>(J i).map (AV.tr F)):=by rw [U7 hF,U3]
theorem ZF {o:List Int} (hF:∀ j,j≠4->F (.c Yn 0 j)=some (.c Yn 0 j)):Zz ((zV p m h (yc L J)).map (AV.tr F)) 4 [.hs (.c Yn 0 4) 1 0 o.length]=zV p { m with out:=o } h (yc L λi=>(J i).map (AV.tr F)):=by rw [U8 hF,U4]
theorem Wt {o:List (Nat×List Nat)} (hF:∀ j,j≠30->F (.c Yn 0 j)=some (.c Yn 0 j)):Zz ((zV p m h (yc L J)).map (AV.tr F)) 30 [.hs (.c Yn 0 30) 2 0 o.length]=zV p { m with ZZ:=o } h (yc L λi=>(J i).map (AV.tr F)):=by rw [SS hF,SQ]
theorem Ws {o:List (List Zt)} (hF:∀ j,j≠31->F (.c Yn 0 j)=some (.c Yn 0 j)):Zz ((zV p m h (yc L J)).map (AV.tr F)) 31 [.hs (.c Yn 0 31) 24 0 o.length]=zV p { m with ZV:=o } h (yc L λi=>(J i).map (AV.tr F)):=by rw [SR hF,SP]
theorem Yk (o:List Int) {v:AV} (hJ:∀ i,(J i).length=29) (hv:v=.hs (.c Yn 0 4) 1 0 o.length) (hF:∀ j,j≠4->F (.c Yn 0 j)=some (.c Yn 0 j)):∃ J':Nat->List AV,(∀ i,(J' i).length=29)/\((zV p m h (yc L J)).map (AV.tr F)).take 4++v::((zV p m h (yc L J)).map (AV.tr F)).drop 5=zV p { m with out:=o } h (yc L J') :=
 ⟨λi=>(J i).map (AV.tr F),λi=>gI,by grind[mD,ZF]⟩
theorem Yj (o:List (Nat×Nat)) {v:AV} (hJ:∀ i,(J i).length=29) (hv:v=.hs (.c Yn 0 5) 2 0 o.length) (hF:∀ j,j≠5->F (.c Yn 0 j)=some (.c Yn 0 j)):∃ J':Nat->List AV,(∀ i,(J' i).length=29)/\((zV p m h (yc L J)).map (AV.tr F)).take 5++v::((zV p m h (yc L J)).map (AV.tr F)).drop 6=zV p { m with trace:=o } h (yc L J') :=
 ⟨λi=>(J i).map (AV.tr F),λi=>gI,by grind[mD,ZE]⟩
theorem WH (o:List (Nat×List Nat)) {v:AV} (hJ:∀ i,(J i).length=29) (hv:v=.hs (.c Yn 0 30) 2 0 o.length) (hF:∀ j,j≠30->F (.c Yn 0 j)=some (.c Yn 0 j)):∃ J':Nat->List AV,(∀ i,(J' i).length=29)/\((zV p m h (yc L J)).map (AV.tr F)).take 30++v::((zV p m h (yc L J)).map (AV.tr F)).drop 31=zV p { m with ZZ:=o } h (yc L J') :=
 ⟨λi=>(J i).map (AV.tr F),λi=>gI,by grind[mD,Wt]⟩
theorem WG (o:List (List Zt)) {v:AV} (hJ:∀ i,(J i).length=29) (hv:v=.hs (.c Yn 0 31) 24 0 o.length) (hF:∀ j,j≠31->F (.c Yn 0 j)=some (.c Yn 0 j)):∃ J':Nat->List AV,(∀ i,(J' i).length=29)/\((zV p m h (yc L J)).map (AV.tr F)).take 31++v::((zV p m h (yc L J)).map (AV.tr F)).drop 32=zV p { m with ZV:=o } h (yc L J') :=
 ⟨λi=>(J i).map (AV.tr F),λi=>gI,by grind[mD,Ws]⟩
end
theorem ZY.wrR (h:ZY hp p m) (hm:m.ZW=fs++[f]) (hm':m'.ZW=fs++[g]) (hr:hp Yn=some (.row 4415 [R])) (h0:∀ J:Nat->List AV,(∀ i,(J i).length=29)->R=zV p m (fs.length+1) (yc (fs++[f]) J)->R'=zV p m' (fs.length+1) (yc (fs++[g]) J))
  (e1:m'.cells=m.cells:=by rfl) (e2:m'.out=m.out:=by rfl) (e3:m'.trace=m.trace:=by rfl) (e4:m'.ZZ=m.ZZ:=by rfl) (e5:m'.ZV=m.ZV:=by rfl) (g1:g.Z3=f.Z3:=by rfl) (g2:g.cells=f.cells:=by rfl) (g3:∃ l,f.stack=g.stack++l:=by exact⟨[],qB⟩) :
  ZY (wrO Yn (.row 4415 [R']) hp) p m':=by
 have hf:m.ZW[fs.length]?=some f:=aF;refine h.reT hm hm' (by rw [e1]) (od hr oR h0) (by simp [wrO,h.qAZ]) (by grind[wrO,out]) (by grind[wrO,trc]) (by grind[wrO,ZZ]) (by grind[wrO,Zw]) (λi x _ hx=>qH) ?_ (λi x _ hx=>qH) ?_ (λi x _ hx=>qH) ?_ (λc s hc=>?_) (λk i j hk e hn=>?_)
 .rw [g1];simp [wrO,h.Z3 _ f hf]
 .rw [g2];simp [wrO,h.cls _ f hf]
 .obtain⟨j,hj⟩:=h.stack _ f hf
  grind[wrO]
 .rw [e1] at hc;simp [wrO,h.cell c s hc]
 grind[wrO]
theorem ZY.qAg (h:ZY hp p m) (hm:m.ZW=fs++[f]) (hr:hp Yn=some (.row 4415 [R])):ZY (wrO Yn (.row 4415 [Zz R 3 [iv e]]) hp) p { m with en:=e } :=
 h.wrR hm (m':={ m with en:=e }) (g:=f) hm hr (λJ _ e=>by grind[U5])
end
def yf (m:Zb) (fs:List Z8) (f:Z8) (o:Int×Int) (w:Nat) (e:Int):Zb :=
 if w=1 then qAD m fs f.pop o (some f.tos) else match ft m f o with
  | none=>m.stop fs f e
  | some v=>if w=0 then m.top fs (f.push v) else qAD m fs f o none
structure WrY (p:Z0) (m:Zb) (fs:List Z8) (f:Z8) (o:Int×Int) (off:Nat):Prop where
 le:off+3<=4411
 rd:∀ g R,g.names=f.names->qCh p (m.top fs g) fs.length g R->∀ j,j<3->R[off+j]?=(jm (ft m f o))[j]?
 wr:∀ g s,g.names=f.names->g.cells=f.cells->∃ G,(qAD m fs g o s).ZW=fs++[G]/\G.Z3=g.Z3/\G.cells=g.cells/\G.stack=g.stack/\(qAD m fs g o s).cells=m.cells/\(qAD m fs g o s).out=m.out/\(qAD m fs g o s).trace=m.trace/\(qAD m fs g o s).ZZ=m.ZZ/\(qAD m fs g o s).ZV=m.ZV/\(qAD m fs g o s).en=m.en /\
  ∀ J:Nat->List AV,(∀ i,(J i).length=29)->Zz (zV p (m.top fs g) (fs.length+1) (yc (fs++[g]) J)) off (jm s)=zV p (qAD m fs g o s) (fs.length+1) (yc (fs++[G]) J)
section
variable {p:Z0} {m:Zb} {fs:List Z8} {f g:Z8} {o:Int×Int} {x:Nat}
theorem WrY.Zg (hg:m.globals.length=8) (h1:8<=o.1) (h2:o.1<=10) (hx:o.2.toNat<8):WrY p m fs f o (6+3 * o.2.toNat):=by
 have e1:¬ o.1<=4:=qA;have e2:¬ o.1<=7:=qA;refine⟨qA,λg R _ tr j hj=>?_,λg s _ _=>⟨g,?_⟩⟩
 .rw [nA,tr.gl _ j hx hj]
  grind[ft,Zb.top]
 .have e:qAD m fs g o s={ m.top fs g with globals:=m.globals.set o.2.toNat s }:=by grind[qAD]
  simp_all[U0]
theorem WrY.name (hn:f.names.length=8) (hi:fs.length<151) (h1:11<=o.1) (hx:o.2.toNat<8):WrY p m fs f o (yo fs.length+4+3 * o.2.toNat):=by
 have e1:¬ o.1<=4:=qA;have e2:¬ o.1<=7:=qA;have e3:¬ o.1<=10:=qA;refine⟨qj,λg R hg tr j hj=>?_,λg s hg _=>⟨{ g with names:=g.names.set o.2.toNat s },?_⟩⟩
 .rw [nA,tr.nm _ j hx hj]
  grind[ft]
 .have e:qAD m fs g o s=m.top fs { g with names:=g.names.set o.2.toNat s }:=by grind[qAD]
  rw [e];refine⟨rfl,rfl,rfl,rfl,rfl,rfl,rfl,rfl,rfl,rfl,λJ hJ=>?_⟩;have:=Hb (p:=p) (m:=m.top fs g) (h:=fs.length+1) (J:=J) (fs:=fs++[g]) (i:=fs.length) (f:=g) (g:={ g with names:=g.names.set o.2.toNat s }) (j:=4+3 * o.2.toNat) (vals:=jm s) hJ qB hi qc (Kw qH hx)
  grind[zV,yA,yB,yZ,Zb.top]
end
def DY9:Nm->Bool:=λk=>DM k||Nm.under (.u 9 0 0) k
theorem JA {q:Nm} (h:DY9 q=true):q.Zi=false:=by
 rcases Kf _ _ ▸ h with h|h
 .exact qN h
 .exact qR rfl h
theorem Ys {q:Nm} (h:Nm.under (.u 9 0 0) q=true):DM q=false:=by
 induction q with
 | s d=>simp at h
 | u a b c =>
  simp at h;obtain⟨rfl,rfl,rfl⟩:=h
  rfl
 | c r i j ih =>
  simp_all
theorem ZU {q:Nm} (h:Nm.under Yn q=true):DM q=true:=by
 induction q<;>simp_all
theorem UN {q:Nm} {j:Nat} (h:Nm.under (.c Yn 0 j) q=true):DM q=true:=ZU (Nm.qAJ qB h)
section
variable {hp hp':Nm->Option AO} {p:Z0} {m:Zb} {fs:List Z8} {f:Z8} {k j:Nat}
theorem Sf {g:AV->AV} {l vals:List AV} {k:Nat}:(Zz l k vals).map g=Zz (l.map g) k (vals.map g):=by simp_all[Zz]
theorem ZY.same (h:ZY hp p m) (hs:oZ DM hp' hp):ZY hp' p m:=by
 obtain⟨F,h1,h2⟩:=hs;exact h.Zn h1 h2
theorem ZY.qB7 (h:ZY hp p m) (hm:m.ZW=fs++[f]) (hi:fs.length<151) (hk:f.stack.length=k+1) (hj:j≠yo fs.length+28):∃ (R R':List AV) (vs:List Zd),hp Yn=some (.row 4415 [R])/\(vC DY9 (hmv (.c Yn 0 j) (.u 9 0 0) hp)) Yn=some (.row 4415 [R'])/\R'[yo fs.length+28]?=some (.hs (.c Yn 0 (yo fs.length+28)) 2 0 (k+1))/\(vC DY9 (hmv (.c Yn 0 j) (.u 9 0 0) hp)) (.c Yn 0 (yo fs.length+28))=some (.row 2 (zn vs))/\vs[k]?=some f.tos /\
  (AO.row 4415 [Zz R (yo fs.length+28) [.hs (.c Yn 0 (yo fs.length+28)) 2 0 k]]).tr (mv (.c Yn 0 j) (.u 9 0 0))=.row 4415 [Zz R' (yo fs.length+28) [.hs (.c Yn 0 (yo fs.length+28)) 2 0 k]]:=by
 obtain⟨R,i,hT,tr,h2,h3,h28⟩:=h.qAO hm hi;have e1:Nm.under (.c Yn 0 j) Yn=false:=qB;have e2:Nm.under (.c Yn 0 j) (.c Yn 0 (yo fs.length+28))=false:=by simp [Ne.symm hj]
 have hm:mv (.c Yn 0 j) (.u 9 0 0) (.c Yn 0 (yo fs.length+28))=some (.c Yn 0 (yo fs.length+28)):=qH;have he:∀ q,(AV.hs (.c Yn 0 (yo fs.length+28)) 2 0 q).tr (mv (.c Yn 0 j) (.u 9 0 0))=.hs (.c Yn 0 (yo fs.length+28)) 2 0 q:=λq=>qH;refine⟨R,R.map (AV.tr (mv (.c Yn 0 j) (.u 9 0 0))),f.stack++i,hT,?_,?_,?_,uG hk,?_⟩
 .simp_all[DY9,hmv]
 .grind[qCh.f28]
 .simp_all[DY9,hmv]
 simp_all[Sf]
theorem qCh.glv {i x:Nat} {v:Zd} {R:List AV} (tr:qCh p m i f R) (hx:x<8) (h:uE m.globals x=some v):(R.drop (6+x * 3+1)).take 2=[iv v.1,iv v.2]:=by
 have g1:=tr.gl x 1 hx qA;have g2:=tr.gl x 2 hx qA
 simp_all<;>grind[gt]
theorem qCh.nmv {i x:Nat} {v:Zd} {R:List AV} (tr:qCh p m i f R) (hx:x<8) (h:uE f.names x=some v):(R.drop (yo i+4+x * 3+1)).take 2=[iv v.1,iv v.2]:=by
 have g1:=tr.nm x 1 hx qA;have g2:=tr.nm x 2 hx qA
 simp_all<;>grind[gt]
end
def H7 (hp:Nm->Option AO) (p:Z0) (m:Zb) (h:Nat):Prop:=∃ J:Nat->List AV,(∀ i,(J i).length=29)/\hp Yn=some (.row 4415 [zV p m h (yc m.ZW J)])/\ZY (wrO Yn (.row 4415 [zV p m m.ZW.length (yc m.ZW J)]) hp) p m
section
variable {hp hp':Nm->Option AO} {p:Z0} {m:Zb} {fs:List Z8} {f:Z8} {h:Nat} {F:Nm->Option Nm} {J:Nat->List AV} {vals R:List AV}
theorem VB (hJ:∀ i,(J i).length=29) (hi:fs.length<151) (hv:vals.length=29) (hF:∀ j,j≠yo fs.length+2->j≠yo fs.length+3->j≠yo fs.length+28->F (.c Yn 0 j)=some (.c Yn 0 j)) :
  Zz ((zV p m h (yc (fs++[f]) J)).map (AV.tr F)) (yo fs.length) vals=zV p m h (yc fs λk=>if k=fs.length then vals else (J k).map (AV.tr F)):=by
 have hl:∀ j,j<32->F (.c Yn 0 j)=some (.c Yn 0 j):=λj hj=>hF j qj qj qj;have eA:(yA p m).map (AV.tr F)=yA p m:=by simp_all[yA]
 have eB:(yB m).map (AV.tr F)=yB m:=by simp_all[yB]
 rw [RZ,eA,eB];have e:yA p m++(aK m.globals++(yB m++(cat (λi=>(yc (fs++[f]) J i).map (AV.tr F)) 151++yZ m h)))=zV p m h λi=>(yc (fs++[f]) J i).map (AV.tr F):=rfl;rw [e,show yo fs.length=32+(29 * fs.length+0) by simp];refine Hc (λi=>by simp [kQ hJ]) hi qA (λk hk=>?_) ?_
 .unfold yc;rcases E7 k fs.length with e|e|e
  .rw [uW e,gE e];have h1:∀ a,a<29->a=2\/a=3\/a=28->F (.c Yn 0 (32+29 * k+a))=some (.c Yn 0 (32+29 * k+a)):=λa ha _=>hF _ qj qj qj
   simp_all[yfr]
  .omega
  .rw [pQ qA,pQ qc];simp [hk]
 simp_all[yc,Zz]
theorem ZY.qEY (h:ZY hp p m) (hm:m.ZW=fs++[f]) (hi:fs.length<151) (hr:hp Yn=some (.row 4415 [R]))
  (hv:vals.length=29) (hF:∀ j,j≠yo fs.length+2->j≠yo fs.length+3->j≠yo fs.length+28->F (.c Yn 0 j)=some (.c Yn 0 j))
  (h0:hp' Yn=some (.row 4415 [Zz (R.map (AV.tr F)) (yo fs.length) vals]))
  (h1:hp' (.c Yn 0 1)=some (.row 1 (ve p p.length)):=by simp [h.qAZ])
  (h2:hp' (.c Yn 0 4)=some (.row 1 (qT m.out)):=by simp [h.out])
  (h3:hp' (.c Yn 0 5)=some (.row 2 (yw m.trace)):=by simp [h.trc])
  (h4:hp' (.c Yn 0 30)=some (.row 2 (vN m.ZZ)):=by simp [h.ZZ])
  (h5:hp' (.c Yn 0 31)=some (.row 24 (uj m.ZV)):=by simp [h.Zw])
  (h6:∀ (i:Nat) x,i<fs.length->hp (.c Yn 0 (32+29 * i+2))=some (.row 3 (qW x))->hp' (.c Yn 0 (32+29 * i+2))=some (.row 3 (qW x)):=by intro i x hi hx;have e:=pg hi;simp [hx,e.1,e.2.1,e.2.2.1,e.2.2.2])
  (h7:∀ (i:Nat) x,i<fs.length->hp (.c Yn 0 (32+29 * i+3))=some (.row 1 (zQ x))->hp' (.c Yn 0 (32+29 * i+3))=some (.row 1 (zQ x)):=by intro i x hi hx;have e:=pg hi;simp [hx,e.1,e.2.1,e.2.2.1,e.2.2.2])
  (h8:∀ (i:Nat) x,i<fs.length->hp (.c Yn 0 (32+29 * i+28))=some (.row 2 (zn x))->hp' (.c Yn 0 (32+29 * i+28))=some (.row 2 (zn x)):=by intro i x hi hx;have e:=pg hi;simp [hx,e.1,e.2.1,e.2.2.1,e.2.2.2])
  (h9:∀ (c:Nat) s,m.cells[c]?=some s->hp' (En c)=some (.row 3 [jm s]):=by intro c s hc;simp [h.cell c s hc])
  (hA:∀ k i j,fM k=true->¬ (k=1/\i=0/\j=0)->hp' (.u k i j)≠none->hp (.u k i j)≠none:=by intro k i j hk e hn;simpa [hk,e] using hn) :
  H7 hp' p { m with ZW:=fs } (fs.length+1):=by
 obtain⟨J,hJ,e⟩:=h.top
 have hR:R=zV p m (fs.length+1) (yc (fs++[f]) J):=by
  simp_all
 have key:∀ (i:Nat) f',fs[i]?=some f'->i<fs.length/\m.ZW[i]?=some f':=λi f' hf=>by
  grind
 have hrow:=VB (p:=p) (m:=m) (f:=f) (h:=fs.length+1) hJ hi hv hF;refine⟨λk=>if k=fs.length then vals else (J k).map (AV.tr F),λi=>?_,?_,⟨λk=>if k=fs.length then vals else (J k).map (AV.tr F),λi=>?_,?_⟩,qH,qH,qH,qH,qH,λi f' hf=>?_,λi f' hf=>?_,λi f' hf=>?_,λc s hc=>?_,λk i j hk hn=>?_⟩
 .grind
 .rw [h0,hR,hrow]
  rfl
 .grind
 .simp [wrO]
 .obtain⟨a,b⟩:=key i f' hf;simp only [wrO];rw [if_neg qB];exact h6 i _ a (h.Z3 i f' b)
 .obtain⟨a,b⟩:=key i f' hf;simp only [wrO];rw [if_neg qB];exact h7 i _ a (h.cls i f' b)
 .obtain⟨a,b⟩:=key i f' hf;obtain⟨j,hj⟩:=h.stack i f' b
  grind[wrO]
 .simp_all
 .by_cases e:k=1/\i=0/\j=0
  .omega
  .refine h.only k i j hk (hA k i j hk e ?_)
   simp_all
theorem H7.done (hY:H7 hp p m h) (hr:hp Yn=some (.row 4415 [R])) (h0:hp' Yn=some (.row 4415 [Zz R 4411 [iv (m.ZW.length:Nat)]])) (hh:∀ q,DM q=true->q≠Yn->hp' q=hp q):ZY hp' p m:=by
 obtain⟨J,hJ,e,hO⟩:=hY;refine hO.Zn (f:=some) (λ_ _=>rfl) λq hq=>?_;by_cases hq1:q=Yn
 .grind[R3,kQ,wrO,AO.Zr]
 .rw [hh q hq hq1];simp only [wrO];rw [if_neg hq1]
  cases hp q <;> simp [AO.Zr]
theorem H7.ht (hY:H7 hp p m h):∃ R,hp Yn=some (.row 4415 [R])/\R.length=4415/\R[4411]?=some (iv h):=by
 obtain⟨J,hJ,e,_⟩:=hY
 grind[w8,kQ,lp]
end
section
variable {st:St} {p:Z0} {m:Zb} {d:Option Nat} {a:AV} {i j:Nat} {o:AO}
theorem Ks (h:ZY st.hp p m):ZY (st.put d a).hp p m:=by cases d <;> exact h
theorem Ey {n:Nm} (hn:DM n=false) (h:ZY st.hp p m):ZY (st.Zp n o).hp p m:=by
 refine h.Zn (f:=some) (λ_ _=>rfl) λk hk=>?_;have:k≠n:=λe=>qH;rw [FV,if_neg this]
 cases st.hp k <;> simp [AO.Zr]
theorem FA (h:ZY st.hp p m):ZY (st.kill (.s i)).hp p m :=
 h.Zn (f:=kl (.s i)) (λk hk=>Bs) λk hk=>by
  have:=(D_s (λ_=>qN) hk i).2;simp [this]
theorem Ez (h:ZY st.hp p m):ZY (st.move (.s i) (.s j)).hp p m :=
 h.Zn (f:=mv (.s i) (.s j)) (λk hk=>by simp [mv,(D_s (λ_=>qN) hk i).2,(D_s (λ_=>qN) hk j).2]) λk hk=>by
  have h1:=(D_s (λ_=>qN) hk i).2;have h2:=(D_s (λ_=>qN) hk j).2
  simp_all
theorem Kt (h:ZY st.hp p m):ZY (st.apd i (some (.s j))).hp p m :=
 h.Zn (f:=kl (.s i)) (λk hk=>Bs) λk hk=>by
  have h1:=(D_s (λ_=>qN) hk i).2;have h2:=(D_s (λ_=>qN) hk j).1;rw [O2,if_neg (λe=>h2 (sI e).symm)];simp [h1]
end
def yO (hp:Nm->Option AO) (p:Z0) (m:Zb) (C:List Zt):Prop:=∃ J:Nat->List AV,(∀ i,(J i).length=29)/\hp Yn=some (.row 4415 [zV p m m.ZW.length (yc m.ZW J)])/\ZY (wrO Yn (.row 4415 [zV p { m with cells:=C } m.ZW.length (yc m.ZW J)]) hp) p { m with cells:=C }
section
variable {hp hp' H:Nm->Option AO} {p:Z0} {m:Zb} {C:List Zt} {F:Nm->Option Nm} {st:St} {d:Option Nat} {a:AV} {i j c:Nat} {o:AO} {s:Zt}
theorem ZY.yc (h:ZY hp p m):yO hp p m m.cells:=by
 obtain⟨J,hJ,e⟩:=h.top;refine⟨J,hJ,e,h.Zn (f:=some) (λ_ _=>rfl) λq hq=>?_⟩;by_cases h1:q=Yn
 .subst h1;rw [e];simp only [wrO,if_true,kv,AO.Zr]
 .simp only [wrO];rw [if_neg h1]
  cases hp q <;> simp [AO.Zr]
theorem pi {h:Nat} {L:List Z8} {J:Nat->List AV} (hc:∀ j,F (.c Yn 0 j)=some (.c Yn 0 j)):(zV p m h (yc L J)).map (AV.tr F)=zV p m h (yc L λi=>(J i).map (AV.tr F)):=by
 rw [RZ,Ce λj _=>hc j]
 simp_all[zV,yA,yB]
theorem yO.Zn (h:yO hp p m C) (hf:∀ k,DM k=true->F k=some k) (hh:∀ k,DM k=true->hp' k=(hp k).map (AO.tr F)):yO hp' p m C:=by
 obtain⟨J,hJ,e,hO⟩:=h;refine⟨λi=>(J i).map (AV.tr F),λi=>gI,?_,hO.Zn (f:=F) hf λq hq=>?_⟩
 .rw [hh _ rfl,e];simp only [kv,AO.tr,gi,Eb];rw [pi λj=>hf _ rfl]
 .by_cases h1:q=Yn
  .subst h1;simp only [wrO,if_true,kv,AO.tr,gi,Eb];rw [pi λj=>hf _ rfl]
  simp_all
theorem ao {n:Nm} (hn:n.Zi=true):∀ k,DM k=true->Nm.under n k=false:=λk hk=>by
 cases h:Nm.under n k with
 | false=>rfl
 | true=>have:=Nm.qAM hn h;grind[qN]
theorem RX {n:Nm} (hn:n.Zi=true):DM n=false:=by
 grind[qN]
theorem LA (h:yO st.hp p m C):yO (st.put d a).hp p m C:=by cases d <;> exact h
theorem Kz {n:Nm} (hn:n.Zi=true) (h:yO st.hp p m C):yO (st.Zp n o).hp p m C:=by
 refine h.Zn (F:=some) (λ_ _=>rfl) λk hk=>?_;have:k≠n:=λe=>by grind[RX]
 rw [FV,if_neg this]
 cases st.hp k <;> simp [AO.Zr]
theorem LC {n:Nm} (hn:n.Zi=true) (h:yO st.hp p m C):yO (st.kill n).hp p m C :=
 h.Zn (F:=kl n) (λk hk=>by grind[kl,ao]) λk hk=>by
  simp_all[ao]
theorem LB {n n':Nm} (hn:n.Zi=true) (hn':n'.Zi=true) (h:yO st.hp p m C):yO (st.move n n').hp p m C :=
 h.Zn (F:=mv n n') (λk hk=>by grind[mv,ao]) λk hk=>by
  simp_all[ao]
theorem RY {n:Nm} (hn:n.Zi=true) (h:yO st.hp p m C):yO (st.apd i (some n)).hp p m C :=
 h.Zn (F:=kl (.s i)) (λk hk=>Bs) λk hk=>by
  have h1:=(D_s (λ_=>qN) hk i).2;rw [O2,if_neg (λe=>by grind[qN])];simp [h1]
theorem ZY.free (h:ZY hp p m) (hc:m.cells.length<=c):hp (.u 7 c 0)=none:=by
 cases e:hp (.u 7 c 0) with
 | none=>rfl
 | some o =>
  rcases h.only 7 c 0 rfl tL with⟨h1,_⟩|⟨_,h2,_⟩<;>grind
theorem yO.set (h:yO hp p m C) (hc:c<C.length) (hw:hp' (En c)=some (.row 3 [jm s])) (hh:∀ q,DM q=true->q≠En c->hp' q=hp q):yO hp' p m (C.set c s):=by
 obtain⟨J,hJ,e,hO⟩:=h;have hY:Yn≠En c:=qB;have hE:∀ j,Nm.c Yn 0 j≠En c:=λj=>qB;have hE2:∀ j,Nm.c Yn 0 j≠Yn:=λj=>qB
 have rd:∀ q,DM q=true->q≠En c->q≠Yn->∀ z,wrO Yn z hp' q=wrO Yn (.row 4415 [zV p { m with cells:=C } m.ZW.length (yc m.ZW J)]) hp q:=λq h1 h2 h3 z=>by
  simp_all
 refine⟨J,hJ,by rw [hh _ rfl hY];exact e,⟨J,hJ,oR⟩,?_,?_,?_,?_,?_,λi f hf=>?_,λi f hf=>?_,λi f hf=>?_,λc' s' hs'=>?_,λk i j hk hn=>?_⟩
 .rw [rd _ rfl (hE _) (hE2 _)];exact hO.qAZ
 .rw [rd _ rfl (hE _) (hE2 _)];exact hO.out
 .rw [rd _ rfl (hE _) (hE2 _)];exact hO.trc
 .rw [rd _ rfl (hE _) (hE2 _)];exact hO.ZZ
 .rw [rd _ rfl (hE _) (hE2 _)];exact hO.Zw
 .rw [rd _ rfl (hE _) (hE2 _)];exact hO.Z3 i f hf
 .rw [rd _ rfl (hE _) (hE2 _)];exact hO.cls i f hf
 .obtain⟨j,hj⟩:=hO.stack i f hf;exact⟨j,by rw [rd _ rfl (hE _) (hE2 _)];exact hj⟩
 .simp only [eV] at hs';by_cases e1:c=c'
  .simp_all
  .rw [if_neg e1] at hs';rw [rd _ rfl qj qB];exact hO.cell c' s' hs'
 .simp only [List.length_set];by_cases e1:Nm.u k i j=En c
  .simp_all
  .by_cases e2:k=1/\i=0/\j=0
   .omega
   .refine hO.only k i j hk λe3=>hn ?_;rw [rd (.u k i j) hk e1 qH];exact e3
theorem SN (s:Zt) (hc:c<C.length) (h:yO st.hp p m C):yO (st.Zp (.u 7 c 0) (.row 3 [jm s])).hp p m (C.set c s) :=
 yO.set h hc qB λq _ hn=>qH
theorem NQ {l:List (Nat×List Nat)} (h:∀ g∈l,∀ i∈g.2,F (En i)=some (En i)):(vN l).map (λy=>y.map (AV.tr F))=vN l:=by
 simp only [vN,xA];apply mz;intro g hg;have:(zQ g.2).map (λy=>y.map (AV.tr F))=zQ g.2:=iK (h g hg)
 simp_all
theorem yO.add {n0:Nm} (h0:n0.Zi=true) (h:yO st.hp p m C) (hs:st.hp n0=some (.row 3 [jm s])) (hfr:∀ f∈m.ZW,∀ c∈f.cells,c<C.length) (hfn:∀ g∈m.ZZ,∀ c∈g.2,c<C.length):yO (st.move n0 (.u 7 C.length 0)).hp p m (C++[s]):=by
 obtain⟨J,hJ,e,hO⟩:=h
 have rd:∀ q,Nm.under (.u 7 C.length 0) q=false->Nm.under n0 q=false->(st.move n0 (.u 7 C.length 0)).hp q=(st.hp q).map (AO.tr (mv n0 (.u 7 C.length 0))):=λq h1 h2=>by
  simp_all
 have rc:∀ j,(st.move n0 (.u 7 C.length 0)).hp (.c Yn 0 j)=(st.hp (.c Yn 0 j)).map (AO.tr (mv n0 (.u 7 C.length 0))):=λj=>rd _ qB (ao h0 _ rfl);have fc:∀ j,mv n0 (.u 7 C.length 0) (.c Yn 0 j)=some (.c Yn 0 j):=λj=>by simp [mv,ao h0 (.c Yn 0 j) rfl]
 have fe:∀ c,c<C.length->mv n0 (.u 7 C.length 0) (En c)=some (En c):=λc hc=>by
  have:¬ C.length=c:=qA;simp [mv,Ke hc,ao h0 (En c) rfl]
 have o1:=hO.qAZ;have o2:=hO.out;have o3:=hO.trc;have o4:=hO.ZZ;have o5:=hO.Zw;simp only [wrO] at o1 o2 o3 o4 o5;rw [if_neg qB] at o1 o2 o3 o4 o5
 have eY:(st.move n0 (.u 7 C.length 0)).hp Yn=some (.row 4415 [zV p m m.ZW.length (yc m.ZW λk=>(J k).map (AV.tr (mv n0 (.u 7 C.length 0))))]):=by
  rw [rd _ qB (ao h0 _ rfl),e]
  simp_all[pi]
 refine⟨λk=>(J k).map (AV.tr (mv n0 (.u 7 C.length 0))),λk=>gI,eY,⟨λk=>(J k).map (AV.tr (mv n0 (.u 7 C.length 0))),λk=>gI,oR⟩,?_,?_,?_,?_,?_,λi f hf=>?_,λi f hf=>?_,λi f hf=>?_,λc' s' hs'=>?_,λk a b hk hn=>?_⟩
 .simp only [wrO];rw [if_neg qB,rc,o1];simp
 .simp only [wrO];rw [if_neg qB,rc,o2];simp
 .simp only [wrO];rw [if_neg qB,rc,o3];simp
 .simp only [wrO];rw [if_neg qB,rc,o4];simp only [kv,AO.tr];rw [NQ λg hg c hc=>fe c (hfn g hg c hc)]
 .simp only [wrO];rw [if_neg qB,rc,o5];simp
 .have o:=hO.Z3 i f hf;simp only [wrO] at o ⊢;rw [if_neg qB] at o ⊢;rw [rc,o];simp
 .have o:=hO.cls i f hf
  grind[wrO,AO.tr,iK]
 .obtain⟨j,o⟩:=hO.stack i f hf;simp only [wrO] at o ⊢;rw [if_neg qB] at o ⊢;exact⟨j,by rw [rc,o];simp⟩
 .simp only [wrO];rw [if_neg qB];rcases E7 c' C.length with e1|e1|e1
  .have o:=hO.cell c' s' qj;simp only [wrO] at o;rw [if_neg qB] at o;rw [rd _ (by simp [Ke e1]) (ao h0 _ rfl),o];simp
  .simp_all
  grind
 .simp only [am,dU];by_cases e1:k=7/\a=C.length/\b=0
  .omega
  .by_cases e2:k=1/\a=0/\b=0
   .omega
   .have hn2:wrO Yn (.row 4415 [zV p { m with cells:=C } m.ZW.length (yc m.ZW J)]) st.hp (.u k a b)≠none:=λe3=>hn (by
     simp only [wrO] at e3 ⊢;rw [if_neg qH] at e3 ⊢
     simp_all)
    rcases hO.only k a b hk hn2 with h1|⟨h1,h2,h3⟩<;>grind
theorem yO.qEh {n0:Nm} {L:Nat} (hL:L=C.length) (h0:n0.Zi=true) (h:yO st.hp p m C) (hs:st.hp n0=some (.row 3 [jm s])) (hfr:∀ f∈m.ZW,∀ c∈f.cells,c<C.length) (hfn:∀ g∈m.ZZ,∀ c∈g.2,c<C.length):yO (st.move n0 (.u 7 L 0)).hp p m (C++[s]):=by
 subst hL;exact yO.add h0 h hs hfr hfn
end
section
variable {p:Z0} {m:Zb} {fs:List Z8} {g:Z8} {h:Nat} {F:Nm->Option Nm} {J:Nat->List AV}
theorem VC (hJ:∀ i,(J i).length=29) (hi:fs.length<151) (hF:∀ j,j≠yo fs.length+2->j≠yo fs.length+3->j≠yo fs.length+28->F (.c Yn 0 j)=some (.c Yn 0 j)) :
  Zz ((zV p m h (yc fs J)).map (AV.tr F)) (yo fs.length) (yfr fs.length g)=zV p m h (yc (fs++[g]) λk=>(J k).map (AV.tr F)):=by
 have hl:∀ j,j<32->F (.c Yn 0 j)=some (.c Yn 0 j):=λj hj=>hF j qj qj qj;have eA:(yA p m).map (AV.tr F)=yA p m:=by simp_all[yA]
 have eB:(yB m).map (AV.tr F)=yB m:=by simp_all[yB]
 rw [RZ,eA,eB];have e:yA p m++(aK m.globals++(yB m++(cat (λi=>(yc fs J i).map (AV.tr F)) 151++yZ m h)))=zV p m h λi=>(yc fs J i).map (AV.tr F):=rfl;rw [e,show yo fs.length=32+(29 * fs.length+0) by simp];refine Hc (λi=>by simp [kQ hJ]) hi qB (λk hk=>?_) ?_
 .unfold yc;rcases E7 k fs.length with e|e|e
  .rw [uW e,gE e];have h1:∀ a,a<29->F (.c Yn 0 (32+29 * k+a))=some (.c Yn 0 (32+29 * k+a)):=λa ha=>hF _ qj qj qj
   simp_all[yfr]
  .omega
  .rw [pQ qc,pQ qA]
 simp_all[kQ,JC,Zz]
end
def xY (hp:Nm->Option AO) (p:Z0) (m M:Zb) (h:Nat):Prop:=∃ J:Nat->List AV,(∀ i,(J i).length=29)/\hp Yn=some (.row 4415 [zV p m h (yc M.ZW J)])/\ZY (wrO Yn (.row 4415 [zV p M M.ZW.length (yc M.ZW J)]) hp) p M
section
variable {hp hp':Nm->Option AO} {p:Z0} {m m' M:Zb} {h h' k:Nat} {R:List AV} {v:AV}
theorem xY.row (hY:xY hp p m M h):∃ R,hp Yn=some (.row 4415 [R])/\R.length=4415/\R[4411]?=some (iv h)/\R[4412]?=some (iv m.deep)/\R[4413]?=some (iv m.made)/\R[4414]?=some (iv m.cells.length):=by
 obtain⟨J,hJ,e,_⟩:=hY;have hc:=kQ (fs:=M.ZW) hJ
 grind[w8,lp,Ci,Ch,LD]
theorem xY.set (hY:xY hp p m M h) (hr:hp Yn=some (.row 4415 [R])) (h0:hp' Yn=some (.row 4415 [Zz R k [v]]))
  (hs:∀ J:Nat->List AV,(∀ i,(yc M.ZW J i).length=29)->Zz (zV p m h (yc M.ZW J)) k [v]=zV p m' h' (yc M.ZW J)) (hh:∀ q,DM q=true->q≠Yn->hp' q=hp q):xY hp' p m' M h':=by
 obtain⟨J,hJ,e,hO⟩:=hY;refine⟨J,hJ,?_,hO.Zn (f:=some) (λ_ _=>rfl) λq hq=>?_⟩
 .grind[kQ]
 .by_cases h1:q=Yn
  .grind[wrO,AO.Zr]
  .simp only [wrO];rw [if_neg h1,if_neg h1,hh q hq h1]
   cases hp q <;> simp [AO.Zr]
theorem xY.done (hY:xY hp p m M h) (hs:∀ J:Nat->List AV,zV p m h (yc M.ZW J)=zV p M M.ZW.length (yc M.ZW J)):ZY hp p M:=by
 obtain⟨J,hJ,e,hO⟩:=hY;refine hO.Zn (f:=some) (λ_ _=>rfl) λq hq=>?_;by_cases h1:q=Yn
 .grind[wrO,AO.Zr]
 .simp only [wrO];rw [if_neg h1]
  cases hp q <;> simp [AO.Zr]
end
section
variable {p:Z0} {m:Zb} {fs:List Z8} {f g:Z8} {o:Int×Int} {v:Zd}
theorem rm (h1:2<=o.1) (h2:o.1<=13) (n8:o.1≠8) (n11:o.1≠11):kM p m fs f o=yf m fs f o ((o.1 - 2) % 3).toNat (fH p f o):=by
 have h0:¬ o.1=0:=qA;simp only [kM];rw [if_neg h0,if_pos ⟨h1,h2⟩];have h3:(o.1 - 2) % 3=0\/(o.1 - 2) % 3=1\/(o.1 - 2) % 3=2:=qA;rcases h3 with h|h|h
 .grind[fH,vj,yf]
 .rw [h,if_neg qA,if_pos rfl]
  rfl
 grind[AL,yf]
theorem IL (h:o.1=8\/o.1=11):kM p m fs f o=vj p m fs f o:=by
 grind[kM]
theorem QM (h0:¬ o.1=0) (h:¬ (2<=o.1/\o.1<=13)):kM p m fs f o=ya p m fs f o:=by
 grind[kM]
end
theorem pa:aK q9=[bv false,iv 0,iv 0,bv false,iv 0,iv 0,bv false,iv 0,iv 0,bv false,iv 0,iv 0,bv false,iv 0,iv 0,bv false,iv 0,iv 0,bv false,iv 0,iv 0,bv false,iv 0,iv 0]:=rfl
section
variable {hp hp':Nm->Option AO} {p:Z0} {m:Zb} {C:List Zt} {g:Z8} {F:Nm->Option Nm} {R:List AV} {mk dp i c:Nat} {f:Z8} {s:Zt}
theorem yO.qAZ (h:yO hp p m C):hp (.c Yn 0 1)=some (.row 1 (ve p p.length)):=by grind[wrO,ZY.qAZ,yO]
theorem yO.out (h:yO hp p m C):hp (.c Yn 0 4)=some (.row 1 (qT m.out)):=by obtain⟨J,_,_,hO⟩:=h;simpa [wrO] using hO.out
theorem yO.trc (h:yO hp p m C):hp (.c Yn 0 5)=some (.row 2 (yw m.trace)):=by obtain⟨J,_,_,hO⟩:=h;simpa [wrO] using hO.trc
theorem yO.ZZ (h:yO hp p m C):hp (.c Yn 0 30)=some (.row 2 (vN m.ZZ)):=by obtain⟨J,_,_,hO⟩:=h;simpa [wrO] using hO.ZZ
theorem yO.Zw (h:yO hp p m C):hp (.c Yn 0 31)=some (.row 24 (uj m.ZV)):=by obtain⟨J,_,_,hO⟩:=h;simpa [wrO] using hO.Zw
theorem yO.cell (h:yO hp p m C) (hc:C[c]?=some s):hp (En c)=some (.row 3 [jm s]):=by obtain⟨J,_,_,hO⟩:=h;simpa [wrO] using hO.cell c s hc
theorem yO.beg (h:yO hp p m C) (hi:m.ZW.length<151) (hr:hp Yn=some (.row 4415 [R]))
  (hF:∀ j,j≠yo m.ZW.length+2->j≠yo m.ZW.length+3->j≠yo m.ZW.length+28->F (.c Yn 0 j)=some (.c Yn 0 j))
  (h0:hp' Yn=some (.row 4415 [Zz (R.map (AV.tr F)) (yo m.ZW.length) (yfr m.ZW.length g)]))
  (h6t:hp' (.c Yn 0 (yo m.ZW.length+2))=some (.row 3 (qW g.Z3))) (h7t:hp' (.c Yn 0 (yo m.ZW.length+3))=some (.row 1 (zQ g.cells))) (h8t:hp' (.c Yn 0 (yo m.ZW.length+28))=some (.row 2 (zn g.stack)))
  (h1:hp' (.c Yn 0 1)=some (.row 1 (ve p p.length)):=by simp [h.qAZ])
  (h2:hp' (.c Yn 0 4)=some (.row 1 (qT m.out)):=by simp [h.out])
  (h3:hp' (.c Yn 0 5)=some (.row 2 (yw m.trace)):=by simp [h.trc])
  (h4:hp' (.c Yn 0 30)=some (.row 2 (vN m.ZZ)):=by simp [h.ZZ])
  (h5:hp' (.c Yn 0 31)=some (.row 24 (uj m.ZV)):=by simp [h.Zw])
  (h6:∀ (i:Nat) x,i<m.ZW.length->hp (.c Yn 0 (32+29 * i+2))=some (.row 3 (qW x))->hp' (.c Yn 0 (32+29 * i+2))=some (.row 3 (qW x)):=by intro i x hi hx;have e:=pg hi;simp [hx,e.1,e.2.1,e.2.2.1,e.2.2.2])
  (h7:∀ (i:Nat) x,i<m.ZW.length->hp (.c Yn 0 (32+29 * i+3))=some (.row 1 (zQ x))->hp' (.c Yn 0 (32+29 * i+3))=some (.row 1 (zQ x)):=by intro i x hi hx;have e:=pg hi;simp [hx,e.1,e.2.1,e.2.2.1,e.2.2.2])
  (h8:∀ (i:Nat) x,i<m.ZW.length->hp (.c Yn 0 (32+29 * i+28))=some (.row 2 (zn x))->hp' (.c Yn 0 (32+29 * i+28))=some (.row 2 (zn x)):=by intro i x hi hx;have e:=pg hi;simp [hx,e.1,e.2.1,e.2.2.1,e.2.2.2])
  (h9:∀ (c:Nat) s,C[c]?=some s->hp' (En c)=some (.row 3 [jm s]):=by intro c s hc;simp [h.cell hc])
  (hA:∀ k i j,fM k=true->¬ (k=1/\i=0/\j=0)->hp' (.u k i j)≠none->hp (.u k i j)≠none:=by intro k i j hk e hn;simpa [hk,e] using hn) :
  xY hp' p m { m with cells:=C,made:=mk,deep:=dp,ZW:=m.ZW++[g] } m.ZW.length:=by
 obtain⟨J,hJ,e,hO⟩:=h;have hrow:=VC (p:=p) (m:=m) (g:=g) (h:=m.ZW.length) (F:=F) hJ hi hF;have hJ':∀ i,((λk=>(J k).map (AV.tr F)) i).length=29:=λi=>gI
 have key:∀ (i:Nat) f',(m.ZW++[g])[i]?=some f'->(i=m.ZW.length/\f'=g)\/(i<m.ZW.length/\m.ZW[i]?=some f'):=by
  grind
 refine⟨λk=>(J k).map (AV.tr F),hJ',?_,⟨λk=>(J k).map (AV.tr F),hJ',?_⟩,qH,qH,qH,qH,qH,λi f' hf=>?_,λi f' hf=>?_,λi f' hf=>?_,λc s hc=>?_,λk i j hk hn=>?_⟩
 .simp_all
 .simp [wrO]
 .simp only [wrO];rw [if_neg qB];rcases key i f' hf with⟨rfl,rfl⟩|⟨a,b⟩
  .exact h6t
  .have:=hO.Z3 i f' b
   grind[wrO]
 .simp only [wrO];rw [if_neg qB];rcases key i f' hf with⟨rfl,rfl⟩|⟨a,b⟩
  .exact h7t
  .have:=hO.cls i f' b
   grind[wrO]
 .simp only [wrO];rw [if_neg qB];rcases key i f' hf with⟨rfl,rfl⟩|⟨a,b⟩
  .exact⟨[],qH⟩
  .obtain⟨j,this⟩:=hO.stack i f' b
   grind[wrO]
 .simp_all
 .by_cases e:k=1/\i=0/\j=0
  .omega
  .refine hO.only k i j hk ?_
   grind[wrO]
end
section
variable {p:Z0} {m:Zb} {fs:List Z8} {f:Z8} {b n:Nat} {k:Za}
theorem Vo (hP:Zm p) (hk:p[b]?=some k) (hl:cp p b<=1):(zC p b).params=[]\/∃ x,(zC p b).params=[x]/\((x∈qP p b/\x∉qF p b)\/(x∉qP p b/\x∈qF p b)):=by
 have hkp:(zC p b).params=k.params:=em;have hpn:k.params.length<=1:=by grind[cp]
 rw [hkp]
 match h:k.params,hpn with
 | [],_=>simp
 | [x],_ =>
  grind[ag,rf]
theorem LI {l:List Zd}:∀ r∈zn l,r.length=2:=by
 grind[zn]
theorem EI {l:List Nat}:∀ r∈zQ l,r.length=1:=by
 grind[zQ]
theorem CX {cs:List Nat} {vs:List Zd}:(z8 p m b cs vs).en=m.en:=by
 unfold z8
 grind
theorem IW {v:Zd}:(zW m fs v).en=m.en:=by
 grind[zW]
theorem Cd {st:St} {t i:Nat} {x:AV} (h:ZY st.hp p m):ZY (st.stl t (.s i) x).hp p m :=
 h.Zn (f:=kl (.s i)) (λk hk=>Bs) λk hk=>by
  have:=(D_s (λ_=>qN) hk i).2;simp [this]
theorem MOk.frc {g:Z8} (h:MOk p m fs f) (hg:g.cells=f.cells):∀ f'∈fs++[g],∀ c∈f'.cells,c<m.cells.length:=by
 intro f' hf c hc;rw [dY,w6] at hf;rcases hf with hf|rfl
 .exact (h.low f' hf).cr c hc
 .rw [hg] at hc;exact h.top.cr c hc
theorem MOk.fnc (h:MOk p m fs f):∀ g∈m.ZZ,∀ c∈g.2,c<m.cells.length:=λg hg=>by
 obtain⟨k,_,_,_,h4⟩:=h.ZZ g hg;exact h4
end
theorem PH {X:Ctx} {st:St} {Q:Ex->St->Prop} {A B:Code} (l:Nat) (hA:findLabel A l=none) (I:Nat->St->Prop) (h0:qh X A (FL (λs=>∃ n,I n s) (Tg l (λ_=>False) Q)) st)
  (hpass:∀ n s,s.n=X.n->s.gl=X.gl->I n s->qh X B (Tg l (λs'=>∃ m,m<n/\I m s') Q) s):qh X (.scope (.seq A (.seq (.label l) B))) Q st:=by
 refine S1 l (rest:=.seq .skip B) (by simp [findLabel,hA]) I ?_ λn s h1 h2 hI=>vH (yH (qV (hpass n s h1 h2 hI)));refine vH (h0.mono λe s he=>?_)
 cases e with
 | normal =>
  obtain⟨n,hI⟩:=he;intro a w hR;have hR1:=hR;obtain⟨C,g,x1,x2,x3,x4,x5,x6⟩:=hR1;refine vH (fJ (qV ((hpass n s x3 x4 hI).mono λe s he=>?_))) a w hR
  cases e with
  | goto l' =>
   obtain⟨e1,m,_,hm⟩:=he;exact⟨e1,m,hm⟩
  | normal=>exact he
  | exit id=>exact he
  | ret=>exact he
  | pan x=>exact he
 | goto l'=>exact he.2.elim
 | exit id=>exact he
 | ret=>exact he
 | pan x=>exact he
theorem ME {g:Gh} {w:World} {v:Value} {z:Nat} (h:RV g w v (.sc (.slice none 0 0))):RV g w v (.sl z []):=by
 rw [h.Zo];exact .slN _ _ _
theorem Zj.args {P:Program} {gl:Nat->Option (List AV)} {f:FuncId} {D:Nm->Bool} {az az':List AV} {H:Nm->Option AO} {R E:Nm->AV->(Nm->Option AO)->Prop} (h:Zj P gl f D az H R E)
  (hl:az'.length=az.length) (ha:∀ (j:Nat) x',az[j]?=some x'->∃ x,az'[j]?=some x/\∀ g w v,RV g w v x->RV g w v x'):Zj P gl f D az' H R E:=by
 refine⟨h.1,λroot C w g args h1 h2 h3 h4 h5 h6 h7=>h.2 root C w g args h1 h2 h3 h4 h5 (by rw [h6,hl]) λj v x' hv hx=>?_⟩
 grind
section
variable {p:Z0} {f:Z8} {nf nk nc e b:Nat} {k:Za} {P:Program} {gl:Nat->Option (List AV)} {c:FuncId} {D:Nm->Bool} {x y:AV} {cs:List (List AV)} {z z':Nat} {H:Nm->Option AO} {R E:Nm->AV->(Nm->Option AO)->Prop}
theorem WK (hh:zS p) (h:FOk p nf nk nc f e) (hk:p[b]?=some k) (hpar:k.parent=f.Z1):∀ y∈zt p b,∃ q:Nat,y=q/\q<f.cells.length:=by
 grind[eW,No,jN]
theorem Zj.qEe (h:Zj P gl c D [x,y,.sl z cs,.sl z' []] H R E):Zj P gl c D [x,y,.sl z cs,.sc (.slice none 0 0)] H R E :=
 h.args rfl λj a ha=>match j,ha with
  | 0,ha=>⟨_,rfl,λ_ _ _ hv=>qH⟩
  | 1,ha=>⟨_,rfl,λ_ _ _ hv=>qH⟩
  | 2,ha=>⟨_,rfl,λ_ _ _ hv=>qH⟩
  | 3,ha=>⟨_,rfl,λ_ _ _ hv=>by grind[ME]⟩
  | j+4,ha=>by simp at ha
theorem Zj.qEP (h:Zj P gl c D [x,y,.sl z [],.sl z' []] H R E):Zj P gl c D [x,y,.sc (.slice none 0 0),.sc (.slice none 0 0)] H R E :=
 h.args rfl λj a ha=>match j,ha with
  | 0,ha=>⟨_,rfl,λ_ _ _ hv=>qH⟩
  | 1,ha=>⟨_,rfl,λ_ _ _ hv=>qH⟩
  | 2,ha=>⟨_,rfl,λ_ _ _ hv=>by grind[ME]⟩
  | 3,ha=>⟨_,rfl,λ_ _ _ hv=>by grind[ME]⟩
  | j+4,ha=>by simp at ha
end
section
variable {st:St} {N V m n:Nm} {d t:Nat} {D:Nm->Bool} {hp hp' H':Nm->Option AO}
theorem M9 {F:Nm->Option Nm} {y:AV} (hV:V.isU=true) (hNV:Nm.under V N=false) (hDN:∀ k,Nm.under N k=true->D k=true) (hDV:∀ k,Nm.under V k=true->D k=false) (hF:∀ k,(D k||Nm.under V k)=true->F k=some k)
  (hR:∀ k,(D k||Nm.under V k)=true->H' k=(vC (λk=>D k||Nm.under V k) (hmv N V st.hp) k).map (AO.tr F)) :
  oZ D ((((st.move N V).call d (λk=>D k||Nm.under V k) (vC (λk=>D k||Nm.under V k) (st.move N V).hp) H').put (some d) y).move V N).hp st.hp:=by
 refine⟨λk=>((mv N V k).bind F).bind (mv V N),λk hk=>?_,λk hk=>?_⟩
 .grind[Nm.qAK,mv,Nm.qAy]
 .have e2:∀ o:AO,((o.tr (mv N V)).tr F).tr (mv V N)=o.tr (λk=>((mv N V k).bind F).bind (mv V N)):=by
   grind[AO.qAW]
  by_cases hx:Nm.under N k=true
  .have hu:Nm.under V (Nm.Zn N V k)=true:=Nm.qAK k hx;have hb:=Nm.qAy (k1:=V) hx;have hb2:mv V N (Nm.Zn N V k)=some k:=qH;have hb3:mv N V k=some (Nm.Zn N V k):=qH;have hR1:=hR (Nm.Zn N V k) (by simp [hu]);simp only [vC,hu,Bool.or_true,if_true,hmv,hb,hb3] at hR1;simp only [St.move,St.nm,St.put,St.call];simp only [hmv,hx,if_true,hb2,hu,Bool.or_true,E8,hR1]
   cases st.hp k<;>grind
  .simp only [bc] at hx
   have hv:Nm.under V k=false:=by
    grind
   have hR1:=hR k (by simp [hk]);simp only [vC,hk,E8,if_true,hmv,hx,hv,ak,if_false] at hR1;simp only [St.move,St.nm,St.put,St.call];simp only [hmv,hx,hv,hk,ak,if_false,E8,if_true,hR1]
   cases st.hp k<;>grind
section
variable {H:Nm->Option AO} {i j:Nat} {o:AO} {a:AV} {c:Option Nat} {sbs:List (Nm×Nm)}
theorem oZ.step {F:Nm->Option Nm} (h:oZ D hp H) (hF:∀ k,D k=true->F k=some k) (hh:∀ k,D k=true->hp' k=(hp k).map (AO.tr F)):oZ D hp' H:=by
 obtain⟨G,h1,h2⟩:=h;refine⟨λk=>(G k).bind F,λk hk=>qH,λk hk=>?_⟩;rw [hh k hk,h2 k hk]
 cases H k<;>grind[AO.qAW]
theorem Si:oZ D H H:=⟨some,λ_ _=>rfl,λk _=>by cases H k <;> simp [AO.Zr]⟩
theorem Rf (h:oZ D st.hp H):oZ D (st.put c a).hp H:=by cases c <;> exact h
theorem Lk (hD:∀ k,D k=true->k.Zi=false) (h:oZ D st.hp H):oZ D (st.Zp (.s i) o).hp H :=
 h.step (F:=some) (λ_ _=>rfl) λk hk=>by
  rw [FV,if_neg (D_s hD hk i).1]
  cases st.hp k <;> simp [AO.Zr]
theorem Lm (hD:∀ k,D k=true->k.Zi=false) (h:oZ D st.hp H):oZ D (st.kill (.s i)).hp H :=
 h.step (F:=kl (.s i)) (λk hk=>by simp [kl,(D_s hD hk i).2]) λk hk=>by simp [(D_s hD hk i).2]
theorem Ll (hD:∀ k,D k=true->k.Zi=false) (h:oZ D st.hp H):oZ D (st.move (.s i) (.s j)).hp H :=
 h.step (F:=mv (.s i) (.s j)) (λk hk=>by simp [mv,(D_s hD hk i).2,(D_s hD hk j).2]) λk hk=>by
  rw [T5,(D_s hD hk i).2,(D_s hD hk j).2];simp
theorem Rh (hD:∀ k,D k=true->k.Zi=false) (h:oZ D st.hp H):oZ D (st.apd i (some (.s j))).hp H :=
 h.step (F:=kl (.s i)) (λk hk=>by simp [kl,(D_s hD hk i).2]) λk hk=>by
  have h1:=(D_s hD hk i).2;have h2:=(D_s hD hk j).1;rw [O2,if_neg (λe=>h2 (sI e).symm)];simp [h1]
theorem Ux (hD:∀ k,D k=true->k.Zi=false) (hs:∀ q∈sbs,q.1.Zi=true) (h:oZ D hp H):oZ D (lQ D sbs hp) H :=
 h.step (F:=jc D sbs) (λk hk=>ox hD hk hs) λk hk=>qH
end
end
section
variable {X:Ctx} {st:St} {K:St->Prop} {E:AV->St->Prop} {d f:Nat} {ty:TypeId} {pos:String} {aft:Array Edge} {g:Option (Nat×Bool)} {args:Array Operand} {Ts:Array TypeId} {az:List AV}
theorem SY (D:Nm->Bool) (N V:Nm) {z len:Nat} {rows:List (List AV)} (hV:V.isU=true:=by rfl) (hN:N.isU=false:=by rfl) (hVe:X.ext V=false) (hDr:∀ k,D k=true->k.Zi=false) (hNV:Nm.under V N=false) (hDN:∀ k,Nm.under N k=true->D k=true) (hDV:∀ k,Nm.under V k=true->D k=false) (hs:(st.hp N).isSome=true)
  (hext:∀ k i j,X.ext (.u k i j)=true->D (.u k i j)=false\/st.hp (.u k i j)≠none) (hNd:Nm.under N (.s d)=false) (hrow:rows.map (λr=>r.map (AV.tr (mv V N)))=rows) (hd:d<X.n:=by first|(simp;done)|fail)
  (ha:args.toList.map (ev (st.move N V))=az:=by simp [fx];first|done|rfl)
  (hF:Zj X.P X.gl f (λk=>D k||Nm.under V k) az (vC (λk=>D k||Nm.under V k) (hmv N V st.hp)) (λr y H'=>(y=.hs r z 0 len/\H' r=some (.row z rows))/\oZ (λk=>D k||Nm.under V k) H' (vC (λk=>D k||Nm.under V k) (hmv N V st.hp))) noE)
  (h:∀ hp',oZ D hp' st.hp->hp' (.s d)=some (.row z rows)->K ((st.qBw N V d D hp').put (some d) (.hs (.s d) z 0 len))) :
  qS X ⟨some d,.call ⟨.value (.func f),args,Ts⟩,ty,pos,aft,g⟩ K E st:=by
 refine pI N V (.inl hN) (.inr hVe) (yP V N (.inr hVe) (.inl hN) ?_);refine lq (λk=>D k||Nm.under V k) (λk hk=>?_) (λk i j he=>?_) hd ha hF ?_
 .grind[qR]
 .by_cases hD:D (.u k i j)=true
  .right;rcases hext k i j he with h|h
   .simp_all
   .have hn:Nm.under N (.u k i j)=false:=by grind[Nm.isU,Nm.under]
    have hv:Nm.under V (.u k i j)=false:=by
     grind
    simp_all
  grind[Nm.under]
 .rintro y H' ⟨⟨rfl,hr⟩,F,hF1,hF2⟩;have hVd:Nm.under V (.s d)=false:=by cases V <;> simp [Nm.isU] at *
  obtain⟨q,hq,e⟩:=Ma (d:=d) (H':=H') (st:=st) (y:=.hs (.s d) z 0 len) hV hNV hDN hDV hDr hs qH;have hS:=M9 (d:=d) (y:=.hs (.s d) z 0 len) (st:=st) hV hNV hDN hDV hF1 hF2
  have hq2:q.hp (.s d)=some (.row z rows):=by
   rw [hq];simp [hmv,hVd,hNd,hr,AO.tr,hrow]
  grind
end
section
variable {p:Z0} {m:Zb} {fs:List Z8} {f:Z8} {o:Int×Int}
theorem TY (hM:MOk p m fs f) (ho:(vI p f.Z1)[f.pc]?=some o) (h:o.1=16\/o.1=17):m.made<=150:=by
 have h1:=hM.made
 have h2:1<=uC p f:=by
  unfold uC;rw [dy ho]
  grind[v7]
 omega
variable {c x:Int} {w:Nat}
theorem BI (h1:2<=c) (h2:c<=4) (hw:((c - 2) % 3).toNat=w):kM p m fs f (c,x)=yf m fs f (c,x) w 2:=by
 grind[rm,fH]
theorem IM (h1:5<=c) (h2:c<=7) (hw:((c - 2) % 3).toNat=w):kM p m fs f (c,x)=yf m fs f (c,x) w (if x<(qF p f.Z1).length then 2 else 3):=by
 grind[rm,fH]
theorem BJ (h1:9<=c) (h2:c<=13) (h3:c≠11) (hw:((c - 2) % 3).toNat=w):kM p m fs f (c,x)=yf m fs f (c,x) w 4:=by
 grind[rm,fH]
end
end Go.Hm
end
