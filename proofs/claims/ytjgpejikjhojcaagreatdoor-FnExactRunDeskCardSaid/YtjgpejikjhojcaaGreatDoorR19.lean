import Derived.Test.YtjgpejikjhojcaaGreatDoorR18
set_option linter.unusedSimpArgs false
set_option linter.unusedVariables false
set_option maxRecDepth 100000
set_option maxHeartbeats 4000000

section
namespace Go.Hm
open Go Go.RowKit
section
variable {hp hp':Nm->Option AO} {p:qC} {m m':qR} {fs:List qO} {f g:qO} {R R':List AV} {i:Nat} {e:Int} {v:qW}
theorem Xw {o:List AV} (h:hp Yn=some (.row 4415 [R])) (h':hp Yn=some (.row 4415 [o])):o=R:=by
 simp_all
theorem gK {i k:Nat} (h:i<k):¬ i=k/\(29 * i=29 * k)=False/\(∀ a,a<29->(32+29 * i+a=yo k)=False)/\∀ a,(32+29 * i=yo k+a)=False :=
 ⟨qA,eq_false qA,λa ha=>eq_false qw,λa=>eq_false qw⟩
theorem qD.uC (h:qD hp p m) (hm:m.qN=fs++[f]) (hm':m'.qN=fs++[g]) (hc:m'.cells.length=m.cells.length)
  (h0:∀ J:Nat->List AV,(∀ i,(J i).length=29)->hp Yn=some (.row 4415 [qg p m (fs.length+1) (yc (fs++[f]) J)])->∃ J':Nat->List AV,(∀ i,(J' i).length=29)/\hp' Yn=some (.row 4415 [qg p m' (fs.length+1) (yc (fs++[g]) J')]))
  (h1:hp' (.c Yn 0 1)=some (.row 1 (uc p p.length)):=by simp [h.yn])
  (h2:hp' (.c Yn 0 4)=some (.row 1 (qj m'.out)):=by simp [h.out])
  (h3:hp' (.c Yn 0 5)=some (.row 2 (yy m'.trace)):=by simp [h.zo])
  (h4:hp' (.c Yn 0 30)=some (.row 2 (uV m'.qH)):=by simp [h.qH])
  (h5:hp' (.c Yn 0 31)=some (.row 24 (kv m'.qT)):=by simp [h.jA])
  (h6:∀ (i:Nat) x,i<fs.length->hp (.c Yn 0 (32+29 * i+2))=some (.row 3 (zA x))->hp' (.c Yn 0 (32+29 * i+2))=some (.row 3 (zA x)):=by intro i x hi hx;have e:=gK hi;simp [hx,e.1,e.2.1,e.2.2.1,e.2.2.2])
  (h6t:hp' (.c Yn 0 (yo fs.length+2))=some (.row 3 (zA g.qq)):=by simp [h.qq])
  (h7:∀ (i:Nat) x,i<fs.length->hp (.c Yn 0 (32+29 * i+3))=some (.row 1 (za x))->hp' (.c Yn 0 (32+29 * i+3))=some (.row 1 (za x)):=by intro i x hi hx;have e:=gK hi;simp [hx,e.1,e.2.1,e.2.2.1,e.2.2.2])
  (h7t:hp' (.c Yn 0 (yo fs.length+3))=some (.row 1 (za g.cells)))
  (h8:∀ (i:Nat) x,i<fs.length->hp (.c Yn 0 (32+29 * i+28))=some (.row 2 (zh x))->hp' (.c Yn 0 (32+29 * i+28))=some (.row 2 (zh x)):=by intro i x hi hx;have e:=gK hi;simp [hx,e.1,e.2.1,e.2.2.1,e.2.2.2])
  (h8t:∃ j,hp' (.c Yn 0 (yo fs.length+28))=some (.row 2 (zh (g.stack++j))))
  (h9:∀ (c:Nat) s,m'.cells[c]?=some s->hp' (En c)=some (.row 3 [jk s]):=by intro c s hc;simp [h.cell c s hc])
  (hA:∀ k i j,fM k=true->¬ (k=1/\i=0/\j=0)->hp' (.u k i j)≠none->hp (.u k i j)≠none:=by intro k i j hk e hn;simpa [hk,e] using hn):qD hp' p m':=by
 have key:∀ (i:Nat) f',m'.qN[i]?=some f'->(i=fs.length/\f'=g)\/(i<fs.length/\m.qN[i]?=some f'):=by
  grind
 refine⟨?_,h1,h2,h3,h4,h5,λi f' hf=>?_,λi f' hf=>?_,λi f' hf=>?_,h9,λk i j hk hn=>?_⟩
 .grind[top]
 .rcases key i f' hf with⟨rfl,rfl⟩|⟨h1,h2⟩
  .exact h6t
  .exact h6 i _ h1 (h.qq i f' h2)
 .rcases key i f' hf with⟨rfl,rfl⟩|⟨h1,h2⟩
  .exact h7t
  .exact h7 i _ h1 (h.cls i f' h2)
 .rcases key i f' hf with⟨rfl,rfl⟩|⟨h1,h2⟩
  .exact h8t
  .obtain⟨j,hj⟩:=h.stack i f' h2
   grind
 .by_cases e:k=1/\i=0/\j=0
  .omega
  .rw [hc];exact h.only k i j hk (hA k i j hk e hn)
theorem qD.yM (h:qD hp p m) (hm:m.qN=fs++[f]) (hi:fs.length<151):∃ R j,hp Yn=some (.row 4415 [R])/\mB p m fs.length f R/\hp (.c Yn 0 (yo fs.length+2))=some (.row 3 (zA f.qq))/\hp (.c Yn 0 (yo fs.length+3))=some (.row 1 (za f.cells))/\hp (.c Yn 0 (yo fs.length+28))=some (.row 2 (zh (f.stack++j))):=by
 obtain⟨J,j,hJ,hT,h2,h3,h28⟩:=h.uY hm
 grind[qAc]
theorem nW (hr:hp Yn=some (.row 4415 [R])) (h':hp' Yn=some (.row 4415 [R'])) (h0:∀ J:Nat->List AV,(∀ i,(J i).length=29)->R=qg p m (fs.length+1) (yc (fs++[f]) J)->R'=qg p m' (fs.length+1) (yc (fs++[g]) J)) :
  ∀ J:Nat->List AV,(∀ i,(J i).length=29)->hp Yn=some (.row 4415 [qg p m (fs.length+1) (yc (fs++[f]) J)])->∃ J':Nat->List AV,(∀ i,(J' i).length=29)/\hp' Yn=some (.row 4415 [qg p m' (fs.length+1) (yc (fs++[g]) J')]):=λJ hJ e =>
 ⟨J,hJ,qw⟩
theorem C4 (hr:hp Yn=some (.row 4415 [R])) (h':hp' Yn=some (.row 4415 [R'])) (h0:∀ J:Nat->List AV,(∀ i,(J i).length=29)->R=qg p m (fs.length+1) (yc (fs++[f]) J)->∃ J':Nat->List AV,(∀ i,(J' i).length=29)/\R'=qg p m' (fs.length+1) (yc (fs++[g]) J')) :
  ∀ J:Nat->List AV,(∀ i,(J i).length=29)->hp Yn=some (.row 4415 [qg p m (fs.length+1) (yc (fs++[f]) J)])->∃ J':Nat->List AV,(∀ i,(J' i).length=29)/\hp' Yn=some (.row 4415 [qg p m' (fs.length+1) (yc (fs++[g]) J')]):=λJ hJ e=>by
 grind
@[simp] theorem yo_ne {k:Nat} (h:k<32):(32+29 * i=k)↔False:=iff_false_intro qA
theorem mn {a b:Nm->Option Nm}:(AV.tr a∘AV.tr b)=AV.tr (λm=>(b m).bind a):=by
 grind[AV.kO]
theorem Af {l:List AV} {v:AV} {k:Nat}:l.take k++v::l.drop (k+1)=qp l k [v]:=xK
section
variable {F:Nm->Option Nm} {h:Nat} {c J:Nat->List AV} {x:AV} {L:List qO}
theorem oD:(qg p m h c).map (AV.tr F)=(yA p m).map (AV.tr F)++(jn m.globals++((yB m).map (AV.tr F)++(yx (λi=>(c i).map (AV.tr F)) 151++yZ m h))):=by
 have h1:(yx c 151).map (AV.tr F)=yx (λi=>(c i).map (AV.tr F)) 151:=Bi λi _=>rfl
 simp_all[qg,yZ]
theorem Aq (hF:∀ j,32<=j->F (.c Yn 0 j)=some (.c Yn 0 j)):(λi=>(yc L J i).map (AV.tr F))=yc L λi=>(J i).map (AV.tr F):=by
 funext i
 unfold yc
 split
 .simp [y4,hF _ (show 32<=32+29 * i+2 by omega),hF _ (show 32<=32+29 * i+3 by omega),hF _ (show 32<=32+29 * i+28 by omega),AV.tr]
 .rfl
theorem qBs (hF:∀ j,j≠4->F (.c Yn 0 j)=some (.c Yn 0 j)):qp ((qg p m h (yc L J)).map (AV.tr F)) 4 [x]=qp (qg p m h (yc L λi=>(J i).map (AV.tr F))) 4 [x]:=by
 rw [oD,Aq λj hj=>hF j qA]
 simp_all[qg,yA,yB,qp]
theorem qBt (hF:∀ j,j≠5->F (.c Yn 0 j)=some (.c Yn 0 j)):qp ((qg p m h (yc L J)).map (AV.tr F)) 5 [x]=qp (qg p m h (yc L λi=>(J i).map (AV.tr F))) 5 [x]:=by
 rw [oD,Aq λj hj=>hF j qA]
 simp_all[qg,yA,yB,qp]
theorem Ns {a b a' b' x:AV} {S:List AV} {P:List AV} {k:Nat} (hP:P.length=30) (hk:(k=30/\b=b')\/(k=31/\a=a')):qp (P++([a,b]++S)) k [x]=qp (P++([a',b']++S)) k [x]:=by
 rcases hk with⟨rfl,rfl⟩|⟨rfl,rfl⟩
 .have h1:=tJ (P:=P) (X:=[a,b]) (S:=S) (k:=0) (vals:=[x]) qB
  grind[qp]
 .have h1:=tJ (P:=P) (X:=[a,b]) (S:=S) (k:=1) (vals:=[x]) qB;have h2:=tJ (P:=P) (X:=[a,b']) (S:=S) (k:=1) (vals:=[x]) qB
  grind[qp]
theorem qBq (hF:∀ j,j≠30->F (.c Yn 0 j)=some (.c Yn 0 j)):qp ((qg p m h (yc L J)).map (AV.tr F)) 30 [x]=qp (qg p m h (yc L λi=>(J i).map (AV.tr F))) 30 [x]:=by
 rw [oD,Aq λj hj=>hF j qA,nz];have e:(yA p m).map (AV.tr F)=yA p m:=by simp_all[yA]
 rw [e,<- iq];exact Ns (by simp [yA]) (.inl ⟨rfl,qP⟩)
theorem qBr (hF:∀ j,j≠31->F (.c Yn 0 j)=some (.c Yn 0 j)):qp ((qg p m h (yc L J)).map (AV.tr F)) 31 [x]=qp (qg p m h (yc L λi=>(J i).map (AV.tr F))) 31 [x]:=by
 rw [oD,Aq λj hj=>hF j qA,nz];have e:(yA p m).map (AV.tr F)=yA p m:=by simp_all[yA]
 rw [e,<- iq];exact Ns (by simp [yA]) (.inr ⟨rfl,qP⟩)
theorem Xt {o:List (Nat×Nat)} (hF:∀ j,j≠5->F (.c Yn 0 j)=some (.c Yn 0 j)):qp ((qg p m h (yc L J)).map (AV.tr F)) 5 [.hs (.c Yn 0 5) 2 0 o.length]=qg p { m with trace:=o } h (yc L λi=>(J i).map (AV.tr F)):=by rw [qBt hF,qBz]
theorem Xs {o:List Int} (hF:∀ j,j≠4->F (.c Yn 0 j)=some (.c Yn 0 j)):qp ((qg p m h (yc L J)).map (AV.tr F)) 4 [.hs (.c Yn 0 4) 1 0 o.length]=qg p { m with out:=o } h (yc L λi=>(J i).map (AV.tr F)):=by rw [qBs hF,qBy]
theorem Xq {o:List (Nat×List Nat)} (hF:∀ j,j≠30->F (.c Yn 0 j)=some (.c Yn 0 j)):qp ((qg p m h (yc L J)).map (AV.tr F)) 30 [.hs (.c Yn 0 30) 2 0 o.length]=qg p { m with qH:=o } h (yc L λi=>(J i).map (AV.tr F)):=by rw [qBq hF,qBw]
theorem Xr {o:List (List qr)} (hF:∀ j,j≠31->F (.c Yn 0 j)=some (.c Yn 0 j)):qp ((qg p m h (yc L J)).map (AV.tr F)) 31 [.hs (.c Yn 0 31) 24 0 o.length]=qg p { m with qT:=o } h (yc L λi=>(J i).map (AV.tr F)):=by rw [qBr hF,qBx]
theorem Ro (o:List Int) {v:AV} (hJ:∀ i,(J i).length=29) (hv:v=.hs (.c Yn 0 4) 1 0 o.length) (hF:∀ j,j≠4->F (.c Yn 0 j)=some (.c Yn 0 j)):∃ J':Nat->List AV,(∀ i,(J' i).length=29)/\((qg p m h (yc L J)).map (AV.tr F)).take 4++v::((qg p m h (yc L J)).map (AV.tr F)).drop 5=qg p { m with out:=o } h (yc L J') :=
 ⟨λi=>(J i).map (AV.tr F),λi=>fV,by grind[Af,Xs]⟩
theorem Rp (o:List (Nat×Nat)) {v:AV} (hJ:∀ i,(J i).length=29) (hv:v=.hs (.c Yn 0 5) 2 0 o.length) (hF:∀ j,j≠5->F (.c Yn 0 j)=some (.c Yn 0 j)):∃ J':Nat->List AV,(∀ i,(J' i).length=29)/\((qg p m h (yc L J)).map (AV.tr F)).take 5++v::((qg p m h (yc L J)).map (AV.tr F)).drop 6=qg p { m with trace:=o } h (yc L J') :=
 ⟨λi=>(J i).map (AV.tr F),λi=>fV,by grind[Af,Xt]⟩
theorem Rm (o:List (Nat×List Nat)) {v:AV} (hJ:∀ i,(J i).length=29) (hv:v=.hs (.c Yn 0 30) 2 0 o.length) (hF:∀ j,j≠30->F (.c Yn 0 j)=some (.c Yn 0 j)):∃ J':Nat->List AV,(∀ i,(J' i).length=29)/\((qg p m h (yc L J)).map (AV.tr F)).take 30++v::((qg p m h (yc L J)).map (AV.tr F)).drop 31=qg p { m with qH:=o } h (yc L J') :=
 ⟨λi=>(J i).map (AV.tr F),λi=>fV,by grind[Af,Xq]⟩
theorem Rn (o:List (List qr)) {v:AV} (hJ:∀ i,(J i).length=29) (hv:v=.hs (.c Yn 0 31) 24 0 o.length) (hF:∀ j,j≠31->F (.c Yn 0 j)=some (.c Yn 0 j)):∃ J':Nat->List AV,(∀ i,(J' i).length=29)/\((qg p m h (yc L J)).map (AV.tr F)).take 31++v::((qg p m h (yc L J)).map (AV.tr F)).drop 32=qg p { m with qT:=o } h (yc L J') :=
 ⟨λi=>(J i).map (AV.tr F),λi=>fV,by grind[Af,Xr]⟩
end
theorem qD.Nf (h:qD hp p m) (hm:m.qN=fs++[f]) (hm':m'.qN=fs++[g]) (hr:hp Yn=some (.row 4415 [R])) (h0:∀ J:Nat->List AV,(∀ i,(J i).length=29)->R=qg p m (fs.length+1) (yc (fs++[f]) J)->R'=qg p m' (fs.length+1) (yc (fs++[g]) J))
  (e1:m'.cells=m.cells:=by rfl) (e2:m'.out=m.out:=by rfl) (e3:m'.trace=m.trace:=by rfl) (e4:m'.qH=m.qH:=by rfl) (e5:m'.qT=m.qT:=by rfl) (g1:g.qq=f.qq:=by rfl) (g2:g.cells=f.cells:=by rfl) (g3:∃ l,f.stack=g.stack++l:=by exact⟨[],qB⟩) :
  qD (zP Yn (.row 4415 [R']) hp) p m':=by
 have hf:m.qN[fs.length]?=some f:=cR;refine h.uC hm hm' (by rw [e1]) (nW hr ra h0) (by simp [zP,h.yn]) (by grind[zP,out]) (by grind[zP,zo]) (by grind[zP,qH]) (by grind[zP,jA]) (λi x _ hx=>qP) ?_ (λi x _ hx=>qP) ?_ (λi x _ hx=>qP) ?_ (λc s hc=>?_) (λk i j hk e hn=>?_)
 .rw [g1];simp [zP,h.qq _ f hf]
 .rw [g2];simp [zP,h.cls _ f hf]
 .obtain⟨j,hj⟩:=h.stack _ f hf
  grind[zP]
 .rw [e1] at hc;simp [zP,h.cell c s hc]
 grind[zP]
theorem qD.ee (h:qD hp p m) (hm:m.qN=fs++[f]) (hr:hp Yn=some (.row 4415 [R])):qD (zP Yn (.row 4415 [qp R 3 [iv e]]) hp) p { m with en:=e } :=
 h.Nf hm (m':={ m with en:=e }) (g:=f) hm hr (λJ _ e=>by grind[qBv])
end
def vu (m:qR) (fs:List qO) (f:qO) (o:Int×Int) (w:Nat) (e:Int):qR :=
 if w=1 then jr m fs f.pop o (some f.zB) else match kG m f o with
  | none=>m.stop fs f e
  | some v=>if w=0 then m.top fs (f.push v) else jr m fs f o none
structure ij (p:qC) (m:qR) (fs:List qO) (f:qO) (o:Int×Int) (off:Nat):Prop where
 le:off+3<=4411
 rd:∀ g R,g.names=f.names->mB p (m.top fs g) fs.length g R->∀ j,j<3->R[off+j]?=(jk (kG m f o))[j]?
 wr:∀ g s,g.names=f.names->g.cells=f.cells->∃ G,(jr m fs g o s).qN=fs++[G]/\G.qq=g.qq/\G.cells=g.cells/\G.stack=g.stack/\(jr m fs g o s).cells=m.cells/\(jr m fs g o s).out=m.out/\(jr m fs g o s).trace=m.trace/\(jr m fs g o s).qH=m.qH/\(jr m fs g o s).qT=m.qT/\(jr m fs g o s).en=m.en /\
  ∀ J:Nat->List AV,(∀ i,(J i).length=29)->qp (qg p (m.top fs g) (fs.length+1) (yc (fs++[g]) J)) off (jk s)=qg p (jr m fs g o s) (fs.length+1) (yc (fs++[G]) J)
section
variable {p:qC} {m:qR} {fs:List qO} {f g:qO} {o:Int×Int} {x:Nat}
theorem ij.zJ (hg:m.globals.length=8) (h1:8<=o.1) (h2:o.1<=10) (hx:o.2.toNat<8):ij p m fs f o (6+3 * o.2.toNat):=by
 have e1:¬ o.1<=4:=qA;have e2:¬ o.1<=7:=qA;refine⟨qA,λg R _ tr j hj=>?_,λg s _ _=>⟨g,?_⟩⟩
 .rw [cF,tr.gl _ j hx hj]
  grind[kG,qR.top]
 .have e:jr m fs g o s={ m.top fs g with globals:=m.globals.set o.2.toNat s }:=by grind[jr]
  simp_all[qCC]
theorem ij.name (hn:f.names.length=8) (hi:fs.length<151) (h1:11<=o.1) (hx:o.2.toNat<8):ij p m fs f o (yo fs.length+4+3 * o.2.toNat):=by
 have e1:¬ o.1<=4:=qA;have e2:¬ o.1<=7:=qA;have e3:¬ o.1<=10:=qA;refine⟨qw,λg R hg tr j hj=>?_,λg s hg _=>⟨{ g with names:=g.names.set o.2.toNat s },?_⟩⟩
 .rw [cF,tr.nm _ j hx hj]
  grind[kG]
 .have e:jr m fs g o s=m.top fs { g with names:=g.names.set o.2.toNat s }:=by grind[jr]
  rw [e];refine⟨rfl,rfl,rfl,rfl,rfl,rfl,rfl,rfl,rfl,rfl,λJ hJ=>?_⟩;have:=DE (p:=p) (m:=m.top fs g) (h:=fs.length+1) (J:=J) (fs:=fs++[g]) (i:=fs.length) (f:=g) (g:={ g with names:=g.names.set o.2.toNat s }) (j:=4+3 * o.2.toNat) (vals:=jk s) hJ qB hi qu (qCM qP hx)
  grind[qg,yA,yB,yZ,qR.top]
end
def gN:Nm->Bool:=λk=>DM k||Nm.under (.u 9 0 0) k
theorem HO {q:Nm} (h:gN q=true):q.zg=false:=by
 rcases tk _ _ ▸ h with h|h
 .exact zC h
 .exact vN rfl h
theorem DJ {q:Nm} (h:Nm.under (.u 9 0 0) q=true):DM q=false:=by
 induction q with
 | s d=>simp at h
 | u a b c =>
  simp at h;obtain⟨rfl,rfl,rfl⟩:=h
  rfl
 | c r i j ih =>
  simp_all
theorem OI {q:Nm} (h:Nm.under Yn q=true):DM q=true:=by
 induction q<;>simp_all
theorem DH {q:Nm} {j:Nat} (h:Nm.under (.c Yn 0 j) q=true):DM q=true:=OI (Nm.gH qB h)
section
variable {hp hp':Nm->Option AO} {p:qC} {m:qR} {fs:List qO} {f:qO} {k j:Nat}
theorem Zf {g:AV->AV} {l vals:List AV} {k:Nat}:(qp l k vals).map g=qp (l.map g) k (vals.map g):=by simp_all[qp]
theorem qD.same (h:qD hp p m) (hs:uF DM hp' hp):qD hp' p m:=by
 obtain⟨F,h1,h2⟩:=hs;exact h.qv h1 h2
theorem qD.wN (h:qD hp p m) (hm:m.qN=fs++[f]) (hi:fs.length<151) (hk:f.stack.length=k+1) (hj:j≠yo fs.length+28):∃ (R R':List AV) (vs:List qW),hp Yn=some (.row 4415 [R])/\(z6 gN (jJ (.c Yn 0 j) (.u 9 0 0) hp)) Yn=some (.row 4415 [R'])/\R'[yo fs.length+28]?=some (.hs (.c Yn 0 (yo fs.length+28)) 2 0 (k+1))/\(z6 gN (jJ (.c Yn 0 j) (.u 9 0 0) hp)) (.c Yn 0 (yo fs.length+28))=some (.row 2 (zh vs))/\vs[k]?=some f.zB /\
  (AO.row 4415 [qp R (yo fs.length+28) [.hs (.c Yn 0 (yo fs.length+28)) 2 0 k]]).tr (mv (.c Yn 0 j) (.u 9 0 0))=.row 4415 [qp R' (yo fs.length+28) [.hs (.c Yn 0 (yo fs.length+28)) 2 0 k]]:=by
 obtain⟨R,i,hT,tr,h2,h3,h28⟩:=h.yM hm hi;have e1:Nm.under (.c Yn 0 j) Yn=false:=qB;have e2:Nm.under (.c Yn 0 j) (.c Yn 0 (yo fs.length+28))=false:=by simp [Ne.symm hj]
 have hm:mv (.c Yn 0 j) (.u 9 0 0) (.c Yn 0 (yo fs.length+28))=some (.c Yn 0 (yo fs.length+28)):=qP;have he:∀ q,(AV.hs (.c Yn 0 (yo fs.length+28)) 2 0 q).tr (mv (.c Yn 0 j) (.u 9 0 0))=.hs (.c Yn 0 (yo fs.length+28)) 2 0 q:=λq=>qP;refine⟨R,R.map (AV.tr (mv (.c Yn 0 j) (.u 9 0 0))),f.stack++i,hT,?_,?_,?_,gD hk,?_⟩
 .simp_all[gN,jJ]
 .grind[mB.f28]
 .simp_all[gN,jJ]
 simp_all[Zf]
theorem mB.Jf {i x:Nat} {v:qW} {R:List AV} (tr:mB p m i f R) (hx:x<8) (h:jW m.globals x=some v):(R.drop (6+x * 3+1)).take 2=[iv v.1,iv v.2]:=by
 have g1:=tr.gl x 1 hx qA;have g2:=tr.gl x 2 hx qA
 simp_all<;>grind[tM]
theorem mB.UH {i x:Nat} {v:qW} {R:List AV} (tr:mB p m i f R) (hx:x<8) (h:jW f.names x=some v):(R.drop (yo i+4+x * 3+1)).take 2=[iv v.1,iv v.2]:=by
 have g1:=tr.nm x 1 hx qA;have g2:=tr.nm x 2 hx qA
 simp_all<;>grind[tM]
end
def oG (hp:Nm->Option AO) (p:qC) (m:qR) (h:Nat):Prop:=∃ J:Nat->List AV,(∀ i,(J i).length=29)/\hp Yn=some (.row 4415 [qg p m h (yc m.qN J)])/\qD (zP Yn (.row 4415 [qg p m m.qN.length (yc m.qN J)]) hp) p m
section
variable {hp hp':Nm->Option AO} {p:qC} {m:qR} {fs:List qO} {f:qO} {h:Nat} {F:Nm->Option Nm} {J:Nat->List AV} {vals R:List AV}
theorem Xv (hJ:∀ i,(J i).length=29) (hi:fs.length<151) (hv:vals.length=29) (hF:∀ j,j≠yo fs.length+2->j≠yo fs.length+3->j≠yo fs.length+28->F (.c Yn 0 j)=some (.c Yn 0 j)) :
  qp ((qg p m h (yc (fs++[f]) J)).map (AV.tr F)) (yo fs.length) vals=qg p m h (yc fs λk=>if k=fs.length then vals else (J k).map (AV.tr F)):=by
 have hl:∀ j,j<32->F (.c Yn 0 j)=some (.c Yn 0 j):=λj hj=>hF j qw qw qw;have eA:(yA p m).map (AV.tr F)=yA p m:=by simp_all[yA]
 have eB:(yB m).map (AV.tr F)=yB m:=by simp_all[yB]
 rw [oD,eA,eB];have e:yA p m++(jn m.globals++(yB m++(yx (λi=>(yc (fs++[f]) J i).map (AV.tr F)) 151++yZ m h)))=qg p m h λi=>(yc (fs++[f]) J i).map (AV.tr F):=rfl;rw [e,show yo fs.length=32+(29 * fs.length+0) by simp];refine DD (λi=>by simp [aO hJ]) hi qA (λk hk=>?_) ?_
 .unfold yc;rcases mI k fs.length with e|e|e
  .rw [ub e,gE e];have h1:∀ a,a<29->a=2\/a=3\/a=28->F (.c Yn 0 (32+29 * k+a))=some (.c Yn 0 (32+29 * k+a)):=λa ha _=>hF _ qw qw qw
   simp_all[y4]
  .omega
  .rw [dQ qA,dQ qu];simp [hk]
 simp_all[yc,qp]
theorem qD.Iy (h:qD hp p m) (hm:m.qN=fs++[f]) (hi:fs.length<151) (hr:hp Yn=some (.row 4415 [R]))
  (hv:vals.length=29) (hF:∀ j,j≠yo fs.length+2->j≠yo fs.length+3->j≠yo fs.length+28->F (.c Yn 0 j)=some (.c Yn 0 j))
  (h0:hp' Yn=some (.row 4415 [qp (R.map (AV.tr F)) (yo fs.length) vals]))
  (h1:hp' (.c Yn 0 1)=some (.row 1 (uc p p.length)):=by simp [h.yn])
  (h2:hp' (.c Yn 0 4)=some (.row 1 (qj m.out)):=by simp [h.out])
  (h3:hp' (.c Yn 0 5)=some (.row 2 (yy m.trace)):=by simp [h.zo])
  (h4:hp' (.c Yn 0 30)=some (.row 2 (uV m.qH)):=by simp [h.qH])
  (h5:hp' (.c Yn 0 31)=some (.row 24 (kv m.qT)):=by simp [h.jA])
  (h6:∀ (i:Nat) x,i<fs.length->hp (.c Yn 0 (32+29 * i+2))=some (.row 3 (zA x))->hp' (.c Yn 0 (32+29 * i+2))=some (.row 3 (zA x)):=by intro i x hi hx;have e:=gK hi;simp [hx,e.1,e.2.1,e.2.2.1,e.2.2.2])
  (h7:∀ (i:Nat) x,i<fs.length->hp (.c Yn 0 (32+29 * i+3))=some (.row 1 (za x))->hp' (.c Yn 0 (32+29 * i+3))=some (.row 1 (za x)):=by intro i x hi hx;have e:=gK hi;simp [hx,e.1,e.2.1,e.2.2.1,e.2.2.2])
  (h8:∀ (i:Nat) x,i<fs.length->hp (.c Yn 0 (32+29 * i+28))=some (.row 2 (zh x))->hp' (.c Yn 0 (32+29 * i+28))=some (.row 2 (zh x)):=by intro i x hi hx;have e:=gK hi;simp [hx,e.1,e.2.1,e.2.2.1,e.2.2.2])
  (h9:∀ (c:Nat) s,m.cells[c]?=some s->hp' (En c)=some (.row 3 [jk s]):=by intro c s hc;simp [h.cell c s hc])
  (hA:∀ k i j,fM k=true->¬ (k=1/\i=0/\j=0)->hp' (.u k i j)≠none->hp (.u k i j)≠none:=by intro k i j hk e hn;simpa [hk,e] using hn) :
  oG hp' p { m with qN:=fs } (fs.length+1):=by
 obtain⟨J,hJ,e⟩:=h.top
 have hR:R=qg p m (fs.length+1) (yc (fs++[f]) J):=by
  simp_all
 have key:∀ (i:Nat) f',fs[i]?=some f'->i<fs.length/\m.qN[i]?=some f':=λi f' hf=>by
  grind
 have hrow:=Xv (p:=p) (m:=m) (f:=f) (h:=fs.length+1) hJ hi hv hF;refine⟨λk=>if k=fs.length then vals else (J k).map (AV.tr F),λi=>?_,?_,⟨λk=>if k=fs.length then vals else (J k).map (AV.tr F),λi=>?_,?_⟩,qP,qP,qP,qP,qP,λi f' hf=>?_,λi f' hf=>?_,λi f' hf=>?_,λc s hc=>?_,λk i j hk hn=>?_⟩
 .grind
 .rw [h0,hR,hrow]
  rfl
 .grind
 .simp [zP]
 .obtain⟨a,b⟩:=key i f' hf;simp only [zP];rw [if_neg qB];exact h6 i _ a (h.qq i f' b)
 .obtain⟨a,b⟩:=key i f' hf;simp only [zP];rw [if_neg qB];exact h7 i _ a (h.cls i f' b)
 .obtain⟨a,b⟩:=key i f' hf;obtain⟨j,hj⟩:=h.stack i f' b
  grind[zP]
 .simp_all
 .by_cases e:k=1/\i=0/\j=0
  .omega
  .refine h.only k i j hk (hA k i j hk e ?_)
   simp_all
theorem oG.done (hY:oG hp p m h) (hr:hp Yn=some (.row 4415 [R])) (h0:hp' Yn=some (.row 4415 [qp R 4411 [iv (m.qN.length:Nat)]])) (hh:∀ q,DM q=true->q≠Yn->hp' q=hp q):qD hp' p m:=by
 obtain⟨J,hJ,e,hO⟩:=hY;refine hO.qv (f:=some) (λ_ _=>rfl) λq hq=>?_;by_cases hq1:q=Yn
 .grind[Nt,aO,zP,AO.vv]
 .rw [hh q hq hq1];simp only [zP];rw [if_neg hq1]
  cases hp q <;> simp [AO.vv]
theorem oG.ht (hY:oG hp p m h):∃ R,hp Yn=some (.row 4415 [R])/\R.length=4415/\R[4411]?=some (iv h):=by
 obtain⟨J,hJ,e,_⟩:=hY
 grind[oA,aO,DC]
end
section
variable {st:St} {p:qC} {m:qR} {d:Option Nat} {a:AV} {i j:Nat} {o:AO}
theorem HF (h:qD st.hp p m):qD (st.put d a).hp p m:=by cases d <;> exact h
theorem HG {n:Nm} (hn:DM n=false) (h:qD st.hp p m):qD (st.zT n o).hp p m:=by
 refine h.qv (f:=some) (λ_ _=>rfl) λk hk=>?_;have:k≠n:=λe=>qP;rw [GU,if_neg this]
 cases st.hp k <;> simp [AO.vv]
theorem HD (h:qD st.hp p m):qD (st.kill (.s i)).hp p m :=
 h.qv (f:=kl (.s i)) (λk hk=>B9) λk hk=>by
  have:=(jg (λ_=>zC) hk i).2;simp [this]
theorem HE (h:qD st.hp p m):qD (st.move (.s i) (.s j)).hp p m :=
 h.qv (f:=mv (.s i) (.s j)) (λk hk=>by simp [mv,(jg (λ_=>zC) hk i).2,(jg (λ_=>zC) hk j).2]) λk hk=>by
  have h1:=(jg (λ_=>zC) hk i).2;have h2:=(jg (λ_=>zC) hk j).2
  simp_all
theorem HC (h:qD st.hp p m):qD (st.fL i (some (.s j))).hp p m :=
 h.qv (f:=kl (.s i)) (λk hk=>B9) λk hk=>by
  have h1:=(jg (λ_=>zC) hk i).2;have h2:=(jg (λ_=>zC) hk j).1;rw [DU,if_neg (λe=>h2 (sI e).symm)];simp [h1]
end
def jh (hp:Nm->Option AO) (p:qC) (m:qR) (C:List qr):Prop:=∃ J:Nat->List AV,(∀ i,(J i).length=29)/\hp Yn=some (.row 4415 [qg p m m.qN.length (yc m.qN J)])/\qD (zP Yn (.row 4415 [qg p { m with cells:=C } m.qN.length (yc m.qN J)]) hp) p { m with cells:=C }
section
variable {hp hp' H:Nm->Option AO} {p:qC} {m:qR} {C:List qr} {F:Nm->Option Nm} {st:St} {d:Option Nat} {a:AV} {i j c:Nat} {o:AO} {s:qr}
theorem qD.yc (h:qD hp p m):jh hp p m m.cells:=by
 obtain⟨J,hJ,e⟩:=h.top;refine⟨J,hJ,e,h.qv (f:=some) (λ_ _=>rfl) λq hq=>?_⟩;by_cases h1:q=Yn
 .subst h1;rw [e];simp only [zP,if_true,u7,AO.vv]
 .simp only [zP];rw [if_neg h1]
  cases hp q <;> simp [AO.vv]
theorem Gy {h:Nat} {L:List qO} {J:Nat->List AV} (hc:∀ j,F (.c Yn 0 j)=some (.c Yn 0 j)):(qg p m h (yc L J)).map (AV.tr F)=qg p m h (yc L λi=>(J i).map (AV.tr F)):=by
 rw [oD,Aq λj _=>hc j]
 simp_all[qg,yA,yB]
theorem jh.qv (h:jh hp p m C) (hf:∀ k,DM k=true->F k=some k) (hh:∀ k,DM k=true->hp' k=(hp k).map (AO.tr F)):jh hp' p m C:=by
 obtain⟨J,hJ,e,hO⟩:=h;refine⟨λi=>(J i).map (AV.tr F),λi=>fV,?_,hO.qv (f:=F) hf λq hq=>?_⟩
 .rw [hh _ rfl,e];simp only [u7,AO.tr,al,oW];rw [Gy λj=>hf _ rfl]
 .by_cases h1:q=Yn
  .subst h1;simp only [zP,if_true,u7,AO.tr,al,oW];rw [Gy λj=>hf _ rfl]
  simp_all
theorem ic {n:Nm} (hn:n.zg=true):∀ k,DM k=true->Nm.under n k=false:=λk hk=>by
 cases h:Nm.under n k with
 | false=>rfl
 | true=>have:=Nm.lj hn h;grind[zC]
theorem OJ {n:Nm} (hn:n.zg=true):DM n=false:=by
 grind[zC]
theorem HA (h:jh st.hp p m C):jh (st.put d a).hp p m C:=by cases d <;> exact h
theorem Nx {n:Nm} (hn:n.zg=true) (h:jh st.hp p m C):jh (st.zT n o).hp p m C:=by
 refine h.qv (F:=some) (λ_ _=>rfl) λk hk=>?_;have:k≠n:=λe=>by grind[OJ]
 rw [GU,if_neg this]
 cases st.hp k <;> simp [AO.vv]
theorem Nv {n:Nm} (hn:n.zg=true) (h:jh st.hp p m C):jh (st.kill n).hp p m C :=
 h.qv (F:=kl n) (λk hk=>by grind[kl,ic]) λk hk=>by
  simp_all[ic]
theorem Nw {n n':Nm} (hn:n.zg=true) (hn':n'.zg=true) (h:jh st.hp p m C):jh (st.move n n').hp p m C :=
 h.qv (F:=mv n n') (λk hk=>by grind[mv,ic]) λk hk=>by
  simp_all[ic]
theorem Nu {n:Nm} (hn:n.zg=true) (h:jh st.hp p m C):jh (st.fL i (some n)).hp p m C :=
 h.qv (F:=kl (.s i)) (λk hk=>B9) λk hk=>by
  have h1:=(jg (λ_=>zC) hk i).2;rw [DU,if_neg (λe=>by grind[zC])];simp [h1]
theorem qD.free (h:qD hp p m) (hc:m.cells.length<=c):hp (.u 7 c 0)=none:=by
 cases e:hp (.u 7 c 0) with
 | none=>rfl
 | some o =>
  rcases h.only 7 c 0 rfl xJ with⟨h1,_⟩|⟨_,h2,_⟩<;>grind
theorem jh.set (h:jh hp p m C) (hc:c<C.length) (hw:hp' (En c)=some (.row 3 [jk s])) (hh:∀ q,DM q=true->q≠En c->hp' q=hp q):jh hp' p m (C.set c s):=by
 obtain⟨J,hJ,e,hO⟩:=h;have hY:Yn≠En c:=qB;have hE:∀ j,Nm.c Yn 0 j≠En c:=λj=>qB;have hE2:∀ j,Nm.c Yn 0 j≠Yn:=λj=>qB
 have rd:∀ q,DM q=true->q≠En c->q≠Yn->∀ z,zP Yn z hp' q=zP Yn (.row 4415 [qg p { m with cells:=C } m.qN.length (yc m.qN J)]) hp q:=λq h1 h2 h3 z=>by
  simp_all
 refine⟨J,hJ,by rw [hh _ rfl hY];exact e,⟨J,hJ,ra⟩,?_,?_,?_,?_,?_,λi f hf=>?_,λi f hf=>?_,λi f hf=>?_,λc' s' hs'=>?_,λk i j hk hn=>?_⟩
 .rw [rd _ rfl (hE _) (hE2 _)];exact hO.yn
 .rw [rd _ rfl (hE _) (hE2 _)];exact hO.out
 .rw [rd _ rfl (hE _) (hE2 _)];exact hO.zo
 .rw [rd _ rfl (hE _) (hE2 _)];exact hO.qH
 .rw [rd _ rfl (hE _) (hE2 _)];exact hO.jA
 .rw [rd _ rfl (hE _) (hE2 _)];exact hO.qq i f hf
 .rw [rd _ rfl (hE _) (hE2 _)];exact hO.cls i f hf
 .obtain⟨j,hj⟩:=hO.stack i f hf;exact⟨j,by rw [rd _ rfl (hE _) (hE2 _)];exact hj⟩
 .simp only [dt] at hs';by_cases e1:c=c'
  .simp_all
  .rw [if_neg e1] at hs';rw [rd _ rfl qw qB];exact hO.cell c' s' hs'
 .simp only [List.length_set];by_cases e1:Nm.u k i j=En c
  .simp_all
  .by_cases e2:k=1/\i=0/\j=0
   .omega
   .refine hO.only k i j hk λe3=>hn ?_;rw [rd (.u k i j) hk e1 qP];exact e3
theorem qCG (s:qr) (hc:c<C.length) (h:jh st.hp p m C):jh (st.zT (.u 7 c 0) (.row 3 [jk s])).hp p m (C.set c s) :=
 jh.set h hc qB λq _ hn=>qP
theorem R8 {l:List (Nat×List Nat)} (h:∀ g∈l,∀ i∈g.2,F (En i)=some (En i)):(uV l).map (λy=>y.map (AV.tr F))=uV l:=by
 simp only [uV,gU];apply mH;intro g hg;have:(za g.2).map (λy=>y.map (AV.tr F))=za g.2:=sO (h g hg)
 simp_all
theorem jh.add {n0:Nm} (h0:n0.zg=true) (h:jh st.hp p m C) (hs:st.hp n0=some (.row 3 [jk s])) (hfr:∀ f∈m.qN,∀ c∈f.cells,c<C.length) (hfn:∀ g∈m.qH,∀ c∈g.2,c<C.length):jh (st.move n0 (.u 7 C.length 0)).hp p m (C++[s]):=by
 obtain⟨J,hJ,e,hO⟩:=h
 have rd:∀ q,Nm.under (.u 7 C.length 0) q=false->Nm.under n0 q=false->(st.move n0 (.u 7 C.length 0)).hp q=(st.hp q).map (AO.tr (mv n0 (.u 7 C.length 0))):=λq h1 h2=>by
  simp_all
 have rc:∀ j,(st.move n0 (.u 7 C.length 0)).hp (.c Yn 0 j)=(st.hp (.c Yn 0 j)).map (AO.tr (mv n0 (.u 7 C.length 0))):=λj=>rd _ qB (ic h0 _ rfl);have fc:∀ j,mv n0 (.u 7 C.length 0) (.c Yn 0 j)=some (.c Yn 0 j):=λj=>by simp [mv,ic h0 (.c Yn 0 j) rfl]
 have fe:∀ c,c<C.length->mv n0 (.u 7 C.length 0) (En c)=some (En c):=λc hc=>by
  have:¬ C.length=c:=qA;simp [mv,rJ hc,ic h0 (En c) rfl]
 have o1:=hO.yn;have o2:=hO.out;have o3:=hO.zo;have o4:=hO.qH;have o5:=hO.jA;simp only [zP] at o1 o2 o3 o4 o5;rw [if_neg qB] at o1 o2 o3 o4 o5
 have eY:(st.move n0 (.u 7 C.length 0)).hp Yn=some (.row 4415 [qg p m m.qN.length (yc m.qN λk=>(J k).map (AV.tr (mv n0 (.u 7 C.length 0))))]):=by
  rw [rd _ qB (ic h0 _ rfl),e]
  simp_all[Gy]
 refine⟨λk=>(J k).map (AV.tr (mv n0 (.u 7 C.length 0))),λk=>fV,eY,⟨λk=>(J k).map (AV.tr (mv n0 (.u 7 C.length 0))),λk=>fV,ra⟩,?_,?_,?_,?_,?_,λi f hf=>?_,λi f hf=>?_,λi f hf=>?_,λc' s' hs'=>?_,λk a b hk hn=>?_⟩
 .simp only [zP];rw [if_neg qB,rc,o1];simp
 .simp only [zP];rw [if_neg qB,rc,o2];simp
 .simp only [zP];rw [if_neg qB,rc,o3];simp
 .simp only [zP];rw [if_neg qB,rc,o4];simp only [u7,AO.tr];rw [R8 λg hg c hc=>fe c (hfn g hg c hc)]
 .simp only [zP];rw [if_neg qB,rc,o5];simp
 .have o:=hO.qq i f hf;simp only [zP] at o ⊢;rw [if_neg qB] at o ⊢;rw [rc,o];simp
 .have o:=hO.cls i f hf
  grind[zP,AO.tr,sO]
 .obtain⟨j,o⟩:=hO.stack i f hf;simp only [zP] at o ⊢;rw [if_neg qB] at o ⊢;exact⟨j,by rw [rc,o];simp⟩
 .simp only [zP];rw [if_neg qB];rcases mI c' C.length with e1|e1|e1
  .have o:=hO.cell c' s' qw;simp only [zP] at o;rw [if_neg qB] at o;rw [rd _ (by simp [rJ e1]) (ic h0 _ rfl),o];simp
  .simp_all
  grind
 .simp only [ua,wm];by_cases e1:k=7/\a=C.length/\b=0
  .omega
  .by_cases e2:k=1/\a=0/\b=0
   .omega
   .have hn2:zP Yn (.row 4415 [qg p { m with cells:=C } m.qN.length (yc m.qN J)]) st.hp (.u k a b)≠none:=λe3=>hn (by
     simp only [zP] at e3 ⊢;rw [if_neg qP] at e3 ⊢
     simp_all)
    rcases hO.only k a b hk hn2 with h1|⟨h1,h2,h3⟩<;>grind
theorem jh.O6 {n0:Nm} {L:Nat} (hL:L=C.length) (h0:n0.zg=true) (h:jh st.hp p m C) (hs:st.hp n0=some (.row 3 [jk s])) (hfr:∀ f∈m.qN,∀ c∈f.cells,c<C.length) (hfn:∀ g∈m.qH,∀ c∈g.2,c<C.length):jh (st.move n0 (.u 7 L 0)).hp p m (C++[s]):=by
 subst hL;exact jh.add h0 h hs hfr hfn
end
section
variable {p:qC} {m:qR} {fs:List qO} {g:qO} {h:Nat} {F:Nm->Option Nm} {J:Nat->List AV}
theorem Xu (hJ:∀ i,(J i).length=29) (hi:fs.length<151) (hF:∀ j,j≠yo fs.length+2->j≠yo fs.length+3->j≠yo fs.length+28->F (.c Yn 0 j)=some (.c Yn 0 j)) :
  qp ((qg p m h (yc fs J)).map (AV.tr F)) (yo fs.length) (y4 fs.length g)=qg p m h (yc (fs++[g]) λk=>(J k).map (AV.tr F)):=by
 have hl:∀ j,j<32->F (.c Yn 0 j)=some (.c Yn 0 j):=λj hj=>hF j qw qw qw;have eA:(yA p m).map (AV.tr F)=yA p m:=by simp_all[yA]
 have eB:(yB m).map (AV.tr F)=yB m:=by simp_all[yB]
 rw [oD,eA,eB];have e:yA p m++(jn m.globals++(yB m++(yx (λi=>(yc fs J i).map (AV.tr F)) 151++yZ m h)))=qg p m h λi=>(yc fs J i).map (AV.tr F):=rfl;rw [e,show yo fs.length=32+(29 * fs.length+0) by simp];refine DD (λi=>by simp [aO hJ]) hi qB (λk hk=>?_) ?_
 .unfold yc;rcases mI k fs.length with e|e|e
  .rw [ub e,gE e];have h1:∀ a,a<29->F (.c Yn 0 (32+29 * k+a))=some (.c Yn 0 (32+29 * k+a)):=λa ha=>hF _ qw qw qw
   simp_all[y4]
  .omega
  .rw [dQ qu,dQ qA]
 simp_all[aO,tT,qp]
end
def gQ (hp:Nm->Option AO) (p:qC) (m M:qR) (h:Nat):Prop:=∃ J:Nat->List AV,(∀ i,(J i).length=29)/\hp Yn=some (.row 4415 [qg p m h (yc M.qN J)])/\qD (zP Yn (.row 4415 [qg p M M.qN.length (yc M.qN J)]) hp) p M
section
variable {hp hp':Nm->Option AO} {p:qC} {m m' M:qR} {h h' k:Nat} {R:List AV} {v:AV}
theorem gQ.row (hY:gQ hp p m M h):∃ R,hp Yn=some (.row 4415 [R])/\R.length=4415/\R[4411]?=some (iv h)/\R[4412]?=some (iv m.deep)/\R[4413]?=some (iv m.made)/\R[4414]?=some (iv m.cells.length):=by
 obtain⟨J,hJ,e,_⟩:=hY;have hc:=aO (fs:=M.qN) hJ
 grind[oA,DC,Np,Nq,Nr]
theorem gQ.set (hY:gQ hp p m M h) (hr:hp Yn=some (.row 4415 [R])) (h0:hp' Yn=some (.row 4415 [qp R k [v]]))
  (hs:∀ J:Nat->List AV,(∀ i,(yc M.qN J i).length=29)->qp (qg p m h (yc M.qN J)) k [v]=qg p m' h' (yc M.qN J)) (hh:∀ q,DM q=true->q≠Yn->hp' q=hp q):gQ hp' p m' M h':=by
 obtain⟨J,hJ,e,hO⟩:=hY;refine⟨J,hJ,?_,hO.qv (f:=some) (λ_ _=>rfl) λq hq=>?_⟩
 .grind[aO]
 .by_cases h1:q=Yn
  .grind[zP,AO.vv]
  .simp only [zP];rw [if_neg h1,if_neg h1,hh q hq h1]
   cases hp q <;> simp [AO.vv]
theorem gQ.done (hY:gQ hp p m M h) (hs:∀ J:Nat->List AV,qg p m h (yc M.qN J)=qg p M M.qN.length (yc M.qN J)):qD hp p M:=by
 obtain⟨J,hJ,e,hO⟩:=hY;refine hO.qv (f:=some) (λ_ _=>rfl) λq hq=>?_;by_cases h1:q=Yn
 .grind[zP,AO.vv]
 .simp only [zP];rw [if_neg h1]
  cases hp q <;> simp [AO.vv]
end
section
variable {p:qC} {m:qR} {fs:List qO} {f g:qO} {o:Int×Int} {v:qW}
theorem F0 (h1:2<=o.1) (h2:o.1<=13) (n8:o.1≠8) (n11:o.1≠11):jp p m fs f o=vu m fs f o ((o.1 - 2) % 3).toNat (uE p f o):=by
 have h0:¬ o.1=0:=qA;simp only [jp];rw [if_neg h0,if_pos ⟨h1,h2⟩];have h3:(o.1 - 2) % 3=0\/(o.1 - 2) % 3=1\/(o.1 - 2) % 3=2:=qA;rcases h3 with h|h|h
 .grind[uE,vj,vu]
 .rw [h,if_neg qA,if_pos rfl]
  rfl
 grind[be,vu]
theorem LM (h:o.1=8\/o.1=11):jp p m fs f o=vj p m fs f o:=by
 grind[jp]
theorem Ua (h0:¬ o.1=0) (h:¬ (2<=o.1/\o.1<=13)):jp p m fs f o=y3 p m fs f o:=by
 grind[jp]
end
theorem Bt:jn jR=[bv false,iv 0,iv 0,bv false,iv 0,iv 0,bv false,iv 0,iv 0,bv false,iv 0,iv 0,bv false,iv 0,iv 0,bv false,iv 0,iv 0,bv false,iv 0,iv 0,bv false,iv 0,iv 0]:=rfl
section
variable {hp hp':Nm->Option AO} {p:qC} {m:qR} {C:List qr} {g:qO} {F:Nm->Option Nm} {R:List AV} {mk dp i c:Nat} {f:qO} {s:qr}
theorem jh.yn (h:jh hp p m C):hp (.c Yn 0 1)=some (.row 1 (uc p p.length)):=by grind[zP,qD.yn,jh]
theorem jh.out (h:jh hp p m C):hp (.c Yn 0 4)=some (.row 1 (qj m.out)):=by obtain⟨J,_,_,hO⟩:=h;simpa [zP] using hO.out
theorem jh.zo (h:jh hp p m C):hp (.c Yn 0 5)=some (.row 2 (yy m.trace)):=by obtain⟨J,_,_,hO⟩:=h;simpa [zP] using hO.zo
theorem jh.qH (h:jh hp p m C):hp (.c Yn 0 30)=some (.row 2 (uV m.qH)):=by obtain⟨J,_,_,hO⟩:=h;simpa [zP] using hO.qH
theorem jh.jA (h:jh hp p m C):hp (.c Yn 0 31)=some (.row 24 (kv m.qT)):=by obtain⟨J,_,_,hO⟩:=h;simpa [zP] using hO.jA
theorem jh.cell (h:jh hp p m C) (hc:C[c]?=some s):hp (En c)=some (.row 3 [jk s]):=by obtain⟨J,_,_,hO⟩:=h;simpa [zP] using hO.cell c s hc
theorem jh.PD (h:jh hp p m C) (hi:m.qN.length<151) (hr:hp Yn=some (.row 4415 [R]))
  (hF:∀ j,j≠yo m.qN.length+2->j≠yo m.qN.length+3->j≠yo m.qN.length+28->F (.c Yn 0 j)=some (.c Yn 0 j))
  (h0:hp' Yn=some (.row 4415 [qp (R.map (AV.tr F)) (yo m.qN.length) (y4 m.qN.length g)]))
  (h6t:hp' (.c Yn 0 (yo m.qN.length+2))=some (.row 3 (zA g.qq))) (h7t:hp' (.c Yn 0 (yo m.qN.length+3))=some (.row 1 (za g.cells))) (h8t:hp' (.c Yn 0 (yo m.qN.length+28))=some (.row 2 (zh g.stack)))
  (h1:hp' (.c Yn 0 1)=some (.row 1 (uc p p.length)):=by simp [h.yn])
  (h2:hp' (.c Yn 0 4)=some (.row 1 (qj m.out)):=by simp [h.out])
  (h3:hp' (.c Yn 0 5)=some (.row 2 (yy m.trace)):=by simp [h.zo])
  (h4:hp' (.c Yn 0 30)=some (.row 2 (uV m.qH)):=by simp [h.qH])
  (h5:hp' (.c Yn 0 31)=some (.row 24 (kv m.qT)):=by simp [h.jA])
  (h6:∀ (i:Nat) x,i<m.qN.length->hp (.c Yn 0 (32+29 * i+2))=some (.row 3 (zA x))->hp' (.c Yn 0 (32+29 * i+2))=some (.row 3 (zA x)):=by intro i x hi hx;have e:=gK hi;simp [hx,e.1,e.2.1,e.2.2.1,e.2.2.2])
  (h7:∀ (i:Nat) x,i<m.qN.length->hp (.c Yn 0 (32+29 * i+3))=some (.row 1 (za x))->hp' (.c Yn 0 (32+29 * i+3))=some (.row 1 (za x)):=by intro i x hi hx;have e:=gK hi;simp [hx,e.1,e.2.1,e.2.2.1,e.2.2.2])
  (h8:∀ (i:Nat) x,i<m.qN.length->hp (.c Yn 0 (32+29 * i+28))=some (.row 2 (zh x))->hp' (.c Yn 0 (32+29 * i+28))=some (.row 2 (zh x)):=by intro i x hi hx;have e:=gK hi;simp [hx,e.1,e.2.1,e.2.2.1,e.2.2.2])
  (h9:∀ (c:Nat) s,C[c]?=some s->hp' (En c)=some (.row 3 [jk s]):=by intro c s hc;simp [h.cell hc])
  (hA:∀ k i j,fM k=true->¬ (k=1/\i=0/\j=0)->hp' (.u k i j)≠none->hp (.u k i j)≠none:=by intro k i j hk e hn;simpa [hk,e] using hn) :
  gQ hp' p m { m with cells:=C,made:=mk,deep:=dp,qN:=m.qN++[g] } m.qN.length:=by
 obtain⟨J,hJ,e,hO⟩:=h;have hrow:=Xu (p:=p) (m:=m) (g:=g) (h:=m.qN.length) (F:=F) hJ hi hF;have hJ':∀ i,((λk=>(J k).map (AV.tr F)) i).length=29:=λi=>fV
 have key:∀ (i:Nat) f',(m.qN++[g])[i]?=some f'->(i=m.qN.length/\f'=g)\/(i<m.qN.length/\m.qN[i]?=some f'):=by
  grind
 refine⟨λk=>(J k).map (AV.tr F),hJ',?_,⟨λk=>(J k).map (AV.tr F),hJ',?_⟩,qP,qP,qP,qP,qP,λi f' hf=>?_,λi f' hf=>?_,λi f' hf=>?_,λc s hc=>?_,λk i j hk hn=>?_⟩
 .simp_all
 .simp [zP]
 .simp only [zP];rw [if_neg qB];rcases key i f' hf with⟨rfl,rfl⟩|⟨a,b⟩
  .exact h6t
  .have:=hO.qq i f' b
   grind[zP]
 .simp only [zP];rw [if_neg qB];rcases key i f' hf with⟨rfl,rfl⟩|⟨a,b⟩
  .exact h7t
  .have:=hO.cls i f' b
   grind[zP]
 .simp only [zP];rw [if_neg qB];rcases key i f' hf with⟨rfl,rfl⟩|⟨a,b⟩
  .exact⟨[],qP⟩
  .obtain⟨j,this⟩:=hO.stack i f' b
   grind[zP]
 .simp_all
 .by_cases e:k=1/\i=0/\j=0
  .omega
  .refine hO.only k i j hk ?_
   grind[zP]
end
section
variable {p:qC} {m:qR} {fs:List qO} {f:qO} {b n:Nat} {k:qX}
theorem Uu (hP:zk p) (hk:p[b]?=some k) (hl:vl p b<=1):(zO p b).params=[]\/∃ x,(zO p b).params=[x]/\((x∈qx p b/\x∉qY p b)\/(x∉qx p b/\x∈qY p b)):=by
 have hkp:(zO p b).params=k.params:=fT;have hpn:k.params.length<=1:=by grind[vl]
 rw [hkp]
 match h:k.params,hpn with
 | [],_=>simp
 | [x],_ =>
  grind[Qi,LZ]
theorem qBI {l:List qW}:∀ r∈zh l,r.length=2:=by
 grind[zh]
theorem JE {l:List Nat}:∀ r∈za l,r.length=1:=by
 grind[za]
theorem DZ {cs:List Nat} {vs:List qW}:(jv p m b cs vs).en=m.en:=by
 unfold jv
 grind
theorem KV {v:qW}:(yq m fs v).en=m.en:=by
 grind[yq]
theorem Ar {st:St} {t i:Nat} {x:AV} (h:qD st.hp p m):qD (st.ki t (.s i) x).hp p m :=
 h.qv (f:=kl (.s i)) (λk hk=>B9) λk hk=>by
  have:=(jg (λ_=>zC) hk i).2;simp [this]
theorem yV.J2 {g:qO} (h:yV p m fs f) (hg:g.cells=f.cells):∀ f'∈fs++[g],∀ c∈f'.cells,c<m.cells.length:=by
 intro f' hf c hc;rw [y9,vD] at hf;rcases hf with hf|rfl
 .exact (h.low f' hf).cr c hc
 .rw [hg] at hc;exact h.top.cr c hc
theorem yV.JX (h:yV p m fs f):∀ g∈m.qH,∀ c∈g.2,c<m.cells.length:=λg hg=>by
 obtain⟨k,_,_,_,h4⟩:=h.qH g hg;exact h4
end
theorem qBS {X:Ctx} {st:St} {Q:Ex->St->Prop} {A B:Code} (l:Nat) (hA:findLabel A l=none) (I:Nat->St->Prop) (h0:jD X A (thenS (λs=>∃ n,I n s) (pL l (λ_=>False) Q)) st)
  (hpass:∀ n s,s.n=X.n->s.gl=X.gl->I n s->jD X B (pL l (λs'=>∃ m,m<n/\I m s') Q) s):jD X (.scope (.seq A (.seq (.label l) B))) Q st:=by
 refine qBR l (rest:=.seq .skip B) (by simp [findLabel,hA]) I ?_ λn s h1 h2 hI=>wV (af (wT (hpass n s h1 h2 hI)));refine wV (h0.mono λe s he=>?_)
 cases e with
 | normal =>
  obtain⟨n,hI⟩:=he;intro a w hR;have hR1:=hR;obtain⟨C,g,x1,x2,x3,x4,x5,x6⟩:=hR1;refine wV (nr (wT ((hpass n s x3 x4 hI).mono λe s he=>?_))) a w hR
  cases e with
  | goto l' =>
   obtain⟨e1,m,_,hm⟩:=he;exact⟨e1,m,hm⟩
  | normal=>exact he
  | exit id=>exact he
  | ret=>exact he
  | a6 x=>exact he
 | goto l'=>exact he.2.elim
 | exit id=>exact he
 | ret=>exact he
 | a6 x=>exact he
theorem GL {g:Gh} {w:World} {v:Value} {z:Nat} (h:RV g w v (.sc (.slice none 0 0))):RV g w v (.sl z []):=by
 rw [h.zy];exact .yL _ _ _
theorem qZ.args {P:Program} {gl:Nat->Option (List AV)} {f:FuncId} {D:Nm->Bool} {az az':List AV} {H:Nm->Option AO} {R E:Nm->AV->(Nm->Option AO)->Prop} (h:qZ P gl f D az H R E)
  (hl:az'.length=az.length) (ha:∀ (j:Nat) x',az[j]?=some x'->∃ x,az'[j]?=some x/\∀ g w v,RV g w v x->RV g w v x'):qZ P gl f D az' H R E:=by
 refine⟨h.1,λroot C w g args h1 h2 h3 h4 h5 h6 h7=>h.2 root C w g args h1 h2 h3 h4 h5 (by rw [h6,hl]) λj v x' hv hx=>?_⟩
 grind
section
variable {p:qC} {f:qO} {nf nk nc e b:Nat} {k:qX} {P:Program} {gl:Nat->Option (List AV)} {c:FuncId} {D:Nm->Bool} {x y:AV} {cs:List (List AV)} {z z':Nat} {H:Nm->Option AO} {R E:Nm->AV->(Nm->Option AO)->Prop}
theorem P9 (hh:zj p) (h:ig p nf nk nc f e) (hk:p[b]?=some k) (hpar:k.parent=f.qG):∀ y∈zw p b,∃ q:Nat,y=q/\q<f.cells.length:=by
 grind[wj,EV,jK]
theorem qZ.UD (h:qZ P gl c D [x,y,.sl z cs,.sl z' []] H R E):qZ P gl c D [x,y,.sl z cs,.sc (.slice none 0 0)] H R E :=
 h.args rfl λj a ha=>match j,ha with
  | 0,ha=>⟨_,rfl,λ_ _ _ hv=>qP⟩
  | 1,ha=>⟨_,rfl,λ_ _ _ hv=>qP⟩
  | 2,ha=>⟨_,rfl,λ_ _ _ hv=>qP⟩
  | 3,ha=>⟨_,rfl,λ_ _ _ hv=>by grind[GL]⟩
  | j+4,ha=>by simp at ha
theorem qZ.UC (h:qZ P gl c D [x,y,.sl z [],.sl z' []] H R E):qZ P gl c D [x,y,.sc (.slice none 0 0),.sc (.slice none 0 0)] H R E :=
 h.args rfl λj a ha=>match j,ha with
  | 0,ha=>⟨_,rfl,λ_ _ _ hv=>qP⟩
  | 1,ha=>⟨_,rfl,λ_ _ _ hv=>qP⟩
  | 2,ha=>⟨_,rfl,λ_ _ _ hv=>by grind[GL]⟩
  | 3,ha=>⟨_,rfl,λ_ _ _ hv=>by grind[GL]⟩
  | j+4,ha=>by simp at ha
end
section
variable {st:St} {N V m n:Nm} {d t:Nat} {D:Nm->Bool} {hp hp' H':Nm->Option AO}
theorem Ty {F:Nm->Option Nm} {y:AV} (hV:V.z7=true) (hNV:Nm.under V N=false) (hDN:∀ k,Nm.under N k=true->D k=true) (hDV:∀ k,Nm.under V k=true->D k=false) (hF:∀ k,(D k||Nm.under V k)=true->F k=some k)
  (hR:∀ k,(D k||Nm.under V k)=true->H' k=(z6 (λk=>D k||Nm.under V k) (jJ N V st.hp) k).map (AO.tr F)) :
  uF D ((((st.move N V).call d (λk=>D k||Nm.under V k) (z6 (λk=>D k||Nm.under V k) (st.move N V).hp) H').put (some d) y).move V N).hp st.hp:=by
 refine⟨λk=>((mv N V k).bind F).bind (mv V N),λk hk=>?_,λk hk=>?_⟩
 .grind[Nm.ei,mv,Nm.C3]
 .have e2:∀ o:AO,((o.tr (mv N V)).tr F).tr (mv V N)=o.tr (λk=>((mv N V k).bind F).bind (mv V N)):=by
   grind[AO.kO]
  by_cases hx:Nm.under N k=true
  .have hu:Nm.under V (Nm.qv N V k)=true:=Nm.ei k hx;have hb:=Nm.C3 (k1:=V) hx;have hb2:mv V N (Nm.qv N V k)=some k:=qP;have hb3:mv N V k=some (Nm.qv N V k):=qP;have hR1:=hR (Nm.qv N V k) xB;simp only [z6,hu,Bool.or_true,if_true,jJ,hb,hb3] at hR1;simp only [St.move,St.nm,St.put,St.call];simp only [jJ,hx,if_true,hb2,hu,Bool.or_true,rK,hR1]
   cases st.hp k<;>grind
  .simp only [wl] at hx
   have hv:Nm.under V k=false:=by
    grind
   have hR1:=hR k (by simp [hk]);simp only [z6,hk,rK,if_true,jJ,hx,hv,wk,if_false] at hR1;simp only [St.move,St.nm,St.put,St.call];simp only [jJ,hx,hv,hk,wk,if_false,rK,if_true,hR1]
   cases st.hp k<;>grind
section
variable {H:Nm->Option AO} {i j:Nat} {o:AO} {a:AV} {c:Option Nat} {sbs:List (Nm×Nm)}
theorem uF.step {F:Nm->Option Nm} (h:uF D hp H) (hF:∀ k,D k=true->F k=some k) (hh:∀ k,D k=true->hp' k=(hp k).map (AO.tr F)):uF D hp' H:=by
 obtain⟨G,h1,h2⟩:=h;refine⟨λk=>(G k).bind F,λk hk=>qP,λk hk=>?_⟩;rw [hh k hk,h2 k hk]
 cases H k<;>grind[AO.kO]
theorem ZU:uF D H H:=⟨some,λ_ _=>rfl,λk _=>by cases H k <;> simp [AO.vv]⟩
theorem Mo (h:uF D st.hp H):uF D (st.put c a).hp H:=by cases c <;> exact h
theorem Mp (hD:∀ k,D k=true->k.zg=false) (h:uF D st.hp H):uF D (st.zT (.s i) o).hp H :=
 h.step (F:=some) (λ_ _=>rfl) λk hk=>by
  rw [GU,if_neg (jg hD hk i).1]
  cases st.hp k <;> simp [AO.vv]
theorem Ml (hD:∀ k,D k=true->k.zg=false) (h:uF D st.hp H):uF D (st.kill (.s i)).hp H :=
 h.step (F:=kl (.s i)) (λk hk=>by simp [kl,(jg hD hk i).2]) λk hk=>by simp [(jg hD hk i).2]
theorem Mm (hD:∀ k,D k=true->k.zg=false) (h:uF D st.hp H):uF D (st.move (.s i) (.s j)).hp H :=
 h.step (F:=mv (.s i) (.s j)) (λk hk=>by simp [mv,(jg hD hk i).2,(jg hD hk j).2]) λk hk=>by
  rw [Tu,(jg hD hk i).2,(jg hD hk j).2];simp
theorem Mk (hD:∀ k,D k=true->k.zg=false) (h:uF D st.hp H):uF D (st.fL i (some (.s j))).hp H :=
 h.step (F:=kl (.s i)) (λk hk=>by simp [kl,(jg hD hk i).2]) λk hk=>by
  have h1:=(jg hD hk i).2;have h2:=(jg hD hk j).1;rw [DU,if_neg (λe=>h2 (sI e).symm)];simp [h1]
theorem ZT (hD:∀ k,D k=true->k.zg=false) (hs:∀ q∈sbs,q.1.zg=true) (h:uF D hp H):uF D (vF D sbs hp) H :=
 h.step (F:=zL D sbs) (λk hk=>lK hD hk hs) λk hk=>qP
end
end
section
variable {X:Ctx} {st:St} {K:St->Prop} {E:AV->St->Prop} {d f:Nat} {ty:TypeId} {pos:String} {aft:Array Edge} {g:Option (Nat×Bool)} {args:Array Operand} {Ts:Array TypeId} {az:List AV}
theorem qB8 (D:Nm->Bool) (N V:Nm) {z len:Nat} {rows:List (List AV)} (hV:V.z7=true:=by rfl) (hN:N.z7=false:=by rfl) (hVe:X.ext V=false) (hDr:∀ k,D k=true->k.zg=false) (hNV:Nm.under V N=false) (hDN:∀ k,Nm.under N k=true->D k=true) (hDV:∀ k,Nm.under V k=true->D k=false) (hs:(st.hp N).isSome=true)
  (hext:∀ k i j,X.ext (.u k i j)=true->D (.u k i j)=false\/st.hp (.u k i j)≠none) (hNd:Nm.under N (.s d)=false) (hrow:rows.map (λr=>r.map (AV.tr (mv V N)))=rows) (hd:d<X.n:=by first|(simp;done)|fail)
  (ha:args.toList.map (ev (st.move N V))=az:=by simp [fx];first|done|rfl)
  (hF:qZ X.P X.gl f (λk=>D k||Nm.under V k) az (z6 (λk=>D k||Nm.under V k) (jJ N V st.hp)) (λr y H'=>(y=.hs r z 0 len/\H' r=some (.row z rows))/\uF (λk=>D k||Nm.under V k) H' (z6 (λk=>D k||Nm.under V k) (jJ N V st.hp))) zG)
  (h:∀ hp',uF D hp' st.hp->hp' (.s d)=some (.row z rows)->K ((st.eU N V d D hp').put (some d) (.hs (.s d) z 0 len))) :
  qn X ⟨some d,.call ⟨.value (.func f),args,Ts⟩,ty,pos,aft,g⟩ K E st:=by
 refine wa N V (.inl hN) (.inr hVe) (bn V N (.inr hVe) (.inl hN) ?_);refine po (λk=>D k||Nm.under V k) (λk hk=>?_) (λk i j he=>?_) hd ha hF ?_
 .grind[vN]
 .by_cases hD:D (.u k i j)=true
  .right;rcases hext k i j he with h|h
   .simp_all
   .have hn:Nm.under N (.u k i j)=false:=by grind[Nm.z7,Nm.under]
    have hv:Nm.under V (.u k i j)=false:=by
     grind
    simp_all
  grind[Nm.under]
 .rintro y H' ⟨⟨rfl,hr⟩,F,hF1,hF2⟩;have hVd:Nm.under V (.s d)=false:=by cases V <;> simp [Nm.z7] at *
  obtain⟨q,hq,e⟩:=Ko (d:=d) (H':=H') (st:=st) (y:=.hs (.s d) z 0 len) hV hNV hDN hDV hDr hs qP;have hS:=Ty (d:=d) (y:=.hs (.s d) z 0 len) (st:=st) hV hNV hDN hDV hF1 hF2
  have hq2:q.hp (.s d)=some (.row z rows):=by
   rw [hq];simp [jJ,hVd,hNd,hr,AO.tr,hrow]
  grind
end
section
variable {p:qC} {m:qR} {fs:List qO} {f:qO} {o:Int×Int}
theorem Uz (hM:yV p m fs f) (ho:(zR p f.qG)[f.pc]?=some o) (h:o.1=16\/o.1=17):m.made<=150:=by
 have h1:=hM.made
 have h2:1<=yz p f:=by
  unfold yz;rw [mq ho]
  grind[yg]
 omega
variable {c x:Int} {w:Nat}
theorem FZ (h1:2<=c) (h2:c<=4) (hw:((c - 2) % 3).toNat=w):jp p m fs f (c,x)=vu m fs f (c,x) w 2:=by
 grind[F0,uE]
theorem LL (h1:5<=c) (h2:c<=7) (hw:((c - 2) % 3).toNat=w):jp p m fs f (c,x)=vu m fs f (c,x) w (if x<(qY p f.qG).length then 2 else 3):=by
 grind[F0,uE]
theorem CU (h1:9<=c) (h2:c<=13) (h3:c≠11) (hw:((c - 2) % 3).toNat=w):jp p m fs f (c,x)=vu m fs f (c,x) w 4:=by
 grind[F0,uE]
end
end Go.Hm
end
