import Derived.Test.YtjgpejikjhojcaaGreatDoorT19
set_option linter.unusedSimpArgs false
set_option linter.unusedVariables false
set_option maxRecDepth 100000
set_option maxHeartbeats 4000000

section
namespace Go.Hm
open Go Go.RowKit
def gD:Nm->Bool:=λk=>DM k||Nm.under (.u 9 0 0) k
theorem HC {q:Nm} (h:gD q=true):q.zo=false:=by
 rcases Bool.or_eq_true _ _ ▸ h with h|h
 .exact qv h
 .exact yq rfl h
theorem Cl {q:Nm} (h:Nm.under (.u 9 0 0) q=true):DM q=false:=by
 induction q with
 | s d=>simp at h
 | u a b c =>
  simp at h;obtain⟨rfl,rfl,rfl⟩:=h
  rfl
 | c r i j ih =>
  simp_all
theorem Nl {q:Nm} (h:Nm.under Yn q=true):DM q=true:=by
 induction q<;>simp_all
theorem Ck {q:Nm} {j:Nat} (h:Nm.under (.c Yn 0 j) q=true):DM q=true:=Nl (Nm.C6 qB h)
section
variable {hp hp':Nm->Option AO} {p:qC} {m:qU} {fs:List qN} {f:qN} {k j:Nat}
theorem Yk {g:AV->AV} {l vals:List AV} {k:Nat}:(ql l k vals).map g=ql (l.map g) k (vals.map g):=by simp_all[ql]
theorem qE.same (h:qE hp p m) (hs:uV DM hp' hp):qE hp' p m:=by
 obtain⟨F,h1,h2⟩:=hs;exact h.qz h1 h2
theorem qE.a8 (h:qE hp p m) (hm:m.qW=fs++[f]) (hi:fs.length<151) (hk:f.stack.length=k+1) (hj:j≠yo fs.length+28):∃ (R R':List AV) (vs:List qR),hp Yn=some (.row 4415 [R])/\(ze gD (jt (.c Yn 0 j) (.u 9 0 0) hp)) Yn=some (.row 4415 [R'])/\R'[yo fs.length+28]?=some (.hs (.c Yn 0 (yo fs.length+28)) 2 0 (k+1))/\(ze gD (jt (.c Yn 0 j) (.u 9 0 0) hp)) (.c Yn 0 (yo fs.length+28))=some (.row 2 (jZ vs))/\vs[k]?=some f.zN /\
  (AO.row 4415 [ql R (yo fs.length+28) [.hs (.c Yn 0 (yo fs.length+28)) 2 0 k]]).tr (mv (.c Yn 0 j) (.u 9 0 0))=.row 4415 [ql R' (yo fs.length+28) [.hs (.c Yn 0 (yo fs.length+28)) 2 0 k]]:=by
 obtain⟨R,i,hT,tr,h2,h3,h28⟩:=h.jz hm hi;have e1:Nm.under (.c Yn 0 j) Yn=false:=qB;have e2:Nm.under (.c Yn 0 j) (.c Yn 0 (yo fs.length+28))=false:=by simp [Ne.symm hj]
 have hm:mv (.c Yn 0 j) (.u 9 0 0) (.c Yn 0 (yo fs.length+28))=some (.c Yn 0 (yo fs.length+28)):=qL;have he:∀ q,(AV.hs (.c Yn 0 (yo fs.length+28)) 2 0 q).tr (mv (.c Yn 0 j) (.u 9 0 0))=.hs (.c Yn 0 (yo fs.length+28)) 2 0 q:=λq=>qL;refine⟨R,R.map (AV.tr (mv (.c Yn 0 j) (.u 9 0 0))),f.stack++i,hT,?_,?_,?_,la hk,?_⟩
 .simp_all[gD,jt]
 .grind[lx.f28]
 .simp_all[gD,jt]
 simp_all[Yk]
theorem lx.JN {i x:Nat} {v:qR} {R:List AV} (tr:lx p m i f R) (hx:x<8) (h:zn m.globals x=some v):(R.drop (6+x * 3+1)).take 2=[iv v.1,iv v.2]:=by
 have g1:=tr.gl x 1 hx qA;have g2:=tr.gl x 2 hx qA
 simp_all<;>grind[su]
theorem lx.Tq {i x:Nat} {v:qR} {R:List AV} (tr:lx p m i f R) (hx:x<8) (h:zn f.names x=some v):(R.drop (yo i+4+x * 3+1)).take 2=[iv v.1,iv v.2]:=by
 have g1:=tr.nm x 1 hx qA;have g2:=tr.nm x 2 hx qA
 simp_all<;>grind[su]
end
def ng (hp:Nm->Option AO) (p:qC) (m:qU) (h:Nat):Prop:=∃ J:Nat->List AV,(∀ i,(J i).length=29)/\hp Yn=some (.row 4415 [qe p m h (yc m.qW J)])/\qE (zH Yn (.row 4415 [qe p m m.qW.length (yc m.qW J)]) hp) p m
section
variable {hp hp':Nm->Option AO} {p:qC} {m:qU} {fs:List qN} {f:qN} {h:Nat} {F:Nm->Option Nm} {J:Nat->List AV} {vals R:List AV}
theorem Wx (hJ:∀ i,(J i).length=29) (hi:fs.length<151) (hv:vals.length=29) (hF:∀ j,j≠yo fs.length+2->j≠yo fs.length+3->j≠yo fs.length+28->F (.c Yn 0 j)=some (.c Yn 0 j)) :
  ql ((qe p m h (yc (fs++[f]) J)).map (AV.tr F)) (yo fs.length) vals=qe p m h (yc fs λk=>if k=fs.length then vals else (J k).map (AV.tr F)):=by
 have hl:∀ j,j<32->F (.c Yn 0 j)=some (.c Yn 0 j):=λj hj=>hF j qp qp qp;have eA:(yA p m).map (AV.tr F)=yA p m:=by simp_all[yA]
 have eB:(yB m).map (AV.tr F)=yB m:=by simp_all[yB]
 rw [nZ,eA,eB];have e:yA p m++(jN m.globals++(yB m++(yk (λi=>(yc (fs++[f]) J i).map (AV.tr F)) 151++yZ m h)))=qe p m h λi=>(yc (fs++[f]) J i).map (AV.tr F):=rfl;rw [e,show yo fs.length=32+(29 * fs.length+0) by simp];refine Cg (λi=>by simp [cJ hJ]) hi qA (λk hk=>?_) ?_
 .unfold yc;rcases pb k fs.length with e|e|e
  .rw [vn e,gE e];have h1:∀ a,a<29->a=2\/a=3\/a=28->F (.c Yn 0 (32+29 * k+a))=some (.c Yn 0 (32+29 * k+a)):=λa ha _=>hF _ qp qp qp
   simp_all[yR]
  .omega
  .rw [fD qA,fD qn];simp [hk]
 simp_all[yc,ql]
theorem qE.I8 (h:qE hp p m) (hm:m.qW=fs++[f]) (hi:fs.length<151) (hr:hp Yn=some (.row 4415 [R]))
  (hv:vals.length=29) (hF:∀ j,j≠yo fs.length+2->j≠yo fs.length+3->j≠yo fs.length+28->F (.c Yn 0 j)=some (.c Yn 0 j))
  (h0:hp' Yn=some (.row 4415 [ql (R.map (AV.tr F)) (yo fs.length) vals]))
  (h1:hp' (.c Yn 0 1)=some (.row 1 (ui p p.length)):=by simp [h.aK])
  (h2:hp' (.c Yn 0 4)=some (.row 1 (qm m.out)):=by simp [h.out])
  (h3:hp' (.c Yn 0 5)=some (.row 2 (vf m.trace)):=by simp [h.yH])
  (h4:hp' (.c Yn 0 30)=some (.row 2 (u6 m.qJ)):=by simp [h.qJ])
  (h5:hp' (.c Yn 0 31)=some (.row 24 (ki m.qO)):=by simp [h.jk])
  (h6:∀ (i:Nat) x,i<fs.length->hp (.c Yn 0 (32+29 * i+2))=some (.row 3 (j4 x))->hp' (.c Yn 0 (32+29 * i+2))=some (.row 3 (j4 x)):=by intro i x hi hx;have e:=gA hi;simp [hx,e.1,e.2.1,e.2.2.1,e.2.2.2])
  (h7:∀ (i:Nat) x,i<fs.length->hp (.c Yn 0 (32+29 * i+3))=some (.row 1 (zV x))->hp' (.c Yn 0 (32+29 * i+3))=some (.row 1 (zV x)):=by intro i x hi hx;have e:=gA hi;simp [hx,e.1,e.2.1,e.2.2.1,e.2.2.2])
  (h8:∀ (i:Nat) x,i<fs.length->hp (.c Yn 0 (32+29 * i+28))=some (.row 2 (jZ x))->hp' (.c Yn 0 (32+29 * i+28))=some (.row 2 (jZ x)):=by intro i x hi hx;have e:=gA hi;simp [hx,e.1,e.2.1,e.2.2.1,e.2.2.2])
  (h9:∀ (c:Nat) s,m.cells[c]?=some s->hp' (En c)=some (.row 3 [j6 s]):=by intro c s hc;simp [h.cell c s hc])
  (hA:∀ k i j,fM k=true->¬ (k=1/\i=0/\j=0)->hp' (.u k i j)≠none->hp (.u k i j)≠none:=by intro k i j hk e hn;simpa [hk,e] using hn) :
  ng hp' p { m with qW:=fs } (fs.length+1):=by
 obtain⟨J,hJ,e⟩:=h.top
 have hR:R=qe p m (fs.length+1) (yc (fs++[f]) J):=by
  simp_all
 have key:∀ (i:Nat) f',fs[i]?=some f'->i<fs.length/\m.qW[i]?=some f':=λi f' hf=>by
  grind
 have hrow:=Wx (p:=p) (m:=m) (f:=f) (h:=fs.length+1) hJ hi hv hF;refine⟨λk=>if k=fs.length then vals else (J k).map (AV.tr F),λi=>?_,?_,⟨λk=>if k=fs.length then vals else (J k).map (AV.tr F),λi=>?_,?_⟩,qL,qL,qL,qL,qL,λi f' hf=>?_,λi f' hf=>?_,λi f' hf=>?_,λc s hc=>?_,λk i j hk hn=>?_⟩
 .grind
 .rw [h0,hR,hrow]
  rfl
 .grind
 .simp [zH]
 .obtain⟨a,b⟩:=key i f' hf;simp only [zH];rw [if_neg qB];exact h6 i _ a (h.qw i f' b)
 .obtain⟨a,b⟩:=key i f' hf;simp only [zH];rw [if_neg qB];exact h7 i _ a (h.cls i f' b)
 .obtain⟨a,b⟩:=key i f' hf;obtain⟨j,hj⟩:=h.stack i f' b
  grind[zH]
 .simp_all
 .by_cases e:k=1/\i=0/\j=0
  .omega
  .refine h.only k i j hk (hA k i j hk e ?_)
   simp_all
theorem ng.done (hY:ng hp p m h) (hr:hp Yn=some (.row 4415 [R])) (h0:hp' Yn=some (.row 4415 [ql R 4411 [iv (m.qW.length:Nat)]])) (hh:∀ q,DM q=true->q≠Yn->hp' q=hp q):qE hp' p m:=by
 obtain⟨J,hJ,e,hO⟩:=hY;refine hO.qz (f:=some) (λ_ _=>rfl) λq hq=>?_;by_cases hq1:q=Yn
 .grind[N5,cJ,zH,AO.ud]
 .rw [hh q hq hq1];simp only [zH];rw [if_neg hq1]
  cases hp q <;> simp [AO.ud]
theorem ng.ht (hY:ng hp p m h):∃ R,hp Yn=some (.row 4415 [R])/\R.length=4415/\R[4411]?=some (iv h):=by
 obtain⟨J,hJ,e,_⟩:=hY
 grind[nW,cJ,Cf]
end
section
variable {st:St} {p:qC} {m:qU} {d:Option Nat} {a:AV} {i j:Nat} {o:AO}
theorem Gt (h:qE st.hp p m):qE (st.put d a).hp p m:=by cases d <;> exact h
theorem Gu {n:Nm} (hn:DM n=false) (h:qE st.hp p m):qE (st.zS n o).hp p m:=by
 refine h.qz (f:=some) (λ_ _=>rfl) λk hk=>?_;have:k≠n:=λe=>qL;rw [GB,if_neg this]
 cases st.hp k <;> simp [AO.ud]
theorem Gr (h:qE st.hp p m):qE (st.kill (.s i)).hp p m :=
 h.qz (f:=kl (.s i)) (λk hk=>BA) λk hk=>by
  have:=(yC (λ_=>qv) hk i).2;simp [this]
theorem Gs (h:qE st.hp p m):qE (st.move (.s i) (.s j)).hp p m :=
 h.qz (f:=mv (.s i) (.s j)) (λk hk=>by simp [mv,(yC (λ_=>qv) hk i).2,(yC (λ_=>qv) hk j).2]) λk hk=>by
  have h1:=(yC (λ_=>qv) hk i).2;have h2:=(yC (λ_=>qv) hk j).2
  simp_all
theorem Gq (h:qE st.hp p m):qE (st.fG i (some (.s j))).hp p m :=
 h.qz (f:=kl (.s i)) (λk hk=>BA) λk hk=>by
  have h1:=(yC (λ_=>qv) hk i).2;have h2:=(yC (λ_=>qv) hk j).1;rw [Cz,if_neg (λe=>h2 (sI e).symm)];simp [h1]
end
def j8 (hp:Nm->Option AO) (p:qC) (m:qU) (C:List qu):Prop:=∃ J:Nat->List AV,(∀ i,(J i).length=29)/\hp Yn=some (.row 4415 [qe p m m.qW.length (yc m.qW J)])/\qE (zH Yn (.row 4415 [qe p { m with cells:=C } m.qW.length (yc m.qW J)]) hp) p { m with cells:=C }
section
variable {hp hp' H:Nm->Option AO} {p:qC} {m:qU} {C:List qu} {F:Nm->Option Nm} {st:St} {d:Option Nat} {a:AV} {i j c:Nat} {o:AO} {s:qu}
theorem qE.yc (h:qE hp p m):j8 hp p m m.cells:=by
 obtain⟨J,hJ,e⟩:=h.top;refine⟨J,hJ,e,h.qz (f:=some) (λ_ _=>rfl) λq hq=>?_⟩;by_cases h1:q=Yn
 .subst h1;rw [e];simp only [zH,if_true,uX,AO.ud]
 .simp only [zH];rw [if_neg h1]
  cases hp q <;> simp [AO.ud]
theorem Gl {h:Nat} {L:List qN} {J:Nat->List AV} (hc:∀ j,F (.c Yn 0 j)=some (.c Yn 0 j)):(qe p m h (yc L J)).map (AV.tr F)=qe p m h (yc L λi=>(J i).map (AV.tr F)):=by
 rw [nZ,A0 λj _=>hc j]
 simp_all[qe,yA,yB]
theorem j8.qz (h:j8 hp p m C) (hf:∀ k,DM k=true->F k=some k) (hh:∀ k,DM k=true->hp' k=(hp k).map (AO.tr F)):j8 hp' p m C:=by
 obtain⟨J,hJ,e,hO⟩:=h;refine⟨λi=>(J i).map (AV.tr F),λi=>fN,?_,hO.qz (f:=F) hf λq hq=>?_⟩
 .rw [hh _ rfl,e];simp only [uX,AO.tr,cR,List.map_nil];rw [Gl λj=>hf _ rfl]
 .by_cases h1:q=Yn
  .subst h1;simp only [zH,if_true,uX,AO.tr,cR,List.map_nil];rw [Gl λj=>hf _ rfl]
  simp_all
theorem iS {n:Nm} (hn:n.zo=true):∀ k,DM k=true->Nm.under n k=false:=λk hk=>by
 cases h:Nm.under n k with
 | false=>rfl
 | true=>have:=Nm.l9 hn h;grind[qv]
theorem Nn {n:Nm} (hn:n.zo=true):DM n=false:=by
 grind[qv]
theorem Gn (h:j8 st.hp p m C):j8 (st.put d a).hp p m C:=by cases d <;> exact h
theorem N9 {n:Nm} (hn:n.zo=true) (h:j8 st.hp p m C):j8 (st.zS n o).hp p m C:=by
 refine h.qz (F:=some) (λ_ _=>rfl) λk hk=>?_;have:k≠n:=λe=>by grind[Nn]
 rw [GB,if_neg this]
 cases st.hp k <;> simp [AO.ud]
theorem N7 {n:Nm} (hn:n.zo=true) (h:j8 st.hp p m C):j8 (st.kill n).hp p m C :=
 h.qz (F:=kl n) (λk hk=>by grind[kl,iS]) λk hk=>by
  simp_all[iS]
theorem N8 {n n':Nm} (hn:n.zo=true) (hn':n'.zo=true) (h:j8 st.hp p m C):j8 (st.move n n').hp p m C :=
 h.qz (F:=mv n n') (λk hk=>by grind[mv,iS]) λk hk=>by
  simp_all[iS]
theorem N6 {n:Nm} (hn:n.zo=true) (h:j8 st.hp p m C):j8 (st.fG i (some n)).hp p m C :=
 h.qz (F:=kl (.s i)) (λk hk=>BA) λk hk=>by
  have h1:=(yC (λ_=>qv) hk i).2;rw [Cz,if_neg (λe=>by grind[qv])];simp [h1]
theorem qE.free (h:qE hp p m) (hc:m.cells.length<=c):hp (.u 7 c 0)=none:=by
 cases e:hp (.u 7 c 0) with
 | none=>rfl
 | some o =>
  rcases h.only 7 c 0 rfl ta with⟨h1,_⟩|⟨_,h2,_⟩<;>grind
theorem j8.set (h:j8 hp p m C) (hc:c<C.length) (hw:hp' (En c)=some (.row 3 [j6 s])) (hh:∀ q,DM q=true->q≠En c->hp' q=hp q):j8 hp' p m (C.set c s):=by
 obtain⟨J,hJ,e,hO⟩:=h;have hY:Yn≠En c:=qB;have hE:∀ j,Nm.c Yn 0 j≠En c:=λj=>qB;have hE2:∀ j,Nm.c Yn 0 j≠Yn:=λj=>qB
 have rd:∀ q,DM q=true->q≠En c->q≠Yn->∀ z,zH Yn z hp' q=zH Yn (.row 4415 [qe p { m with cells:=C } m.qW.length (yc m.qW J)]) hp q:=λq h1 h2 h3 z=>by
  simp_all
 refine⟨J,hJ,by rw [hh _ rfl hY];exact e,⟨J,hJ,rG⟩,?_,?_,?_,?_,?_,λi f hf=>?_,λi f hf=>?_,λi f hf=>?_,λc' s' hs'=>?_,λk i j hk hn=>?_⟩
 .rw [rd _ rfl (hE _) (hE2 _)];exact hO.aK
 .rw [rd _ rfl (hE _) (hE2 _)];exact hO.out
 .rw [rd _ rfl (hE _) (hE2 _)];exact hO.yH
 .rw [rd _ rfl (hE _) (hE2 _)];exact hO.qJ
 .rw [rd _ rfl (hE _) (hE2 _)];exact hO.jk
 .rw [rd _ rfl (hE _) (hE2 _)];exact hO.qw i f hf
 .rw [rd _ rfl (hE _) (hE2 _)];exact hO.cls i f hf
 .obtain⟨j,hj⟩:=hO.stack i f hf;exact⟨j,by rw [rd _ rfl (hE _) (hE2 _)];exact hj⟩
 .simp only [ic] at hs';by_cases e1:c=c'
  .simp_all
  .rw [if_neg e1] at hs';rw [rd _ rfl qp qB];exact hO.cell c' s' hs'
 .simp only [List.length_set];by_cases e1:Nm.u k i j=En c
  .simp_all
  .by_cases e2:k=1/\i=0/\j=0
   .omega
   .refine hO.only k i j hk λe3=>hn ?_;rw [rd (.u k i j) hk e1 qL];exact e3
theorem qAy (s:qu) (hc:c<C.length) (h:j8 st.hp p m C):j8 (st.zS (.u 7 c 0) (.row 3 [j6 s])).hp p m (C.set c s) :=
 j8.set h hc qB λq _ hn=>qL
theorem RF {l:List (Nat×List Nat)} (h:∀ g∈l,∀ i∈g.2,F (En i)=some (En i)):(u6 l).map (λy=>y.map (AV.tr F))=u6 l:=by
 simp only [u6,ie];apply fE;intro g hg;have:(zV g.2).map (λy=>y.map (AV.tr F))=zV g.2:=rr (h g hg)
 simp_all
theorem j8.add {n0:Nm} (h0:n0.zo=true) (h:j8 st.hp p m C) (hs:st.hp n0=some (.row 3 [j6 s])) (hfr:∀ f∈m.qW,∀ c∈f.cells,c<C.length) (hfn:∀ g∈m.qJ,∀ c∈g.2,c<C.length):j8 (st.move n0 (.u 7 C.length 0)).hp p m (C++[s]):=by
 obtain⟨J,hJ,e,hO⟩:=h
 have rd:∀ q,Nm.under (.u 7 C.length 0) q=false->Nm.under n0 q=false->(st.move n0 (.u 7 C.length 0)).hp q=(st.hp q).map (AO.tr (mv n0 (.u 7 C.length 0))):=λq h1 h2=>by
  simp_all
 have rc:∀ j,(st.move n0 (.u 7 C.length 0)).hp (.c Yn 0 j)=(st.hp (.c Yn 0 j)).map (AO.tr (mv n0 (.u 7 C.length 0))):=λj=>rd _ qB (iS h0 _ rfl);have fc:∀ j,mv n0 (.u 7 C.length 0) (.c Yn 0 j)=some (.c Yn 0 j):=λj=>by simp [mv,iS h0 (.c Yn 0 j) rfl]
 have fe:∀ c,c<C.length->mv n0 (.u 7 C.length 0) (En c)=some (En c):=λc hc=>by
  have:¬ C.length=c:=qA;simp [mv,Nat.ne_of_lt hc,iS h0 (En c) rfl]
 have o1:=hO.aK;have o2:=hO.out;have o3:=hO.yH;have o4:=hO.qJ;have o5:=hO.jk;simp only [zH] at o1 o2 o3 o4 o5;rw [if_neg qB] at o1 o2 o3 o4 o5
 have eY:(st.move n0 (.u 7 C.length 0)).hp Yn=some (.row 4415 [qe p m m.qW.length (yc m.qW λk=>(J k).map (AV.tr (mv n0 (.u 7 C.length 0))))]):=by
  rw [rd _ qB (iS h0 _ rfl),e]
  simp_all[Gl]
 refine⟨λk=>(J k).map (AV.tr (mv n0 (.u 7 C.length 0))),λk=>fN,eY,⟨λk=>(J k).map (AV.tr (mv n0 (.u 7 C.length 0))),λk=>fN,rG⟩,?_,?_,?_,?_,?_,λi f hf=>?_,λi f hf=>?_,λi f hf=>?_,λc' s' hs'=>?_,λk a b hk hn=>?_⟩
 .simp only [zH];rw [if_neg qB,rc,o1];simp
 .simp only [zH];rw [if_neg qB,rc,o2];simp
 .simp only [zH];rw [if_neg qB,rc,o3];simp
 .simp only [zH];rw [if_neg qB,rc,o4];simp only [uX,AO.tr];rw [RF λg hg c hc=>fe c (hfn g hg c hc)]
 .simp only [zH];rw [if_neg qB,rc,o5];simp
 .have o:=hO.qw i f hf;simp only [zH] at o ⊢;rw [if_neg qB] at o ⊢;rw [rc,o];simp
 .have o:=hO.cls i f hf
  grind[zH,AO.tr,rr]
 .obtain⟨j,o⟩:=hO.stack i f hf;simp only [zH] at o ⊢;rw [if_neg qB] at o ⊢;exact⟨j,by rw [rc,o];simp⟩
 .simp only [zH];rw [if_neg qB];rcases pb c' C.length with e1|e1|e1
  .have o:=hO.cell c' s' qp;simp only [zH] at o;rw [if_neg qB] at o;rw [rd _ (by simp [Nat.ne_of_lt e1]) (iS h0 _ rfl),o];simp
  .simp_all
  grind
 .simp only [kC,b8];by_cases e1:k=7/\a=C.length/\b=0
  .omega
  .by_cases e2:k=1/\a=0/\b=0
   .omega
   .have hn2:zH Yn (.row 4415 [qe p { m with cells:=C } m.qW.length (yc m.qW J)]) st.hp (.u k a b)≠none:=λe3=>hn (by
     simp only [zH] at e3 ⊢;rw [if_neg qL] at e3 ⊢
     simp_all)
    rcases hO.only k a b hk hn2 with h1|⟨h1,h2,h3⟩<;>grind
theorem j8.OL {n0:Nm} {L:Nat} (hL:L=C.length) (h0:n0.zo=true) (h:j8 st.hp p m C) (hs:st.hp n0=some (.row 3 [j6 s])) (hfr:∀ f∈m.qW,∀ c∈f.cells,c<C.length) (hfn:∀ g∈m.qJ,∀ c∈g.2,c<C.length):j8 (st.move n0 (.u 7 L 0)).hp p m (C++[s]):=by
 subst hL;exact j8.add h0 h hs hfr hfn
end
section
variable {p:qC} {m:qU} {fs:List qN} {g:qN} {h:Nat} {F:Nm->Option Nm} {J:Nat->List AV}
theorem Ww (hJ:∀ i,(J i).length=29) (hi:fs.length<151) (hF:∀ j,j≠yo fs.length+2->j≠yo fs.length+3->j≠yo fs.length+28->F (.c Yn 0 j)=some (.c Yn 0 j)) :
  ql ((qe p m h (yc fs J)).map (AV.tr F)) (yo fs.length) (yR fs.length g)=qe p m h (yc (fs++[g]) λk=>(J k).map (AV.tr F)):=by
 have hl:∀ j,j<32->F (.c Yn 0 j)=some (.c Yn 0 j):=λj hj=>hF j qp qp qp;have eA:(yA p m).map (AV.tr F)=yA p m:=by simp_all[yA]
 have eB:(yB m).map (AV.tr F)=yB m:=by simp_all[yB]
 rw [nZ,eA,eB];have e:yA p m++(jN m.globals++(yB m++(yk (λi=>(yc fs J i).map (AV.tr F)) 151++yZ m h)))=qe p m h λi=>(yc fs J i).map (AV.tr F):=rfl;rw [e,show yo fs.length=32+(29 * fs.length+0) by simp];refine Cg (λi=>by simp [cJ hJ]) hi qB (λk hk=>?_) ?_
 .unfold yc;rcases pb k fs.length with e|e|e
  .rw [vn e,gE e];have h1:∀ a,a<29->F (.c Yn 0 (32+29 * k+a))=some (.c Yn 0 (32+29 * k+a)):=λa ha=>hF _ qp qp qp
   simp_all[yR]
  .omega
  .rw [fD qn,fD qA]
 simp_all[cJ,tC,ql]
end
def gF (hp:Nm->Option AO) (p:qC) (m M:qU) (h:Nat):Prop:=∃ J:Nat->List AV,(∀ i,(J i).length=29)/\hp Yn=some (.row 4415 [qe p m h (yc M.qW J)])/\qE (zH Yn (.row 4415 [qe p M M.qW.length (yc M.qW J)]) hp) p M
section
variable {hp hp':Nm->Option AO} {p:qC} {m m' M:qU} {h h' k:Nat} {R:List AV} {v:AV}
theorem gF.row (hY:gF hp p m M h):∃ R,hp Yn=some (.row 4415 [R])/\R.length=4415/\R[4411]?=some (iv h)/\R[4412]?=some (iv m.deep)/\R[4413]?=some (iv m.made)/\R[4414]?=some (iv m.cells.length):=by
 obtain⟨J,hJ,e,_⟩:=hY;have hc:=cJ (fs:=M.qW) hJ
 grind[nW,Cf,qAc,qAd,qAe]
theorem gF.set (hY:gF hp p m M h) (hr:hp Yn=some (.row 4415 [R])) (h0:hp' Yn=some (.row 4415 [ql R k [v]]))
  (hs:∀ J:Nat->List AV,(∀ i,(yc M.qW J i).length=29)->ql (qe p m h (yc M.qW J)) k [v]=qe p m' h' (yc M.qW J)) (hh:∀ q,DM q=true->q≠Yn->hp' q=hp q):gF hp' p m' M h':=by
 obtain⟨J,hJ,e,hO⟩:=hY;refine⟨J,hJ,?_,hO.qz (f:=some) (λ_ _=>rfl) λq hq=>?_⟩
 .grind[cJ]
 .by_cases h1:q=Yn
  .grind[zH,AO.ud]
  .simp only [zH];rw [if_neg h1,if_neg h1,hh q hq h1]
   cases hp q <;> simp [AO.ud]
theorem gF.done (hY:gF hp p m M h) (hs:∀ J:Nat->List AV,qe p m h (yc M.qW J)=qe p M M.qW.length (yc M.qW J)):qE hp p M:=by
 obtain⟨J,hJ,e,hO⟩:=hY;refine hO.qz (f:=some) (λ_ _=>rfl) λq hq=>?_;by_cases h1:q=Yn
 .grind[zH,AO.ud]
 .simp only [zH];rw [if_neg h1]
  cases hp q <;> simp [AO.ud]
end
section
variable {p:qC} {m:qU} {fs:List qN} {f g:qN} {o:Int×Int} {v:qR}
theorem FE (h1:2<=o.1) (h2:o.1<=13) (n8:o.1≠8) (n11:o.1≠11):jW p m fs f o=vu m fs f o ((o.1 - 2) % 3).toNat (wS p f o):=by
 have h0:¬ o.1=0:=qA;simp only [jW];rw [if_neg h0,if_pos ⟨h1,h2⟩];have h3:(o.1 - 2) % 3=0\/(o.1 - 2) % 3=1\/(o.1 - 2) % 3=2:=qA;rcases h3 with h|h|h
 .grind[wS,wc,vu]
 .rw [h,if_neg qA,if_pos rfl]
  rfl
 grind[mb,vu]
theorem Kf (h:o.1=8\/o.1=11):jW p m fs f o=wc p m fs f o:=by
 grind[jW]
theorem UX (h0:¬ o.1=0) (h:¬ (2<=o.1/\o.1<=13)):jW p m fs f o=ur p m fs f o:=by
 grind[jW]
end
theorem BP:jN j3=[bv false,iv 0,iv 0,bv false,iv 0,iv 0,bv false,iv 0,iv 0,bv false,iv 0,iv 0,bv false,iv 0,iv 0,bv false,iv 0,iv 0,bv false,iv 0,iv 0,bv false,iv 0,iv 0]:=rfl
section
variable {hp hp':Nm->Option AO} {p:qC} {m:qU} {C:List qu} {g:qN} {F:Nm->Option Nm} {R:List AV} {mk dp i c:Nat} {f:qN} {s:qu}
theorem j8.aK (h:j8 hp p m C):hp (.c Yn 0 1)=some (.row 1 (ui p p.length)):=by grind[zH,qE.aK,j8]
theorem j8.out (h:j8 hp p m C):hp (.c Yn 0 4)=some (.row 1 (qm m.out)):=by obtain⟨J,_,_,hO⟩:=h;simpa [zH] using hO.out
theorem j8.yH (h:j8 hp p m C):hp (.c Yn 0 5)=some (.row 2 (vf m.trace)):=by obtain⟨J,_,_,hO⟩:=h;simpa [zH] using hO.yH
theorem j8.qJ (h:j8 hp p m C):hp (.c Yn 0 30)=some (.row 2 (u6 m.qJ)):=by obtain⟨J,_,_,hO⟩:=h;simpa [zH] using hO.qJ
theorem j8.jk (h:j8 hp p m C):hp (.c Yn 0 31)=some (.row 24 (ki m.qO)):=by obtain⟨J,_,_,hO⟩:=h;simpa [zH] using hO.jk
theorem j8.cell (h:j8 hp p m C) (hc:C[c]?=some s):hp (En c)=some (.row 3 [j6 s]):=by obtain⟨J,_,_,hO⟩:=h;simpa [zH] using hO.cell c s hc
theorem j8.Oj (h:j8 hp p m C) (hi:m.qW.length<151) (hr:hp Yn=some (.row 4415 [R]))
  (hF:∀ j,j≠yo m.qW.length+2->j≠yo m.qW.length+3->j≠yo m.qW.length+28->F (.c Yn 0 j)=some (.c Yn 0 j))
  (h0:hp' Yn=some (.row 4415 [ql (R.map (AV.tr F)) (yo m.qW.length) (yR m.qW.length g)]))
  (h6t:hp' (.c Yn 0 (yo m.qW.length+2))=some (.row 3 (j4 g.qw))) (h7t:hp' (.c Yn 0 (yo m.qW.length+3))=some (.row 1 (zV g.cells))) (h8t:hp' (.c Yn 0 (yo m.qW.length+28))=some (.row 2 (jZ g.stack)))
  (h1:hp' (.c Yn 0 1)=some (.row 1 (ui p p.length)):=by simp [h.aK])
  (h2:hp' (.c Yn 0 4)=some (.row 1 (qm m.out)):=by simp [h.out])
  (h3:hp' (.c Yn 0 5)=some (.row 2 (vf m.trace)):=by simp [h.yH])
  (h4:hp' (.c Yn 0 30)=some (.row 2 (u6 m.qJ)):=by simp [h.qJ])
  (h5:hp' (.c Yn 0 31)=some (.row 24 (ki m.qO)):=by simp [h.jk])
  (h6:∀ (i:Nat) x,i<m.qW.length->hp (.c Yn 0 (32+29 * i+2))=some (.row 3 (j4 x))->hp' (.c Yn 0 (32+29 * i+2))=some (.row 3 (j4 x)):=by intro i x hi hx;have e:=gA hi;simp [hx,e.1,e.2.1,e.2.2.1,e.2.2.2])
  (h7:∀ (i:Nat) x,i<m.qW.length->hp (.c Yn 0 (32+29 * i+3))=some (.row 1 (zV x))->hp' (.c Yn 0 (32+29 * i+3))=some (.row 1 (zV x)):=by intro i x hi hx;have e:=gA hi;simp [hx,e.1,e.2.1,e.2.2.1,e.2.2.2])
  (h8:∀ (i:Nat) x,i<m.qW.length->hp (.c Yn 0 (32+29 * i+28))=some (.row 2 (jZ x))->hp' (.c Yn 0 (32+29 * i+28))=some (.row 2 (jZ x)):=by intro i x hi hx;have e:=gA hi;simp [hx,e.1,e.2.1,e.2.2.1,e.2.2.2])
  (h9:∀ (c:Nat) s,C[c]?=some s->hp' (En c)=some (.row 3 [j6 s]):=by intro c s hc;simp [h.cell hc])
  (hA:∀ k i j,fM k=true->¬ (k=1/\i=0/\j=0)->hp' (.u k i j)≠none->hp (.u k i j)≠none:=by intro k i j hk e hn;simpa [hk,e] using hn) :
  gF hp' p m { m with cells:=C,made:=mk,deep:=dp,qW:=m.qW++[g] } m.qW.length:=by
 obtain⟨J,hJ,e,hO⟩:=h;have hrow:=Ww (p:=p) (m:=m) (g:=g) (h:=m.qW.length) (F:=F) hJ hi hF;have hJ':∀ i,((λk=>(J k).map (AV.tr F)) i).length=29:=λi=>fN
 have key:∀ (i:Nat) f',(m.qW++[g])[i]?=some f'->(i=m.qW.length/\f'=g)\/(i<m.qW.length/\m.qW[i]?=some f'):=by
  grind
 refine⟨λk=>(J k).map (AV.tr F),hJ',?_,⟨λk=>(J k).map (AV.tr F),hJ',?_⟩,qL,qL,qL,qL,qL,λi f' hf=>?_,λi f' hf=>?_,λi f' hf=>?_,λc s hc=>?_,λk i j hk hn=>?_⟩
 .simp_all
 .simp [zH]
 .simp only [zH];rw [if_neg qB];rcases key i f' hf with⟨rfl,rfl⟩|⟨a,b⟩
  .exact h6t
  .have:=hO.qw i f' b
   grind[zH]
 .simp only [zH];rw [if_neg qB];rcases key i f' hf with⟨rfl,rfl⟩|⟨a,b⟩
  .exact h7t
  .have:=hO.cls i f' b
   grind[zH]
 .simp only [zH];rw [if_neg qB];rcases key i f' hf with⟨rfl,rfl⟩|⟨a,b⟩
  .exact⟨[],qL⟩
  .obtain⟨j,this⟩:=hO.stack i f' b
   grind[zH]
 .simp_all
 .by_cases e:k=1/\i=0/\j=0
  .omega
  .refine hO.only k i j hk ?_
   grind[zH]
end
section
variable {p:qC} {m:qU} {fs:List qN} {f:qN} {b n:Nat} {k:qT}
theorem Uh (hP:zq p) (hk:p[b]?=some k) (hl:vT p b<=1):(zr p b).params=[]\/∃ x,(zr p b).params=[x]/\((x∈zK p b/\x∉qh p b)\/(x∉zK p b/\x∈qh p b)):=by
 have hkp:(zr p b).params=k.params:=mS;have hpn:k.params.length<=1:=by grind[vT]
 rw [hkp]
 match h:k.params,hpn with
 | [],_=>simp
 | [x],_ =>
  grind[BN,Ui]
theorem Θ {l:List qR}:∀ r∈jZ l,r.length=2:=by
 grind[jZ]
theorem Ig {l:List Nat}:∀ r∈zV l,r.length=1:=by
 grind[zV]
theorem DB {cs:List Nat} {vs:List qR}:(vP p m b cs vs).en=m.en:=by
 unfold vP
 grind
theorem Jp {v:qR}:(vr m fs v).en=m.en:=by
 grind[vr]
theorem A1 {st:St} {t i:Nat} {x:AV} (h:qE st.hp p m):qE (st.wR t (.s i) x).hp p m :=
 h.qz (f:=kl (.s i)) (λk hk=>BA) λk hk=>by
  have:=(yC (λ_=>qv) hk i).2;simp [this]
theorem yy.JB {g:qN} (h:yy p m fs f) (hg:g.cells=f.cells):∀ f'∈fs++[g],∀ c∈f'.cells,c<m.cells.length:=by
 intro f' hf c hc;rw [jo,yj] at hf;rcases hf with hf|rfl
 .exact (h.low f' hf).cr c hc
 .rw [hg] at hc;exact h.top.cr c hc
theorem yy.Ix (h:yy p m fs f):∀ g∈m.qJ,∀ c∈g.2,c<m.cells.length:=λg hg=>by
 obtain⟨k,_,_,_,h4⟩:=h.qJ g hg;exact h4
end
theorem qAE {X:Ctx} {st:St} {Q:Ex->St->Prop} {A B:Code} (l:Nat) (hA:findLabel A l=none) (I:Nat->St->Prop) (h0:zu X A (thenS (λs=>∃ n,I n s) (oj l (λ_=>False) Q)) st)
  (hpass:∀ n s,s.n=X.n->s.gl=X.gl->I n s->zu X B (oj l (λs'=>∃ m,m<n/\I m s') Q) s):zu X (.scope (.seq A (.seq (.label l) B))) Q st:=by
 refine qAD l (rest:=.seq .skip B) (by simp [findLabel,hA]) I ?_ λn s h1 h2 hI=>wu (au (wt (hpass n s h1 h2 hI)));refine wu (h0.mono λe s he=>?_)
 cases e with
 | normal =>
  obtain⟨n,hI⟩:=he;intro a w hR;have hR1:=hR;obtain⟨C,g,x1,x2,x3,x4,x5,x6⟩:=hR1;refine wu (nN (wt ((hpass n s x3 x4 hI).mono λe s he=>?_))) a w hR
  cases e with
  | goto l' =>
   obtain⟨e1,m,_,hm⟩:=he;exact⟨e1,m,hm⟩
  | normal=>exact he
  | exit id=>exact he
  | ret=>exact he
  | aj x=>exact he
 | goto l'=>exact he.2.elim
 | exit id=>exact he
 | ret=>exact he
 | aj x=>exact he
theorem Fs {g:Gh} {w:World} {v:Value} {z:Nat} (h:RV g w v (.sc (.slice none 0 0))):RV g w v (.sl z []):=by
 rw [h.zi];exact .kX _ _ _
theorem qV.args {P:Program} {gl:Nat->Option (List AV)} {f:FuncId} {D:Nm->Bool} {az az':List AV} {H:Nm->Option AO} {R E:Nm->AV->(Nm->Option AO)->Prop} (h:qV P gl f D az H R E)
  (hl:az'.length=az.length) (ha:∀ (j:Nat) x',az[j]?=some x'->∃ x,az'[j]?=some x/\∀ g w v,RV g w v x->RV g w v x'):qV P gl f D az' H R E:=by
 refine⟨h.1,λroot C w g args h1 h2 h3 h4 h5 h6 h7=>h.2 root C w g args h1 h2 h3 h4 h5 (by rw [h6,hl]) λj v x' hv hx=>?_⟩
 grind
section
variable {p:qC} {f:qN} {nf nk nc e b:Nat} {k:qT} {P:Program} {gl:Nat->Option (List AV)} {c:FuncId} {D:Nm->Bool} {x y:AV} {cs:List (List AV)} {z z':Nat} {H:Nm->Option AO} {R E:Nm->AV->(Nm->Option AO)->Prop}
theorem PT (hh:zZ p) (h:iU p nf nk nc f e) (hk:p[b]?=some k) (hpar:k.parent=f.qD):∀ y∈jr p b,∃ q:Nat,y=q/\q<f.cells.length:=by
 grind[kB,PS,eT]
theorem qV.Tm (h:qV P gl c D [x,y,.sl z cs,.sl z' []] H R E):qV P gl c D [x,y,.sl z cs,.sc (.slice none 0 0)] H R E :=
 h.args rfl λj a ha=>match j,ha with
  | 0,ha=>⟨_,rfl,λ_ _ _ hv=>qL⟩
  | 1,ha=>⟨_,rfl,λ_ _ _ hv=>qL⟩
  | 2,ha=>⟨_,rfl,λ_ _ _ hv=>qL⟩
  | 3,ha=>⟨_,rfl,λ_ _ _ hv=>by grind[Fs]⟩
  | j+4,ha=>by simp at ha
theorem qV.Tl (h:qV P gl c D [x,y,.sl z [],.sl z' []] H R E):qV P gl c D [x,y,.sc (.slice none 0 0),.sc (.slice none 0 0)] H R E :=
 h.args rfl λj a ha=>match j,ha with
  | 0,ha=>⟨_,rfl,λ_ _ _ hv=>qL⟩
  | 1,ha=>⟨_,rfl,λ_ _ _ hv=>qL⟩
  | 2,ha=>⟨_,rfl,λ_ _ _ hv=>by grind[Fs]⟩
  | 3,ha=>⟨_,rfl,λ_ _ _ hv=>by grind[Fs]⟩
  | j+4,ha=>by simp at ha
end
section
variable {st:St} {N V m n:Nm} {d t:Nat} {D:Nm->Bool} {hp hp' H':Nm->Option AO}
theorem Th {F:Nm->Option Nm} {y:AV} (hV:V.z7=true) (hNV:Nm.under V N=false) (hDN:∀ k,Nm.under N k=true->D k=true) (hDV:∀ k,Nm.under V k=true->D k=false) (hF:∀ k,(D k||Nm.under V k)=true->F k=some k)
  (hR:∀ k,(D k||Nm.under V k)=true->H' k=(ze (λk=>D k||Nm.under V k) (jt N V st.hp) k).map (AO.tr F)) :
  uV D ((((st.move N V).call d (λk=>D k||Nm.under V k) (ze (λk=>D k||Nm.under V k) (st.move N V).hp) H').put (some d) y).move V N).hp st.hp:=by
 refine⟨λk=>((mv N V k).bind F).bind (mv V N),λk hk=>?_,λk hk=>?_⟩
 .grind[Nm.de,mv,Nm.CD]
 .have e2:∀ o:AO,((o.tr (mv N V)).tr F).tr (mv V N)=o.tr (λk=>((mv N V k).bind F).bind (mv V N)):=by
   grind[AO.uq]
  by_cases hx:Nm.under N k=true
  .have hu:Nm.under V (Nm.qz N V k)=true:=Nm.de k hx;have hb:=Nm.CD (k1:=V) hx;have hb2:mv V N (Nm.qz N V k)=some k:=qL;have hb3:mv N V k=some (Nm.qz N V k):=qL;have hR1:=hR (Nm.qz N V k) te;simp only [ze,hu,Bool.or_true,if_true,jt,hb,hb3] at hR1;simp only [St.move,St.nm,St.put,St.call];simp only [jt,hx,if_true,hb2,hu,Bool.or_true,pa,hR1]
   cases st.hp k<;>grind
  .simp only [kN] at hx
   have hv:Nm.under V k=false:=by
    grind
   have hR1:=hR k (by simp [hk]);simp only [ze,hk,pa,if_true,jt,hx,hv,b7,if_false] at hR1;simp only [St.move,St.nm,St.put,St.call];simp only [jt,hx,hv,hk,b7,if_false,pa,if_true,hR1]
   cases st.hp k<;>grind
section
variable {H:Nm->Option AO} {i j:Nat} {o:AO} {a:AV} {c:Option Nat} {sbs:List (Nm×Nm)}
theorem uV.step {F:Nm->Option Nm} (h:uV D hp H) (hF:∀ k,D k=true->F k=some k) (hh:∀ k,D k=true->hp' k=(hp k).map (AO.tr F)):uV D hp' H:=by
 obtain⟨G,h1,h2⟩:=h;refine⟨λk=>(G k).bind F,λk hk=>qL,λk hk=>?_⟩;rw [hh k hk,h2 k hk]
 cases H k<;>grind[AO.uq]
theorem Y2:uV D H H:=⟨some,λ_ _=>rfl,λk _=>by cases H k <;> simp [AO.ud]⟩
theorem MV (h:uV D st.hp H):uV D (st.put c a).hp H:=by cases c <;> exact h
theorem MW (hD:∀ k,D k=true->k.zo=false) (h:uV D st.hp H):uV D (st.zS (.s i) o).hp H :=
 h.step (F:=some) (λ_ _=>rfl) λk hk=>by
  rw [GB,if_neg (yC hD hk i).1]
  cases st.hp k <;> simp [AO.ud]
theorem MT (hD:∀ k,D k=true->k.zo=false) (h:uV D st.hp H):uV D (st.kill (.s i)).hp H :=
 h.step (F:=kl (.s i)) (λk hk=>by simp [kl,(yC hD hk i).2]) λk hk=>by simp [(yC hD hk i).2]
theorem MU (hD:∀ k,D k=true->k.zo=false) (h:uV D st.hp H):uV D (st.move (.s i) (.s j)).hp H :=
 h.step (F:=mv (.s i) (.s j)) (λk hk=>by simp [mv,(yC hD hk i).2,(yC hD hk j).2]) λk hk=>by
  rw [Tc,(yC hD hk i).2,(yC hD hk j).2];simp
theorem MS (hD:∀ k,D k=true->k.zo=false) (h:uV D st.hp H):uV D (st.fG i (some (.s j))).hp H :=
 h.step (F:=kl (.s i)) (λk hk=>by simp [kl,(yC hD hk i).2]) λk hk=>by
  have h1:=(yC hD hk i).2;have h2:=(yC hD hk j).1;rw [Cz,if_neg (λe=>h2 (sI e).symm)];simp [h1]
theorem Y1 (hD:∀ k,D k=true->k.zo=false) (hs:∀ q∈sbs,q.1.zo=true) (h:uV D hp H):uV D (vd D sbs hp) H :=
 h.step (F:=zE D sbs) (λk hk=>md hD hk hs) λk hk=>qL
end
end
section
variable {X:Ctx} {st:St} {K:St->Prop} {E:AV->St->Prop} {d f:Nat} {ty:TypeId} {pos:String} {aft:Array Edge} {g:Option (Nat×Bool)} {args:Array Operand} {Ts:Array TypeId} {az:List AV}
theorem qAZ (D:Nm->Bool) (N V:Nm) {z len:Nat} {rows:List (List AV)} (hV:V.z7=true:=by rfl) (hN:N.z7=false:=by rfl) (hVe:X.ext V=false) (hDr:∀ k,D k=true->k.zo=false) (hNV:Nm.under V N=false) (hDN:∀ k,Nm.under N k=true->D k=true) (hDV:∀ k,Nm.under V k=true->D k=false) (hs:(st.hp N).isSome=true)
  (hext:∀ k i j,X.ext (.u k i j)=true->D (.u k i j)=false\/st.hp (.u k i j)≠none) (hNd:Nm.under N (.s d)=false) (hrow:rows.map (λr=>r.map (AV.tr (mv V N)))=rows) (hd:d<X.n:=by first|(simp;done)|fail)
  (ha:args.toList.map (ev (st.move N V))=az:=by simp [fx];first|done|rfl)
  (hF:qV X.P X.gl f (λk=>D k||Nm.under V k) az (ze (λk=>D k||Nm.under V k) (jt N V st.hp)) (λr y H'=>(y=.hs r z 0 len/\H' r=some (.row z rows))/\uV (λk=>D k||Nm.under V k) H' (ze (λk=>D k||Nm.under V k) (jt N V st.hp))) qy)
  (h:∀ hp',uV D hp' st.hp->hp' (.s d)=some (.row z rows)->K ((st.eS N V d D hp').put (some d) (.hs (.s d) z 0 len))) :
  q8 X ⟨some d,.call ⟨.value (.func f),args,Ts⟩,ty,pos,aft,g⟩ K E st:=by
 refine kH N V (.inl hN) (.inr hVe) (oz V N (.inr hVe) (.inl hN) ?_);refine lh (λk=>D k||Nm.under V k) (λk hk=>?_) (λk i j he=>?_) hd ha hF ?_
 .grind[yq]
 .by_cases hD:D (.u k i j)=true
  .right;rcases hext k i j he with h|h
   .simp_all
   .have hn:Nm.under N (.u k i j)=false:=by grind[Nm.z7,Nm.under]
    have hv:Nm.under V (.u k i j)=false:=by
     grind
    simp_all
  grind[Nm.under]
 .rintro y H' ⟨⟨rfl,hr⟩,F,hF1,hF2⟩;have hVd:Nm.under V (.s d)=false:=by cases V <;> simp [Nm.z7] at *
  obtain⟨q,hq,e⟩:=KS (d:=d) (H':=H') (st:=st) (y:=.hs (.s d) z 0 len) hV hNV hDN hDV hDr hs qL;have hS:=Th (d:=d) (y:=.hs (.s d) z 0 len) (st:=st) hV hNV hDN hDV hF1 hF2
  have hq2:q.hp (.s d)=some (.row z rows):=by
   rw [hq];simp [jt,hVd,hNd,hr,AO.tr,hrow]
  grind
end
section
variable {p:qC} {m:qU} {fs:List qN} {f:qN} {o:Int×Int}
theorem Un (hM:yy p m fs f) (ho:(zm p f.qD)[f.pc]?=some o) (h:o.1=16\/o.1=17):m.made<=150:=by
 have h1:=hM.made
 have h2:1<=yn p f:=by
  unfold yn;rw [rp ho]
  grind[y4]
 omega
variable {c x:Int} {w:Nat}
theorem FC (h1:2<=c) (h2:c<=4) (hw:((c - 2) % 3).toNat=w):jW p m fs f (c,x)=vu m fs f (c,x) w 2:=by
 grind[FE,wS]
theorem Ke (h1:5<=c) (h2:c<=7) (hw:((c - 2) % 3).toNat=w):jW p m fs f (c,x)=vu m fs f (c,x) w (if x<(qh p f.qD).length then 2 else 3):=by
 grind[FE,wS]
theorem Bv (h1:9<=c) (h2:c<=13) (h3:c≠11) (hw:((c - 2) % 3).toNat=w):jW p m fs f (c,x)=vu m fs f (c,x) w 4:=by
 grind[FE,wS]
end
section
variable {p:qC} {m:qU} {fs:List qN} {f:qN} {o:Int×Int} {b n:Nat} {v:qR} {k:qT}
theorem Yv (hP:zq p):(zr p 0).params=[]:=by
 have hl:=hP.sh.len;obtain⟨k,hk⟩:∃ k,p[0]?=some k:=⟨_,gE qA⟩;have:=hP.sh.head 0 k hk
 grind[zr]
theorem H0 {cs:List Nat} {vs:List qR}:(vP p m b cs vs).qW≠[]:=by
 unfold vP
 split
 .split <;> simp
 .simp
theorem Yu (hP:zq p):¬ (j7 p n).ended:=by
 rintro (h|h)
 .exact H0 h
 .exact h DB
theorem Jq (h:fs≠[]):(vr m fs v).qW≠[]:=by
 unfold vr
 split<;>simp_all
theorem MF {s:qu}:(yY m fs f o s).qW≠[]:=by
 unfold yY
 repeat' split<;>simp_all
theorem UW (hc:0<=o.1/\o.1<=20) (h:o.1=20->fs≠[]):(jW p m fs f o).qW≠[]:=by
 have hT:∀ g:qN,(m.top fs g).qW≠[]:=λg=>qB;have hS:∀ (g:qN) (e:Int),(m.stop fs g e).qW≠[]:=λg e=>qB;unfold jW
 split
 .grind[dB]
 .split
  .split
   .grind[wc]
   .split
    .exact MF
    grind[mb,MF]
  grind[ur,H0,iZ,eE,fH,Jq]
end
section
variable {key:Nat->Nm} {es:List Nat} {l l':List AV} {i j z n:Nat} {x:AV} {m:Nm}
theorem qBN:yf key es j (l++l')=yf key es j l++yf key es (j+l.length) l':=by
 induction l generalizing j<;>grind[yf]
theorem qBP:(yf key es j l).length=l.length:=by
 induction l generalizing j<;>simp_all
theorem Tn (hk:∀ a b,key a=key b->a=b) (h:l[i]?=some x) (hx:jK x=true):(yt key es j l).find? (λp=>decide (p.1=key (j+i)))=some (key (j+i),es.getD (j+i) 0):=by
 induction l generalizing i j with
 | nil=>cases h
 | cons y l ih =>
  cases i<;>grind[yt]
theorem KZ (h:∀ a,m≠key a):(yt key es j l).find? (λp=>decide (p.1=m))=none:=by
 induction l generalizing j<;>grind[yt]
theorem PW:yk (λi=>(l.drop (z * i)).take z) n=l.take (z * n):=by
 induction n with
 | zero=>simp [yk]
 | succ n ih=>rw [oV,ih,Nat.mul_succ,List.take_add]
end
structure er (hp:Nm->Option AO) (p:qC) (n b:Nat):Prop where
 top:∃ J:Nat->List AV,(∀ i,(J i).length=29)/\hp Yn=some (.row 4415 [ql (qe p (uj n) 0 J) 1 [.hs (.c Yn 0 1) 1 0 b]])
 aK:hp (.c Yn 0 1)=some (.row 1 (ui p b))
 out:hp (.c Yn 0 4)=some (.row 1 [])
 yH:hp (.c Yn 0 5)=some (.row 2 [])
 qJ:hp (.c Yn 0 30)=some (.row 2 [])
 jk:hp (.c Yn 0 31)=some (.row 24 [])
 only:∀ k i j,fM k=true->hp (.u k i j)≠none->k=1/\i=0/\j=0
section
variable {hp hp':Nm->Option AO} {p:qC} {n b:Nat} {R:List AV}
theorem er.own (h:er hp p n p.length):qE hp p (uj n):=by
 obtain⟨J,hJ,e⟩:=h.top;refine⟨⟨J,hJ,?_⟩,h.aK,by grind[uj,qm,out],by grind[uj,vf,yH],by simpa [uj] using h.qJ,by simpa [uj] using h.jk,λi f hf=>by grind[uj],λi f hf=>by grind[uj],λi f hf=>by grind[uj],λc s hs=>by grind[uj],λk i j hk hn=>.inl (h.only k i j hk hn)⟩;rw [e]
 rfl
theorem er.row (h:er hp p n b):∃ R,hp Yn=some (.row 4415 [R])/\R.length=4415/\R[1]?=some (.hs (.c Yn 0 1) 1 0 b):=by
 obtain⟨J,hJ,e⟩:=h.top;exact⟨_,e,by grind[Yj,nW],rfl⟩
theorem er.step {b':Nat} {R':List AV} (h:er hp p n b) (hr:hp Yn=some (.row 4415 [R])) (h0:hp' Yn=some (.row 4415 [R'])) (hR:∃ F:Nm->Option Nm,(∀ j,j≠1->F (.c Yn 0 j)=some (.c Yn 0 j))/\R'=(R.map (AV.tr F)).take 1++.hs (.c Yn 0 1) 1 0 b'::(R.map (AV.tr F)).drop 2)
  (h1:hp' (.c Yn 0 1)=some (.row 1 (ui p b')))
  (h2:hp' (.c Yn 0 4)=some (.row 1 []):=by simp [h.out]) (h3:hp' (.c Yn 0 5)=some (.row 2 []):=by simp [h.yH])
  (h4:hp' (.c Yn 0 30)=some (.row 2 []):=by simp [h.qJ]) (h5:hp' (.c Yn 0 31)=some (.row 24 []):=by simp [h.jk])
  (hA:∀ k i j,fM k=true->¬ (k=1/\i=0/\j=0)->hp' (.u k i j)≠none->hp (.u k i j)≠none:=by intro k i j hk e hn;simpa [hk,e] using hn):er hp' p n b':=by
 obtain⟨J,hJ,e⟩:=h.top;obtain⟨F,hF,rfl⟩:=hR;refine⟨⟨λi=>(J i).map (AV.tr F),λi=>fN,?_⟩,h1,h2,h3,h4,h5,λk i j hk hn=>?_⟩
 .rw [h0,<- Wy hr e]
  have hm:(qe p (uj n) 0 J).map (AV.tr F)=(yA p (uj n)).map (AV.tr F)++(jN j3++(yB (uj n)++(yk (λi=>(J i).map (AV.tr F)) 151++yZ (uj n) 0))):=by
   simp_all[nZ,yB,uj]
  simp only [ql,oB,List.map_take,List.map_drop,hm]
  simp_all[qe,yA,uj]
 .by_cases e:k=1/\i=0/\j=0
  .exact e
  .exact h.only k i j hk (hA k i j hk e hn)
theorem VG {P:Program} {T:TypeId} {st:St} {Z:List AV} {d:Nat} (hz:Z.length=4415) (hz1:Z.take 32=[.sc (.slice none 0 0),.sc (.slice none 0 0),iv 0,iv 0,.sc (.slice none 0 0),.sc (.slice none 0 0)]++(jN j3++[.sc (.slice none 0 0),.sc (.slice none 0 0)])) (hz2:Z.drop 4411=[iv 0,iv 0,iv 0,iv 0])
  (he:∀ k,(k=1\/k=4)->(zY P T).getD k 0=1) (he2:∀ k,(k=5\/k=30)->(zY P T).getD k 0=2) (he31:(zY P T).getD 31 0=24)
  (hD:∀ k i j,fM k=true->st.hp (.u k i j)=none) :
  er ((((St.kK (yt (Nm.c (.s d) 0) (zY P T) 0 (ql (ql (ql Z 0 [bL (yl p p.length)]) 2 [iv n]) 3 [iv 0])) (st.kill (.s d))).zS (.s d) (.row 4415 [yf (Nm.c (.s d) 0) (zY P T) 0 (ql (ql (ql Z 0 [bL (yl p p.length)]) 2 [iv n]) 3 [iv 0])])).move (.s d) Yn).hp) p n 0:=by
 obtain⟨mid,hmid,hml⟩:∃ mid,Z.drop 32=mid++[iv 0,iv 0,iv 0,iv 0]/\mid.length=29 * 151:=by
  refine⟨(Z.drop 32).take 4379,?_,by simp [hz]⟩
  grind[pY,List.drop_drop]
 have hZ:Z=([.sc (.slice none 0 0),.sc (.slice none 0 0),iv 0,iv 0,.sc (.slice none 0 0),.sc (.slice none 0 0)]++(jN j3++[.sc (.slice none 0 0),.sc (.slice none 0 0)]))++(mid++[iv 0,iv 0,iv 0,iv 0]):=by
  grind[pY]
 obtain⟨C,hC⟩:∃ C,C=ql (ql (ql Z 0 [bL (yl p p.length)]) 2 [iv n]) 3 [iv 0]:=⟨_,rfl⟩
 have hC2:C=([bL (yl p p.length),.sc (.slice none 0 0),iv n,iv 0,.sc (.slice none 0 0),.sc (.slice none 0 0)]++(jN j3++[.sc (.slice none 0 0),.sc (.slice none 0 0)]))++(mid++[iv 0,iv 0,iv 0,iv 0]):=by
  simp_all[ql]
 have e1:=he 1 (.inl rfl);have e4:=he 4 (.inr rfl);have e5:=he2 5 (.inl rfl);have e30:=he2 30 (.inr rfl);rw [<- hC];generalize zY P T=es at *
 have hrow:yf (Nm.c (.s d) 0) es 0 C=([bL (yl p p.length),.hs (.c (.s d) 0 1) 1 0 0,iv n,iv 0,.hs (.c (.s d) 0 4) 1 0 0,.hs (.c (.s d) 0 5) 2 0 0]++(jN j3++[.hs (.c (.s d) 0 30) 2 0 0,.hs (.c (.s d) 0 31) 24 0 0]))++(yf (Nm.c (.s d) 0) es 32 mid++[iv 0,iv 0,iv 0,iv 0]):=by
  rw [hC2];simp only [bC] at e1 e4 e5 e30 he31;simp [BP,qBN,yf,zc,jK,e1,e4,e5,e30,he31]
 have hk:∀ k z,C[k]?=some (.sc (.slice none 0 0))->es.getD k 0=z->(St.kK (yt (Nm.c (.s d) 0) es 0 C) (st.kill (.s d))).hp (.c (.s d) 0 k)=some (.row z []):=by
  intro k z h1 h2;have:=Tn (es:=es) (j:=0) (key:=Nm.c (.s d) 0) (λa b e=>by injection e) h1 rfl
  grind[Fz]
 have hc:∀ k,k<32->C[k]?=([bL (yl p p.length),.sc (.slice none 0 0),iv n,iv 0,.sc (.slice none 0 0),.sc (.slice none 0 0)]++(jN j3++[.sc (.slice none 0 0),.sc (.slice none 0 0)]))[k]?:=λk hk=>by
  grind
 have g1:=hk 1 1 qL e1;have g4:=hk 4 1 qL e4;have g5:=hk 5 2 qL e5;have g30:=hk 30 2 qL e30;have g31:=hk 31 24 qL he31;rw [hrow];obtain⟨mm,hmm⟩:∃ mm,mm=(yf (Nm.c (.s d) 0) es 32 mid).map (AV.tr (mv (.s d) Yn)):=⟨_,rfl⟩;have hmml:mm.length=29 * 151:=by grind[qBP]
 obtain⟨J,hJ1,hJ2⟩:∃ J:Nat->List AV,(∀ i,(J i).length=29)/\yk J 151=mm:=by
  refine⟨λi=>if i<151 then (mm.drop (29 * i)).take 29 else List.replicate 29 .bot,λi=>?_,?_⟩
  .dsimp only
   split
   .simp [hmml];omega
   .simp
  simp_all[IL,PW,yU]
 refine⟨⟨J,hJ1,?_⟩,qL,qL,qL,qL,qL,λk i j hk hn=>?_⟩
 .simp_all[qe,yA,yB,yZ,ql,uj]
 .by_cases e:k=1/\i=0/\j=0
  .exact e
  .refine absurd ?_ hn
   have hno:(St.kK (yt (Nm.c (.s d) 0) es 0 C) (st.kill (.s d))).hp (.u k i j)=none:=by
    rw [Fz,KZ λa e=>vQ]
    simp_all
   simp_all
end
section
variable {P:Program} {T:TypeId} {l:List Value} {a b c:AV} {e0 e2 e3:TypeId} {key:Nat->Nm} {es:List Nat} {j:Nat} {L:List AV} {x:AV}
theorem Ow (h1:yw P T=true) (h2:yI P T=some l) (hl:l.length=4415) (f0:qq P T 0=some (0,e0)) (f2:qq P T 2=some (2,e2)) (f3:qq P T 3=some (3,e3)) (s0:qd P e0=1) (s2:qd P e2=1) (s3:qd P e3=1)
  (ha:a.cells=some [a]) (hb:b.cells=some [b]) (hc:c.cells=some [c]):pg P T [(0,a),(2,b),(3,c)]=some (.agg (ql (ql (ql (l.map .sc) 0 [a]) 2 [b]) 3 [c])):=by
 simp_all[ql]
theorem qBQ (h:x∈yf key es j L):(∃ k z,x=.hs (key k) z 0 0)\/x∈L:=by
 induction L generalizing j<;>grind[yf,zc]
end
section
variable {X:Ctx} {st:St} {K:St->Prop} {E:AV->St->Prop} {d:Nat} {ty:TypeId} {pos:String} {aft:Array Edge} {g:Option (Nat×Bool)}
theorem qAV {T:TypeId} {x:Operand} {cs:List AV} (hd:d<X.n) (hq:(ev st x).cells=some cs) (z:Nat) (hz:cs.length=z) (hsz:qd X.P T=z) (hs:∀ y∈cs,(∃ v,y=.sc v)\/∃ z rows,y=.sl z rows/\y.tr (kl (.s d))=y)
  (h:K (((St.kK (yt (Nm.c (.s d) 0) (zY X.P T) 0 cs) (st.kill (.s d))).zS (.s d) (.row z [yf (Nm.c (.s d) 0) (zY X.P T) 0 cs])).put (some d) (.pt (.s d) 0))) :
  q8 X ⟨some d,.box T x,ty,pos,aft,g⟩ K E st:=by
 subst hsz;refine dh hd hq hz ?_ h
 have jG:cs.map (AV.tr (kl (.s d)))=cs:=by
  rw [fE (g:=id) λy hy=>?_,List.map_id];rcases hs y hy with⟨v,rfl⟩|⟨z,rows,_,e⟩<;>simp_all
 unfold bc;simp only [jG];rw [Kz λy hy=>?_]
 .rfl
 .rcases qBQ hy with⟨k,z,rfl⟩|hy
  .rfl
  .rcases hs y hy with⟨v,rfl⟩|⟨z,rows,rfl,_⟩ <;> rfl
end
section
variable {p:qC} {f:Int}
theorem Wo (hs:uA p):iD p f=xu p f:=by
 grind[iD,xu,JE,W0,zq.of,CE,eV,pR.en,pR.out,pR.left,pR.zJ]
end
end Go.Hm
end
section
namespace Go.Hm
open Go Go.RowKit Go.ChangeShapes Go.WideShapes Go.Deep
theorem Zn {H:Type} {enc:TypeId×Value->H} {P:Program} {w:World} {spare:Nat->Bool} {n m k:String} {gs:List (DataW H)} {ps:List MemPlace} (h:DataW.TrodVars enc P w spare [n,m,k] gs ps):∃ d e f,gs=[d,e,f]:=by
 cases gs with
 | nil=>simp [DataW.TrodVars] at h
 | cons d gs =>
  have key:∃ q,DataW.TrodVars enc P w spare [m,k] gs q:=by
   grind[DataW.TrodVars]
  obtain⟨q,hq⟩:=key;obtain⟨e,f,rfl⟩:=ζ hq;exact⟨d,e,f,rfl⟩
end Go.Hm
end
