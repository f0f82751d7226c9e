import Derived.Test.YtdnebaieamppbaaGreatDoorF18
set_option linter.unusedSimpArgs false
set_option linter.unusedVariables false
set_option maxRecDepth 100000
set_option maxHeartbeats 4000000

section
namespace Go.Hm
open Go Go.RowKit
def G6 (hp:Nm->Option AO) (p:YU) (m:Y2) (h:Nat):Prop:=∃ J:Nat->List AV,(∀ i,(J i).length=29)/\hp Yn=some (.row 4415 [zJ p m h (yc m.YO J)])/\YQ (ZG Yn (.row 4415 [zJ p m m.YO.length (yc m.YO J)]) hp) p m
section
variable {hp hp':Nm->Option AO} {p:YU} {m:Y2} {fs:List YZ} {f:YZ} {h:Nat} {F:Nm->Option Nm} {J:Nat->List AV} {vals R:List AV}
theorem UB (hJ:∀ i,(J i).length=29) (hi:fs.length<151) (hv:vals.length=29) (hF:∀ j,j≠yo fs.length+2->j≠yo fs.length+3->j≠yo fs.length+28->F (.c Yn 0 j)=some (.c Yn 0 j)) :
  Yo ((zJ p m h (yc (fs++[f]) J)).map (AV.tr F)) (yo fs.length) vals=zJ p m h (yc fs λk=>if k=fs.length then vals else (J k).map (AV.tr F)):=by
 have hl:∀ j,j<32->F (.c Yn 0 j)=some (.c Yn 0 j):=λj hj=>hF j qe qe qe;have eA:(yA p m).map (AV.tr F)=yA p m:=by simp_all[yA]
 have eB:(yB m).map (AV.tr F)=yB m:=by simp_all[yB]
 rw [QY,eA,eB];have e:yA p m++(kI m.globals++(yB m++(cat (λi=>(yc (fs++[f]) J i).map (AV.tr F)) 151++yZ m h)))=zJ p m h λi=>(yc (fs++[f]) J i).map (AV.tr F):=rfl;rw [e,show yo fs.length=32+(29 * fs.length+0) by simp];refine Gb (λi=>by simp [wP hJ]) hi qA (λk hk=>?_) ?_
 .unfold yc;rcases Dq k fs.length with e|e|e
  .rw [dX e,gE e];have h1:∀ a,a<29->a=2\/a=3\/a=28->F (.c Yn 0 (32+29 * k+a))=some (.c Yn 0 (32+29 * k+a)):=λa ha _=>hF _ qe qe qe
   simp_all[Zy]
  .omega
  .rw [nT qA,nT qv];simp [hk]
 simp_all[yc,Yo]
theorem YQ.qCv (h:YQ hp p m) (hm:m.YO=fs++[f]) (hi:fs.length<151) (hr:hp Yn=some (.row 4415 [R]))
  (hv:vals.length=29) (hF:∀ j,j≠yo fs.length+2->j≠yo fs.length+3->j≠yo fs.length+28->F (.c Yn 0 j)=some (.c Yn 0 j))
  (h0:hp' Yn=some (.row 4415 [Yo (R.map (AV.tr F)) (yo fs.length) vals]))
  (h1:hp' (.c Yn 0 1)=some (.row 1 (vD p p.length)):=by simp [h.ZP])
  (h2:hp' (.c Yn 0 4)=some (.row 1 (qS m.out)):=by simp [h.out])
  (h3:hp' (.c Yn 0 5)=some (.row 2 (vv m.trace)):=by simp [h.Zb])
  (h4:hp' (.c Yn 0 30)=some (.row 2 (yj m.YT)):=by simp [h.YT])
  (h5:hp' (.c Yn 0 31)=some (.row 24 (uL m.YP)):=by simp [h.Yt])
  (h6:∀ (i:Nat) x,i<fs.length->hp (.c Yn 0 (32+29 * i+2))=some (.row 3 (qU x))->hp' (.c Yn 0 (32+29 * i+2))=some (.row 3 (qU x)):=by intro i x hi hx;have e:=oG hi;simp [hx,e.1,e.2.1,e.2.2.1,e.2.2.2])
  (h7:∀ (i:Nat) x,i<fs.length->hp (.c Yn 0 (32+29 * i+3))=some (.row 1 (zC x))->hp' (.c Yn 0 (32+29 * i+3))=some (.row 1 (zC x)):=by intro i x hi hx;have e:=oG hi;simp [hx,e.1,e.2.1,e.2.2.1,e.2.2.2])
  (h8:∀ (i:Nat) x,i<fs.length->hp (.c Yn 0 (32+29 * i+28))=some (.row 2 (zf x))->hp' (.c Yn 0 (32+29 * i+28))=some (.row 2 (zf x)):=by intro i x hi hx;have e:=oG hi;simp [hx,e.1,e.2.1,e.2.2.1,e.2.2.2])
  (h9:∀ (c:Nat) s,m.cells[c]?=some s->hp' (En c)=some (.row 3 [jJ s]):=by intro c s hc;simp [h.cell c s hc])
  (hA:∀ k i j,fM k=true->¬ (k=1/\i=0/\j=0)->hp' (.u k i j)≠none->hp (.u k i j)≠none:=by intro k i j hk e hn;simpa [hk,e] using hn) :
  G6 hp' p { m with YO:=fs } (fs.length+1):=by
 obtain⟨J,hJ,e⟩:=h.top
 have hR:R=zJ p m (fs.length+1) (yc (fs++[f]) J):=by
  simp_all
 have key:∀ (i:Nat) f',fs[i]?=some f'->i<fs.length/\m.YO[i]?=some f':=λi f' hf=>by
  grind
 have hrow:=UB (p:=p) (m:=m) (f:=f) (h:=fs.length+1) hJ hi hv hF;refine⟨λk=>if k=fs.length then vals else (J k).map (AV.tr F),λi=>?_,?_,⟨λk=>if k=fs.length then vals else (J k).map (AV.tr F),λi=>?_,?_⟩,qH,qH,qH,qH,qH,λi f' hf=>?_,λi f' hf=>?_,λi f' hf=>?_,λc s hc=>?_,λk i j hk hn=>?_⟩
 .grind
 .rw [h0,hR,hrow]
  rfl
 .grind
 .simp [ZG]
 .obtain⟨a,b⟩:=key i f' hf;simp only [ZG];rw [if_neg qB];exact h6 i _ a (h.YV i f' b)
 .obtain⟨a,b⟩:=key i f' hf;simp only [ZG];rw [if_neg qB];exact h7 i _ a (h.cls i f' b)
 .obtain⟨a,b⟩:=key i f' hf;obtain⟨j,hj⟩:=h.stack i f' b
  grind[ZG]
 .simp_all
 .by_cases e:k=1/\i=0/\j=0
  .omega
  .refine h.only k i j hk (hA k i j hk e ?_)
   simp_all
theorem G6.done (hY:G6 hp p m h) (hr:hp Yn=some (.row 4415 [R])) (h0:hp' Yn=some (.row 4415 [Yo R 4411 [iv (m.YO.length:Nat)]])) (hh:∀ q,DM q=true->q≠Yn->hp' q=hp q):YQ hp' p m:=by
 obtain⟨J,hJ,e,hO⟩:=hY;refine hO.Yq (f:=some) (λ_ _=>rfl) λq hq=>?_;by_cases hq1:q=Yn
 .grind[QZ,wP,ZG,AO.Yg]
 .rw [hh q hq hq1];simp only [ZG];rw [if_neg hq1]
  cases hp q <;> simp [AO.Yg]
theorem G6.ht (hY:G6 hp p m h):∃ R,hp Yn=some (.row 4415 [R])/\R.length=4415/\R[4411]?=some (iv h):=by
 obtain⟨J,hJ,e,_⟩:=hY
 grind[ae,wP,dY]
end
section
variable {st:St} {p:YU} {m:Y2} {d:Option Nat} {a:AV} {i j:Nat} {o:AO}
theorem Be (h:YQ st.hp p m):YQ (st.put d a).hp p m:=by cases d <;> exact h
theorem oD {n:Nm} (hn:DM n=false) (h:YQ st.hp p m):YQ (st.Yf n o).hp p m:=by
 refine h.Yq (f:=some) (λ_ _=>rfl) λk hk=>?_;have:k≠n:=λe=>qH;rw [E2,if_neg this]
 cases st.hp k <;> simp [AO.Yg]
theorem oF (h:YQ st.hp p m):YQ (st.kill (.s i)).hp p m :=
 h.Yq (f:=kl (.s i)) (λk hk=>Ax) λk hk=>by
  have:=(Zq (λ_=>qJ) hk i).2;simp [this]
theorem oE (h:YQ st.hp p m):YQ (st.move (.s i) (.s j)).hp p m :=
 h.Yq (f:=mv (.s i) (.s j)) (λk hk=>by simp [mv,(Zq (λ_=>qJ) hk i).2,(Zq (λ_=>qJ) hk j).2]) λk hk=>by
  have h1:=(Zq (λ_=>qJ) hk i).2;have h2:=(Zq (λ_=>qJ) hk j).2
  simp_all
theorem Bf (h:YQ st.hp p m):YQ (st.apd i (some (.s j))).hp p m :=
 h.Yq (f:=kl (.s i)) (λk hk=>Ax) λk hk=>by
  have h1:=(Zq (λ_=>qJ) hk i).2;have h2:=(Zq (λ_=>qJ) hk j).1;rw [N7,if_neg (λe=>h2 (sI e).symm)];simp [h1]
end
def jl (hp:Nm->Option AO) (p:YU) (m:Y2) (C:List Yj):Prop:=∃ J:Nat->List AV,(∀ i,(J i).length=29)/\hp Yn=some (.row 4415 [zJ p m m.YO.length (yc m.YO J)])/\YQ (ZG Yn (.row 4415 [zJ p { m with cells:=C } m.YO.length (yc m.YO J)]) hp) p { m with cells:=C }
section
variable {hp hp' H:Nm->Option AO} {p:YU} {m:Y2} {C:List Yj} {F:Nm->Option Nm} {st:St} {d:Option Nat} {a:AV} {i j c:Nat} {o:AO} {s:Yj}
theorem YQ.yc (h:YQ hp p m):jl hp p m m.cells:=by
 obtain⟨J,hJ,e⟩:=h.top;refine⟨J,hJ,e,h.Yq (f:=some) (λ_ _=>rfl) λq hq=>?_⟩;by_cases h1:q=Yn
 .subst h1;rw [e];simp only [ZG,if_true,bU,AO.Yg]
 .simp only [ZG];rw [if_neg h1]
  cases hp q <;> simp [AO.Yg]
theorem oI {h:Nat} {L:List YZ} {J:Nat->List AV} (hc:∀ j,F (.c Yn 0 j)=some (.c Yn 0 j)):(zJ p m h (yc L J)).map (AV.tr F)=zJ p m h (yc L λi=>(J i).map (AV.tr F)):=by
 rw [QY,Bh λj _=>hc j]
 simp_all[zJ,yA,yB]
theorem jl.Yq (h:jl hp p m C) (hf:∀ k,DM k=true->F k=some k) (hh:∀ k,DM k=true->hp' k=(hp k).map (AO.tr F)):jl hp' p m C:=by
 obtain⟨J,hJ,e,hO⟩:=h;refine⟨λi=>(J i).map (AV.tr F),λi=>eL,?_,hO.Yq (f:=F) hf λq hq=>?_⟩
 .rw [hh _ rfl,e];simp only [bU,AO.tr,dT,sH];rw [oI λj=>hf _ rfl]
 .by_cases h1:q=Yn
  .subst h1;simp only [ZG,if_true,bU,AO.tr,dT,sH];rw [oI λj=>hf _ rfl]
  simp_all
theorem jZ {n:Nm} (hn:n.Y3=true):∀ k,DM k=true->Nm.under n k=false:=λk hk=>by
 cases h:Nm.under n k with
 | false=>rfl
 | true=>have:=Nm.ZF hn h;grind[qJ]
theorem B8 {n:Nm} (hn:n.Y3=true):DM n=false:=by
 grind[qJ]
theorem KA (h:jl st.hp p m C):jl (st.put d a).hp p m C:=by cases d <;> exact h
theorem Jz {n:Nm} (hn:n.Y3=true) (h:jl st.hp p m C):jl (st.Yf n o).hp p m C:=by
 refine h.Yq (F:=some) (λ_ _=>rfl) λk hk=>?_;have:k≠n:=λe=>by grind[B8]
 rw [E2,if_neg this]
 cases st.hp k <;> simp [AO.Yg]
theorem KC {n:Nm} (hn:n.Y3=true) (h:jl st.hp p m C):jl (st.kill n).hp p m C :=
 h.Yq (F:=kl n) (λk hk=>by grind[kl,jZ]) λk hk=>by
  simp_all[jZ]
theorem KB {n n':Nm} (hn:n.Y3=true) (hn':n'.Y3=true) (h:jl st.hp p m C):jl (st.move n n').hp p m C :=
 h.Yq (F:=mv n n') (λk hk=>by grind[mv,jZ]) λk hk=>by
  simp_all[jZ]
theorem QX {n:Nm} (hn:n.Y3=true) (h:jl st.hp p m C):jl (st.apd i (some n)).hp p m C :=
 h.Yq (F:=kl (.s i)) (λk hk=>Ax) λk hk=>by
  have h1:=(Zq (λ_=>qJ) hk i).2;rw [N7,if_neg (λe=>by grind[qJ])];simp [h1]
theorem YQ.free (h:YQ hp p m) (hc:m.cells.length<=c):hp (.u 7 c 0)=none:=by
 cases e:hp (.u 7 c 0) with
 | none=>rfl
 | some o =>
  rcases h.only 7 c 0 rfl sD with⟨h1,_⟩|⟨_,h2,_⟩<;>grind
theorem jl.set (h:jl hp p m C) (hc:c<C.length) (hw:hp' (En c)=some (.row 3 [jJ s])) (hh:∀ q,DM q=true->q≠En c->hp' q=hp q):jl hp' p m (C.set c s):=by
 obtain⟨J,hJ,e,hO⟩:=h;have hY:Yn≠En c:=qB;have hE:∀ j,Nm.c Yn 0 j≠En c:=λj=>qB;have hE2:∀ j,Nm.c Yn 0 j≠Yn:=λj=>qB
 have rd:∀ q,DM q=true->q≠En c->q≠Yn->∀ z,ZG Yn z hp' q=ZG Yn (.row 4415 [zJ p { m with cells:=C } m.YO.length (yc m.YO J)]) hp q:=λq h1 h2 h3 z=>by
  simp_all
 refine⟨J,hJ,by rw [hh _ rfl hY];exact e,⟨J,hJ,mV⟩,?_,?_,?_,?_,?_,λi f hf=>?_,λi f hf=>?_,λi f hf=>?_,λc' s' hs'=>?_,λk i j hk hn=>?_⟩
 .rw [rd _ rfl (hE _) (hE2 _)];exact hO.ZP
 .rw [rd _ rfl (hE _) (hE2 _)];exact hO.out
 .rw [rd _ rfl (hE _) (hE2 _)];exact hO.Zb
 .rw [rd _ rfl (hE _) (hE2 _)];exact hO.YT
 .rw [rd _ rfl (hE _) (hE2 _)];exact hO.Yt
 .rw [rd _ rfl (hE _) (hE2 _)];exact hO.YV i f hf
 .rw [rd _ rfl (hE _) (hE2 _)];exact hO.cls i f hf
 .obtain⟨j,hj⟩:=hO.stack i f hf;exact⟨j,by rw [rd _ rfl (hE _) (hE2 _)];exact hj⟩
 .simp only [bT] at hs';by_cases e1:c=c'
  .simp_all
  .rw [if_neg e1] at hs';rw [rd _ rfl qe qB];exact hO.cell c' s' hs'
 .simp only [List.length_set];by_cases e1:Nm.u k i j=En c
  .simp_all
  .by_cases e2:k=1/\i=0/\j=0
   .omega
   .refine hO.only k i j hk λe3=>hn ?_;rw [rd (.u k i j) hk e1 qH];exact e3
theorem Qv (s:Yj) (hc:c<C.length) (h:jl st.hp p m C):jl (st.Yf (.u 7 c 0) (.row 3 [jJ s])).hp p m (C.set c s) :=
 jl.set h hc qB λq _ hn=>qH
theorem MY {l:List (Nat×List Nat)} (h:∀ g∈l,∀ i∈g.2,F (En i)=some (En i)):(yj l).map (λy=>y.map (AV.tr F))=yj l:=by
 simp only [yj,sJ];apply lZ;intro g hg;have:(zC g.2).map (λy=>y.map (AV.tr F))=zC g.2:=fO (h g hg)
 simp_all
theorem jl.add {n0:Nm} (h0:n0.Y3=true) (h:jl st.hp p m C) (hs:st.hp n0=some (.row 3 [jJ s])) (hfr:∀ f∈m.YO,∀ c∈f.cells,c<C.length) (hfn:∀ g∈m.YT,∀ c∈g.2,c<C.length):jl (st.move n0 (.u 7 C.length 0)).hp p m (C++[s]):=by
 obtain⟨J,hJ,e,hO⟩:=h
 have rd:∀ q,Nm.under (.u 7 C.length 0) q=false->Nm.under n0 q=false->(st.move n0 (.u 7 C.length 0)).hp q=(st.hp q).map (AO.tr (mv n0 (.u 7 C.length 0))):=λq h1 h2=>by
  simp_all
 have rc:∀ j,(st.move n0 (.u 7 C.length 0)).hp (.c Yn 0 j)=(st.hp (.c Yn 0 j)).map (AO.tr (mv n0 (.u 7 C.length 0))):=λj=>rd _ qB (jZ h0 _ rfl);have fc:∀ j,mv n0 (.u 7 C.length 0) (.c Yn 0 j)=some (.c Yn 0 j):=λj=>by simp [mv,jZ h0 (.c Yn 0 j) rfl]
 have fe:∀ c,c<C.length->mv n0 (.u 7 C.length 0) (En c)=some (En c):=λc hc=>by
  have:¬ C.length=c:=qA;simp [mv,Jf hc,jZ h0 (En c) rfl]
 have o1:=hO.ZP;have o2:=hO.out;have o3:=hO.Zb;have o4:=hO.YT;have o5:=hO.Yt;simp only [ZG] at o1 o2 o3 o4 o5;rw [if_neg qB] at o1 o2 o3 o4 o5
 have eY:(st.move n0 (.u 7 C.length 0)).hp Yn=some (.row 4415 [zJ p m m.YO.length (yc m.YO λk=>(J k).map (AV.tr (mv n0 (.u 7 C.length 0))))]):=by
  rw [rd _ qB (jZ h0 _ rfl),e]
  simp_all[oI]
 refine⟨λk=>(J k).map (AV.tr (mv n0 (.u 7 C.length 0))),λk=>eL,eY,⟨λk=>(J k).map (AV.tr (mv n0 (.u 7 C.length 0))),λk=>eL,mV⟩,?_,?_,?_,?_,?_,λi f hf=>?_,λi f hf=>?_,λi f hf=>?_,λc' s' hs'=>?_,λk a b hk hn=>?_⟩
 .simp only [ZG];rw [if_neg qB,rc,o1];simp
 .simp only [ZG];rw [if_neg qB,rc,o2];simp
 .simp only [ZG];rw [if_neg qB,rc,o3];simp
 .simp only [ZG];rw [if_neg qB,rc,o4];simp only [bU,AO.tr];rw [MY λg hg c hc=>fe c (hfn g hg c hc)]
 .simp only [ZG];rw [if_neg qB,rc,o5];simp
 .have o:=hO.YV i f hf;simp only [ZG] at o ⊢;rw [if_neg qB] at o ⊢;rw [rc,o];simp
 .have o:=hO.cls i f hf
  grind[ZG,AO.tr,fO]
 .obtain⟨j,o⟩:=hO.stack i f hf;simp only [ZG] at o ⊢;rw [if_neg qB] at o ⊢;exact⟨j,by rw [rc,o];simp⟩
 .simp only [ZG];rw [if_neg qB];rcases Dq c' C.length with e1|e1|e1
  .have o:=hO.cell c' s' qe;simp only [ZG] at o;rw [if_neg qB] at o;rw [rd _ (by simp [Jf e1]) (jZ h0 _ rfl),o];simp
  .simp_all
  grind
 .simp only [wk,bS];by_cases e1:k=7/\a=C.length/\b=0
  .omega
  .by_cases e2:k=1/\a=0/\b=0
   .omega
   .have hn2:ZG Yn (.row 4415 [zJ p { m with cells:=C } m.YO.length (yc m.YO J)]) st.hp (.u k a b)≠none:=λe3=>hn (by
     simp only [ZG] at e3 ⊢;rw [if_neg qH] at e3 ⊢
     simp_all)
    rcases hO.only k a b hk hn2 with h1|⟨h1,h2,h3⟩<;>grind
theorem jl.qDU {n0:Nm} {L:Nat} (hL:L=C.length) (h0:n0.Y3=true) (h:jl st.hp p m C) (hs:st.hp n0=some (.row 3 [jJ s])) (hfr:∀ f∈m.YO,∀ c∈f.cells,c<C.length) (hfn:∀ g∈m.YT,∀ c∈g.2,c<C.length):jl (st.move n0 (.u 7 L 0)).hp p m (C++[s]):=by
 subst hL;exact jl.add h0 h hs hfr hfn
end
section
variable {p:YU} {m:Y2} {fs:List YZ} {g:YZ} {h:Nat} {F:Nm->Option Nm} {J:Nat->List AV}
theorem UC (hJ:∀ i,(J i).length=29) (hi:fs.length<151) (hF:∀ j,j≠yo fs.length+2->j≠yo fs.length+3->j≠yo fs.length+28->F (.c Yn 0 j)=some (.c Yn 0 j)) :
  Yo ((zJ p m h (yc fs J)).map (AV.tr F)) (yo fs.length) (Zy fs.length g)=zJ p m h (yc (fs++[g]) λk=>(J k).map (AV.tr F)):=by
 have hl:∀ j,j<32->F (.c Yn 0 j)=some (.c Yn 0 j):=λj hj=>hF j qe qe qe;have eA:(yA p m).map (AV.tr F)=yA p m:=by simp_all[yA]
 have eB:(yB m).map (AV.tr F)=yB m:=by simp_all[yB]
 rw [QY,eA,eB];have e:yA p m++(kI m.globals++(yB m++(cat (λi=>(yc fs J i).map (AV.tr F)) 151++yZ m h)))=zJ p m h λi=>(yc fs J i).map (AV.tr F):=rfl;rw [e,show yo fs.length=32+(29 * fs.length+0) by simp];refine Gb (λi=>by simp [wP hJ]) hi qB (λk hk=>?_) ?_
 .unfold yc;rcases Dq k fs.length with e|e|e
  .rw [dX e,gE e];have h1:∀ a,a<29->F (.c Yn 0 (32+29 * k+a))=some (.c Yn 0 (32+29 * k+a)):=λa ha=>hF _ qe qe qe
   simp_all[Zy]
  .omega
  .rw [nT qv,nT qA]
 simp_all[wP,Bi,Yo]
end
def sp (hp:Nm->Option AO) (p:YU) (m M:Y2) (h:Nat):Prop:=∃ J:Nat->List AV,(∀ i,(J i).length=29)/\hp Yn=some (.row 4415 [zJ p m h (yc M.YO J)])/\YQ (ZG Yn (.row 4415 [zJ p M M.YO.length (yc M.YO J)]) hp) p M
section
variable {hp hp':Nm->Option AO} {p:YU} {m m' M:Y2} {h h' k:Nat} {R:List AV} {v:AV}
theorem sp.row (hY:sp hp p m M h):∃ R,hp Yn=some (.row 4415 [R])/\R.length=4415/\R[4411]?=some (iv h)/\R[4412]?=some (iv m.deep)/\R[4413]?=some (iv m.made)/\R[4414]?=some (iv m.cells.length):=by
 obtain⟨J,hJ,e,_⟩:=hY;have hc:=wP (fs:=M.YO) hJ
 grind[ae,dY,KG,KF,KE]
theorem sp.set (hY:sp hp p m M h) (hr:hp Yn=some (.row 4415 [R])) (h0:hp' Yn=some (.row 4415 [Yo R k [v]]))
  (hs:∀ J:Nat->List AV,(∀ i,(yc M.YO J i).length=29)->Yo (zJ p m h (yc M.YO J)) k [v]=zJ p m' h' (yc M.YO J)) (hh:∀ q,DM q=true->q≠Yn->hp' q=hp q):sp hp' p m' M h':=by
 obtain⟨J,hJ,e,hO⟩:=hY;refine⟨J,hJ,?_,hO.Yq (f:=some) (λ_ _=>rfl) λq hq=>?_⟩
 .grind[wP]
 .by_cases h1:q=Yn
  .grind[ZG,AO.Yg]
  .simp only [ZG];rw [if_neg h1,if_neg h1,hh q hq h1]
   cases hp q <;> simp [AO.Yg]
theorem sp.done (hY:sp hp p m M h) (hs:∀ J:Nat->List AV,zJ p m h (yc M.YO J)=zJ p M M.YO.length (yc M.YO J)):YQ hp p M:=by
 obtain⟨J,hJ,e,hO⟩:=hY;refine hO.Yq (f:=some) (λ_ _=>rfl) λq hq=>?_;by_cases h1:q=Yn
 .grind[ZG,AO.Yg]
 .simp only [ZG];rw [if_neg h1]
  cases hp q <;> simp [AO.Yg]
end
section
variable {p:YU} {m:Y2} {fs:List YZ} {f g:YZ} {o:Int×Int} {v:Y6}
theorem ox (h1:2<=o.1) (h2:o.1<=13) (n8:o.1≠8) (n11:o.1≠11):uq p m fs f o=jw m fs f o ((o.1 - 2) % 3).toNat (dW p f o):=by
 have h0:¬ o.1=0:=qA;simp only [uq];rw [if_neg h0,if_pos ⟨h1,h2⟩];have h3:(o.1 - 2) % 3=0\/(o.1 - 2) % 3=1\/(o.1 - 2) % 3=2:=qA;rcases h3 with h|h|h
 .grind[dW,vw,jw]
 .rw [h,if_neg qA,if_pos rfl]
  rfl
 grind[EF,jw]
theorem HK (h:o.1=8\/o.1=11):uq p m fs f o=vw p m fs f o:=by
 grind[uq]
theorem PL (h0:¬ o.1=0) (h:¬ (2<=o.1/\o.1<=13)):uq p m fs f o=yd p m fs f o:=by
 grind[uq]
end
theorem nw:kI qc=[bv false,iv 0,iv 0,bv false,iv 0,iv 0,bv false,iv 0,iv 0,bv false,iv 0,iv 0,bv false,iv 0,iv 0,bv false,iv 0,iv 0,bv false,iv 0,iv 0,bv false,iv 0,iv 0]:=rfl
section
variable {hp hp':Nm->Option AO} {p:YU} {m:Y2} {C:List Yj} {g:YZ} {F:Nm->Option Nm} {R:List AV} {mk dp i c:Nat} {f:YZ} {s:Yj}
theorem jl.ZP (h:jl hp p m C):hp (.c Yn 0 1)=some (.row 1 (vD p p.length)):=by grind[ZG,YQ.ZP,jl]
theorem jl.out (h:jl hp p m C):hp (.c Yn 0 4)=some (.row 1 (qS m.out)):=by obtain⟨J,_,_,hO⟩:=h;simpa [ZG] using hO.out
theorem jl.Zb (h:jl hp p m C):hp (.c Yn 0 5)=some (.row 2 (vv m.trace)):=by obtain⟨J,_,_,hO⟩:=h;simpa [ZG] using hO.Zb
theorem jl.YT (h:jl hp p m C):hp (.c Yn 0 30)=some (.row 2 (yj m.YT)):=by obtain⟨J,_,_,hO⟩:=h;simpa [ZG] using hO.YT
theorem jl.Yt (h:jl hp p m C):hp (.c Yn 0 31)=some (.row 24 (uL m.YP)):=by obtain⟨J,_,_,hO⟩:=h;simpa [ZG] using hO.Yt
theorem jl.cell (h:jl hp p m C) (hc:C[c]?=some s):hp (En c)=some (.row 3 [jJ s]):=by obtain⟨J,_,_,hO⟩:=h;simpa [ZG] using hO.cell c s hc
theorem jl.beg (h:jl hp p m C) (hi:m.YO.length<151) (hr:hp Yn=some (.row 4415 [R]))
  (hF:∀ j,j≠yo m.YO.length+2->j≠yo m.YO.length+3->j≠yo m.YO.length+28->F (.c Yn 0 j)=some (.c Yn 0 j))
  (h0:hp' Yn=some (.row 4415 [Yo (R.map (AV.tr F)) (yo m.YO.length) (Zy m.YO.length g)]))
  (h6t:hp' (.c Yn 0 (yo m.YO.length+2))=some (.row 3 (qU g.YV))) (h7t:hp' (.c Yn 0 (yo m.YO.length+3))=some (.row 1 (zC g.cells))) (h8t:hp' (.c Yn 0 (yo m.YO.length+28))=some (.row 2 (zf g.stack)))
  (h1:hp' (.c Yn 0 1)=some (.row 1 (vD p p.length)):=by simp [h.ZP])
  (h2:hp' (.c Yn 0 4)=some (.row 1 (qS m.out)):=by simp [h.out])
  (h3:hp' (.c Yn 0 5)=some (.row 2 (vv m.trace)):=by simp [h.Zb])
  (h4:hp' (.c Yn 0 30)=some (.row 2 (yj m.YT)):=by simp [h.YT])
  (h5:hp' (.c Yn 0 31)=some (.row 24 (uL m.YP)):=by simp [h.Yt])
  (h6:∀ (i:Nat) x,i<m.YO.length->hp (.c Yn 0 (32+29 * i+2))=some (.row 3 (qU x))->hp' (.c Yn 0 (32+29 * i+2))=some (.row 3 (qU x)):=by intro i x hi hx;have e:=oG hi;simp [hx,e.1,e.2.1,e.2.2.1,e.2.2.2])
  (h7:∀ (i:Nat) x,i<m.YO.length->hp (.c Yn 0 (32+29 * i+3))=some (.row 1 (zC x))->hp' (.c Yn 0 (32+29 * i+3))=some (.row 1 (zC x)):=by intro i x hi hx;have e:=oG hi;simp [hx,e.1,e.2.1,e.2.2.1,e.2.2.2])
  (h8:∀ (i:Nat) x,i<m.YO.length->hp (.c Yn 0 (32+29 * i+28))=some (.row 2 (zf x))->hp' (.c Yn 0 (32+29 * i+28))=some (.row 2 (zf x)):=by intro i x hi hx;have e:=oG hi;simp [hx,e.1,e.2.1,e.2.2.1,e.2.2.2])
  (h9:∀ (c:Nat) s,C[c]?=some s->hp' (En c)=some (.row 3 [jJ s]):=by intro c s hc;simp [h.cell hc])
  (hA:∀ k i j,fM k=true->¬ (k=1/\i=0/\j=0)->hp' (.u k i j)≠none->hp (.u k i j)≠none:=by intro k i j hk e hn;simpa [hk,e] using hn) :
  sp hp' p m { m with cells:=C,made:=mk,deep:=dp,YO:=m.YO++[g] } m.YO.length:=by
 obtain⟨J,hJ,e,hO⟩:=h;have hrow:=UC (p:=p) (m:=m) (g:=g) (h:=m.YO.length) (F:=F) hJ hi hF;have hJ':∀ i,((λk=>(J k).map (AV.tr F)) i).length=29:=λi=>eL
 have key:∀ (i:Nat) f',(m.YO++[g])[i]?=some f'->(i=m.YO.length/\f'=g)\/(i<m.YO.length/\m.YO[i]?=some f'):=by
  grind
 refine⟨λk=>(J k).map (AV.tr F),hJ',?_,⟨λk=>(J k).map (AV.tr F),hJ',?_⟩,qH,qH,qH,qH,qH,λi f' hf=>?_,λi f' hf=>?_,λi f' hf=>?_,λc s hc=>?_,λk i j hk hn=>?_⟩
 .simp_all
 .simp [ZG]
 .simp only [ZG];rw [if_neg qB];rcases key i f' hf with⟨rfl,rfl⟩|⟨a,b⟩
  .exact h6t
  .have:=hO.YV i f' b
   grind[ZG]
 .simp only [ZG];rw [if_neg qB];rcases key i f' hf with⟨rfl,rfl⟩|⟨a,b⟩
  .exact h7t
  .have:=hO.cls i f' b
   grind[ZG]
 .simp only [ZG];rw [if_neg qB];rcases key i f' hf with⟨rfl,rfl⟩|⟨a,b⟩
  .exact⟨[],qH⟩
  .obtain⟨j,this⟩:=hO.stack i f' b
   grind[ZG]
 .simp_all
 .by_cases e:k=1/\i=0/\j=0
  .omega
  .refine hO.only k i j hk ?_
   grind[ZG]
end
section
variable {p:YU} {m:Y2} {fs:List YZ} {f:YZ} {b n:Nat} {k:Y4}
theorem Un (hP:Yl p) (hk:p[b]?=some k) (hl:fH p b<=1):(qd p b).params=[]\/∃ x,(qd p b).params=[x]/\((x∈qG p b/\x∉qC p b)\/(x∉qG p b/\x∈qC p b)):=by
 have hkp:(qd p b).params=k.params:=kR;have hpn:k.params.length<=1:=by grind[fH]
 rw [hkp]
 match h:k.params,hpn with
 | [],_=>simp
 | [x],_ =>
  grind[wg,ot]
theorem KN {l:List Y6}:∀ r∈zf l,r.length=2:=by
 grind[zf]
theorem DY {l:List Nat}:∀ r∈zC l,r.length=1:=by
 grind[zC]
theorem BQ {cs:List Nat} {vs:List Y6}:(ze p m b cs vs).en=m.en:=by
 unfold ze
 grind
theorem HU {v:Y6}:(zd m fs v).en=m.en:=by
 grind[zd]
theorem oC {st:St} {t i:Nat} {x:AV} (h:YQ st.hp p m):YQ (st.stl t (.s i) x).hp p m :=
 h.Yq (f:=kl (.s i)) (λk hk=>Ax) λk hk=>by
  have:=(Zq (λ_=>qJ) hk i).2;simp [this]
theorem MOk.frc {g:YZ} (h:MOk p m fs f) (hg:g.cells=f.cells):∀ f'∈fs++[g],∀ c∈f'.cells,c<m.cells.length:=by
 intro f' hf c hc;rw [cK,kg] at hf;rcases hf with hf|rfl
 .exact (h.low f' hf).cr c hc
 .rw [hg] at hc;exact h.top.cr c hc
theorem MOk.fnc (h:MOk p m fs f):∀ g∈m.YT,∀ c∈g.2,c<m.cells.length:=λg hg=>by
 obtain⟨k,_,_,_,h4⟩:=h.YT g hg;exact h4
end
theorem OL {X:Ctx} {st:St} {Q:Ex->St->Prop} {A B:Code} (l:Nat) (hA:findLabel A l=none) (I:Nat->St->Prop) (h0:qa X A (ER (λs=>∃ n,I n s) (Sc l (λ_=>False) Q)) st)
  (hpass:∀ n s,s.n=X.n->s.gl=X.gl->I n s->qa X B (Sc l (λs'=>∃ m,m<n/\I m s') Q) s):qa X (.scope (.seq A (.seq (.label l) B))) Q st:=by
 refine RI l (rest:=.seq .skip B) (by simp [findLabel,hA]) I ?_ λn s h1 h2 hI=>uZ (yH (q9 (hpass n s h1 h2 hI)));refine uZ (h0.mono λe s he=>?_)
 cases e with
 | normal =>
  obtain⟨n,hI⟩:=he;intro a w hR;have hR1:=hR;obtain⟨C,g,x1,x2,x3,x4,x5,x6⟩:=hR1;refine uZ (dZ (q9 ((hpass n s x3 x4 hI).mono λe s he=>?_))) a w hR
  cases e with
  | goto l' =>
   obtain⟨e1,m,_,hm⟩:=he;exact⟨e1,m,hm⟩
  | normal=>exact he
  | exit id=>exact he
  | ret=>exact he
  | pan x=>exact he
 | goto l'=>exact he.2.elim
 | exit id=>exact he
 | ret=>exact he
 | pan x=>exact he
theorem Kz {g:Gh} {w:World} {v:Value} {z:Nat} (h:RV g w v (.sc (.slice none 0 0))):RV g w v (.sl z []):=by
 rw [h.Ye];exact .Zv _ _ _
theorem Yc.args {P:Program} {gl:Nat->Option (List AV)} {f:FuncId} {D:Nm->Bool} {az az':List AV} {H:Nm->Option AO} {R E:Nm->AV->(Nm->Option AO)->Prop} (h:Yc P gl f D az H R E)
  (hl:az'.length=az.length) (ha:∀ (j:Nat) x',az[j]?=some x'->∃ x,az'[j]?=some x/\∀ g w v,RV g w v x->RV g w v x'):Yc P gl f D az' H R E:=by
 refine⟨h.1,λroot C w g args h1 h2 h3 h4 h5 h6 h7=>h.2 root C w g args h1 h2 h3 h4 h5 (by rw [h6,hl]) λj v x' hv hx=>?_⟩
 grind
section
variable {p:YU} {f:YZ} {nf nk nc e b:Nat} {k:Y4} {P:Program} {gl:Nat->Option (List AV)} {c:FuncId} {D:Nm->Bool} {x y:AV} {cs:List (List AV)} {z z':Nat} {H:Nm->Option AO} {R E:Nm->AV->(Nm->Option AO)->Prop}
theorem VM (hh:zD p) (h:FOk p nf nk nc f e) (hk:p[b]?=some k) (hpar:k.parent=f.YS):∀ y∈z8 p b,∃ q:Nat,y=q/\q<f.cells.length:=by
 grind[ab,Mv,zu]
theorem Yc.qDQ (h:Yc P gl c D [x,y,.sl z cs,.sl z' []] H R E):Yc P gl c D [x,y,.sl z cs,.sc (.slice none 0 0)] H R E :=
 h.args rfl λj a ha=>match j,ha with
  | 0,ha=>⟨_,rfl,λ_ _ _ hv=>qH⟩
  | 1,ha=>⟨_,rfl,λ_ _ _ hv=>qH⟩
  | 2,ha=>⟨_,rfl,λ_ _ _ hv=>qH⟩
  | 3,ha=>⟨_,rfl,λ_ _ _ hv=>by grind[Kz]⟩
  | j+4,ha=>by simp at ha
theorem Yc.qCp (h:Yc P gl c D [x,y,.sl z [],.sl z' []] H R E):Yc P gl c D [x,y,.sc (.slice none 0 0),.sc (.slice none 0 0)] H R E :=
 h.args rfl λj a ha=>match j,ha with
  | 0,ha=>⟨_,rfl,λ_ _ _ hv=>qH⟩
  | 1,ha=>⟨_,rfl,λ_ _ _ hv=>qH⟩
  | 2,ha=>⟨_,rfl,λ_ _ _ hv=>by grind[Kz]⟩
  | 3,ha=>⟨_,rfl,λ_ _ _ hv=>by grind[Kz]⟩
  | j+4,ha=>by simp at ha
end
section
variable {st:St} {N V m n:Nm} {d t:Nat} {D:Nm->Bool} {hp hp' H':Nm->Option AO}
theorem L8 {F:Nm->Option Nm} {y:AV} (hV:V.ZN=true) (hNV:Nm.under V N=false) (hDN:∀ k,Nm.under N k=true->D k=true) (hDV:∀ k,Nm.under V k=true->D k=false) (hF:∀ k,(D k||Nm.under V k)=true->F k=some k)
  (hR:∀ k,(D k||Nm.under V k)=true->H' k=(yb (λk=>D k||Nm.under V k) (Z6 N V st.hp) k).map (AO.tr F)) :
  mh D ((((st.move N V).call d (λk=>D k||Nm.under V k) (yb (λk=>D k||Nm.under V k) (st.move N V).hp) H').put (some d) y).move V N).hp st.hp:=by
 refine⟨λk=>((mv N V k).bind F).bind (mv V N),λk hk=>?_,λk hk=>?_⟩
 .grind[Nm.ZC,mv,Nm.Zn]
 .have e2:∀ o:AO,((o.tr (mv N V)).tr F).tr (mv V N)=o.tr (λk=>((mv N V k).bind F).bind (mv V N)):=by
   grind[AO.ZM]
  by_cases hx:Nm.under N k=true
  .have hu:Nm.under V (Nm.Yq N V k)=true:=Nm.ZC k hx;have hb:=Nm.Zn (k1:=V) hx;have hb2:mv V N (Nm.Yq N V k)=some k:=qH;have hb3:mv N V k=some (Nm.Yq N V k):=qH;have hR1:=hR (Nm.Yq N V k) (by simp [hu]);simp only [yb,hu,Bool.or_true,if_true,Z6,hb,hb3] at hR1;simp only [St.move,St.nm,St.put,St.call];simp only [Z6,hx,if_true,hb2,hu,Bool.or_true,BS,hR1]
   cases st.hp k<;>grind
  .simp only [a8] at hx
   have hv:Nm.under V k=false:=by
    grind
   have hR1:=hR k (by simp [hk]);simp only [yb,hk,BS,if_true,Z6,hx,hv,cH,if_false] at hR1;simp only [St.move,St.nm,St.put,St.call];simp only [Z6,hx,hv,hk,cH,if_false,BS,if_true,hR1]
   cases st.hp k<;>grind
section
variable {H:Nm->Option AO} {i j:Nat} {o:AO} {a:AV} {c:Option Nat} {sbs:List (Nm×Nm)}
theorem mh.step {F:Nm->Option Nm} (h:mh D hp H) (hF:∀ k,D k=true->F k=some k) (hh:∀ k,D k=true->hp' k=(hp k).map (AO.tr F)):mh D hp' H:=by
 obtain⟨G,h1,h2⟩:=h;refine⟨λk=>(G k).bind F,λk hk=>qH,λk hk=>?_⟩;rw [hh k hk,h2 k hk]
 cases H k<;>grind[AO.ZM]
theorem R5:mh D H H:=⟨some,λ_ _=>rfl,λk _=>by cases H k <;> simp [AO.Yg]⟩
theorem Q4 (h:mh D st.hp H):mh D (st.put c a).hp H:=by cases c <;> exact h
theorem Ki (hD:∀ k,D k=true->k.Y3=false) (h:mh D st.hp H):mh D (st.Yf (.s i) o).hp H :=
 h.step (F:=some) (λ_ _=>rfl) λk hk=>by
  rw [E2,if_neg (Zq hD hk i).1]
  cases st.hp k <;> simp [AO.Yg]
theorem Kk (hD:∀ k,D k=true->k.Y3=false) (h:mh D st.hp H):mh D (st.kill (.s i)).hp H :=
 h.step (F:=kl (.s i)) (λk hk=>by simp [kl,(Zq hD hk i).2]) λk hk=>by simp [(Zq hD hk i).2]
theorem Kj (hD:∀ k,D k=true->k.Y3=false) (h:mh D st.hp H):mh D (st.move (.s i) (.s j)).hp H :=
 h.step (F:=mv (.s i) (.s j)) (λk hk=>by simp [mv,(Zq hD hk i).2,(Zq hD hk j).2]) λk hk=>by
  rw [SP,(Zq hD hk i).2,(Zq hD hk j).2];simp
theorem Q5 (hD:∀ k,D k=true->k.Y3=false) (h:mh D st.hp H):mh D (st.apd i (some (.s j))).hp H :=
 h.step (F:=kl (.s i)) (λk hk=>by simp [kl,(Zq hD hk i).2]) λk hk=>by
  have h1:=(Zq hD hk i).2;have h2:=(Zq hD hk j).1;rw [N7,if_neg (λe=>h2 (sI e).symm)];simp [h1]
theorem Tx (hD:∀ k,D k=true->k.Y3=false) (hs:∀ q∈sbs,q.1.Y3=true) (h:mh D hp H):mh D (lO D sbs hp) H :=
 h.step (F:=jY D sbs) (λk hk=>pa hD hk hs) λk hk=>qH
end
end
section
variable {X:Ctx} {st:St} {K:St->Prop} {E:AV->St->Prop} {d f:Nat} {ty:TypeId} {pos:String} {aft:Array Edge} {g:Option (Nat×Bool)} {args:Array Operand} {Ts:Array TypeId} {az:List AV}
theorem RE (D:Nm->Bool) (N V:Nm) {z len:Nat} {rows:List (List AV)} (hV:V.ZN=true:=by rfl) (hN:N.ZN=false:=by rfl) (hVe:X.ext V=false) (hDr:∀ k,D k=true->k.Y3=false) (hNV:Nm.under V N=false) (hDN:∀ k,Nm.under N k=true->D k=true) (hDV:∀ k,Nm.under V k=true->D k=false) (hs:(st.hp N).isSome=true)
  (hext:∀ k i j,X.ext (.u k i j)=true->D (.u k i j)=false\/st.hp (.u k i j)≠none) (hNd:Nm.under N (.s d)=false) (hrow:rows.map (λr=>r.map (AV.tr (mv V N)))=rows) (hd:d<X.n:=by first|(simp;done)|fail)
  (ha:args.toList.map (ev (st.move N V))=az:=by simp [fx];first|done|rfl)
  (hF:Yc X.P X.gl f (λk=>D k||Nm.under V k) az (yb (λk=>D k||Nm.under V k) (Z6 N V st.hp)) (λr y H'=>(y=.hs r z 0 len/\H' r=some (.row z rows))/\mh (λk=>D k||Nm.under V k) H' (yb (λk=>D k||Nm.under V k) (Z6 N V st.hp))) Yz)
  (h:∀ hp',mh D hp' st.hp->hp' (.s d)=some (.row z rows)->K ((st.qAd N V d D hp').put (some d) (.hs (.s d) z 0 len))) :
  qO X ⟨some d,.call ⟨.value (.func f),args,Ts⟩,ty,pos,aft,g⟩ K E st:=by
 refine Ba N V (.inl hN) (.inr hVe) (yu V N (.inr hVe) (.inl hN) ?_);refine iV (λk=>D k||Nm.under V k) (λk hk=>?_) (λk i j he=>?_) hd ha hF ?_
 .grind[qZ]
 .by_cases hD:D (.u k i j)=true
  .right;rcases hext k i j he with h|h
   .simp_all
   .have hn:Nm.under N (.u k i j)=false:=by grind[Nm.ZN,Nm.under]
    have hv:Nm.under V (.u k i j)=false:=by
     grind
    simp_all
  grind[Nm.under]
 .rintro y H' ⟨⟨rfl,hr⟩,F,hF1,hF2⟩;have hVd:Nm.under V (.s d)=false:=by cases V <;> simp [Nm.ZN] at *
  obtain⟨q,hq,e⟩:=L9 (d:=d) (H':=H') (st:=st) (y:=.hs (.s d) z 0 len) hV hNV hDN hDV hDr hs qH;have hS:=L8 (d:=d) (y:=.hs (.s d) z 0 len) (st:=st) hV hNV hDN hDV hF1 hF2
  have hq2:q.hp (.s d)=some (.row z rows):=by
   rw [hq];simp [Z6,hVd,hNd,hr,AO.tr,hrow]
  grind
end
section
variable {p:YU} {m:Y2} {fs:List YZ} {f:YZ} {o:Int×Int}
theorem SI (hM:MOk p m fs f) (ho:(yg p f.YS)[f.pc]?=some o) (h:o.1=16\/o.1=17):m.made<=150:=by
 have h1:=hM.made
 have h2:1<=vQ p f:=by
  unfold vQ;rw [ca ho]
  grind[vA]
 omega
variable {c x:Int} {w:Nat}
theorem AC (h1:2<=c) (h2:c<=4) (hw:((c - 2) % 3).toNat=w):uq p m fs f (c,x)=jw m fs f (c,x) w 2:=by
 grind[ox,dW]
theorem HL (h1:5<=c) (h2:c<=7) (hw:((c - 2) % 3).toNat=w):uq p m fs f (c,x)=jw m fs f (c,x) w (if x<(qC p f.YS).length then 2 else 3):=by
 grind[ox,dW]
theorem AD (h1:9<=c) (h2:c<=13) (h3:c≠11) (hw:((c - 2) % 3).toNat=w):uq p m fs f (c,x)=jw m fs f (c,x) w 4:=by
 grind[ox,dW]
end
section
variable {p:YU} {m:Y2} {fs:List YZ} {f:YZ} {o:Int×Int} {b n:Nat} {v:Y6} {k:Y4}
theorem Kb (hP:Yl p):(qd p 0).params=[]:=by
 have hl:=hP.sh.len;obtain⟨k,hk⟩:∃ k,p[0]?=some k:=⟨_,gE qA⟩;have:=hP.sh.head 0 k hk
 grind[qd]
theorem Hy {cs:List Nat} {vs:List Y6}:(ze p m b cs vs).YO≠[]:=by
 unfold ze
 split
 .split <;> simp
 .simp
theorem Od (hP:Yl p):¬ (qb p n).ended:=by
 rintro (h|h)
 .exact Hy h
 .exact h BQ
theorem HT (h:fs≠[]):(zd m fs v).YO≠[]:=by
 unfold zd
 split<;>simp_all
theorem Kq {s:Yj}:(Yy m fs f o s).YO≠[]:=by
 unfold Yy
 repeat' split<;>simp_all
theorem Uo (hc:0<=o.1/\o.1<=20) (h:o.1=20->fs≠[]):(uq p m fs f o).YO≠[]:=by
 have hT:∀ g:YZ,(m.top fs g).YO≠[]:=λg=>qB;have hS:∀ (g:YZ) (e:Int),(m.stop fs g e).YO≠[]:=λg e=>qB;unfold uq
 split
 .grind[bI]
 .split
  .split
   .grind[vw]
   .split
    .exact Kq
    grind[EF,Kq]
  grind[yd,Hy,Jl,fj,iQ,HT]
end
section
variable {key:Nat->Nm} {es:List Nat} {l l':List AV} {i j z n:Nat} {x:AV} {m:Nm}
theorem Qr:zcs key es j (l++l')=zcs key es j l++zcs key es (j+l.length) l':=by
 induction l generalizing j<;>grind[zcs]
theorem Qq:(zcs key es j l).length=l.length:=by
 induction l generalizing j<;>simp_all
theorem Cf (hk:∀ a b,key a=key b->a=b) (h:l[i]?=some x) (hx:zH x=true):(zY key es j l).find? (λp=>decide (p.1=key (j+i)))=some (key (j+i),es.getD (j+i) 0):=by
 induction l generalizing i j with
 | nil=>cases h
 | cons y l ih =>
  cases i<;>grind[zY]
theorem pC (h:∀ a,m≠key a):(zY key es j l).find? (λp=>decide (p.1=m))=none:=by
 induction l generalizing j<;>grind[zY]
theorem QA:cat (λi=>(l.drop (z * i)).take z) n=l.take (z * n):=by
 induction n with
 | zero=>simp [cat]
 | succ n ih=>rw [cd,ih,Nat.mul_succ,List.take_add]
end
structure qAo (hp:Nm->Option AO) (p:YU) (n b:Nat):Prop where
 top:∃ J:Nat->List AV,(∀ i,(J i).length=29)/\hp Yn=some (.row 4415 [Yo (zJ p (zR n) 0 J) 1 [.hs (.c Yn 0 1) 1 0 b]])
 ZP:hp (.c Yn 0 1)=some (.row 1 (vD p b))
 out:hp (.c Yn 0 4)=some (.row 1 [])
 Zb:hp (.c Yn 0 5)=some (.row 2 [])
 YT:hp (.c Yn 0 30)=some (.row 2 [])
 Yt:hp (.c Yn 0 31)=some (.row 24 [])
 only:∀ k i j,fM k=true->hp (.u k i j)≠none->k=1/\i=0/\j=0
section
variable {hp hp':Nm->Option AO} {p:YU} {n b:Nat} {R:List AV}
theorem qAo.own (h:qAo hp p n p.length):YQ hp p (zR n):=by
 obtain⟨J,hJ,e⟩:=h.top;refine⟨⟨J,hJ,?_⟩,h.ZP,by grind[zR,qS,out],by grind[zR,vv,Zb],by simpa [zR] using h.YT,by simpa [zR] using h.Yt,λi f hf=>rN,λi f hf=>rN,λi f hf=>rN,λc s hs=>rN,λk i j hk hn=>.inl (h.only k i j hk hn)⟩;rw [e]
 rfl
theorem qAo.row (h:qAo hp p n b):∃ R,hp Yn=some (.row 4415 [R])/\R.length=4415/\R[1]?=some (.hs (.c Yn 0 1) 1 0 b):=by
 obtain⟨J,hJ,e⟩:=h.top;exact⟨_,e,by grind[R3,ae],rfl⟩
theorem qAo.step {b':Nat} {R':List AV} (h:qAo hp p n b) (hr:hp Yn=some (.row 4415 [R])) (h0:hp' Yn=some (.row 4415 [R'])) (hR:∃ F:Nm->Option Nm,(∀ j,j≠1->F (.c Yn 0 j)=some (.c Yn 0 j))/\R'=(R.map (AV.tr F)).take 1++.hs (.c Yn 0 1) 1 0 b'::(R.map (AV.tr F)).drop 2)
  (h1:hp' (.c Yn 0 1)=some (.row 1 (vD p b')))
  (h2:hp' (.c Yn 0 4)=some (.row 1 []):=by simp [h.out]) (h3:hp' (.c Yn 0 5)=some (.row 2 []):=by simp [h.Zb])
  (h4:hp' (.c Yn 0 30)=some (.row 2 []):=by simp [h.YT]) (h5:hp' (.c Yn 0 31)=some (.row 24 []):=by simp [h.Yt])
  (hA:∀ k i j,fM k=true->¬ (k=1/\i=0/\j=0)->hp' (.u k i j)≠none->hp (.u k i j)≠none:=by intro k i j hk e hn;simpa [hk,e] using hn):qAo hp' p n b':=by
 obtain⟨J,hJ,e⟩:=h.top;obtain⟨F,hF,rfl⟩:=hR;refine⟨⟨λi=>(J i).map (AV.tr F),λi=>eL,?_⟩,h1,h2,h3,h4,h5,λk i j hk hn=>?_⟩
 .rw [h0,<- qBD hr e]
  have hm:(zJ p (zR n) 0 J).map (AV.tr F)=(yA p (zR n)).map (AV.tr F)++(kI qc++(yB (zR n)++(cat (λi=>(J i).map (AV.tr F)) 151++yZ (zR n) 0))):=by
   simp_all[QY,yB,zR]
  simp only [Yo,sQ,Dr,Je,hm]
  simp_all[zJ,yA,zR]
 .by_cases e:k=1/\i=0/\j=0
  .exact e
  .exact h.only k i j hk (hA k i j hk e hn)
theorem LO {P:Program} {T:TypeId} {st:St} {Z:List AV} {d:Nat} (hz:Z.length=4415) (hz1:Z.take 32=[.sc (.slice none 0 0),.sc (.slice none 0 0),iv 0,iv 0,.sc (.slice none 0 0),.sc (.slice none 0 0)]++(kI qc++[.sc (.slice none 0 0),.sc (.slice none 0 0)])) (hz2:Z.drop 4411=[iv 0,iv 0,iv 0,iv 0])
  (he:∀ k,(k=1\/k=4)->(ZR P T).getD k 0=1) (he2:∀ k,(k=5\/k=30)->(ZR P T).getD k 0=2) (he31:(ZR P T).getD 31 0=24)
  (hD:∀ k i j,fM k=true->st.hp (.u k i j)=none) :
  qAo ((((St.Yp (zY (Nm.c (.s d) 0) (ZR P T) 0 (Yo (Yo (Yo Z 0 [csl (qg p p.length)]) 2 [iv n]) 3 [iv 0])) (st.kill (.s d))).Yf (.s d) (.row 4415 [zcs (Nm.c (.s d) 0) (ZR P T) 0 (Yo (Yo (Yo Z 0 [csl (qg p p.length)]) 2 [iv n]) 3 [iv 0])])).move (.s d) Yn).hp) p n 0:=by
 obtain⟨mid,hmid,hml⟩:∃ mid,Z.drop 32=mid++[iv 0,iv 0,iv 0,iv 0]/\mid.length=29 * 151:=by
  refine⟨(Z.drop 32).take 4379,?_,by simp [hz]⟩
  grind[List.take_append_drop,List.drop_drop]
 have hZ:Z=([.sc (.slice none 0 0),.sc (.slice none 0 0),iv 0,iv 0,.sc (.slice none 0 0),.sc (.slice none 0 0)]++(kI qc++[.sc (.slice none 0 0),.sc (.slice none 0 0)]))++(mid++[iv 0,iv 0,iv 0,iv 0]):=by
  grind[List.take_append_drop]
 obtain⟨C,hC⟩:∃ C,C=Yo (Yo (Yo Z 0 [csl (qg p p.length)]) 2 [iv n]) 3 [iv 0]:=⟨_,rfl⟩
 have hC2:C=([csl (qg p p.length),.sc (.slice none 0 0),iv n,iv 0,.sc (.slice none 0 0),.sc (.slice none 0 0)]++(kI qc++[.sc (.slice none 0 0),.sc (.slice none 0 0)]))++(mid++[iv 0,iv 0,iv 0,iv 0]):=by
  simp_all[Yo]
 have e1:=he 1 (.inl rfl);have e4:=he 4 (.inr rfl);have e5:=he2 5 (.inl rfl);have e30:=he2 30 (.inr rfl);rw [<- hC];generalize ZR P T=es at *
 have hrow:zcs (Nm.c (.s d) 0) es 0 C=([csl (qg p p.length),.hs (.c (.s d) 0 1) 1 0 0,iv n,iv 0,.hs (.c (.s d) 0 4) 1 0 0,.hs (.c (.s d) 0 5) 2 0 0]++(kI qc++[.hs (.c (.s d) 0 30) 2 0 0,.hs (.c (.s d) 0 31) 24 0 0]))++(zcs (Nm.c (.s d) 0) es 32 mid++[iv 0,iv 0,iv 0,iv 0]):=by
  rw [hC2];simp only [sM] at e1 e4 e5 e30 he31;simp [nw,Qr,zcs,zc,zH,e1,e4,e5,e30,he31]
 have hk:∀ k z,C[k]?=some (.sc (.slice none 0 0))->es.getD k 0=z->(St.Yp (zY (Nm.c (.s d) 0) es 0 C) (st.kill (.s d))).hp (.c (.s d) 0 k)=some (.row z []):=by
  intro k z h1 h2;have:=Cf (es:=es) (j:=0) (key:=Nm.c (.s d) 0) (λa b e=>by injection e) h1 rfl
  grind[gT]
 have hc:∀ k,k<32->C[k]?=([csl (qg p p.length),.sc (.slice none 0 0),iv n,iv 0,.sc (.slice none 0 0),.sc (.slice none 0 0)]++(kI qc++[.sc (.slice none 0 0),.sc (.slice none 0 0)]))[k]?:=λk hk=>by
  grind
 have g1:=hk 1 1 qH e1;have g4:=hk 4 1 qH e4;have g5:=hk 5 2 qH e5;have g30:=hk 30 2 qH e30;have g31:=hk 31 24 qH he31;rw [hrow];obtain⟨mm,hmm⟩:∃ mm,mm=(zcs (Nm.c (.s d) 0) es 32 mid).map (AV.tr (mv (.s d) Yn)):=⟨_,rfl⟩;have hmml:mm.length=29 * 151:=by grind[Qq]
 obtain⟨J,hJ1,hJ2⟩:∃ J:Nat->List AV,(∀ i,(J i).length=29)/\cat J 151=mm:=by
  refine⟨λi=>if i<151 then (mm.drop (29 * i)).take 29 else List.replicate 29 .bot,λi=>?_,?_⟩
  .dsimp only
   split
   .simp [hmml];omega
   .simp
  simp_all[Df,QA,bC]
 refine⟨⟨J,hJ1,?_⟩,qH,qH,qH,qH,qH,λk i j hk hn=>?_⟩
 .simp_all[zJ,yA,yB,yZ,Yo,zR]
 .by_cases e:k=1/\i=0/\j=0
  .exact e
  .refine absurd ?_ hn
   have hno:(St.Yp (zY (Nm.c (.s d) 0) es 0 C) (st.kill (.s d))).hp (.u k i j)=none:=by
    rw [gT,pC λa e=>uN]
    simp_all
   simp_all
end
section
variable {P:Program} {T:TypeId} {l:List Value} {a b c:AV} {e0 e2 e3:TypeId} {key:Nat->Nm} {es:List Nat} {j:Nat} {L:List AV} {x:AV}
theorem N2 (h1:vd P T=true) (h2:yP P T=some l) (hl:l.length=4415) (f0:Yk P T 0=some (0,e0)) (f2:Yk P T 2=some (2,e2)) (f3:Yk P T 3=some (3,e3)) (s0:Yh P e0=1) (s2:Yh P e2=1) (s3:Yh P e3=1)
  (ha:a.cells=some [a]) (hb:b.cells=some [b]) (hc:c.cells=some [c]):Ja P T [(0,a),(2,b),(3,c)]=some (.agg (Yo (Yo (Yo (l.map .sc) 0 [a]) 2 [b]) 3 [c])):=by
 simp_all[Yo]
theorem Qp (h:x∈zcs key es j L):(∃ k z,x=.hs (key k) z 0 0)\/x∈L:=by
 induction L generalizing j<;>grind[zcs,zc]
end
section
variable {X:Ctx} {st:St} {K:St->Prop} {E:AV->St->Prop} {d:Nat} {ty:TypeId} {pos:String} {aft:Array Edge} {g:Option (Nat×Bool)}
theorem Td {T:TypeId} {x:Operand} {cs:List AV} (hd:d<X.n) (hq:(ev st x).cells=some cs) (z:Nat) (hz:cs.length=z) (hsz:Yh X.P T=z) (hs:∀ y∈cs,(∃ v,y=.sc v)\/∃ z rows,y=.sl z rows/\y.tr (kl (.s d))=y)
  (h:K (((St.Yp (zY (Nm.c (.s d) 0) (ZR X.P T) 0 cs) (st.kill (.s d))).Yf (.s d) (.row z [zcs (Nm.c (.s d) 0) (ZR X.P T) 0 cs])).put (some d) (.pt (.s d) 0))) :
  qO X ⟨some d,.box T x,ty,pos,aft,g⟩ K E st:=by
 subst hsz;refine dO hd hq hz ?_ h
 have hkl:cs.map (AV.tr (kl (.s d)))=cs:=by
  rw [lZ (g:=id) λy hy=>?_,List.map_id];rcases hs y hy with⟨v,rfl⟩|⟨z,rows,_,e⟩<;>simp_all
 unfold iN;simp only [hkl];rw [HD λy hy=>?_]
 .rfl
 .rcases Qp hy with⟨k,z,rfl⟩|hy
  .rfl
  .rcases hs y hy with⟨v,rfl⟩|⟨z,rows,rfl,_⟩ <;> rfl
end
noncomputable def iZ (p:YU) (f:Int):List Vw:=if wR p f then kO p (aY p f.toNat) else []
section
variable {p:YU} {f:Int} {b:Nat} {x y:Int}
theorem Gi (hs:Zm p):iZ p f=vh p f:=by
 cases hv:wR p f
 .simp [iZ,vh,hv]
 .obtain⟨hpo,n,rfl,hn⟩:=eF hv;simp [iZ,vh,hv,KO (Yl.of hs hpo) hn]
end
end Go.Hm
end
