import Derived.Test.YtdnebaieamppbaaGreatDoorF17
set_option linter.unusedSimpArgs false
set_option linter.unusedVariables false
set_option maxRecDepth 100000
set_option maxHeartbeats 4000000

section
namespace Go.Hm
open Go Go.RowKit
section
variable {D:Nm->Bool} {a b c:Nat} {l:List AV}
theorem M5 (hD:∀ k,D k=true->k.Y3=false):(l.map (AV.tr (kl (.s a)))).map (AV.tr (jY D []))=l.map (AV.tr (jY D [])):=by
 simp_all[M6]
theorem Pn (hD:∀ k,D k=true->k.Y3=false):(l.map (AV.tr (kl (.s a))∘AV.tr (kl (.s b)))).map (AV.tr (jY D []))=l.map (AV.tr (jY D [])):=by
 rw [<- sJ,M5 hD,M5 hD]
end
abbrev yo (i:Nat):Nat:=32+29 * i
def Qk (D:Nm->Bool) (v:AV) (H:Nm->Option AO):Nm->AV->(Nm->Option AO)->Prop:=λ_ y H'=>y=v/\∀ k,D k=true->H' k=(H k).map (AO.tr (jY D []))
section
variable {hp hp' H H':Nm->Option AO} {p:YU} {m m0 m':Y2} {fs:List YZ} {f g:YZ} {R:List AV} {k:Nat} {r:Nm} {y v:AV} {o:AO}
variable {P:Program} {C:Nat->Prop} {w:World} {g0:Gh} {gl:Nat->Option (List AV)} {n:Nat} {st:St} {K:St->Prop} {E:AV->St->Prop} {d c:Nat} {ty:TypeId} {pos:String} {aft:Array Edge} {gd:Option (Nat×Bool)} {args:Array Operand} {Ts:Array TypeId} {az:List AV} {Rr:Nm->AV->(Nm->Option AO)->Prop}
theorem q7 (h0:YQ H p m0) (hO:YQ st.hp p m) (hl:m0.cells.length<=m.cells.length) (hd:d<n:=by first|(simp;done)|fail) (ha:args.toList.map (ev st)=az:=by simp [fx];first|done|rfl)
  (hF:YQ (yb DM st.hp) p m->Yc P gl c DM az (yb DM st.hp) Rr Yz) (h:∀ y H',Rr (.s d) y H'->K ((st.call d DM (yb DM st.hp) H').put (some d) y)) :
  qO (bz P C w g0 H n gl) ⟨some d,.call ⟨.value (.func c),args,Ts⟩,ty,pos,aft,gd⟩ K E st:=iV DM (λ_=>qJ) (λk i j he=>h0.ext hO hl k i j he) hd ha (hF hO.sub) h
theorem YQ.post (h:YQ hp p m) (hh:∀ q,DM q=true->hp' q=(hp q).map (AO.tr (jY DM []))):YQ hp' p m :=
 h.Yq (f:=jY DM []) (λq hq=>qH) hh
theorem YQ.smp (h:YQ hp p m) (hw:Qk DM v (yb DM hp) r y H'):YQ H' p m:=by
 refine h.post λq hq=>?_;rw [hw.2 q hq]
 simp_all
theorem YQ.Yi (h:YQ (ZG Yn o hp) p m) (hw:xI DM v Yn o (yb DM hp) r y H'):YQ H' p m:=by
 refine h.post λq hq=>?_;rw [hw.2 q hq]
 simp_all
theorem YQ.Z2 (h:YQ hp p m) (hm:m.YO=fs++[f]):∃ (J:Nat->List AV) (j:List Y6),(∀ i,(J i).length=29)/\hp Yn=some (.row 4415 [zJ p m (fs.length+1) (yc (fs++[f]) J)])/\hp (.c Yn 0 (yo fs.length+2))=some (.row 3 (qU f.YV))/\hp (.c Yn 0 (yo fs.length+3))=some (.row 1 (zC f.cells))/\hp (.c Yn 0 (yo fs.length+28))=some (.row 2 (zf (f.stack++j))):=by
 obtain⟨J,hJ,e⟩:=h.top;have hf:m.YO[fs.length]?=some f:=cF;obtain⟨j,hs⟩:=h.stack _ f hf;refine⟨J,j,hJ,?_,h.YV _ f hf,h.cls _ f hf,hs⟩
 simp_all
structure qBV (p:YU) (m:Y2) (i:Nat) (f:YZ) (R:List AV):Prop where
 len:R.length=4415
 r0:R[0]?=some (csl (qg p p.length))
 r1:R[1]?=some (.hs (.c Yn 0 1) 1 0 p.length)
 r2:R[2]?=some (iv m.left)
 r3:R[3]?=some (iv m.en)
 r4:R[4]?=some (.hs (.c Yn 0 4) 1 0 m.out.length)
 r5:R[5]?=some (.hs (.c Yn 0 5) 2 0 m.trace.length)
 r30:R[30]?=some (.hs (.c Yn 0 30) 2 0 m.YT.length)
 r31:R[31]?=some (.hs (.c Yn 0 31) 24 0 m.YP.length)
 h:R[4411]?=some (iv ((i:Int)+1))
 f0:R[yo i]?=some (iv f.YS)
 f1:R[yo i+1]?=some (iv f.pc)
 f2:R[yo i+2]?=some (.hs (.c Yn 0 (yo i+2)) 3 0 f.YV.length)
 f3:R[yo i+3]?=some (.hs (.c Yn 0 (yo i+3)) 1 0 f.cells.length)
 f28:R[yo i+28]?=some (.hs (.c Yn 0 (yo i+28)) 2 0 f.stack.length)
 gl:∀ x j:Nat,x<8->j<3->R[6+(3 * x+j)]?=(jJ (ju m.globals x))[j]?
 nm:∀ x j:Nat,x<8->j<3->R[yo i+4+(3 * x+j)]?=(jJ (ju f.names x))[j]?
 tb:(R.drop (yo i+4)).take 24=kI f.names
theorem Xt {J:Nat->List AV} (hJ:∀ i,(J i).length=29) (hi:fs.length<151):qBV p m fs.length f (zJ p m (fs.length+1) (yc (fs++[f]) J)):=by
 have hc:=wP (fs:=fs++[f]) hJ;have hf:(fs++[f])[fs.length]?=some f:=qB
 have hat:∀ {j:Nat},j<29->(zJ p m (fs.length+1) (yc (fs++[f]) J))[yo fs.length+j]?=(Zy fs.length f)[j]?:=by
  simp_all[dU,Xl,Bi]
 refine⟨ae hc,Gc,T8,T7,T6,T5,T4,RB,RA,?_,?_,?_,?_,?_,?_,λx j hx hj=>T3 hx hj,λx j hx hj=>?_,?_⟩
 .grind[dY]
 .exact (hat (j:=0) qA).trans rfl
 .rw [hat qA];rfl
 .rw [hat qA];rfl
 .rw [hat qA];rfl
 .grind[Jw]
 .rw [dU,hat qA];grind[Nz]
 grind[T9,Bi,Bg]
theorem fB {a b:AV} {i:Nat} (h1:R[i]?=some a) (h2:R[i+1]?=some b):(R.drop i).take 2=[a,b]:=by
 grind[BV]
theorem YQ.Z9 (h:YQ hp p m) (hm:m.YO=fs++[f]) (hi:fs.length<151) (hr:hp Yn=some (.row 4415 [R])) (hk:f.stack.length=k+1):YQ (ZG Yn (.row 4415 [Yo R (yo fs.length+28) [.hs (.c Yn 0 (yo fs.length+28)) 2 0 k]]) hp) p { m with YO:=fs++[f.pop] }:=by
 obtain⟨J,j,hJ,hT,h2,h3,h28⟩:=h.Z2 hm
 obtain rfl:R=zJ p m (fs.length+1) (yc (fs++[f]) J):=by
  simp_all
 have hlen:=wo hk
 have hs:Yo (zJ p m (fs.length+1) (yc (fs++[f]) J)) (yo fs.length+28) [.hs (.c Yn 0 (yo fs.length+28)) 2 0 k]=zJ p m (fs.length+1) (yc (fs++[f.pop]) J):=by
  have:=Ga (p:=p) (m:=m) (h:=fs.length+1) (fs:=fs++[f]) (i:=fs.length) (f:=f) (g:=f.pop) (j:=28) (vals:=[.hs (.c Yn 0 (yo fs.length+28)) 2 0 k]) hJ qB hi qB (by
   have:=Ju (i:=fs.length) (f:=f) (l:=f.pop.stack);rw [hlen] at this;exact this)
  grind
 rw [hs]
 have key:∀ (i:Nat) f',(fs++[f.pop])[i]?=some f'->∃ f'',m.YO[i]?=some f''/\f'.YV=f''.YV/\f'.cells=f''.cells/\∃ l,f''.stack=f'.stack++l:=by
  intro i f' hf;rcases Dq i fs.length with e|e|e
  .simp_all[dX]
  .subst e;simp at hf;subst hf;exact⟨f,cF,rfl,rfl,[f.Yw],oW hk⟩
  grind
 refine⟨⟨J,hJ,?_⟩,by simp [h.ZP],by simp [h.out],by simp [h.Zb],by simp [h.YT],by simp [h.Yt],λi f' hf=>?_,λi f' hf=>?_,λi f' hf=>?_,λc s hc=>by simp [h.cell c s hc],λa b c ha hn=>?_⟩
 .simp only [ZG,if_true,wk,bS]
  rfl
 .obtain⟨f'',h1,h2,_,_⟩:=key i f' hf;rw [h2];simp [h.YV i f'' h1]
 .obtain⟨f'',h1,_,h2,_⟩:=key i f' hf;rw [h2];simp [h.cls i f'' h1]
 .obtain⟨f'',h1,_,_,l,h2⟩:=key i f' hf;obtain⟨j',hj'⟩:=h.stack i f'' h1;exact⟨l++j',qH⟩
 .by_cases e:a=1/\b=0/\c=0
  .omega
  .refine h.only a b c ha λe'=>hn ?_
   simp_all
end
def YZ.cut (f:YZ) (i:Nat):YZ:={ f with stack:=f.stack.take (f.stack.length - i) }
section
variable {f:YZ} {i n:Nat} {p:YU} {m:Y2} {fs:List YZ}
theorem Hg:f.cut 0=f:=by simp [YZ.cut]
theorem Mg (h:i<f.stack.length):(f.cut i).stack.length=(f.stack.length - (i+1))+1:=by grind[YZ.cut]
theorem Ab (h:i<f.stack.length):(f.cut i).pop=f.cut (i+1):=by
 grind[YZ.pop,YZ.cut,List.dropLast_eq_take]
theorem Aa (h:i<f.stack.length):f.stack[f.stack.length - (i+1)]?=some (f.cut i).Yw:=by
 grind[YZ.cut,YZ.Yw]
theorem Hh (h:i<f.stack.length):f.stack.drop (f.stack.length - (i+1))=(f.cut i).Yw::f.stack.drop (f.stack.length - i):=by
 have h1:=Aa h
 grind[BV]
theorem Dh (h:n+1<=f.stack.length):fj p m fs f (17,(n:Int))=if (f.cut n).Yw.1≠2 then m.stop fs (f.cut (n+1)) 5 else match m.YT[(f.cut n).Yw.2.toNat]? with
  | some g=>if fH p g.1≠n then m.stop fs (f.cut (n+1)) 6 else ze p (m.top fs (f.cut (n+1))) g.1 g.2 (f.stack.drop (f.stack.length - n))
  | none=>m.stop fs (f.cut (n+1)) 5:=by
 have h1:=Aa (f:=f) (i:=n) qA
 have h2:f.stack.getD (f.stack.length - n - 1) (0,0)=(f.cut n).Yw:=by
  grind
 have h3:({ f with stack:=f.stack.take (f.stack.length - n - 1) }:YZ)=f.cut (n+1):=by rw [Nat.sub_sub];rfl
 grind[fj,a6]
def No (p:YU) (m:Y2) (b:Nat) (vs:List Y6) (j:Nat) (fl C:List Yj):Prop :=
 (j=0/\fl=List.replicate (qG p b).length none/\C=m.cells++List.replicate (qC p b).length none) \/
 (j=1/\∃ x v,(qd p b).params=[x]/\vs=[v]/\((x∈qG p b/\fl=(List.replicate (qG p b).length none).set (qq (qG p b) x).toNat (some v)/\C=m.cells++List.replicate (qC p b).length none) \/
   (x∉qG p b/\fl=List.replicate (qG p b).length none/\C=(m.cells++List.replicate (qC p b).length none).set (m.cells.length+(qq (qC p b) x).toNat) (some v))))
theorem No.fl {b j:Nat} {vs:List Y6} {fl C:List Yj} (h:No p m b vs j fl C):fl.length=(qG p b).length:=by
 grind[No]
theorem No.cl {b j:Nat} {vs:List Y6} {fl C:List Yj} (h:No p m b vs j fl C):C.length=m.cells.length+(qC p b).length:=by
 grind[No]
theorem No.fin {b j:Nat} {cs:List Nat} {vs:List Y6} {fl C:List Yj} (h:No p m b vs j fl C) (hj:vs.length=j):ze p m b cs vs={ m with cells:=C,made:=m.made+1,deep:=max m.deep (m.YO.length+1),YO:=m.YO++[⟨b,0,fl,(List.range (qC p b).length).map (m.cells.length+·)++cs,qc,[]⟩] }:=by
 rcases h with⟨rfl,rfl,rfl⟩|⟨rfl,x,v,hx,rfl,⟨h1,rfl,rfl⟩|⟨h1,rfl,rfl⟩⟩
 .have:vs=[]:=eh hj;subst this;unfold ze;simp
 .simp only [ze,hx,h1,if_true]
 .simp only [ze,hx,h1,if_false]
end
section
variable {hp:Nm->Option AO} {p:YU} {n:Nm} {m:Y2} {dp i b e nf nk nc:Nat} {fs L:List YZ} {f:YZ} {k:Y4}
theorem Hq (h:YW hp p n m dp) (h0:0<p.length):Bw hp Z5 (.pt Xn 0) (.el [csl (qg p p.length),.sl 1 (ub QB p),.hs (.c Xn 0 2) 3 0 m.cells.length,.hs (.c Xn 0 3) 3 0 8,.hs (.c Xn 0 4) 2 0 m.YT.length,.hs (.c Xn 0 5) 1 0 m.YP.length,.hs n 7 0 m.YO.length,iv m.made,iv dp,.hs (.c Xn 0 9) 1 0 m.out.length,.hs (.c Xn 0 10) 2 0 m.trace.length,iv m.en,iv m.left] 0):=by
 refine .pt Xn 13 0 _ _ [] rfl h.top rfl λj a a' ha ha'=>?_
 match j,ha,ha' with
 | 0,ha,ha'=>obtain rfl:=sI ha;obtain rfl:=sI ha';exact .refl _
 | 1,ha,ha' =>
  obtain rfl:=sI ha;obtain rfl:=sI ha';refine .hs (.c Xn 0 1) 1 0 _ _ _ rfl h.ZP (by grind[rA]) (rA h0) (by simp [ub]) λi r1 r2 e1 e2 j a a' e3 e4=>?_;rw [sK,e2] at e1;obtain rfl:=sI e1;rw [e3] at e4;obtain rfl:=sI e4;exact .refl _
 | 2,ha,ha'=>obtain rfl:=sI ha;obtain rfl:=sI ha';exact .refl _
 | 3,ha,ha'=>obtain rfl:=sI ha;obtain rfl:=sI ha';exact .refl _
 | 4,ha,ha'=>obtain rfl:=sI ha;obtain rfl:=sI ha';exact .refl _
 | 5,ha,ha'=>obtain rfl:=sI ha;obtain rfl:=sI ha';exact .refl _
 | 6,ha,ha'=>obtain rfl:=sI ha;obtain rfl:=sI ha';exact .refl _
 | 7,ha,ha'=>obtain rfl:=sI ha;obtain rfl:=sI ha';exact .refl _
 | 8,ha,ha'=>obtain rfl:=sI ha;obtain rfl:=sI ha';exact .refl _
 | 9,ha,ha'=>obtain rfl:=sI ha;obtain rfl:=sI ha';exact .refl _
 | 10,ha,ha'=>obtain rfl:=sI ha;obtain rfl:=sI ha';exact .refl _
 | 11,ha,ha'=>obtain rfl:=sI ha;obtain rfl:=sI ha';exact .refl _
 | 12,ha,ha'=>obtain rfl:=sI ha;obtain rfl:=sI ha';exact .refl _
 | j+13,ha,_=>simp_all
theorem NS (hF:hp n=some (.row 7 (qt p n L))) (hat:L[i]?=some f):Bw hp Z5 (.ep n 7 i 0) (.el (zy p n i f) 0):=by
 refine .ep n 7 i 0 _ _ _ rfl hF qH rfl λj a a' ha ha'=>?_;rw [ha] at ha';obtain rfl:=sI ha';exact .refl _
theorem Mv (hh:zD p) (h:FOk p nf nk nc f e) (hk:p[b]?=some k) (hpar:k.parent=f.YS) (i:Nat) (y:Int) (hy:(z8 p b)[i]?=some y):∃ z:Nat,y=z/\∃ c,(zu f.cells)[z]?=some c/\((uM p f b)[i]?).map (λ(x:Nat)=>(x:Int))=some c:=by
 have hpa:w8 p b=f.YS:=by grind[w8]
 have hr:=Mu hh hk y (gM hy);rw [hpa] at hr;have hcl:=h.cl;have hlt:y.toNat<f.cells.length:=qA
 grind[zu,uM]
theorem Hl (b:Nat):(uM p f b).length=(z8 p b).length:=by simp [uM]
end
theorem pA {X:Ctx} {st:St} {K:St->Prop} {E:AV->St->Prop} {o:Oper} (n0 n1:Nm) (h0:n0.ZN=false\/X.ext n0=false) (h1:n1.ZN=false\/X.ext n1=false) (h:qO X o (λs=>K s\/K (s.move n0 n1)) E st):qO X o K E st:=by
 refine qO.post h ?_;rintro s a w hR (hK|hK)
 .grind
 .exact⟨_,hR.move n0 n1 h0 h1,hK⟩
def bf (n:Nm) (L:List (YZ×Int×Int)):List (List AV):=L.mapIdx λi q=>[iv q.1.YS,iv q.2.1,iv q.2.2,.hs (.c n i 3) 3 0 q.1.YV.length,ZD (zu q.1.cells),.hs (.c n i 5) 3 0 8,.hs (.c n i 6) 2 0 q.1.stack.length]
@[simp] theorem JD {n:Nm} {L:List (YZ×Int×Int)} {r:Nm->Option Nm} (h:∀ i j,r (.c n i j)=some (.c n i j)):(bf n L).map (λx=>x.map (AV.tr r))=bf n L:=by
 apply aW;intro i;simp only [bf,kU,Na]
 cases L[i]? <;> simp [h]
theorem JC {n:Nm} {L:List (YZ×Int×Int)} {i:Nat} {g:YZ} {a b:Int} (h:L[i]?=some (g,a,b)):(bf n L)[i]?=some [iv g.YS,iv a,iv b,.hs (.c n i 3) 3 0 g.YV.length,ZD (zu g.cells),.hs (.c n i 5) 3 0 8,.hs (.c n i 6) 2 0 g.stack.length]:=by simp [bf,h]
theorem VK {p:YU} {n:Nm} {L:List YZ}:qt p n L=bf n (L.map λf=>(f,(f.pc:Int),(u5 p f:Int))):=by
 apply aW;intro i;simp only [yG,bf,Na,kU]
 cases L[i]? <;> rfl
structure qAU (hp:Nm->Option AO) (n:Nm) (l:List YZ):Prop where
 top:∃ L:List (YZ×Int×Int),hp n=some (.row 7 (bf n L))/\l.length<=L.length/\∀ (i:Nat) f,l[i]?=some f->∃ g a b,L[i]?=some (g,a,b)/\g.look=f.look
 YV:∀ (i:Nat) f,l[i]?=some f->hp (.c n i 3)=some (.row 3 (qU f.YV))
 names:∀ (i:Nat) f,l[i]?=some f->hp (.c n i 5)=some (.row 3 (qU f.names))
theorem qAU.of {hp:Nm->Option AO} {n:Nm} {l l':List YZ} (h:qAU hp n l) (e:l.map YZ.look=l'.map YZ.look):qAU hp n l':=by
 have he:∀ (i:Nat) f,l'[i]?=some f->∃ g,l[i]?=some g/\g.look=f.look:=by
  intro i f hf;have h1:(l.map YZ.look)[i]?=some f.look:=by rw [e,kU,hf];rfl
  rw [kU] at h1;exact ui.1 h1
 obtain⟨L,r1,r2,r3⟩:=h.top;have hl:l.length=l'.length:=by simpa using congrArg List.length e
 refine⟨⟨L,r1,qA,λi f hf=>?_⟩,λi f hf=>?_,λi f hf=>?_⟩
 .obtain⟨g,hg,e1⟩:=he i f hf;rw [<- e1];exact r3 i g hg
 .obtain⟨g,hg,e1⟩:=he i f hf;simp only [YZ.look,Dw] at e1;rw [<- e1.2.1];exact h.YV i g hg
 .obtain⟨g,hg,e1⟩:=he i f hf;simp only [YZ.look,Dw] at e1;rw [<- e1.2.2.2];exact h.names i g hg
theorem qAp.look {hp:Nm->Option AO} {p:YU} {n:Nm} {l l':List YZ} (h:qAp hp p n l) (e:l.map YZ.look=l'.map YZ.look):qAU hp n l':=by
 obtain⟨js,hj⟩:=h.top;rw [VK] at hj;refine qAU.of (l:=l) ⟨⟨_,hj,qB,λi f hf=>⟨f,f.pc,u5 p f,?_,rfl⟩⟩,h.YV,h.names⟩ e;rw [kU,dX (gS hf).1,hf]
 rfl
theorem qAU.tick {hp hp':Nm->Option AO} {p:YU} {n:Nm} {fs L:List YZ} {f g:YZ} {x:Int} (h:qAp hp p n (fs++[f])) (hL:∃ js,L=fs++f::js) (hg:f.look=g.look) (ht:hp' n=some (.row 7 (qY (qt p n L) fs.length 1 [iv x])))
  (h3:∀ (i:Nat) f',hp (.c n i 3)=some (.row 3 (qU f'))->hp' (.c n i 3)=some (.row 3 (qU f')):=by intro i f' e;simp [e])
  (h5:∀ (i:Nat) f',hp (.c n i 5)=some (.row 3 (qU f'))->hp' (.c n i 5)=some (.row 3 (qU f')):=by intro i f' e;simp [e]):qAU hp' n (fs++[g]):=by
 obtain⟨js,rfl⟩:=hL
 have e:qY (qt p n (fs++f::js)) fs.length 1 [iv x]=bf n (((fs++f::js).map λf=>(f,(f.pc:Int),(u5 p f:Int))).set fs.length (f,x,u5 p f)):=by
  apply aW;intro i;simp only [qY,nV,yG,bf,Na,bT,kU,GZ];by_cases e:fs.length=i
  .subst e;simp [zy]
  .rw [if_neg e]
   cases (fs++f::js)[i]? <;> simp [e,zy]
 rw [e] at ht;refine qAU.of (l:=fs++[f]) ⟨⟨_,ht,qB,λi f' hf=>?_⟩,λi f' hf=>h3 i _ (h.YV i f' hf),λi f' hf=>h5 i _ (h.names i f' hf)⟩ (by simp [hg])
 have hf':(fs++f::js)[i]?=some f':=by
  have:=(gS hf).1;rw [List.append_cons,dX this];exact hf
 by_cases e:i=fs.length
 .subst e;obtain rfl:f=f':=zS;exact⟨f,x,u5 p f,qB,rfl⟩
 .exact⟨f',f'.pc,u5 p f',by rw [List.getElem?_set_ne (Ne.symm e),kU,hf'];rfl,rfl⟩
structure Yu (hp:Nm->Option AO) (p:YU) (m:Y2) (dp:Nat):Prop where
 top:∃ b c d:Nat,hp Xn=some (.row 13 [[csl (qg p p.length),.hs (.c Xn 0 1) 1 0 b,.hs (.c Xn 0 2) 3 0 m.cells.length,.hs (.c Xn 0 3) 3 0 8,.hs (.c Xn 0 4) 2 0 c,.hs (.c Xn 0 5) 1 0 d,.hs (.c Xn 0 6) 7 0 m.YO.length,iv m.made,iv dp,.hs (.c Xn 0 9) 1 0 m.out.length,.hs (.c Xn 0 10) 2 0 m.trace.length,iv m.en,iv m.left]])
 cells:hp (.c Xn 0 2)=some (.row 3 (qU m.cells))
 Yd:hp (.c Xn 0 3)=some (.row 3 (qU m.globals))
 out:hp (.c Xn 0 9)=some (.row 1 (qS m.out))
 Zb:hp (.c Xn 0 10)=some (.row 2 (vv m.trace))
 fr:qAU hp (.c Xn 0 6) m.YO
section
variable {hp hp':Nm->Option AO} {p:YU} {n:Nm} {m:Y2} {dp:Nat} {fs L:List YZ} {f g:YZ} {o:Int×Int}
theorem YW.qCw (h:YW hp p (.c Xn 0 6) m dp):Yu hp p m dp:=⟨⟨_,_,_,h.top⟩,h.cells,h.Yd,h.out,h.Zb,h.fr.look rfl⟩
theorem Nw.done {fr:List YZ} (h:YW hp p (.c Xn 0 6) { m with YO:=fr } dp) (h1:(m.en=0->fr=m.YO)/\fr.map YZ.look=m.YO.map YZ.look):YW hp p (.c Xn 0 6) m dp\/(m.en≠0/\Yu hp p m dp):=by
 by_cases e:m.en=0
 .left;have:=h1.1 e;subst this;exact h
 .have h3:=h.qCw;have hl:fr.length=m.YO.length:=by simpa using congrArg List.length h1.2
  obtain⟨b,c,d,ht⟩:=h3.top;exact .inr ⟨e,⟨b,c,d,by rw [ht];simp [hl]⟩,h3.cells,h3.Yd,h3.out,h3.Zb,h.fr.look h1.2⟩
theorem Yu.Yq (h:Yu hp p m dp) {F:Nm->Option Nm} (hF:∀ k,Nm.under Xn k=true->F k=some k) (hh:∀ k,Nm.under Xn k=true->hp' k=(hp k).map (AO.tr F)):Yu hp' p m dp:=by
 have hc:∀ j,Nm.under Xn (.c Xn 0 j)=true:=λj=>qB;have hq:∀ i j,Nm.under Xn (.c (.c Xn 0 6) i j)=true:=λi j=>qB;obtain⟨b,c,d,ht⟩:=h.top;obtain⟨L,r1,r2,r3⟩:=h.fr.top;refine⟨⟨b,c,d,?_⟩,?_,?_,?_,?_,⟨L,?_,r2,r3⟩,λi f hf=>?_,λi f hf=>?_⟩
 .simp_all
 .rw [hh _ (hc 2),h.cells];simp
 .rw [hh _ (hc 3),h.Yd];simp
 .rw [hh _ (hc 9),h.out];simp
 .rw [hh _ (hc 10),h.Zb];simp
 .rw [hh _ (hc 6),r1];simp [JD λi j=>hF _ (hq i j)]
 .rw [hh _ (hq i 3),h.fr.YV i f hf];simp
 .rw [hh _ (hq i 5),h.fr.names i f hf];simp
theorem Yu.qB3 (h:Yu hp p m dp) (hh:∀ k,Nm.under Xn k=true->hp' k=hp k):Yu hp' p m dp:=by
 refine h.Yq (F:=some) (λ_ _=>rfl) λq hq=>?_;rw [hh q hq]
 cases hp q<;>grind[AO.Yg]
theorem Yu.fin (h:Yu hp p m dp) {D:Nm->Bool} (hD:∀ k,D k=true->k.Y3=false) (hW:∀ k,Nm.under Xn k=true->D k=true):Yu (lO D [] hp) p m dp :=
 h.Yq (F:=jY D []) (λk hk=>qH) (λk hk=>qH)
theorem Yu.re (h:Yu hp p m dp)
  (h0:∀ b c d:Nat,hp Xn=some (.row 13 [[csl (qg p p.length),.hs (.c Xn 0 1) 1 0 b,.hs (.c Xn 0 2) 3 0 m.cells.length,.hs (.c Xn 0 3) 3 0 8,.hs (.c Xn 0 4) 2 0 c,.hs (.c Xn 0 5) 1 0 d,.hs (.c Xn 0 6) 7 0 m.YO.length,iv m.made,iv dp,.hs (.c Xn 0 9) 1 0 m.out.length,.hs (.c Xn 0 10) 2 0 m.trace.length,iv m.en,iv m.left]])->hp' Xn=some (.row 13 [[csl (qg p p.length),.hs (.c Xn 0 1) 1 0 b,.hs (.c Xn 0 2) 3 0 m.cells.length,.hs (.c Xn 0 3) 3 0 8,.hs (.c Xn 0 4) 2 0 c,.hs (.c Xn 0 5) 1 0 d,.hs (.c Xn 0 6) 7 0 m.YO.length,iv m.made,iv dp,.hs (.c Xn 0 9) 1 0 m.out.length,.hs (.c Xn 0 10) 2 0 m.trace.length,iv m.en,iv m.left]]):=by intro b c d e;simp [e])
  (h2:hp' (.c Xn 0 2)=some (.row 3 (qU m.cells)):=by simp [h.cells])
  (h3:hp' (.c Xn 0 3)=some (.row 3 (qU m.globals)):=by simp [h.Yd])
  (h4:hp' (.c Xn 0 9)=some (.row 1 (qS m.out)):=by simp [h.out])
  (h5:hp' (.c Xn 0 10)=some (.row 2 (vv m.trace)):=by simp [h.Zb])
  (h6:∀ L,hp (.c Xn 0 6)=some (.row 7 (bf (.c Xn 0 6) L))->hp' (.c Xn 0 6)=some (.row 7 (bf (.c Xn 0 6) L)):=by intro L e;simp [e])
  (h7:∀ (i:Nat) f,hp (.c (.c Xn 0 6) i 3)=some (.row 3 (qU f))->hp' (.c (.c Xn 0 6) i 3)=some (.row 3 (qU f)):=by intro i f e;simp [e])
  (h8:∀ (i:Nat) f,hp (.c (.c Xn 0 6) i 5)=some (.row 3 (qU f))->hp' (.c (.c Xn 0 6) i 5)=some (.row 3 (qU f)):=by intro i f e;simp [e]):Yu hp' p m dp:=by
 obtain⟨b,c,d,ht⟩:=h.top;obtain⟨L,r1,r2⟩:=h.fr.top;exact⟨⟨b,c,d,h0 b c d ht⟩,h2,h3,h4,h5,⟨⟨L,h6 L r1,r2⟩,λi f hf=>h7 i _ (h.fr.YV i f hf),λi f hf=>h8 i _ (h.fr.names i f hf)⟩⟩
theorem YW.qCl (h:YW hp p (.c Xn 0 6) m dp) {F:Nm->Option Nm} (hF:∀ k,Nm.under Xn k=true->F k=some k) (hh:∀ k,Nm.under Xn k=true->hp' k=(hp k).map (AO.tr F)):YW hp' p (.c Xn 0 6) m dp:=by
 have hc:∀ j,Nm.under Xn (.c Xn 0 j)=true:=λj=>qB;have hq:∀ i j,Nm.under Xn (.c (.c Xn 0 6) i j)=true:=λi j=>qB;refine⟨?_,?_,?_,?_,?_,?_,?_,?_,h.fr.top.imp λjs hj=>?_,λi g hg=>?_,λi g hg=>?_,λi g hg=>(h.fr.stack i g hg).imp λj hj=>?_⟩
 .rw [hh _ qB,h.top]
  simp_all[vg]
 .rw [hh _ (hc 1),h.ZP];simp
 .rw [hh _ (hc 2),h.cells];simp
 .rw [hh _ (hc 3),h.Yd];simp
 .rw [hh _ (hc 4),h.YT];simp
 .rw [hh _ (hc 5),h.Yt];simp
 .rw [hh _ (hc 9),h.out];simp
 .rw [hh _ (hc 10),h.Zb];simp
 .simp_all
 .rw [hh _ (hq i 3),h.fr.YV i g hg];simp
 .rw [hh _ (hq i 5),h.fr.names i g hg];simp
 simp_all
theorem YW.qBR (h:YW hp p (.c Xn 0 6) m dp):YW (lO (Nm.under Xn) [] hp) p (.c Xn 0 6) m dp :=
 h.qCl (F:=jY (Nm.under Xn) []) (λk hk=>qH) (λk hk=>qH)
theorem JF (ho:(yg p f.YS)[f.pc]?=some o) (h:o.1≠0):u5 p f.next=u5 p f:=by
 grind[u5,YZ.next,ez]
theorem JE (ho:(yg p f.YS)[f.pc]?=some o) (h:o.1=0):u5 p f.next=u5 p f+1:=by
 grind[u5,YZ.next,ez]
theorem DR (hat:L[fs.length]?=some f) (ho:(yg p f.YS)[f.pc]?=some o) (h:o.1≠0):qY (qt p n L) fs.length 1 [iv ((f.pc:Int)+1)]=qt p n (L.set fs.length f.next):=by
 grind[pT,JF,zy,YZ.next]
theorem DP (hat:L[fs.length]?=some f) (ho:(yg p f.YS)[f.pc]?=some o) (h:o.1=0):qY (qY (qt p n L) fs.length 1 [iv ((f.pc:Int)+1)]) fs.length 2 [iv (u5 p f+1)]=qt p n (L.set fs.length f.next):=by
 have hl:=(gS hat).1;apply aW;intro j;simp only [qY,nV,yG,bT];by_cases e:fs.length=j
 .subst e;rw [hat];have:=JE ho h
  simp_all[zy,YZ.next]
 .simp [e]
end
def nR (p:YU) (b:Nat):List (List AV):=[QB]::(List.range (b - 1)).map λb=>[ZD (z8 p (b+1))]
structure qCa (hp:Nm->Option AO) (p:YU) (n b:Nat):Prop where
 top:hp Xn=some (.row 13 [[csl (qg p p.length),.hs (.c Xn 0 1) 1 0 b,.hs (.c Xn 0 2) 3 0 0,.hs (.c Xn 0 3) 3 0 8,.hs (.c Xn 0 4) 2 0 0,.hs (.c Xn 0 5) 1 0 0,.hs (.c Xn 0 6) 7 0 0,iv 0,iv 0,.hs (.c Xn 0 9) 1 0 0,.hs (.c Xn 0 10) 2 0 0,iv 0,iv n]])
 ZP:hp (.c Xn 0 1)=some (.row 1 (nR p b))
 cells:hp (.c Xn 0 2)=some (.row 3 [])
 Yd:hp (.c Xn 0 3)=some (.row 3 (qU qc))
 YT:hp (.c Xn 0 4)=some (.row 2 [])
 Yt:hp (.c Xn 0 5)=some (.row 1 [])
 fr:hp (.c Xn 0 6)=some (.row 7 [])
 out:hp (.c Xn 0 9)=some (.row 1 [])
 Zb:hp (.c Xn 0 10)=some (.row 2 [])
section
variable {hp hp':Nm->Option AO} {p:YU} {m:Y2} {n b dp:Nat} {F:Nm->Option Nm}
@[simp] theorem capTo_tr:(nR p b).map (λr=>r.map (AV.tr F))=nR p b:=by
 have h:AV.tr F .bot=.bot:=rfl;simp [nR,h]
theorem Mw (h:1<=b):(nR p b).length=b:=by grind[nR]
theorem Mx (h:1<=b):nR p b++[[ZD (z8 p b)]]=nR p (b+1):=by
 obtain⟨c,rfl⟩:∃ c,b=c+1:=⟨b - 1,qA⟩;simp [nR,BU]
@[simp] theorem capTo_one:nR p 1=[[QB]]:=rfl
theorem qCa.own (h:qCa hp p n p.length) (h0:0<p.length):YW hp p (.c Xn 0 6) (zR n) 0:=by
 refine⟨?_,?_,?_,?_,?_,?_,?_,?_,⟨[],?_⟩,λi f hf=>?_,λi f hf=>?_,λi f hf=>?_⟩
 .grind[top,vg,zR]
 .rw [h.ZP];rfl
 .rw [h.cells];simp [zR]
 .rw [h.Yd];rfl
 .rw [h.YT];simp [zR]
 .rw [h.Yt];simp [zR]
 .rw [h.out];rfl
 .rw [h.Zb];rfl
 .rw [h.fr];simp [zR]
 .grind[zR]
 .grind[zR]
 grind[zR]
theorem LG (hP:Yl p) (hn:n<=150):∃ N,(∀ i,i<N->¬ (yf p i (qb p n)).ended)/\(yf p N (qb p n)).ended/\yf p N (qb p n)=aY p n/\ff p N (qb p n) 0=(aY p n).deep:=by
 obtain⟨N,h1,h2,h3⟩:=iq (n:=n) hP hn;have hI:=DG (n:=n) (t:=8) hP
 have hs:qb p n={ zR n with cells:=(qb p n).cells,made:=1,deep:=1,YO:=(qb p n).YO }/\(qb p n).YO.length=1:=by
  unfold qb ze
  split
  .simp_all
  .exact⟨rfl,rfl⟩
 have hd:(qb p n).deep=max 0 (qb p n).YO.length:=by
  grind
 cases N with
 | zero =>
  grind[yf,Y2.ended,zR]
 | succ N =>
  grind[L5,zn]
end
def fS (D:Nm->Bool) (S:Nm) (k:Nm):Option Nm:=if Nm.under S k then none else if D k then some k else none
section
variable {hp hp' H H':Nm->Option AO} {p:YU} {m:Y2} {fs:List YZ} {f g:YZ} {R:List AV} {v:Y6} {F:Nm->Option Nm} {D:Nm->Bool} {a b c d:Nat} {S:Nm} {l:List AV} {o:Option AO} {x:AV}
theorem M9 (hD:∀ k,D k=true->k.Y3=false) (hS:D S=true):(λm=>((((kl (.s a) m).bind (kl (.s b))).bind (kl (.s c))).bind (mv (.s c) S)).bind (jY D []))=fS D S:=by
 funext m
 by_cases hx:D m=true
 .have h1:=(Zq hD hx a).2;have h2:=(Zq hD hx b).2;have h3:=(Zq hD hx c).2;by_cases hu:Nm.under S m=true
  .simp [h1,h2,h3,fS,hu]
  .simp only [a8] at hu;simp [h1,h2,h3,fS,hu,hx,jY]
 .simp only [a8] at hx;by_cases ha:Nm.under (.s a) m=true
  .simp [fS,ha,hx]
  .simp only [a8] at ha;by_cases hb:Nm.under (.s b) m=true
   .simp [fS,ha,hb,hx]
   .simp only [a8] at hb;by_cases hc:Nm.under (.s c) m=true
    .simp [fS,ha,hb,hc,hx]
    .simp only [a8] at hc;by_cases hu:Nm.under S m=true
     .simp [fS,ha,hb,hc,hu]
     .simp only [a8] at hu;simp [fS,ha,hb,hc,hu,hx,jY]
theorem YD (hD:∀ k,D k=true->k.Y3=false) (hS:D S=true):(((((x.tr (kl (.s a))).tr (kl (.s b))).tr (kl (.s c))).tr (mv (.s c) S)).tr (jY D []))=x.tr (fS D S):=by
 rw [AV.ZM,AV.ZM,AV.ZM,AV.ZM]
 congr 1
 have:=M9 (a:=a) (b:=b) (c:=c) hD hS;rw [<- this]
 funext m
 cases kl (.s a) m with
 | none=>rfl
 | some m1 =>
  simp only [Dt]
  cases kl (.s b) m1 with
  | none=>rfl
  | some m2 =>
   simp only [Dt]
   cases kl (.s c) m2 <;> rfl
theorem YC (hD:∀ k,D k=true->k.Y3=false) (hS:D S=true):(((l.map (AV.tr (kl (.s c))∘AV.tr (kl (.s b))∘AV.tr (kl (.s a)))).map (AV.tr (mv (.s c) S))).map (AV.tr (jY D [])))=l.map (AV.tr (fS D S)):=by
 simp only [sJ];exact lZ λx _=>YD hD hS
theorem YB (hD:∀ k,D k=true->k.Y3=false) (hS:D S=true):(((((o.map (AO.tr (kl (.s a)))).map (AO.tr (kl (.s b)))).map (AO.tr (kl (.s c)))).map (AO.tr (mv (.s c) S))).map (AO.tr (jY D [])))=o.map (AO.tr (fS D S)):=by
 cases o with
 | none=>rfl
 | some o =>
  simp only [bU];rw [AO.ZM,AO.ZM,AO.ZM,AO.ZM]
  congr 2
  have:=M9 (a:=a) (b:=b) (c:=c) hD hS;rw [<- this]
  funext m
  cases kl (.s a) m with
  | none=>rfl
  | some m1 =>
   simp only [Dt]
   cases kl (.s b) m1 with
   | none=>rfl
   | some m2 =>
    simp only [Dt]
    cases kl (.s c) m2 <;> rfl
def Qm (D:Nm->Bool) (S:Nm) (off:Nat) (R:List AV) (vs:List Y6) (H:Nm->Option AO):Nm->AV->(Nm->Option AO)->Prop:=λ_ _ H' =>
 H' Yn=some (.row 4415 [Yo (R.map (AV.tr (fS D S))) off [.hs S 2 0 vs.length]])/\H' S=some (.row 2 (zf vs))/\∀ q,D q=true->q≠Yn->Nm.under S q=false->H' q=(H q).map (AO.tr (fS D S))
theorem YQ.Z8 (h:YQ hp p m) (hm:m.YO=fs++[f]) (hi:fs.length<151) (hS:S=.c Yn 0 (yo fs.length+28)) (hr:hp Yn=some (.row 4415 [R])) {y:AV} {r:Nm} (hw:Qm DM S (yo fs.length+28) R (f.stack++[v]) (yb DM hp) r y H'):YQ H' p { m with YO:=fs++[f.push v] }:=by
 obtain⟨J,j,hJ,hT,h2,h3,h28⟩:=h.Z2 hm
 obtain rfl:R=zJ p m (fs.length+1) (yc (fs++[f]) J):=by
  rw [hr] at hT
  injection hT with e
  injection e with e1 e2
  injection e2
 obtain⟨w1,w2,w3⟩:=hw;have hF:∀ k,DM k=true->Nm.under S k=false->fS DM S k=some k:=λk h1 h2=>by simp only [fS,h1,h2,if_true,cH,if_false]
 have hc:∀ j,j≠yo fs.length+28->Nm.under S (.c Yn 0 j)=false:=λj hj=>by subst hS;simp [hj]
 have hE:∀ i,Nm.under S (En i)=false:=λi=>by subst hS;simp
 have hw3:∀ q o,DM q=true->q≠Yn->Nm.under S q=false->hp q=some o->H' q=some (o.tr (fS DM S)):=λq o a1 a2 a3 a4=>by
  rw [w3 q a1 a2 a3];simp only [yb,a1,if_true,a4,bU]
 have hcN:∀ j,j≠yo fs.length+28->fS DM S (.c Yn 0 j)=some (.c Yn 0 j):=λj hj=>hF _ rfl (hc j hj);have hEN:∀ i,fS DM S (En i)=some (En i):=λi=>hF _ rfl (hE i);have hne:∀ i k,i≠fs.length\/k≠28->k<29->yo i+k≠yo fs.length+28:=λi k h1 h2=>yX;have hsp:fS DM S S=none:=by simp [fS]
 have hfix:∀ i g,i≠fs.length->(Zy i g).map (AV.tr (fS DM S))=Zy i g:=by
  intro i g hi;simp only [Zy,sQ,pZ,dT,sH];have e2:=hcN _ (hne i 2 (.inl hi) qA);have e3:=hcN _ (hne i 3 (.inl hi) qA);have e28:=hcN _ (hne i 28 (.inl hi) qA);simp only [yo] at e2 e3 e28;simp [AV.tr,e2,e3,e28]
 have hrow:Yo ((zJ p m (fs.length+1) (yc (fs++[f]) J)).map (AV.tr (fS DM S))) (yo fs.length+28) [.hs S 2 0 (f.stack++[v]).length]=zJ p m (fs.length+1) (yc (fs++[f.push v]) λi=>(J i).map (AV.tr (fS DM S))):=by
  have hmap:(zJ p m (fs.length+1) (yc (fs++[f]) J)).map (AV.tr (fS DM S))=zJ p m (fs.length+1) λi=>(yc (fs++[f]) J i).map (AV.tr (fS DM S)):=by
   have h1:(cat (yc (fs++[f]) J) 151).map (AV.tr (fS DM S))=cat (λi=>(yc (fs++[f]) J i).map (AV.tr (fS DM S))) 151:=Hk λi _=>rfl;have hk:∀ j,j<32->fS DM S (.c Yn 0 j)=some (.c Yn 0 j):=λj hj=>hcN j yX;simp only [zJ,sQ,h1,pZ];simp [yA,yB,yZ,hk,AV.tr,lc]
  rw [hmap];have:=Gb (p:=p) (m:=m) (h:=fs.length+1) (c:=λi=>(yc (fs++[f]) J i).map (AV.tr (fS DM S))) (c':=yc (fs++[f.push v]) λi=>(J i).map (AV.tr (fS DM S))) (i:=fs.length) (j:=28) (vals:=[.hs S 2 0 (f.stack++[v]).length]) (λi=>by simp [wP hJ]) hi qB (λk hk=>?_) ?_
  .rw [<- dU] at this;exact this
  .unfold yc;rcases Dq k fs.length with e|e|e
   .rw [dX e,dX e,gE e];simp only;rw [hfix k _ hk]
   .exact absurd e hk
   .rw [nT qv,nT qv]
  .have h1:(fs++[f])[fs.length]?=some f:=qB;have h2:(fs++[f.push v])[fs.length]?=some (f.push v):=qB;rw [Bi h1,Bi h2];have e2:=hcN _ (hne fs.length 2 (.inr qA) qA);have e3:=hcN _ (hne fs.length 3 (.inr qA) qA);simp only [yo] at e2 e3
   have h3:(Zy fs.length f).map (AV.tr (fS DM S))=[iv f.YS,iv f.pc,.hs (.c Yn 0 (32+29 * fs.length+2)) 3 0 f.YV.length,.hs (.c Yn 0 (32+29 * fs.length+3)) 1 0 f.cells.length]++(kI f.names++[AV.bot]):=by
    have hb:fS DM S (.c Yn 0 (32+29 * fs.length+28))=none:=by rw [<- hS];exact hsp
    simp only [Zy,sQ,pZ,dT,sH];simp [AV.tr,e2,e3,hb]
   rw [h3,hS];have h4:([iv f.YS,iv f.pc,.hs (.c Yn 0 (32+29 * fs.length+2)) 3 0 f.YV.length,.hs (.c Yn 0 (32+29 * fs.length+3)) 1 0 f.cells.length]++kI f.names).length=28:=qB;rw [<- nS];unfold Yo;rw [List.take_append_of_le_length (by rw [h4];exact qp _),bC (by rw [h4];exact qp _),List.drop_eq_nil_of_le qB];simp [Zy,YZ.push]
 have key:∀ (i:Nat) f',(fs++[f.push v])[i]?=some f'->(i=fs.length/\f'=f.push v)\/(i<fs.length/\m.YO[i]?=some f'):=by
  intro i f' hf;rcases Dq i fs.length with e|e|e
  .rw [dX e] at hf;exact .inr ⟨e,by rw [hm,dX e];exact hf⟩
  .subst e;simp at hf;exact .inl ⟨rfl,hf.symm⟩
  .rw [nT qv] at hf
   cases hf
 have hy:∀ j,(.c Yn 0 j:Nm)≠Yn:=λj e=>uN;refine⟨⟨λi=>(J i).map (AV.tr (fS DM S)),λi=>eL,?_⟩,?_,?_,?_,?_,?_,λi f' hf=>?_,λi f' hf=>?_,λi f' hf=>?_,λc s hs=>?_,λa b c ha hn=>?_⟩
 .rw [w1,hrow];simp only [wk,bS]
  rfl
 .rw [hw3 _ _ rfl (hy 1) (hc 1 yX) h.ZP];simp [AO.tr]
 .rw [hw3 _ _ rfl (hy 4) (hc 4 yX) h.out];simp [AO.tr]
 .rw [hw3 _ _ rfl (hy 5) (hc 5 yX) h.Zb];simp [AO.tr]
 .rw [hw3 _ _ rfl (hy 30) (hc 30 yX) h.YT];simp only [AO.tr];rw [JN hEN]
 .rw [hw3 _ _ rfl (hy 31) (hc 31 yX) h.Yt];simp [AO.tr]
 .rcases key i f' hf with⟨rfl,rfl⟩|⟨hl,hf⟩
  .rw [hw3 _ _ rfl (hy _) (hc _ (hne fs.length 2 (.inr qA) qA)) h2];simp [AO.tr,YZ.push]
  .rw [hw3 _ _ rfl (hy _) (hc _ (hne i 2 (.inl qA) qA)) (h.YV i f' hf)];simp [AO.tr]
 .rcases key i f' hf with⟨rfl,rfl⟩|⟨hl,hf⟩
  .rw [hw3 _ _ rfl (hy _) (hc _ (hne fs.length 3 (.inr qA) qA)) h3];simp only [AO.tr];rw [bt hEN]
   rfl
  .rw [hw3 _ _ rfl (hy _) (hc _ (hne i 3 (.inl qA) qA)) (h.cls i f' hf)];simp only [AO.tr];rw [bt hEN]
 .rcases key i f' hf with⟨rfl,rfl⟩|⟨hl,hf⟩
  .exact⟨[],by rw [<- hS,w2];simp [YZ.push]⟩
  .exact (h.stack i f' hf).imp λj hj=>by rw [hw3 _ _ rfl (hy _) (hc _ (hne i 28 (.inl qA) qA)) hj];simp [AO.tr]
 .rw [hw3 _ _ rfl qB (hE c) (h.cell c s hs)];simp [AO.tr]
 .by_cases e:a=1/\b=0/\c=0
  .exact .inl e
  .refine h.only a b c ha λe'=>hn ?_;rw [w3 (.u a b c) ha (by simpa using e) (by subst hS;simp)];have hd:DM (.u a b c)=true:=ha;simp only [yb,hd,if_true,e',Option.map_none]
end
end Go.Hm
end
section

end
section
namespace Go.Hm
open Go Go.RowKit
section
variable {hp hp':Nm->Option AO} {p:YU} {m m':Y2} {fs:List YZ} {f g:YZ} {R R':List AV} {i:Nat} {e:Int} {v:Y6}
theorem qBD {o:List AV} (h:hp Yn=some (.row 4415 [R])) (h':hp Yn=some (.row 4415 [o])):o=R:=by
 simp_all
theorem oG {i k:Nat} (h:i<k):¬ i=k/\(29 * i=29 * k)=False/\(∀ a,a<29->(32+29 * i+a=yo k)=False)/\∀ a,(32+29 * i=yo k+a)=False :=
 ⟨qA,eq_false qA,λa ha=>eq_false qe,λa=>eq_false qe⟩
theorem YQ.reT (h:YQ hp p m) (hm:m.YO=fs++[f]) (hm':m'.YO=fs++[g]) (hc:m'.cells.length=m.cells.length)
  (h0:∀ J:Nat->List AV,(∀ i,(J i).length=29)->hp Yn=some (.row 4415 [zJ p m (fs.length+1) (yc (fs++[f]) J)])->∃ J':Nat->List AV,(∀ i,(J' i).length=29)/\hp' Yn=some (.row 4415 [zJ p m' (fs.length+1) (yc (fs++[g]) J')]))
  (h1:hp' (.c Yn 0 1)=some (.row 1 (vD p p.length)):=by simp [h.ZP])
  (h2:hp' (.c Yn 0 4)=some (.row 1 (qS m'.out)):=by simp [h.out])
  (h3:hp' (.c Yn 0 5)=some (.row 2 (vv m'.trace)):=by simp [h.Zb])
  (h4:hp' (.c Yn 0 30)=some (.row 2 (yj m'.YT)):=by simp [h.YT])
  (h5:hp' (.c Yn 0 31)=some (.row 24 (uL m'.YP)):=by simp [h.Yt])
  (h6:∀ (i:Nat) x,i<fs.length->hp (.c Yn 0 (32+29 * i+2))=some (.row 3 (qU x))->hp' (.c Yn 0 (32+29 * i+2))=some (.row 3 (qU x)):=by intro i x hi hx;have e:=oG hi;simp [hx,e.1,e.2.1,e.2.2.1,e.2.2.2])
  (h6t:hp' (.c Yn 0 (yo fs.length+2))=some (.row 3 (qU g.YV)):=by simp [h.YV])
  (h7:∀ (i:Nat) x,i<fs.length->hp (.c Yn 0 (32+29 * i+3))=some (.row 1 (zC x))->hp' (.c Yn 0 (32+29 * i+3))=some (.row 1 (zC x)):=by intro i x hi hx;have e:=oG hi;simp [hx,e.1,e.2.1,e.2.2.1,e.2.2.2])
  (h7t:hp' (.c Yn 0 (yo fs.length+3))=some (.row 1 (zC g.cells)))
  (h8:∀ (i:Nat) x,i<fs.length->hp (.c Yn 0 (32+29 * i+28))=some (.row 2 (zf x))->hp' (.c Yn 0 (32+29 * i+28))=some (.row 2 (zf x)):=by intro i x hi hx;have e:=oG hi;simp [hx,e.1,e.2.1,e.2.2.1,e.2.2.2])
  (h8t:∃ j,hp' (.c Yn 0 (yo fs.length+28))=some (.row 2 (zf (g.stack++j))))
  (h9:∀ (c:Nat) s,m'.cells[c]?=some s->hp' (En c)=some (.row 3 [jJ s]):=by intro c s hc;simp [h.cell c s hc])
  (hA:∀ k i j,fM k=true->¬ (k=1/\i=0/\j=0)->hp' (.u k i j)≠none->hp (.u k i j)≠none:=by intro k i j hk e hn;simpa [hk,e] using hn):YQ hp' p m':=by
 have key:∀ (i:Nat) f',m'.YO[i]?=some f'->(i=fs.length/\f'=g)\/(i<fs.length/\m.YO[i]?=some f'):=by
  grind
 refine⟨?_,h1,h2,h3,h4,h5,λi f' hf=>?_,λi f' hf=>?_,λi f' hf=>?_,h9,λk i j hk hn=>?_⟩
 .grind[top]
 .rcases key i f' hf with⟨rfl,rfl⟩|⟨h1,h2⟩
  .exact h6t
  .exact h6 i _ h1 (h.YV i f' h2)
 .rcases key i f' hf with⟨rfl,rfl⟩|⟨h1,h2⟩
  .exact h7t
  .exact h7 i _ h1 (h.cls i f' h2)
 .rcases key i f' hf with⟨rfl,rfl⟩|⟨h1,h2⟩
  .exact h8t
  .obtain⟨j,hj⟩:=h.stack i f' h2
   grind
 .by_cases e:k=1/\i=0/\j=0
  .omega
  .rw [hc];exact h.only k i j hk (hA k i j hk e hn)
theorem YQ.ZH (h:YQ hp p m) (hm:m.YO=fs++[f]) (hi:fs.length<151):∃ R j,hp Yn=some (.row 4415 [R])/\qBV p m fs.length f R/\hp (.c Yn 0 (yo fs.length+2))=some (.row 3 (qU f.YV))/\hp (.c Yn 0 (yo fs.length+3))=some (.row 1 (zC f.cells))/\hp (.c Yn 0 (yo fs.length+28))=some (.row 2 (zf (f.stack++j))):=by
 obtain⟨J,j,hJ,hT,h2,h3,h28⟩:=h.Z2 hm
 grind[Xt]
theorem mw (hr:hp Yn=some (.row 4415 [R])) (h':hp' Yn=some (.row 4415 [R'])) (h0:∀ J:Nat->List AV,(∀ i,(J i).length=29)->R=zJ p m (fs.length+1) (yc (fs++[f]) J)->R'=zJ p m' (fs.length+1) (yc (fs++[g]) J)) :
  ∀ J:Nat->List AV,(∀ i,(J i).length=29)->hp Yn=some (.row 4415 [zJ p m (fs.length+1) (yc (fs++[f]) J)])->∃ J':Nat->List AV,(∀ i,(J' i).length=29)/\hp' Yn=some (.row 4415 [zJ p m' (fs.length+1) (yc (fs++[g]) J')]):=λJ hJ e =>
 ⟨J,hJ,qe⟩
theorem xu (hr:hp Yn=some (.row 4415 [R])) (h':hp' Yn=some (.row 4415 [R'])) (h0:∀ J:Nat->List AV,(∀ i,(J i).length=29)->R=zJ p m (fs.length+1) (yc (fs++[f]) J)->∃ J':Nat->List AV,(∀ i,(J' i).length=29)/\R'=zJ p m' (fs.length+1) (yc (fs++[g]) J')) :
  ∀ J:Nat->List AV,(∀ i,(J i).length=29)->hp Yn=some (.row 4415 [zJ p m (fs.length+1) (yc (fs++[f]) J)])->∃ J':Nat->List AV,(∀ i,(J' i).length=29)/\hp' Yn=some (.row 4415 [zJ p m' (fs.length+1) (yc (fs++[g]) J')]):=λJ hJ e=>by
 grind
@[simp] theorem yo_ne {k:Nat} (h:k<32):(32+29 * i=k)↔False:=iff_false_intro qA
theorem bR {a b:Nm->Option Nm}:(AV.tr a∘AV.tr b)=AV.tr (λm=>(b m).bind a):=by
 grind[AV.ZM]
theorem ig {l:List AV} {v:AV} {k:Nat}:l.take k++v::l.drop (k+1)=Yo l k [v]:=rG
section
variable {F:Nm->Option Nm} {h:Nat} {c J:Nat->List AV} {x:AV} {L:List YZ}
theorem QY:(zJ p m h c).map (AV.tr F)=(yA p m).map (AV.tr F)++(kI m.globals++((yB m).map (AV.tr F)++(cat (λi=>(c i).map (AV.tr F)) 151++yZ m h))):=by
 have h1:(cat c 151).map (AV.tr F)=cat (λi=>(c i).map (AV.tr F)) 151:=Hk λi _=>rfl
 simp_all[zJ,yZ]
theorem Bh (hF:∀ j,32<=j->F (.c Yn 0 j)=some (.c Yn 0 j)):(λi=>(yc L J i).map (AV.tr F))=yc L λi=>(J i).map (AV.tr F):=by
 funext i
 unfold yc
 split
 .simp [Zy,hF _ (show 32<=32+29 * i+2 by omega),hF _ (show 32<=32+29 * i+3 by omega),hF _ (show 32<=32+29 * i+28 by omega),AV.tr]
 .rfl
theorem T2 (hF:∀ j,j≠4->F (.c Yn 0 j)=some (.c Yn 0 j)):Yo ((zJ p m h (yc L J)).map (AV.tr F)) 4 [x]=Yo (zJ p m h (yc L λi=>(J i).map (AV.tr F))) 4 [x]:=by
 rw [QY,Bh λj hj=>hF j qA]
 simp_all[zJ,yA,yB,Yo]
theorem T1 (hF:∀ j,j≠5->F (.c Yn 0 j)=some (.c Yn 0 j)):Yo ((zJ p m h (yc L J)).map (AV.tr F)) 5 [x]=Yo (zJ p m h (yc L λi=>(J i).map (AV.tr F))) 5 [x]:=by
 rw [QY,Bh λj hj=>hF j qA]
 simp_all[zJ,yA,yB,Yo]
theorem Q0 {a b a' b' x:AV} {S:List AV} {P:List AV} {k:Nat} (hP:P.length=30) (hk:(k=30/\b=b')\/(k=31/\a=a')):Yo (P++([a,b]++S)) k [x]=Yo (P++([a',b']++S)) k [x]:=by
 rcases hk with⟨rfl,rfl⟩|⟨rfl,rfl⟩
 .have h1:=li (P:=P) (X:=[a,b]) (S:=S) (k:=0) (vals:=[x]) qB
  grind[Yo]
 .have h1:=li (P:=P) (X:=[a,b]) (S:=S) (k:=1) (vals:=[x]) qB;have h2:=li (P:=P) (X:=[a,b']) (S:=S) (k:=1) (vals:=[x]) qB
  grind[Yo]
theorem Qz (hF:∀ j,j≠30->F (.c Yn 0 j)=some (.c Yn 0 j)):Yo ((zJ p m h (yc L J)).map (AV.tr F)) 30 [x]=Yo (zJ p m h (yc L λi=>(J i).map (AV.tr F))) 30 [x]:=by
 rw [QY,Bh λj hj=>hF j qA,Q1];have e:(yA p m).map (AV.tr F)=yA p m:=by simp_all[yA]
 rw [e,<- nS];exact Q0 (by simp [yA]) (.inl ⟨rfl,qH⟩)
theorem Qy (hF:∀ j,j≠31->F (.c Yn 0 j)=some (.c Yn 0 j)):Yo ((zJ p m h (yc L J)).map (AV.tr F)) 31 [x]=Yo (zJ p m h (yc L λi=>(J i).map (AV.tr F))) 31 [x]:=by
 rw [QY,Bh λj hj=>hF j qA,Q1];have e:(yA p m).map (AV.tr F)=yA p m:=by simp_all[yA]
 rw [e,<- nS];exact Q0 (by simp [yA]) (.inr ⟨rfl,qH⟩)
theorem Xv {o:List (Nat×Nat)} (hF:∀ j,j≠5->F (.c Yn 0 j)=some (.c Yn 0 j)):Yo ((zJ p m h (yc L J)).map (AV.tr F)) 5 [.hs (.c Yn 0 5) 2 0 o.length]=zJ p { m with trace:=o } h (yc L λi=>(J i).map (AV.tr F)):=by rw [T1 hF,TX]
theorem Xw {o:List Int} (hF:∀ j,j≠4->F (.c Yn 0 j)=some (.c Yn 0 j)):Yo ((zJ p m h (yc L J)).map (AV.tr F)) 4 [.hs (.c Yn 0 4) 1 0 o.length]=zJ p { m with out:=o } h (yc L λi=>(J i).map (AV.tr F)):=by rw [T2 hF,TY]
theorem Vr {o:List (Nat×List Nat)} (hF:∀ j,j≠30->F (.c Yn 0 j)=some (.c Yn 0 j)):Yo ((zJ p m h (yc L J)).map (AV.tr F)) 30 [.hs (.c Yn 0 30) 2 0 o.length]=zJ p { m with YT:=o } h (yc L λi=>(J i).map (AV.tr F)):=by rw [Qz hF,Qx]
theorem Vq {o:List (List Yj)} (hF:∀ j,j≠31->F (.c Yn 0 j)=some (.c Yn 0 j)):Yo ((zJ p m h (yc L J)).map (AV.tr F)) 31 [.hs (.c Yn 0 31) 24 0 o.length]=zJ p { m with YP:=o } h (yc L λi=>(J i).map (AV.tr F)):=by rw [Qy hF,Qw]
theorem Xf (o:List Int) {v:AV} (hJ:∀ i,(J i).length=29) (hv:v=.hs (.c Yn 0 4) 1 0 o.length) (hF:∀ j,j≠4->F (.c Yn 0 j)=some (.c Yn 0 j)):∃ J':Nat->List AV,(∀ i,(J' i).length=29)/\((zJ p m h (yc L J)).map (AV.tr F)).take 4++v::((zJ p m h (yc L J)).map (AV.tr F)).drop 5=zJ p { m with out:=o } h (yc L J') :=
 ⟨λi=>(J i).map (AV.tr F),λi=>eL,by grind[ig,Xw]⟩
theorem Xe (o:List (Nat×Nat)) {v:AV} (hJ:∀ i,(J i).length=29) (hv:v=.hs (.c Yn 0 5) 2 0 o.length) (hF:∀ j,j≠5->F (.c Yn 0 j)=some (.c Yn 0 j)):∃ J':Nat->List AV,(∀ i,(J' i).length=29)/\((zJ p m h (yc L J)).map (AV.tr F)).take 5++v::((zJ p m h (yc L J)).map (AV.tr F)).drop 6=zJ p { m with trace:=o } h (yc L J') :=
 ⟨λi=>(J i).map (AV.tr F),λi=>eL,by grind[ig,Xv]⟩
theorem VH (o:List (Nat×List Nat)) {v:AV} (hJ:∀ i,(J i).length=29) (hv:v=.hs (.c Yn 0 30) 2 0 o.length) (hF:∀ j,j≠30->F (.c Yn 0 j)=some (.c Yn 0 j)):∃ J':Nat->List AV,(∀ i,(J' i).length=29)/\((zJ p m h (yc L J)).map (AV.tr F)).take 30++v::((zJ p m h (yc L J)).map (AV.tr F)).drop 31=zJ p { m with YT:=o } h (yc L J') :=
 ⟨λi=>(J i).map (AV.tr F),λi=>eL,by grind[ig,Vr]⟩
theorem VG (o:List (List Yj)) {v:AV} (hJ:∀ i,(J i).length=29) (hv:v=.hs (.c Yn 0 31) 24 0 o.length) (hF:∀ j,j≠31->F (.c Yn 0 j)=some (.c Yn 0 j)):∃ J':Nat->List AV,(∀ i,(J' i).length=29)/\((zJ p m h (yc L J)).map (AV.tr F)).take 31++v::((zJ p m h (yc L J)).map (AV.tr F)).drop 32=zJ p { m with YP:=o } h (yc L J') :=
 ⟨λi=>(J i).map (AV.tr F),λi=>eL,by grind[ig,Vq]⟩
end
theorem YQ.wrR (h:YQ hp p m) (hm:m.YO=fs++[f]) (hm':m'.YO=fs++[g]) (hr:hp Yn=some (.row 4415 [R])) (h0:∀ J:Nat->List AV,(∀ i,(J i).length=29)->R=zJ p m (fs.length+1) (yc (fs++[f]) J)->R'=zJ p m' (fs.length+1) (yc (fs++[g]) J))
  (e1:m'.cells=m.cells:=by rfl) (e2:m'.out=m.out:=by rfl) (e3:m'.trace=m.trace:=by rfl) (e4:m'.YT=m.YT:=by rfl) (e5:m'.YP=m.YP:=by rfl) (g1:g.YV=f.YV:=by rfl) (g2:g.cells=f.cells:=by rfl) (g3:∃ l,f.stack=g.stack++l:=by exact⟨[],qB⟩) :
  YQ (ZG Yn (.row 4415 [R']) hp) p m':=by
 have hf:m.YO[fs.length]?=some f:=cF;refine h.reT hm hm' (by rw [e1]) (mw hr mV h0) (by simp [ZG,h.ZP]) (by grind[ZG,out]) (by grind[ZG,Zb]) (by grind[ZG,YT]) (by grind[ZG,Yt]) (λi x _ hx=>qH) ?_ (λi x _ hx=>qH) ?_ (λi x _ hx=>qH) ?_ (λc s hc=>?_) (λk i j hk e hn=>?_)
 .rw [g1];simp [ZG,h.YV _ f hf]
 .rw [g2];simp [ZG,h.cls _ f hf]
 .obtain⟨j,hj⟩:=h.stack _ f hf
  grind[ZG]
 .rw [e1] at hc;simp [ZG,h.cell c s hc]
 grind[ZG]
theorem YQ.Z1 (h:YQ hp p m) (hm:m.YO=fs++[f]) (hr:hp Yn=some (.row 4415 [R])):YQ (ZG Yn (.row 4415 [Yo R 3 [iv e]]) hp) p { m with en:=e } :=
 h.wrR hm (m':={ m with en:=e }) (g:=f) hm hr (λJ _ e=>by grind[TZ])
end
def jw (m:Y2) (fs:List YZ) (f:YZ) (o:Int×Int) (w:Nat) (e:Int):Y2 :=
 if w=1 then Yy m fs f.pop o (some f.Yw) else match gq m f o with
  | none=>m.stop fs f e
  | some v=>if w=0 then m.top fs (f.push v) else Yy m fs f o none
structure WrY (p:YU) (m:Y2) (fs:List YZ) (f:YZ) (o:Int×Int) (off:Nat):Prop where
 le:off+3<=4411
 rd:∀ g R,g.names=f.names->qBV p (m.top fs g) fs.length g R->∀ j,j<3->R[off+j]?=(jJ (gq m f o))[j]?
 wr:∀ g s,g.names=f.names->g.cells=f.cells->∃ G,(Yy m fs g o s).YO=fs++[G]/\G.YV=g.YV/\G.cells=g.cells/\G.stack=g.stack/\(Yy m fs g o s).cells=m.cells/\(Yy m fs g o s).out=m.out/\(Yy m fs g o s).trace=m.trace/\(Yy m fs g o s).YT=m.YT/\(Yy m fs g o s).YP=m.YP/\(Yy m fs g o s).en=m.en /\
  ∀ J:Nat->List AV,(∀ i,(J i).length=29)->Yo (zJ p (m.top fs g) (fs.length+1) (yc (fs++[g]) J)) off (jJ s)=zJ p (Yy m fs g o s) (fs.length+1) (yc (fs++[G]) J)
section
variable {p:YU} {m:Y2} {fs:List YZ} {f g:YZ} {o:Int×Int} {x:Nat}
theorem WrY.Yd (hg:m.globals.length=8) (h1:8<=o.1) (h2:o.1<=10) (hx:o.2.toNat<8):WrY p m fs f o (6+3 * o.2.toNat):=by
 have e1:¬ o.1<=4:=qA;have e2:¬ o.1<=7:=qA;refine⟨qA,λg R _ tr j hj=>?_,λg s _ _=>⟨g,?_⟩⟩
 .rw [dU,tr.gl _ j hx hj]
  grind[gq,Y2.top]
 .have e:Yy m fs g o s={ m.top fs g with globals:=m.globals.set o.2.toNat s }:=by grind[Yy]
  simp_all[TU]
theorem WrY.name (hn:f.names.length=8) (hi:fs.length<151) (h1:11<=o.1) (hx:o.2.toNat<8):WrY p m fs f o (yo fs.length+4+3 * o.2.toNat):=by
 have e1:¬ o.1<=4:=qA;have e2:¬ o.1<=7:=qA;have e3:¬ o.1<=10:=qA;refine⟨qe,λg R hg tr j hj=>?_,λg s hg _=>⟨{ g with names:=g.names.set o.2.toNat s },?_⟩⟩
 .rw [dU,tr.nm _ j hx hj]
  grind[gq]
 .have e:Yy m fs g o s=m.top fs { g with names:=g.names.set o.2.toNat s }:=by grind[Yy]
  rw [e];refine⟨rfl,rfl,rfl,rfl,rfl,rfl,rfl,rfl,rfl,rfl,λJ hJ=>?_⟩;have:=Ga (p:=p) (m:=m.top fs g) (h:=fs.length+1) (J:=J) (fs:=fs++[g]) (i:=fs.length) (f:=g) (g:={ g with names:=g.names.set o.2.toNat s }) (j:=4+3 * o.2.toNat) (vals:=jJ s) hJ qB hi qv (Jv qH hx)
  grind[zJ,yA,yB,yZ,Y2.top]
end
def DY9:Nm->Bool:=λk=>DM k||Nm.under (.u 9 0 0) k
theorem ID {q:Nm} (h:DY9 q=true):q.Y3=false:=by
 rcases Jh _ _ ▸ h with h|h
 .exact qJ h
 .exact qZ rfl h
theorem Xk {q:Nm} (h:Nm.under (.u 9 0 0) q=true):DM q=false:=by
 induction q with
 | s d=>simp at h
 | u a b c =>
  simp at h;obtain⟨rfl,rfl,rfl⟩:=h
  rfl
 | c r i j ih =>
  simp_all
theorem YN {q:Nm} (h:Nm.under Yn q=true):DM q=true:=by
 induction q<;>simp_all
theorem TD {q:Nm} {j:Nat} (h:Nm.under (.c Yn 0 j) q=true):DM q=true:=YN (Nm.ZA qB h)
section
variable {hp hp':Nm->Option AO} {p:YU} {m:Y2} {fs:List YZ} {f:YZ} {k j:Nat}
theorem RZ {g:AV->AV} {l vals:List AV} {k:Nat}:(Yo l k vals).map g=Yo (l.map g) k (vals.map g):=by simp_all[Yo]
theorem YQ.same (h:YQ hp p m) (hs:mh DM hp' hp):YQ hp' p m:=by
 obtain⟨F,h1,h2⟩:=hs;exact h.Yq h1 h2
theorem YQ.qAQ (h:YQ hp p m) (hm:m.YO=fs++[f]) (hi:fs.length<151) (hk:f.stack.length=k+1) (hj:j≠yo fs.length+28):∃ (R R':List AV) (vs:List Y6),hp Yn=some (.row 4415 [R])/\(yb DY9 (Z6 (.c Yn 0 j) (.u 9 0 0) hp)) Yn=some (.row 4415 [R'])/\R'[yo fs.length+28]?=some (.hs (.c Yn 0 (yo fs.length+28)) 2 0 (k+1))/\(yb DY9 (Z6 (.c Yn 0 j) (.u 9 0 0) hp)) (.c Yn 0 (yo fs.length+28))=some (.row 2 (zf vs))/\vs[k]?=some f.Yw /\
  (AO.row 4415 [Yo R (yo fs.length+28) [.hs (.c Yn 0 (yo fs.length+28)) 2 0 k]]).tr (mv (.c Yn 0 j) (.u 9 0 0))=.row 4415 [Yo R' (yo fs.length+28) [.hs (.c Yn 0 (yo fs.length+28)) 2 0 k]]:=by
 obtain⟨R,i,hT,tr,h2,h3,h28⟩:=h.ZH hm hi;have e1:Nm.under (.c Yn 0 j) Yn=false:=qB;have e2:Nm.under (.c Yn 0 j) (.c Yn 0 (yo fs.length+28))=false:=by simp [Ne.symm hj]
 have hm:mv (.c Yn 0 j) (.u 9 0 0) (.c Yn 0 (yo fs.length+28))=some (.c Yn 0 (yo fs.length+28)):=qH;have he:∀ q,(AV.hs (.c Yn 0 (yo fs.length+28)) 2 0 q).tr (mv (.c Yn 0 j) (.u 9 0 0))=.hs (.c Yn 0 (yo fs.length+28)) 2 0 q:=λq=>qH;refine⟨R,R.map (AV.tr (mv (.c Yn 0 j) (.u 9 0 0))),f.stack++i,hT,?_,?_,?_,vU hk,?_⟩
 .simp_all[DY9,Z6]
 .grind[qBV.f28]
 .simp_all[DY9,Z6]
 simp_all[RZ]
theorem qBV.glv {i x:Nat} {v:Y6} {R:List AV} (tr:qBV p m i f R) (hx:x<8) (h:ju m.globals x=some v):(R.drop (6+x * 3+1)).take 2=[iv v.1,iv v.2]:=by
 have g1:=tr.gl x 1 hx qA;have g2:=tr.gl x 2 hx qA
 simp_all<;>grind[fB]
theorem qBV.nmv {i x:Nat} {v:Y6} {R:List AV} (tr:qBV p m i f R) (hx:x<8) (h:ju f.names x=some v):(R.drop (yo i+4+x * 3+1)).take 2=[iv v.1,iv v.2]:=by
 have g1:=tr.nm x 1 hx qA;have g2:=tr.nm x 2 hx qA
 simp_all<;>grind[fB]
end
end Go.Hm
end
