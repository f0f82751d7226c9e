import Derived.ScopeJumps
import Derived.Test.YtdnebaieamppbaaGreatDoorE18
set_option linter.unusedSimpArgs false
set_option linter.unusedVariables false
set_option maxRecDepth 100000
set_option maxHeartbeats 4000000

section
namespace Go.Hm
open Go Go.RowKit
def St.stl (st:St) (t:Nat) (N:Nm) (x:AV):St:={ tm:=λs=>if s=t then x else (st.tm s).tr (kl N),hp:=hkl N st.hp,n:=st.n,gl:=st.gl }
section
variable {X:Ctx} {st:St} {a:Go.Act} {w:World} {K:St->Prop} {E:AV->St->Prop} {o:Oper} {t s:Nat} {N m:Nm} {x:AV}
@[simp] theorem stl_tm:(st.stl t N x).tm s=if s=t then x else (st.tm s).tr (kl N):=rfl
@[simp] theorem stl_hp:(st.stl t N x).hp m=if Nm.under N m then none else (st.hp m).map (AO.tr (kl N)):=rfl
@[simp] theorem stl_gl:(st.stl t N x).gl=st.gl:=rfl
theorem Rw.settle (h:Rw X st a w) (hb:Bw st.hp (λn=>decide (n≠N)) (st.tm t) x):Rw X (st.stl t N x) a w:=by
 obtain⟨C,g,h1,h2,h3,h4,h5,hg⟩:=h
 have hCN:∀ b,g.φ N=some b->st.hp N≠none->¬ C b/\(X.w0.heap.size<=b\/X.own b)/\b<w.heap.size:=by
  intro b hb hn;obtain⟨o,ho⟩:=CZ.1 hn;exact hg.inv.Z1 N o b ho hb
 let C':Nat->Prop:=λb=>C b\/(g.φ N=some b/\st.hp N≠none)
 have hS:=hg.qDh (C':=C') (g':=g.more C') (w':=w) (f:=kl N) (hp':=hkl N st.hp) rfl (λb hb=>.inl hb) (by
  rintro b (hb|⟨hb,hn⟩)
  .exact hg.inv.clt b hb
  simp_all) (by
  intro n n' e;simp only [kl] at e
  split at e
  .cases e
  .obtain rfl:=sI e;exact⟨rfl,rfl⟩) rfl rfl rfl (qf _) (λ_ _=>rfl) (λb hb ho=>rfl) (by
  intro n' o' e;left;simp only [hkl] at e
  split at e
  .cases e
  .rename_i hu;obtain⟨o,ho,rfl⟩:=ku.1 e;refine⟨n',o,qH,ho,rfl,λb hb=>⟨rfl,?_⟩⟩;rintro (hc|⟨hc,hn⟩)
   .exact (hg.inv.Z1 n' o b ho hb).1 hc
   .obtain⟨o2,ho2⟩:=CZ.1 hn;have:=hg.inv.inj n' N o o2 b ho ho2 hb hc
    simp_all)
 refine⟨C',g.more C',λb hb=>.inl (h1 b hb),?_,h3,h4,h5,?_⟩
 .grind
 .refine⟨hS.inv,hS.defers,hS.size,λs=>?_,hS.Zg⟩;by_cases e:s=t
  .subst e;simp only [St.stl,if_true];refine RV.bw hg.inv (λb hb=>.inl hb) (λn o b hD ho hk=>?_) hb (hg.qBr s)
   grind
  .have:=hS.qBr s
   simp_all[St.nm]
theorem QP (t:Nat) (N:Nm) (x:AV) (hb:Bw st.hp (λn=>decide (n≠N)) (st.tm t) x) (h:qS X o K E (st.stl t N x)):qS X o K E st:=λa w Q hR hE=>h a w Q (hR.settle hb) hE
theorem Dc (t:Nat) (N:Nm) (h:qS X o (λs=>∃ x,Bw s.hp (λn=>decide (n≠N)) (s.tm t) x/\K (s.stl t N x)) E st):qS X o K E st:=by
 refine qS.post h ?_;rintro s a w hR ⟨x,hb,hK⟩;exact⟨_,hR.settle hb,hK⟩
theorem ON {hp:Nm->Option AO} {N:Nm} {z len:Nat} {rows:List (List AV)} (hn:hp N=some (.row z rows)) (hl:len=rows.length) (hu:∀ r∈rows,r.length=z):Bw hp (λn=>decide (n≠N)) (.hs N z 0 len) (.sl z rows):=by
 refine .hs N z 0 len rows rows qB hn qA hl.symm hu λi r r' h1 h2 j a a' h3 h4=>?_;rw [xX,h2] at h1;obtain rfl:=sI h1;rw [h3] at h4;obtain rfl:=sI h4;exact .refl _
theorem rp (t:Nat) (N:Nm) (z len:Nat) (rows:List (List AV)) (ht:st.tm t=.hs N z 0 len) (hn:st.hp N=some (.row z rows)) (hl:len=rows.length) (hu:∀ r∈rows,r.length=z) (h:qS X o K E (st.stl t N (.sl z rows))):qS X o K E st :=
 QP t N _ (by grind[ON]) h
theorem Yd {a:AV} {d:Nat}:(a.tr (kl (.s d))).tr (kl (.s d))=a.tr (kl (.s d)):=by
 rw [AV.qAW]
 congr 1
 grind[kl]
theorem pj {d z n:Nat} {rows:List (List AV)} (hcall:∀ K':St->Prop,K' (((st.kill (.s d)).Zp (.s d) (.row z rows)).put (some d) (.hs (.s d) z 0 n))->qS X o K' E st) (hl:n=rows.length) (hu:∀ r∈rows,r.length=z) (h:K ((st.kill (.s d)).put (some d) (.sl z rows))):qS X o K E st:=by
 refine Dc d (.s d) (hcall _ ⟨.sl z rows,?_,?_⟩)
 .grind[ON,St.put,St.Zp]
 .have:((((st.kill (.s d)).Zp (.s d) (.row z rows)).put (some d) (.hs (.s d) z 0 n)).stl d (.s d) (.sl z rows))=(st.kill (.s d)).put (some d) (.sl z rows):=by
   simp only [St.stl,St.put,St.Zp,St.kill,St.nm]
   congr 1
   .grind[Yd]
   .funext m
    simp only [hkl];by_cases e:Nm.under (.s d) m=true
    .simp [e]
    .have hne:¬ m=.s d:=λe'=>e qH;simp only [e,hne,if_false]
     cases st.hp m with
     | none=>rfl
     | some o =>
      have:(λm=>(kl (.s d) m).bind (kl (.s d)))=kl (.s d):=by
       grind[kl]
      grind[AO.qAW]
  simp_all
end
theorem Te {X:Ctx} {c:Code} {Q:Ex->St->Prop} {G:Prop} (I:St->Prop) (k:∀ st,I st->qh X c Q st) (h:Zx (∀ st,I st->qh X c Q st)->G):G:=h ⟨k⟩
theorem Oi {X:Ctx} {st:St} {c:Code} {Q:Ex->St->Prop} (n0 n1:Nm) (h0:n0.isU=false\/X.ext n0=false) (h1:n1.isU=false\/X.ext n1=false) (h:qh X c Q (st.move n0 n1)):qh X c Q st:=λa w hR=>h a w (hR.move n0 n1 h0 h1)
def Tg (l:Nat) (I:St->Prop) (Q:Ex->St->Prop):Ex->St->Prop
 | .goto l',st=>l'=l/\I st
 | .normal,st=>Q .normal st
 | .exit id,st=>Q (.exit id) st
 | .ret,st=>Q .ret st
 | .pan x,st=>Q (.pan x) st
section
variable {X:Ctx} {st:St} {Q:Ex->St->Prop} {l:Nat} {I:St->Prop} {id:Nat} {x:AV}
theorem KI (h:Q .normal st):Tg l I Q .normal st:=h
theorem Tf (h:Q .ret st):Tg l I Q .ret st:=h
theorem I0 (h:I st):Tg l I Q (.goto l) st:=⟨rfl,h⟩
theorem S1 {c rest:Code} (l:Nat) (hf:findLabel c l=some rest) (I:Nat->St->Prop) (h0:qh X c (Tg l (λs=>∃ n,I n s) Q) st) (hpass:∀ n s,s.n=X.n->s.gl=X.gl->I n s->qh X rest (Tg l (λs'=>∃ m,m<n/\I m s') Q) s):qh X (.scope c) Q st:=by
 intro a w hR
 let J:Nat->Go.Act->World->Prop:=λn a w=>∃ st,Rw X st a w/\I n st
 let μ:Go.Act->World->Nat:=λa w=>open Classical in if h:∃ n,J n a w then (Q3 h).choose else 0
 have hμ:∀ n a w,J n a w->μ a w<=n:=by
  intro n a w hJ;have hex:∃ n,J n a w:=⟨n,hJ⟩;simp only [μ,dif_pos hex];exact (Q3 hex).choose_spec.2 n hJ
 refine wp_scope_jumps l (λa w=>∃ n,J n a w) μ hf (wp_mono (h0 a w hR) λe a' w' he=>?_) λa w hJ=>?_
 .cases e with
  | goto l' =>
   obtain⟨st',hR',rfl,n,hI⟩:=he;constructor<;>grind
  | normal=>exact he
  | exit id=>exact he
  | ret=>exact he
  | panic ch=>exact he
  | outgrown=>exact he
 .have hspec:J (μ a w) a w:=by
   grind
  obtain⟨st1,hR1,hI1⟩:=hspec;have hR1':=hR1;obtain⟨C,g,x1,x2,x3,x4,x5,x6⟩:=hR1;refine wp_mono (hpass _ st1 x3 x4 hI1 a w hR1') λe a' w' he=>?_
  cases e with
  | goto l' =>
   obtain⟨st',hR',rfl,m,hlt,hI⟩:=he;exact⟨rfl,⟨m,st',hR',hI⟩,Nat.lt_of_le_of_lt (hμ m a' w' ⟨st',hR',hI⟩) hlt⟩
  | normal=>exact he
  | exit id=>exact he
  | ret=>exact he
  | panic ch=>exact he
  | outgrown=>exact he
end
section
variable {D:Nm->Bool} {a b c:Nat} {l:List AV}
theorem NX (hD:∀ k,D k=true->k.Zi=false):(l.map (AV.tr (kl (.s a)))).map (AV.tr (jc D []))=l.map (AV.tr (jc D [])):=by
 simp_all[NY]
theorem Qm (hD:∀ k,D k=true->k.Zi=false):(l.map (AV.tr (kl (.s a))∘AV.tr (kl (.s b)))).map (AV.tr (jc D []))=l.map (AV.tr (jc D [])):=by
 rw [<- xA,NX hD,NX hD]
end
abbrev yo (i:Nat):Nat:=32+29 * i
def SB (D:Nm->Bool) (v:AV) (H:Nm->Option AO):Nm->AV->(Nm->Option AO)->Prop:=λ_ y H'=>y=v/\∀ k,D k=true->H' k=(H k).map (AO.tr (jc D []))
section
variable {hp hp' H H':Nm->Option AO} {p:Z0} {m m0 m':Zb} {fs:List Z8} {f g:Z8} {R:List AV} {k:Nat} {r:Nm} {y v:AV} {o:AO}
variable {P:Program} {C:Nat->Prop} {w:World} {g0:Gh} {gl:Nat->Option (List AV)} {n:Nat} {st:St} {K:St->Prop} {E:AV->St->Prop} {d c:Nat} {ty:TypeId} {pos:String} {aft:Array Edge} {gd:Option (Nat×Bool)} {args:Array Operand} {Ts:Array TypeId} {az:List AV} {Rr:Nm->AV->(Nm->Option AO)->Prop}
theorem qe (h0:ZY H p m0) (hO:ZY st.hp p m) (hl:m0.cells.length<=m.cells.length) (hd:d<n:=by first|(simp;done)|fail) (ha:args.toList.map (ev st)=az:=by simp [fx];first|done|rfl)
  (hF:ZY (vC DM st.hp) p m->Zj P gl c DM az (vC DM st.hp) Rr noE) (h:∀ y H',Rr (.s d) y H'->K ((st.call d DM (vC DM st.hp) H').put (some d) y)) :
  qS (dz P C w g0 H n gl) ⟨some d,.call ⟨.value (.func c),args,Ts⟩,ty,pos,aft,gd⟩ K E st:=lq DM (λ_=>qN) (λk i j he=>h0.ext hO hl k i j he) hd ha (hF hO.sub) h
theorem ZY.post (h:ZY hp p m) (hh:∀ q,DM q=true->hp' q=(hp q).map (AO.tr (jc DM []))):ZY hp' p m :=
 h.Zn (f:=jc DM []) (λq hq=>qH) hh
theorem ZY.smp (h:ZY hp p m) (hw:SB DM v (vC DM hp) r y H'):ZY H' p m:=by
 refine h.post λq hq=>?_;rw [hw.2 q hq]
 simp_all
theorem ZY.Zv (h:ZY (wrO Yn o hp) p m) (hw:AZ DM v Yn o (vC DM hp) r y H'):ZY H' p m:=by
 refine h.post λq hq=>?_;rw [hw.2 q hq]
 simp_all
theorem ZY.qAj (h:ZY hp p m) (hm:m.ZW=fs++[f]):∃ (J:Nat->List AV) (j:List Zd),(∀ i,(J i).length=29)/\hp Yn=some (.row 4415 [zV p m (fs.length+1) (yc (fs++[f]) J)])/\hp (.c Yn 0 (yo fs.length+2))=some (.row 3 (qW f.Z3))/\hp (.c Yn 0 (yo fs.length+3))=some (.row 1 (zQ f.cells))/\hp (.c Yn 0 (yo fs.length+28))=some (.row 2 (zn (f.stack++j))):=by
 obtain⟨J,hJ,e⟩:=h.top;have hf:m.ZW[fs.length]?=some f:=aF;obtain⟨j,hs⟩:=h.stack _ f hf;refine⟨J,j,hJ,?_,h.Z3 _ f hf,h.cls _ f hf,hs⟩
 simp_all
structure qCh (p:Z0) (m:Zb) (i:Nat) (f:Z8) (R:List AV):Prop where
 len:R.length=4415
 r0:R[0]?=some (csl (qw p p.length))
 r1:R[1]?=some (.hs (.c Yn 0 1) 1 0 p.length)
 r2:R[2]?=some (iv m.left)
 r3:R[3]?=some (iv m.en)
 r4:R[4]?=some (.hs (.c Yn 0 4) 1 0 m.out.length)
 r5:R[5]?=some (.hs (.c Yn 0 5) 2 0 m.trace.length)
 r30:R[30]?=some (.hs (.c Yn 0 30) 2 0 m.ZZ.length)
 r31:R[31]?=some (.hs (.c Yn 0 31) 24 0 m.ZV.length)
 h:R[4411]?=some (iv ((i:Int)+1))
 f0:R[yo i]?=some (iv f.Z1)
 f1:R[yo i+1]?=some (iv f.pc)
 f2:R[yo i+2]?=some (.hs (.c Yn 0 (yo i+2)) 3 0 f.Z3.length)
 f3:R[yo i+3]?=some (.hs (.c Yn 0 (yo i+3)) 1 0 f.cells.length)
 f28:R[yo i+28]?=some (.hs (.c Yn 0 (yo i+28)) 2 0 f.stack.length)
 gl:∀ x j:Nat,x<8->j<3->R[6+(3 * x+j)]?=(jm (uE m.globals x))[j]?
 nm:∀ x j:Nat,x<8->j<3->R[yo i+4+(3 * x+j)]?=(jm (uE f.names x))[j]?
 tb:(R.drop (yo i+4)).take 24=aK f.names
theorem ZC {J:Nat->List AV} (hJ:∀ i,(J i).length=29) (hi:fs.length<151):qCh p m fs.length f (zV p m (fs.length+1) (yc (fs++[f]) J)):=by
 have hc:=kQ (fs:=fs++[f]) hJ;have hf:(fs++[f])[fs.length]?=some f:=qB
 have hat:∀ {j:Nat},j<29->(zV p m (fs.length+1) (yc (fs++[f]) J))[yo fs.length+j]?=(yfr fs.length f)[j]?:=by
  simp_all[nA,ZB,JC]
 refine⟨w8 hc,R9,Ua,R8,R7,R6,R5,SV,SU,?_,?_,?_,?_,?_,?_,λx j hx hj=>U9 hx hj,λx j hx hj=>?_,?_⟩
 .grind[lp]
 .exact (hat (j:=0) qA).trans rfl
 .rw [hat qA];rfl
 .rw [hat qA];rfl
 .rw [hat qA];rfl
 .grind[Kx]
 .rw [nA,hat qA];grind[Ov]
 grind[W6,JC,Ku]
theorem gt {a b:AV} {i:Nat} (h1:R[i]?=some a) (h2:R[i+1]?=some b):(R.drop i).take 2=[a,b]:=by
 grind[Ea]
theorem ZY.qAp (h:ZY hp p m) (hm:m.ZW=fs++[f]) (hi:fs.length<151) (hr:hp Yn=some (.row 4415 [R])) (hk:f.stack.length=k+1):ZY (wrO Yn (.row 4415 [Zz R (yo fs.length+28) [.hs (.c Yn 0 (yo fs.length+28)) 2 0 k]]) hp) p { m with ZW:=fs++[f.pop] }:=by
 obtain⟨J,j,hJ,hT,h2,h3,h28⟩:=h.qAj hm
 obtain rfl:R=zV p m (fs.length+1) (yc (fs++[f]) J):=by
  simp_all
 have hlen:=aw hk
 have hs:Zz (zV p m (fs.length+1) (yc (fs++[f]) J)) (yo fs.length+28) [.hs (.c Yn 0 (yo fs.length+28)) 2 0 k]=zV p m (fs.length+1) (yc (fs++[f.pop]) J):=by
  have:=Hb (p:=p) (m:=m) (h:=fs.length+1) (fs:=fs++[f]) (i:=fs.length) (f:=f) (g:=f.pop) (j:=28) (vals:=[.hs (.c Yn 0 (yo fs.length+28)) 2 0 k]) hJ qB hi qB (by
   have:=Kv (i:=fs.length) (f:=f) (l:=f.pop.stack);rw [hlen] at this;exact this)
  grind
 rw [hs]
 have key:∀ (i:Nat) f',(fs++[f.pop])[i]?=some f'->∃ f'',m.ZW[i]?=some f''/\f'.Z3=f''.Z3/\f'.cells=f''.cells/\∃ l,f''.stack=f'.stack++l:=by
  intro i f' hf;rcases E7 i fs.length with e|e|e
  .simp_all[uW]
  .subst e;simp at hf;subst hf;exact⟨f,aF,rfl,rfl,[f.tos],rE hk⟩
  grind
 refine⟨⟨J,hJ,?_⟩,by simp [h.qAZ],by simp [h.out],by simp [h.trc],by simp [h.ZZ],by simp [h.Zw],λi f' hf=>?_,λi f' hf=>?_,λi f' hf=>?_,λc s hc=>by simp [h.cell c s hc],λa b c ha hn=>?_⟩
 .simp only [wrO,if_true,am,dU]
  rfl
 .obtain⟨f'',h1,h2,_,_⟩:=key i f' hf;rw [h2];simp [h.Z3 i f'' h1]
 .obtain⟨f'',h1,_,h2,_⟩:=key i f' hf;rw [h2];simp [h.cls i f'' h1]
 .obtain⟨f'',h1,_,_,l,h2⟩:=key i f' hf;obtain⟨j',hj'⟩:=h.stack i f'' h1;exact⟨l++j',qH⟩
 .by_cases e:a=1/\b=0/\c=0
  .omega
  .refine h.only a b c ha λe'=>hn ?_
   simp_all
end
def Z8.cut (f:Z8) (i:Nat):Z8:={ f with stack:=f.stack.take (f.stack.length - i) }
section
variable {f:Z8} {i n:Nat} {p:Z0} {m:Zb} {fs:List Z8}
theorem Ii:f.cut 0=f:=by simp [Z8.cut]
theorem N8 (h:i<f.stack.length):(f.cut i).stack.length=(f.stack.length - (i+1))+1:=by grind[Z8.cut]
theorem Be (h:i<f.stack.length):(f.cut i).pop=f.cut (i+1):=by
 grind[Z8.pop,Z8.cut,List.dropLast_eq_take]
theorem Bd (h:i<f.stack.length):f.stack[f.stack.length - (i+1)]?=some (f.cut i).tos:=by
 grind[Z8.cut,Z8.tos]
theorem Ij (h:i<f.stack.length):f.stack.drop (f.stack.length - (i+1))=(f.cut i).tos::f.stack.drop (f.stack.length - i):=by
 have h1:=Bd h
 grind[Ea]
theorem EV (h:n+1<=f.stack.length):dK p m fs f (17,(n:Int))=if (f.cut n).tos.1≠2 then m.stop fs (f.cut (n+1)) 5 else match m.ZZ[(f.cut n).tos.2.toNat]? with
  | some g=>if cp p g.1≠n then m.stop fs (f.cut (n+1)) 6 else z8 p (m.top fs (f.cut (n+1))) g.1 g.2 (f.stack.drop (f.stack.length - n))
  | none=>m.stop fs (f.cut (n+1)) 5:=by
 have h1:=Bd (f:=f) (i:=n) qA
 have h2:f.stack.getD (f.stack.length - n - 1) (0,0)=(f.cut n).tos:=by
  grind
 have h3:({ f with stack:=f.stack.take (f.stack.length - n - 1) }:Z8)=f.cut (n+1):=by rw [Nat.sub_sub];rfl
 grind[dK,b6]
def Oh (p:Z0) (m:Zb) (b:Nat) (vs:List Zd) (j:Nat) (fl C:List Zt):Prop :=
 (j=0/\fl=List.replicate (qP p b).length none/\C=m.cells++List.replicate (qF p b).length none) \/
 (j=1/\∃ x v,(zC p b).params=[x]/\vs=[v]/\((x∈qP p b/\fl=(List.replicate (qP p b).length none).set (zI (qP p b) x).toNat (some v)/\C=m.cells++List.replicate (qF p b).length none) \/
   (x∉qP p b/\fl=List.replicate (qP p b).length none/\C=(m.cells++List.replicate (qF p b).length none).set (m.cells.length+(zI (qF p b) x).toNat) (some v))))
theorem Oh.fl {b j:Nat} {vs:List Zd} {fl C:List Zt} (h:Oh p m b vs j fl C):fl.length=(qP p b).length:=by
 grind[Oh]
theorem Oh.cl {b j:Nat} {vs:List Zd} {fl C:List Zt} (h:Oh p m b vs j fl C):C.length=m.cells.length+(qF p b).length:=by
 grind[Oh]
theorem Oh.fin {b j:Nat} {cs:List Nat} {vs:List Zd} {fl C:List Zt} (h:Oh p m b vs j fl C) (hj:vs.length=j):z8 p m b cs vs={ m with cells:=C,made:=m.made+1,deep:=max m.deep (m.ZW.length+1),ZW:=m.ZW++[⟨b,0,fl,(List.range (qF p b).length).map (m.cells.length+·)++cs,q9,[]⟩] }:=by
 rcases h with⟨rfl,rfl,rfl⟩|⟨rfl,x,v,hx,rfl,⟨h1,rfl,rfl⟩|⟨h1,rfl,rfl⟩⟩
 .have:vs=[]:=gj hj;subst this;unfold z8;simp
 .simp only [z8,hx,h1,if_true]
 .simp only [z8,hx,h1,if_false]
end
section
variable {hp:Nm->Option AO} {p:Z0} {n:Nm} {m:Zb} {dp i b e nf nk nc:Nat} {fs L:List Z8} {f:Z8} {k:Za}
theorem In (h:Z2 hp p n m dp) (h0:0<p.length):Bw hp noD (.pt Xn 0) (.el [csl (qw p p.length),.sl 1 (kA Qx p),.hs (.c Xn 0 2) 3 0 m.cells.length,.hs (.c Xn 0 3) 3 0 8,.hs (.c Xn 0 4) 2 0 m.ZZ.length,.hs (.c Xn 0 5) 1 0 m.ZV.length,.hs n 7 0 m.ZW.length,iv m.made,iv dp,.hs (.c Xn 0 9) 1 0 m.out.length,.hs (.c Xn 0 10) 2 0 m.trace.length,iv m.en,iv m.left] 0):=by
 refine .pt Xn 13 0 _ _ [] rfl h.top rfl λj a a' ha ha'=>?_
 match j,ha,ha' with
 | 0,ha,ha'=>obtain rfl:=sI ha;obtain rfl:=sI ha';exact .refl _
 | 1,ha,ha' =>
  obtain rfl:=sI ha;obtain rfl:=sI ha';refine .hs (.c Xn 0 1) 1 0 _ _ _ rfl h.qAZ (by grind[su]) (su h0) (by simp [kA]) λi r1 r2 e1 e2 j a a' e3 e4=>?_;rw [xX,e2] at e1;obtain rfl:=sI e1;rw [e3] at e4;obtain rfl:=sI e4;exact .refl _
 | 2,ha,ha'=>obtain rfl:=sI ha;obtain rfl:=sI ha';exact .refl _
 | 3,ha,ha'=>obtain rfl:=sI ha;obtain rfl:=sI ha';exact .refl _
 | 4,ha,ha'=>obtain rfl:=sI ha;obtain rfl:=sI ha';exact .refl _
 | 5,ha,ha'=>obtain rfl:=sI ha;obtain rfl:=sI ha';exact .refl _
 | 6,ha,ha'=>obtain rfl:=sI ha;obtain rfl:=sI ha';exact .refl _
 | 7,ha,ha'=>obtain rfl:=sI ha;obtain rfl:=sI ha';exact .refl _
 | 8,ha,ha'=>obtain rfl:=sI ha;obtain rfl:=sI ha';exact .refl _
 | 9,ha,ha'=>obtain rfl:=sI ha;obtain rfl:=sI ha';exact .refl _
 | 10,ha,ha'=>obtain rfl:=sI ha;obtain rfl:=sI ha';exact .refl _
 | 11,ha,ha'=>obtain rfl:=sI ha;obtain rfl:=sI ha';exact .refl _
 | 12,ha,ha'=>obtain rfl:=sI ha;obtain rfl:=sI ha';exact .refl _
 | j+13,ha,_=>simp_all
theorem OO (hF:hp n=some (.row 7 (qz p n L))) (hat:L[i]?=some f):Bw hp noD (.ep n 7 i 0) (.el (jV p n i f) 0):=by
 refine .ep n 7 i 0 _ _ _ rfl hF qH rfl λj a a' ha ha'=>?_;rw [ha] at ha';obtain rfl:=sI ha';exact .refl _
theorem No (hh:zS p) (h:FOk p nf nk nc f e) (hk:p[b]?=some k) (hpar:k.parent=f.Z1) (i:Nat) (y:Int) (hy:(zt p b)[i]?=some y):∃ z:Nat,y=z/\∃ c,(jN f.cells)[z]?=some c/\((uk p f b)[i]?).map (λ(x:Nat)=>(x:Int))=some c:=by
 have hpa:ac p b=f.Z1:=by grind[ac]
 have hr:=Nn hh hk y (gM hy);rw [hpa] at hr;have hcl:=h.cl;have hlt:y.toNat<f.cells.length:=qA
 grind[jN,uk]
theorem Il (b:Nat):(uk p f b).length=(zt p b).length:=by simp [uk]
end
theorem rq {X:Ctx} {st:St} {K:St->Prop} {E:AV->St->Prop} {o:Oper} (n0 n1:Nm) (h0:n0.isU=false\/X.ext n0=false) (h1:n1.isU=false\/X.ext n1=false) (h:qS X o (λs=>K s\/K (s.move n0 n1)) E st):qS X o K E st:=by
 refine qS.post h ?_;rintro s a w hR (hK|hK)
 .grind
 .exact⟨_,hR.move n0 n1 h0 h1,hK⟩
def oj (n:Nm) (L:List (Z8×Int×Int)):List (List AV):=L.mapIdx λi q=>[iv q.1.Z1,iv q.2.1,iv q.2.2,.hs (.c n i 3) 3 0 q.1.Z3.length,isl (jN q.1.cells),.hs (.c n i 5) 3 0 8,.hs (.c n i 6) 2 0 q.1.stack.length]
@[simp] theorem KC {n:Nm} {L:List (Z8×Int×Int)} {r:Nm->Option Nm} (h:∀ i j,r (.c n i j)=some (.c n i j)):(oj n L).map (λx=>x.map (AV.tr r))=oj n L:=by
 apply wK;intro i;simp only [oj,kx,List.getElem?_mapIdx]
 cases L[i]? <;> simp [h]
theorem WJ {p:Z0} {n:Nm} {L:List Z8}:qz p n L=oj n (L.map λf=>(f,(f.pc:Int),(ux p f:Int))):=by
 apply wK;intro i;simp only [yr,oj,List.getElem?_mapIdx,kx]
 cases L[i]? <;> rfl
structure qBa (hp:Nm->Option AO) (n:Nm) (l:List Z8):Prop where
 top:∃ L:List (Z8×Int×Int),hp n=some (.row 7 (oj n L))/\l.length<=L.length/\∀ (i:Nat) f,l[i]?=some f->∃ g a b,L[i]?=some (g,a,b)/\g.look=f.look
 Z3:∀ (i:Nat) f,l[i]?=some f->hp (.c n i 3)=some (.row 3 (qW f.Z3))
 names:∀ (i:Nat) f,l[i]?=some f->hp (.c n i 5)=some (.row 3 (qW f.names))
theorem qBa.of {hp:Nm->Option AO} {n:Nm} {l l':List Z8} (h:qBa hp n l) (e:l.map Z8.look=l'.map Z8.look):qBa hp n l':=by
 have he:∀ (i:Nat) f,l'[i]?=some f->∃ g,l[i]?=some g/\g.look=f.look:=by
  intro i f hf;have h1:(l.map Z8.look)[i]?=some f.look:=by rw [e,kx,hf];rfl
  rw [kx] at h1;exact ku.1 h1
 obtain⟨L,r1,r2,r3⟩:=h.top;have hl:l.length=l'.length:=by simpa using congrArg List.length e
 refine⟨⟨L,r1,qA,λi f hf=>?_⟩,λi f hf=>?_,λi f hf=>?_⟩
 .obtain⟨g,hg,e1⟩:=he i f hf;rw [<- e1];exact r3 i g hg
 .obtain⟨g,hg,e1⟩:=he i f hf;simp only [Z8.look,Kj] at e1;rw [<- e1.2.1];exact h.Z3 i g hg
 .obtain⟨g,hg,e1⟩:=he i f hf;simp only [Z8.look,Kj] at e1;rw [<- e1.2.2.2];exact h.names i g hg
theorem qCN.look {hp:Nm->Option AO} {p:Z0} {n:Nm} {l l':List Z8} (h:qCN hp p n l) (e:l.map Z8.look=l'.map Z8.look):qBa hp n l':=by
 obtain⟨js,hj⟩:=h.top;rw [WJ] at hj;refine qBa.of (l:=l) ⟨⟨_,hj,qB,λi f hf=>⟨f,f.pc,ux p f,?_,rfl⟩⟩,h.Z3,h.names⟩ e;rw [kx,uW (gS hf).1,hf]
 rfl
theorem qBa.tick {hp hp':Nm->Option AO} {p:Z0} {n:Nm} {fs L:List Z8} {f g:Z8} {x:Int} (h:qCN hp p n (fs++[f])) (hL:∃ js,L=fs++f::js) (hg:f.look=g.look) (ht:hp' n=some (.row 7 (qk (qz p n L) fs.length 1 [iv x])))
  (h3:∀ (i:Nat) f',hp (.c n i 3)=some (.row 3 (qW f'))->hp' (.c n i 3)=some (.row 3 (qW f')):=by intro i f' e;simp [e])
  (h5:∀ (i:Nat) f',hp (.c n i 5)=some (.row 3 (qW f'))->hp' (.c n i 5)=some (.row 3 (qW f')):=by intro i f' e;simp [e]):qBa hp' n (fs++[g]):=by
 obtain⟨js,rfl⟩:=hL
 have e:qk (qz p n (fs++f::js)) fs.length 1 [iv x]=oj n (((fs++f::js).map λf=>(f,(f.pc:Int),(ux p f:Int))).set fs.length (f,x,ux p f)):=by
  apply wK;intro i;simp only [qk,pR,yr,oj,List.getElem?_mapIdx,eV,kx,Eg];by_cases e:fs.length=i
  .subst e;simp [jV]
  .rw [if_neg e]
   cases (fs++f::js)[i]? <;> simp [e,jV]
 rw [e] at ht;refine qBa.of (l:=fs++[f]) ⟨⟨_,ht,qB,λi f' hf=>?_⟩,λi f' hf=>h3 i _ (h.Z3 i f' hf),λi f' hf=>h5 i _ (h.names i f' hf)⟩ (by simp [hg])
 have hf':(fs++f::js)[i]?=some f':=by
  have:=(gS hf).1;rw [List.append_cons,uW this];exact hf
 by_cases e:i=fs.length
 .subst e;obtain rfl:f=f':=ze;exact⟨f,x,ux p f,qB,rfl⟩
 .exact⟨f',f'.pc,ux p f',by rw [List.getElem?_set_ne (Ne.symm e),kx,hf'];rfl,rfl⟩
structure qAl (hp:Nm->Option AO) (p:Z0) (m:Zb) (dp:Nat):Prop where
 top:∃ b c d:Nat,hp Xn=some (.row 13 [[csl (qw p p.length),.hs (.c Xn 0 1) 1 0 b,.hs (.c Xn 0 2) 3 0 m.cells.length,.hs (.c Xn 0 3) 3 0 8,.hs (.c Xn 0 4) 2 0 c,.hs (.c Xn 0 5) 1 0 d,.hs (.c Xn 0 6) 7 0 m.ZW.length,iv m.made,iv dp,.hs (.c Xn 0 9) 1 0 m.out.length,.hs (.c Xn 0 10) 2 0 m.trace.length,iv m.en,iv m.left]])
 cells:hp (.c Xn 0 2)=some (.row 3 (qW m.cells))
 Zg:hp (.c Xn 0 3)=some (.row 3 (qW m.globals))
 out:hp (.c Xn 0 9)=some (.row 1 (qT m.out))
 trc:hp (.c Xn 0 10)=some (.row 2 (yw m.trace))
 fr:qBa hp (.c Xn 0 6) m.ZW
section
variable {hp hp':Nm->Option AO} {p:Z0} {n:Nm} {m:Zb} {dp:Nat} {fs L:List Z8} {f g:Z8} {o:Int×Int}
theorem Z2.qEZ (h:Z2 hp p (.c Xn 0 6) m dp):qAl hp p m dp:=⟨⟨_,_,_,h.top⟩,h.cells,h.Zg,h.out,h.trc,h.fr.look rfl⟩
theorem Or.done {fr:List Z8} (h:Z2 hp p (.c Xn 0 6) { m with ZW:=fr } dp) (h1:(m.en=0->fr=m.ZW)/\fr.map Z8.look=m.ZW.map Z8.look):Z2 hp p (.c Xn 0 6) m dp\/(m.en≠0/\qAl hp p m dp):=by
 by_cases e:m.en=0
 .left;have:=h1.1 e;subst this;exact h
 .have h3:=h.qEZ;have hl:fr.length=m.ZW.length:=by simpa using congrArg List.length h1.2
  obtain⟨b,c,d,ht⟩:=h3.top;exact .inr ⟨e,⟨b,c,d,by rw [ht];simp [hl]⟩,h3.cells,h3.Zg,h3.out,h3.trc,h.fr.look h1.2⟩
theorem qAl.Zn (h:qAl hp p m dp) {F:Nm->Option Nm} (hF:∀ k,Nm.under Xn k=true->F k=some k) (hh:∀ k,Nm.under Xn k=true->hp' k=(hp k).map (AO.tr F)):qAl hp' p m dp:=by
 have hc:∀ j,Nm.under Xn (.c Xn 0 j)=true:=λj=>qB;have hq:∀ i j,Nm.under Xn (.c (.c Xn 0 6) i j)=true:=λi j=>qB;obtain⟨b,c,d,ht⟩:=h.top;obtain⟨L,r1,r2,r3⟩:=h.fr.top;refine⟨⟨b,c,d,?_⟩,?_,?_,?_,?_,⟨L,?_,r2,r3⟩,λi f hf=>?_,λi f hf=>?_⟩
 .simp_all
 .rw [hh _ (hc 2),h.cells];simp
 .rw [hh _ (hc 3),h.Zg];simp
 .rw [hh _ (hc 9),h.out];simp
 .rw [hh _ (hc 10),h.trc];simp
 .rw [hh _ (hc 6),r1];simp [KC λi j=>hF _ (hq i j)]
 .rw [hh _ (hq i 3),h.fr.Z3 i f hf];simp
 .rw [hh _ (hq i 5),h.fr.names i f hf];simp
theorem qAl.qCs (h:qAl hp p m dp) (hh:∀ k,Nm.under Xn k=true->hp' k=hp k):qAl hp' p m dp:=by
 refine h.Zn (F:=some) (λ_ _=>rfl) λq hq=>?_;rw [hh q hq]
 cases hp q<;>grind[AO.Zr]
theorem qAl.fin (h:qAl hp p m dp) {D:Nm->Bool} (hD:∀ k,D k=true->k.Zi=false) (hW:∀ k,Nm.under Xn k=true->D k=true):qAl (lQ D [] hp) p m dp :=
 h.Zn (F:=jc D []) (λk hk=>qH) (λk hk=>qH)
theorem Z2.qEM (h:Z2 hp p (.c Xn 0 6) m dp) {F:Nm->Option Nm} (hF:∀ k,Nm.under Xn k=true->F k=some k) (hh:∀ k,Nm.under Xn k=true->hp' k=(hp k).map (AO.tr F)):Z2 hp' p (.c Xn 0 6) m dp:=by
 have hc:∀ j,Nm.under Xn (.c Xn 0 j)=true:=λj=>qB;have hq:∀ i j,Nm.under Xn (.c (.c Xn 0 6) i j)=true:=λi j=>qB;refine⟨?_,?_,?_,?_,?_,?_,?_,?_,h.fr.top.imp λjs hj=>?_,λi g hg=>?_,λi g hg=>?_,λi g hg=>(h.fr.stack i g hg).imp λj hj=>?_⟩
 .rw [hh _ qB,h.top]
  simp_all[uX]
 .rw [hh _ (hc 1),h.qAZ];simp
 .rw [hh _ (hc 2),h.cells];simp
 .rw [hh _ (hc 3),h.Zg];simp
 .rw [hh _ (hc 4),h.ZZ];simp
 .rw [hh _ (hc 5),h.Zw];simp
 .rw [hh _ (hc 9),h.out];simp
 .rw [hh _ (hc 10),h.trc];simp
 .simp_all
 .rw [hh _ (hq i 3),h.fr.Z3 i g hg];simp
 .rw [hh _ (hq i 5),h.fr.names i g hg];simp
 simp_all
theorem Z2.qCe (h:Z2 hp p (.c Xn 0 6) m dp):Z2 (lQ (Nm.under Xn) [] hp) p (.c Xn 0 6) m dp :=
 h.qEM (F:=jc (Nm.under Xn) []) (λk hk=>qH) (λk hk=>qH)
theorem KE (ho:(vI p f.Z1)[f.pc]?=some o) (h:o.1≠0):ux p f.next=ux p f:=by
 grind[ux,Z8.next,gp]
theorem KD (ho:(vI p f.Z1)[f.pc]?=some o) (h:o.1=0):ux p f.next=ux p f+1:=by
 grind[ux,Z8.next,gp]
theorem EB (hat:L[fs.length]?=some f) (ho:(vI p f.Z1)[f.pc]?=some o) (h:o.1≠0):qk (qz p n L) fs.length 1 [iv ((f.pc:Int)+1)]=qz p n (L.set fs.length f.next):=by
 grind[sZ,KE,jV,Z8.next]
theorem Dz (hat:L[fs.length]?=some f) (ho:(vI p f.Z1)[f.pc]?=some o) (h:o.1=0):qk (qk (qz p n L) fs.length 1 [iv ((f.pc:Int)+1)]) fs.length 2 [iv (ux p f+1)]=qz p n (L.set fs.length f.next):=by
 have hl:=(gS hat).1;apply wK;intro j;simp only [qk,pR,yr,eV];by_cases e:fs.length=j
 .subst e;rw [hat];have:=KD ho h
  simp_all[jV,Z8.next]
 .simp [e]
end
def pO (p:Z0) (b:Nat):List (List AV):=[Qx]::(List.range (b - 1)).map λb=>[isl (zt p (b+1))]
structure qEB (hp:Nm->Option AO) (p:Z0) (n b:Nat):Prop where
 top:hp Xn=some (.row 13 [[csl (qw p p.length),.hs (.c Xn 0 1) 1 0 b,.hs (.c Xn 0 2) 3 0 0,.hs (.c Xn 0 3) 3 0 8,.hs (.c Xn 0 4) 2 0 0,.hs (.c Xn 0 5) 1 0 0,.hs (.c Xn 0 6) 7 0 0,iv 0,iv 0,.hs (.c Xn 0 9) 1 0 0,.hs (.c Xn 0 10) 2 0 0,iv 0,iv n]])
 qAZ:hp (.c Xn 0 1)=some (.row 1 (pO p b))
 cells:hp (.c Xn 0 2)=some (.row 3 [])
 Zg:hp (.c Xn 0 3)=some (.row 3 (qW q9))
 ZZ:hp (.c Xn 0 4)=some (.row 2 [])
 Zw:hp (.c Xn 0 5)=some (.row 1 [])
 fr:hp (.c Xn 0 6)=some (.row 7 [])
 out:hp (.c Xn 0 9)=some (.row 1 [])
 trc:hp (.c Xn 0 10)=some (.row 2 [])
section
variable {hp hp':Nm->Option AO} {p:Z0} {m:Zb} {n b dp:Nat} {F:Nm->Option Nm}
@[simp] theorem capTo_tr:(pO p b).map (λr=>r.map (AV.tr F))=pO p b:=by
 have h:AV.tr F .bot=.bot:=rfl;simp [pO,h]
theorem Np (h:1<=b):(pO p b).length=b:=by grind[pO]
theorem Nq (h:1<=b):pO p b++[[isl (zt p b)]]=pO p (b+1):=by
 obtain⟨c,rfl⟩:∃ c,b=c+1:=⟨b - 1,qA⟩;simp [pO,HT]
@[simp] theorem capTo_one:pO p 1=[[Qx]]:=rfl
theorem qEB.own (h:qEB hp p n p.length) (h0:0<p.length):Z2 hp p (.c Xn 0 6) (z6 n) 0:=by
 refine⟨?_,?_,?_,?_,?_,?_,?_,?_,⟨[],?_⟩,λi f hf=>?_,λi f hf=>?_,λi f hf=>?_⟩
 .grind[top,uX,z6]
 .rw [h.qAZ];rfl
 .rw [h.cells];simp [z6]
 .rw [h.Zg];rfl
 .rw [h.ZZ];simp [z6]
 .rw [h.Zw];simp [z6]
 .rw [h.out];rfl
 .rw [h.trc];rfl
 .rw [h.fr];simp [z6]
 .grind[z6]
 .grind[z6]
 grind[z6]
theorem MO (hP:Zm p) (hn:n<=150):∃ N,(∀ i,i<N->¬ (j7 p i (q8 p n)).ended)/\(j7 p N (q8 p n)).ended/\j7 p N (q8 p n)=wB p n/\iR p N (q8 p n) 0=(wB p n).deep:=by
 obtain⟨N,h1,h2,h3⟩:=co (n:=n) hP hn;have hI:=Ds (n:=n) (t:=8) hP
 have hs:q8 p n={ z6 n with cells:=(q8 p n).cells,made:=1,deep:=1,ZW:=(q8 p n).ZW }/\(q8 p n).ZW.length=1:=by
  unfold q8 z8
  split
  .simp_all
  .exact⟨rfl,rfl⟩
 have hd:(q8 p n).deep=max 0 (q8 p n).ZW.length:=by
  grind
 cases N with
 | zero =>
  grind[j7,Zb.ended,z6]
 | succ N =>
  grind[M6,jo]
end
def fS (D:Nm->Bool) (S:Nm) (k:Nm):Option Nm:=if Nm.under S k then none else if D k then some k else none
section
variable {hp hp' H H':Nm->Option AO} {p:Z0} {m:Zb} {fs:List Z8} {f g:Z8} {R:List AV} {v:Zd} {F:Nm->Option Nm} {D:Nm->Bool} {a b c d:Nat} {S:Nm} {l:List AV} {o:Option AO} {x:AV}
theorem N1 (hD:∀ k,D k=true->k.Zi=false) (hS:D S=true):(λm=>((((kl (.s a) m).bind (kl (.s b))).bind (kl (.s c))).bind (mv (.s c) S)).bind (jc D []))=fS D S:=by
 funext m
 by_cases hx:D m=true
 .have h1:=(D_s hD hx a).2;have h2:=(D_s hD hx b).2;have h3:=(D_s hD hx c).2;by_cases hu:Nm.under S m=true
  .simp [h1,h2,h3,fS,hu]
  .simp only [bc] at hu;simp [h1,h2,h3,fS,hu,hx,jc]
 .simp only [bc] at hx;by_cases ha:Nm.under (.s a) m=true
  .simp [fS,ha,hx]
  .simp only [bc] at ha;by_cases hb:Nm.under (.s b) m=true
   .simp [fS,ha,hb,hx]
   .simp only [bc] at hb;by_cases hc:Nm.under (.s c) m=true
    .simp [fS,ha,hb,hc,hx]
    .simp only [bc] at hc;by_cases hu:Nm.under S m=true
     .simp [fS,ha,hb,hc,hu]
     .simp only [bc] at hu;simp [fS,ha,hb,hc,hu,hx,jc]
theorem ZM (hD:∀ k,D k=true->k.Zi=false) (hS:D S=true):(((((x.tr (kl (.s a))).tr (kl (.s b))).tr (kl (.s c))).tr (mv (.s c) S)).tr (jc D []))=x.tr (fS D S):=by
 rw [AV.qAW,AV.qAW,AV.qAW,AV.qAW]
 congr 1
 have:=N1 (a:=a) (b:=b) (c:=c) hD hS;rw [<- this]
 funext m
 cases kl (.s a) m with
 | none=>rfl
 | some m1 =>
  simp only [Ee]
  cases kl (.s b) m1 with
  | none=>rfl
  | some m2 =>
   simp only [Ee]
   cases kl (.s c) m2 <;> rfl
theorem ZL (hD:∀ k,D k=true->k.Zi=false) (hS:D S=true):(((l.map (AV.tr (kl (.s c))∘AV.tr (kl (.s b))∘AV.tr (kl (.s a)))).map (AV.tr (mv (.s c) S))).map (AV.tr (jc D [])))=l.map (AV.tr (fS D S)):=by
 simp only [xA];exact mz λx _=>ZM hD hS
theorem ZK (hD:∀ k,D k=true->k.Zi=false) (hS:D S=true):(((((o.map (AO.tr (kl (.s a)))).map (AO.tr (kl (.s b)))).map (AO.tr (kl (.s c)))).map (AO.tr (mv (.s c) S))).map (AO.tr (jc D [])))=o.map (AO.tr (fS D S)):=by
 cases o with
 | none=>rfl
 | some o =>
  simp only [kv];rw [AO.qAW,AO.qAW,AO.qAW,AO.qAW]
  congr 2
  have:=N1 (a:=a) (b:=b) (c:=c) hD hS;rw [<- this]
  funext m
  cases kl (.s a) m with
  | none=>rfl
  | some m1 =>
   simp only [Ee]
   cases kl (.s b) m1 with
   | none=>rfl
   | some m2 =>
    simp only [Ee]
    cases kl (.s c) m2 <;> rfl
def SD (D:Nm->Bool) (S:Nm) (off:Nat) (R:List AV) (vs:List Zd) (H:Nm->Option AO):Nm->AV->(Nm->Option AO)->Prop:=λ_ _ H' =>
 H' Yn=some (.row 4415 [Zz (R.map (AV.tr (fS D S))) off [.hs S 2 0 vs.length]])/\H' S=some (.row 2 (zn vs))/\∀ q,D q=true->q≠Yn->Nm.under S q=false->H' q=(H q).map (AO.tr (fS D S))
theorem ZY.qAo (h:ZY hp p m) (hm:m.ZW=fs++[f]) (hi:fs.length<151) (hS:S=.c Yn 0 (yo fs.length+28)) (hr:hp Yn=some (.row 4415 [R])) {y:AV} {r:Nm} (hw:SD DM S (yo fs.length+28) R (f.stack++[v]) (vC DM hp) r y H'):ZY H' p { m with ZW:=fs++[f.push v] }:=by
 obtain⟨J,j,hJ,hT,h2,h3,h28⟩:=h.qAj hm
 obtain rfl:R=zV p m (fs.length+1) (yc (fs++[f]) J):=by
  rw [hr] at hT
  injection hT with e
  injection e with e1 e2
  injection e2
 obtain⟨w1,w2,w3⟩:=hw;have hF:∀ k,DM k=true->Nm.under S k=false->fS DM S k=some k:=λk h1 h2=>by simp only [fS,h1,h2,if_true,ak,if_false]
 have hc:∀ j,j≠yo fs.length+28->Nm.under S (.c Yn 0 j)=false:=λj hj=>by subst hS;simp [hj]
 have hE:∀ i,Nm.under S (En i)=false:=λi=>by subst hS;simp
 have hw3:∀ q o,DM q=true->q≠Yn->Nm.under S q=false->hp q=some o->H' q=some (o.tr (fS DM S)):=λq o a1 a2 a3 a4=>by
  rw [w3 q a1 a2 a3];simp only [vC,a1,if_true,a4,kv]
 have hcN:∀ j,j≠yo fs.length+28->fS DM S (.c Yn 0 j)=some (.c Yn 0 j):=λj hj=>hF _ rfl (hc j hj);have hEN:∀ i,fS DM S (En i)=some (En i):=λi=>hF _ rfl (hE i);have hne:∀ i k,i≠fs.length\/k≠28->k<29->yo i+k≠yo fs.length+28:=λi k h1 h2=>vq;have hsp:fS DM S S=none:=by simp [fS]
 have hfix:∀ i g,i≠fs.length->(yfr i g).map (AV.tr (fS DM S))=yfr i g:=by
  intro i g hi;simp only [yfr,E6,B7,gi,Eb];have e2:=hcN _ (hne i 2 (.inl hi) qA);have e3:=hcN _ (hne i 3 (.inl hi) qA);have e28:=hcN _ (hne i 28 (.inl hi) qA);simp only [yo] at e2 e3 e28;simp [AV.tr,e2,e3,e28]
 have hrow:Zz ((zV p m (fs.length+1) (yc (fs++[f]) J)).map (AV.tr (fS DM S))) (yo fs.length+28) [.hs S 2 0 (f.stack++[v]).length]=zV p m (fs.length+1) (yc (fs++[f.push v]) λi=>(J i).map (AV.tr (fS DM S))):=by
  have hmap:(zV p m (fs.length+1) (yc (fs++[f]) J)).map (AV.tr (fS DM S))=zV p m (fs.length+1) λi=>(yc (fs++[f]) J i).map (AV.tr (fS DM S)):=by
   have h1:(cat (yc (fs++[f]) J) 151).map (AV.tr (fS DM S))=cat (λi=>(yc (fs++[f]) J i).map (AV.tr (fS DM S))) 151:=Ik λi _=>rfl;have hk:∀ j,j<32->fS DM S (.c Yn 0 j)=some (.c Yn 0 j):=λj hj=>hcN j vq;simp only [zV,E6,h1,B7];simp [yA,yB,yZ,hk,AV.tr,nI]
  rw [hmap];have:=Hc (p:=p) (m:=m) (h:=fs.length+1) (c:=λi=>(yc (fs++[f]) J i).map (AV.tr (fS DM S))) (c':=yc (fs++[f.push v]) λi=>(J i).map (AV.tr (fS DM S))) (i:=fs.length) (j:=28) (vals:=[.hs S 2 0 (f.stack++[v]).length]) (λi=>by simp [kQ hJ]) hi qB (λk hk=>?_) ?_
  .rw [<- nA] at this;exact this
  .unfold yc;rcases E7 k fs.length with e|e|e
   .rw [uW e,uW e,gE e];simp only;rw [hfix k _ hk]
   .exact absurd e hk
   .rw [pQ qc,pQ qc]
  .have h1:(fs++[f])[fs.length]?=some f:=qB;have h2:(fs++[f.push v])[fs.length]?=some (f.push v):=qB;rw [JC h1,JC h2];have e2:=hcN _ (hne fs.length 2 (.inr qA) qA);have e3:=hcN _ (hne fs.length 3 (.inr qA) qA);simp only [yo] at e2 e3
   have h3:(yfr fs.length f).map (AV.tr (fS DM S))=[iv f.Z1,iv f.pc,.hs (.c Yn 0 (32+29 * fs.length+2)) 3 0 f.Z3.length,.hs (.c Yn 0 (32+29 * fs.length+3)) 1 0 f.cells.length]++(aK f.names++[AV.bot]):=by
    have hb:fS DM S (.c Yn 0 (32+29 * fs.length+28))=none:=by rw [<- hS];exact hsp
    simp only [yfr,E6,B7,gi,Eb];simp [AV.tr,e2,e3,hb]
   rw [h3,hS];have h4:([iv f.Z1,iv f.pc,.hs (.c Yn 0 (32+29 * fs.length+2)) 3 0 f.Z3.length,.hs (.c Yn 0 (32+29 * fs.length+3)) 1 0 f.cells.length]++aK f.names).length=28:=qB;rw [<- xW];unfold Zz;rw [List.take_append_of_le_length HF,b9 HF,List.drop_eq_nil_of_le qB];simp [yfr,Z8.push]
 have key:∀ (i:Nat) f',(fs++[f.push v])[i]?=some f'->(i=fs.length/\f'=f.push v)\/(i<fs.length/\m.ZW[i]?=some f'):=by
  intro i f' hf;rcases E7 i fs.length with e|e|e
  .rw [uW e] at hf;exact .inr ⟨e,by rw [hm,uW e];exact hf⟩
  .subst e;simp at hf;exact .inl ⟨rfl,hf.symm⟩
  .rw [pQ qc] at hf
   cases hf
 have hy:∀ j,(.c Yn 0 j:Nm)≠Yn:=λj e=>um;refine⟨⟨λi=>(J i).map (AV.tr (fS DM S)),λi=>gI,?_⟩,?_,?_,?_,?_,?_,λi f' hf=>?_,λi f' hf=>?_,λi f' hf=>?_,λc s hs=>?_,λa b c ha hn=>?_⟩
 .rw [w1,hrow];simp only [am,dU]
  rfl
 .rw [hw3 _ _ rfl (hy 1) (hc 1 vq) h.qAZ];simp [AO.tr]
 .rw [hw3 _ _ rfl (hy 4) (hc 4 vq) h.out];simp [AO.tr]
 .rw [hw3 _ _ rfl (hy 5) (hc 5 vq) h.trc];simp [AO.tr]
 .rw [hw3 _ _ rfl (hy 30) (hc 30 vq) h.ZZ];simp only [AO.tr];rw [KM hEN]
 .rw [hw3 _ _ rfl (hy 31) (hc 31 vq) h.Zw];simp [AO.tr]
 .rcases key i f' hf with⟨rfl,rfl⟩|⟨hl,hf⟩
  .rw [hw3 _ _ rfl (hy _) (hc _ (hne fs.length 2 (.inr qA) qA)) h2];simp [AO.tr,Z8.push]
  .rw [hw3 _ _ rfl (hy _) (hc _ (hne i 2 (.inl qA) qA)) (h.Z3 i f' hf)];simp [AO.tr]
 .rcases key i f' hf with⟨rfl,rfl⟩|⟨hl,hf⟩
  .rw [hw3 _ _ rfl (hy _) (hc _ (hne fs.length 3 (.inr qA) qA)) h3];simp only [AO.tr];rw [dF hEN]
   rfl
  .rw [hw3 _ _ rfl (hy _) (hc _ (hne i 3 (.inl qA) qA)) (h.cls i f' hf)];simp only [AO.tr];rw [dF hEN]
 .rcases key i f' hf with⟨rfl,rfl⟩|⟨hl,hf⟩
  .exact⟨[],by rw [<- hS,w2];simp [Z8.push]⟩
  .exact (h.stack i f' hf).imp λj hj=>by rw [hw3 _ _ rfl (hy _) (hc _ (hne i 28 (.inl qA) qA)) hj];simp [AO.tr]
 .rw [hw3 _ _ rfl qB (hE c) (h.cell c s hs)];simp [AO.tr]
 .by_cases e:a=1/\b=0/\c=0
  .exact .inl e
  .refine h.only a b c ha λe'=>hn ?_;rw [w3 (.u a b c) ha (by simpa using e) (by subst hS;simp)];have hd:DM (.u a b c)=true:=ha;simp only [vC,hd,if_true,e',Option.map_none]
end
noncomputable def B6 (p:Z0) (f:Int):Int×Int:=if jT p f=true then ((wB p f.toNat).made,(wB p f.toNat).deep) else (-1,-1)
def Oo (m:Zb):Rsl:=⟨m.out,m.en,m.left,yd m.globals⟩
noncomputable def C9 (p:Z0) (f:Int):Rsl:=if jT p f=true then Oo (wB p f.toNat) else ⟨[],0,0,[]⟩
noncomputable def JK (p:Z0) (f:Int):List (Nat×Nat):=if jT p f=true then (wB p f.toNat).trace else []
section
variable {p:Z0} {f:Int}
theorem Pj (hs:Sml p):(C9 p f).out.length<=1000/\(C9 p f).gl.length<=8:=by
 grind[C9,jl,og,Zm.of,Oo,yd]
theorem PQ (hs:Sml p):(JK p f).length<=1000:=by
 grind[JK,jl,og,Zm.of]
end
end Go.Hm
end
