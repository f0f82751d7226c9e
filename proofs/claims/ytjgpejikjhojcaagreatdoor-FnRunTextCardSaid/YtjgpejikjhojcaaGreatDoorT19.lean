import Derived.Test.YtjgpejikjhojcaaGreatDoorT18
import Derived.ScopeJumps
set_option linter.unusedSimpArgs false
set_option linter.unusedVariables false
set_option maxRecDepth 100000
set_option maxHeartbeats 4000000

section
namespace Go.Hm
open Go Go.RowKit
theorem Nm.CD {k0 k1:Nm}:∀ {k:Nm},Nm.under k0 k=true->Nm.qz k1 k0 (Nm.qz k0 k1 k)=k:=by
 have base:∀ k:Nm,k=k0->Nm.qz k1 k0 (Nm.qz k0 k1 k)=k:=by
  simp
 intro k
 induction k<;>grind[under,qz,mz,de]
def zH (n:Nm) (o:AO) (hp:Nm->Option AO):Nm->Option AO:=λm=>if m=n then some o else hp m
@[simp] theorem wrO_eq {n m:Nm} {o:AO} {hp:Nm->Option AO}:zH n o hp m=if m=n then some o else hp m:=rfl
def uV (D:Nm->Bool) (hp' hp:Nm->Option AO):Prop:=∃ F:Nm->Option Nm,(∀ k,D k=true->F k=some k)/\∀ k,D k=true->hp' k=(hp k).map (AO.tr F)
def A5 (D:Nm->Bool) (v:AV) (n:Nm) (o:AO) (H:Nm->Option AO):Nm->AV->(Nm->Option AO)->Prop:=λ_ y H'=>y=v/\∀ k,D k=true->H' k=(zH n o H k).map (AO.tr (zE D []))
def nF (D:Nm->Bool) (N V:Nm) (d:Nat) (hp:Nm->Option AO) (m:Nm):Option Nm :=
 if Nm.under N m then (if m=N then some N else none) else if Nm.under V m then none else if Nm.under (.s d) m then none else if D m then (if m.z7&&(hp m).isSome then some m else none) else some m
def St.eS (st:St) (N V:Nm) (d:Nat) (D:Nm->Bool) (hp':Nm->Option AO):St :=
 { tm:=λt=>(st.tm t).tr (nF D N V d st.hp),
   hp:=λm=>if D m||Nm.under (.s d) m then hp' m else if Nm.under V m then none else (st.hp m).map (AO.tr (nF D N V d st.hp)),
   n:=st.n,gl:=st.gl }
section
variable {st:St} {N V m n:Nm} {d t:Nat} {D:Nm->Bool} {hp hp' H':Nm->Option AO}
@[simp] theorem rtn_eq:nF D N V d hp m=if Nm.under N m then (if m=N then some N else none) else if Nm.under V m then none else if Nm.under (.s d) m then none else if D m then (if m.z7&&(hp m).isSome then some m else none) else some m:=rfl
@[simp] theorem mutn_tm:(st.eS N V d D hp').tm t=(st.tm t).tr (nF D N V d st.hp):=rfl
@[simp] theorem mutn_gl:(st.eS N V d D hp').gl=st.gl:=rfl
@[simp] theorem mutn_hp:(st.eS N V d D hp').hp m=if D m||Nm.under (.s d) m then hp' m else if Nm.under V m then none else (st.hp m).map (AO.tr (nF D N V d st.hp)):=rfl
theorem XC (hV:V.z7=true) (hNV:Nm.under V N=false) (hDN:∀ k,Nm.under N k=true->D k=true) (hDV:∀ k,Nm.under V k=true->D k=false) (hs:(hp N).isSome=true) :
  (λm=>((mv N V m).bind (cf d (λk=>D k||Nm.under V k) (ze (λk=>D k||Nm.under V k) (jt N V hp)))).bind (mv V N))=nF D N V d hp:=by
 funext x
 by_cases hx:Nm.under N x=true
 .have hu:Nm.under V (Nm.qz N V x)=true:=Nm.de x hx;have hsd:=G4 (d:=d) hV hu;by_cases e:x=N<;>simp_all[jt,Fg]
 .simp only [kN] at hx;by_cases hv:Nm.under V x=true
  .simp_all
  .simp only [kN] at hv;by_cases hd:Nm.under (.s d) x=true
   .simp_all
   .simp only [kN] at hd;by_cases hD:D x=true
    .simp [hx,hv,hd,hD,jt]
     cases hp x <;> cases x.z7 <;> simp [hx,hv]
    simp_all
theorem KS {y:AV} (hV:V.z7=true) (hNV:Nm.under V N=false) (hDN:∀ k,Nm.under N k=true->D k=true) (hDV:∀ k,Nm.under V k=true->D k=false) (hDr:∀ k,D k=true->k.zo=false) (hs:(st.hp N).isSome=true) (hy:y.tr (mv V N)=y) :
  ∃ q,q=((((st.move N V).call d (λk=>D k||Nm.under V k) (ze (λk=>D k||Nm.under V k) (st.move N V).hp) H').put (some d) y).move V N)/\q=(st.eS N V d D q.hp).put (some d) y:=by
 refine⟨_,rfl,?_⟩;have hc:=XC (hp:=st.hp) (d:=d) hV hNV hDN hDV hs
 have e1:∀ a:AV,((a.tr (mv N V)).tr (cf d (λk=>D k||Nm.under V k) (ze (λk=>D k||Nm.under V k) (jt N V st.hp)))).tr (mv V N)=a.tr (nF D N V d st.hp):=by
  grind[AV.uq]
 have e2:∀ o:AO,((o.tr (mv N V)).tr (cf d (λk=>D k||Nm.under V k) (ze (λk=>D k||Nm.under V k) (jt N V st.hp)))).tr (mv V N)=o.tr (nF D N V d st.hp):=by
  grind[AO.uq]
 generalize hq:((((st.move N V).call d (λk=>D k||Nm.under V k) (ze (λk=>D k||Nm.under V k) (st.move N V).hp) H').put (some d) y).move V N)=q
 have h1:q.tm=((st.eS N V d D q.hp).put (some d) y).tm:=by
  subst hq
  funext t
  simp only [St.move,St.nm,St.put,St.eS,St.call]
  grind
 have h2:q.hp=((st.eS N V d D q.hp).put (some d) y).hp:=by
  funext m
  simp only [St.put,St.eS];by_cases hD:D m=true
  .simp [hD]
  simp only [kN] at hD;by_cases hd:Nm.under (.s d) m=true
  .simp [hd]
  simp only [kN] at hd
  have hN:Nm.under N m=false:=by
   grind
  simp only [hD,hd,Bool.or_false,b7,if_false];subst hq;simp only [St.move,St.nm,St.put,St.call,jt,hN,b7,if_false];by_cases hv:Nm.under V m=true
  .simp [hv]
  .simp only [kN] at hv;simp only [hv,hD,hd,Bool.or_false,b7,if_false]
   cases hm:st.hp m<;>grind
 have h3:q.n=((st.eS N V d D q.hp).put (some d) y).n:=by subst hq;rfl
 have h4:q.gl=((st.eS N V d D q.hp).put (some d) y).gl:=by subst hq;rfl
 cases q<;>grind[St.put]
theorem Ti {o:AO} {y:AV} (hV:V.z7=true) (hNV:Nm.under V N=false) (hDN:∀ k,Nm.under N k=true->D k=true) (hDV:∀ k,Nm.under V k=true->D k=false) (hDn:D n=true) (hNn:Nm.under N n=false)
  (hR:∀ k,(D k||Nm.under V k)=true->H' k=(zH n (o.tr (mv N V)) (ze (λk=>D k||Nm.under V k) (jt N V st.hp)) k).map (AO.tr (zE (λk=>D k||Nm.under V k) []))) :
  uV D ((((st.move N V).call d (λk=>D k||Nm.under V k) (ze (λk=>D k||Nm.under V k) (st.move N V).hp) H').put (some d) y).move V N).hp (zH n o st.hp):=by
 have hVn:Nm.under V n=false:=by
  grind
 refine⟨λk=>((mv N V k).bind (zE (λk=>D k||Nm.under V k) [])).bind (mv V N),λk hk=>?_,λk hk=>?_⟩
 .grind[Nm.de,mv,zE,Nm.CD]
 .have e2:∀ o:AO,((o.tr (mv N V)).tr (zE (λk=>D k||Nm.under V k) [])).tr (mv V N)=o.tr (λk=>((mv N V k).bind (zE (λk=>D k||Nm.under V k) [])).bind (mv V N)):=by
   grind[AO.uq]
  by_cases hx:Nm.under N k=true
  .have hu:Nm.under V (Nm.qz N V k)=true:=Nm.de k hx;have hne:¬ Nm.qz N V k=n:=λe=>qL;have hne2:¬ k=n:=λe=>qL;have hb:=Nm.CD (k1:=V) hx;have hb2:mv V N (Nm.qz N V k)=some k:=qL;have hb3:mv N V k=some (Nm.qz N V k):=qL;have hR1:=hR (Nm.qz N V k) te;simp only [zH,hne,if_false,ze,hu,Bool.or_true,if_true,jt,hb,hb3] at hR1;simp only [St.move,St.nm,St.put,St.call];simp only [jt,hx,if_true,hb2,hu,Bool.or_true,pa,hR1,zH,hne2,if_false]
   cases st.hp k<;>grind
  .simp only [kN] at hx
   have hv:Nm.under V k=false:=by
    grind
   have hR1:=hR k (by simp [hk]);simp only [zH,ze,hk,pa,if_true,jt,hx,hv,b7,if_false] at hR1;simp only [St.move,St.nm,St.put,St.call];simp only [jt,hx,hv,hk,b7,if_false,pa,if_true,hR1,zH];by_cases e:k=n
   .simp_all
   .simp only [e,if_false]
    cases st.hp k<;>grind
end
section
variable {D:Nm->Bool} {d i off:Nat} {rows:List (List AV)} {vals:List AV} {o:Option AO}
theorem Io (hD:∀ k,D k=true->k.zo=false):(λm=>(kl (.s d) m).bind (zE D []))=zE D []:=by
 funext m
 by_cases h:Nm.under (.s d) m=true
 .have h1:=Nm.l9 (a:=.s d) rfl h
  have h2:D m=false:=by
   grind
  simp_all
 simp_all
theorem Q7 (hD:∀ k,D k=true->k.zo=false) {a:AV}:(a.tr (kl (.s d))).tr (zE D [])=a.tr (zE D []):=by rw [AV.uq,Io hD]
theorem Q9 (hD:∀ k,D k=true->k.zo=false):(o.map (AO.tr (kl (.s d)))).map (AO.tr (zE D []))=o.map (AO.tr (zE D [])):=by
 cases o with
 | none=>rfl
 | some o=>simp only [uX,AO.uq,Io hD]
theorem yC (hD:∀ k,D k=true->k.zo=false) {q:Nm} (hq:D q=true) (d:Nat):¬ q=.s d/\Nm.under (.s d) q=false:=by
 have h:Nm.under (.s d) q=false:=by
  cases h:Nm.under (.s d) q with
  | false=>rfl
  | true=>have:=Nm.l9 (a:=.s d) rfl h;simp_all
 refine⟨λe=>?_,h⟩
 simp_all
end
section
variable {X:Ctx} {st:St} {K:St->Prop} {E:AV->St->Prop} {d f:Nat} {ty:TypeId} {pos:String} {aft:Array Edge} {g:Option (Nat×Bool)} {args:Array Operand} {Ts:Array TypeId} {az:List AV}
theorem NU (D:Nm->Bool) (N V n:Nm) (o:AO) (v:AV) (hV:V.z7=true:=by rfl) (hN:N.z7=false:=by rfl) (hVe:X.ext V=false) (hDr:∀ k,D k=true->k.zo=false) (hNV:Nm.under V N=false) (hDN:∀ k,Nm.under N k=true->D k=true) (hDV:∀ k,Nm.under V k=true->D k=false) (hs:(st.hp N).isSome=true)
  (hext:∀ k i j,X.ext (.u k i j)=true->D (.u k i j)=false\/st.hp (.u k i j)≠none) (hDn:D n=true) (hNn:Nm.under N n=false) (hv:v.tr (mv V N)=v) (hd:d<X.n:=by first|(simp;done)|fail)
  (ha:args.toList.map (ev (st.move N V))=az:=by simp [fx];first|done|rfl)
  (hF:qV X.P X.gl f (λk=>D k||Nm.under V k) az (ze (λk=>D k||Nm.under V k) (jt N V st.hp)) (A5 (λk=>D k||Nm.under V k) v n (o.tr (mv N V)) (ze (λk=>D k||Nm.under V k) (jt N V st.hp))) qy)
  (h:∀ hp',uV D hp' (zH n o st.hp)->K ((st.eS N V d D hp').put (some d) v)) :
  q8 X ⟨some d,.call ⟨.value (.func f),args,Ts⟩,ty,pos,aft,g⟩ K E st:=by
 refine kH N V (.inl hN) (.inr hVe) (oz V N (.inr hVe) (.inl hN) ?_);refine lh (λk=>D k||Nm.under V k) (λk hk=>?_) (λk i j he=>?_) hd ha hF ?_
 .grind[yq]
 .by_cases hD:D (.u k i j)=true
  .right;rcases hext k i j he with h|h
   .simp_all
   .have hn:Nm.under N (.u k i j)=false:=by grind[Nm.z7,Nm.under]
    have hv:Nm.under V (.u k i j)=false:=by
     grind
    simp_all
  grind[Nm.under]
 .rintro y H' ⟨rfl,hR⟩;obtain⟨q,hq,e⟩:=KS (d:=d) (H':=H') (st:=st) hV hNV hDN hDV hDr hs hv
  grind[Ti]
end
section
variable {hp hp':Nm->Option AO} {p:qC} {n:Nm} {m m':qU} {dp dp' i k:Nat} {fs L:List qN} {f g:qN} {o:Int×Int} {s:qu} {rows:List (List AV)} {j:List qR}
theorem Md (h:f.stack.length=k+1):f.stack=f.pop.stack++[f.zN]:=by
 have hne:f.stack≠[]:=λe=>qL
 grind[qN.pop,qN.zN,mH]
theorem la (h:f.stack.length=k+1):(f.stack++j)[k]?=some f.zN:=by
 have h1:=Md h
 simp_all
theorem CA (h:f.stack.length=k+1):f.pop.stack.length=k:=by simp [qN.pop,h]
end
section
variable {p:qC} {m:qU} {fs:List qN} {f:qN} {o:Int×Int}
structure Cr (m:qU) (f:qN) (o:Int×Int):Prop where
 arg:0<=o.2/\o.2<=1000
 lt:sf f o<(MQ m f o).length
 cell:5<=o.1->o.1<=7->f.cells[o.2.toNat]?=some (sf f o)
theorem Cr.of (hM:yy p m fs f) (hO:Cm p f.qD o) (hc:2<=o.1/\o.1<=13):Cr m f o:=by
 have h1:=hM.top.fl;have h2:=hM.top.cl;have h3:=hM.top.nm.1;have h4:=hM.zJ.1;have h5:=hO.arg;have h6:=hO.Ik hc.1;have h7:=hO.cell;have h8:=hO.name
 have key:5<=o.1->o.1<=7->f.cells[o.2.toNat]?=some (sf f o):=by
  grind[sf]
 refine⟨h5,?_,key⟩;unfold MQ;by_cases c4:o.1<=4
 .grind[sf]
 by_cases c7:o.1<=7
 .have:=hM.top.cr _ (gM (key qA c7))
  grind
 grind[sf]
variable {hp:Nm->Option AO} {dp k:Nat} {N:Nm}
end
def St.wR (st:St) (t:Nat) (N:Nm) (x:AV):St:={ tm:=λs=>if s=t then x else (st.tm s).tr (kl N),hp:=jG N st.hp,n:=st.n,gl:=st.gl }
section
variable {X:Ctx} {st:St} {a:Go.Act} {w:World} {K:St->Prop} {E:AV->St->Prop} {o:Oper} {t s:Nat} {N m:Nm} {x:AV}
@[simp] theorem stl_tm:(st.wR t N x).tm s=if s=t then x else (st.tm s).tr (kl N):=rfl
@[simp] theorem stl_hp:(st.wR t N x).hp m=if Nm.under N m then none else (st.hp m).map (AO.tr (kl N)):=rfl
@[simp] theorem stl_gl:(st.wR t N x).gl=st.gl:=rfl
theorem Rw.settle (h:Rw X st a w) (hb:Bw st.hp (λn=>decide (n≠N)) (st.tm t) x):Rw X (st.wR t N x) a w:=by
 obtain⟨C,g,h1,h2,h3,h4,h5,hg⟩:=h
 have hCN:∀ b,g.φ N=some b->st.hp N≠none->¬ C b/\(X.w0.heap.size<=b\/X.own b)/\b<w.heap.size:=by
  intro b hb hn;obtain⟨o,ho⟩:=cS.1 hn;exact hg.inv.qD N o b ho hb
 let C':Nat->Prop:=λb=>C b\/(g.φ N=some b/\st.hp N≠none)
 have hS:=hg.Me (C':=C') (g':=g.more C') (w':=w) (f:=kl N) (hp':=jG N st.hp) rfl (λb hb=>.inl hb) (by
  rintro b (hb|⟨hb,hn⟩)
  .exact hg.inv.u0 b hb
  simp_all) (by
  intro n n' e;simp only [kl] at e
  split at e
  .cases e
  .obtain rfl:=sI e;exact⟨rfl,rfl⟩) rfl rfl rfl (qX _) (λ_ _=>rfl) (λb hb ho=>rfl) (by
  intro n' o' e;left;simp only [jG] at e
  split at e
  .cases e
  .rename_i hu;obtain⟨o,ho,rfl⟩:=zg.1 e;refine⟨n',o,qL,ho,rfl,λb hb=>⟨rfl,?_⟩⟩;rintro (hc|⟨hc,hn⟩)
   .exact (hg.inv.qD n' o b ho hb).1 hc
   .obtain⟨o2,ho2⟩:=cS.1 hn;have:=hg.inv.inj n' N o o2 b ho ho2 hb hc
    simp_all)
 refine⟨C',g.more C',λb hb=>.inl (h1 b hb),?_,h3,h4,h5,?_⟩
 .grind
 .refine⟨hS.inv,hS.defers,hS.size,λs=>?_,hS.zJ⟩;by_cases e:s=t
  .subst e;simp only [St.wR,if_true];refine RV.bw hg.inv (λb hb=>.inl hb) (λn o b hD ho hk=>?_) hb (hg.cC s)
   grind
  .have:=hS.cC s
   simp_all[St.nm]
theorem UH (t:Nat) (N:Nm) (x:AV) (hb:Bw st.hp (λn=>decide (n≠N)) (st.tm t) x) (h:q8 X o K E (st.wR t N x)):q8 X o K E st:=λa w Q hR hE=>h a w Q (hR.settle hb) hE
theorem UI (t:Nat) (N:Nm) (h:q8 X o (λs=>∃ x,Bw s.hp (λn=>decide (n≠N)) (s.tm t) x/\K (s.wR t N x)) E st):q8 X o K E st:=by
 refine q8.post h ?_;rintro s a w hR ⟨x,hb,hK⟩;exact⟨_,hR.settle hb,hK⟩
theorem Hq {hp:Nm->Option AO} {N:Nm} {z len:Nat} {rows:List (List AV)} (hn:hp N=some (.row z rows)) (hl:len=rows.length) (hu:∀ r∈rows,r.length=z):Bw hp (λn=>decide (n≠N)) (.hs N z 0 len) (.sl z rows):=by
 refine .hs N z 0 len rows rows qB hn qA hl.symm hu λi r r' h1 h2 j a a' h3 h4=>?_;rw [ia,h2] at h1;obtain rfl:=sI h1;rw [h3] at h4;obtain rfl:=sI h4;exact .refl _
theorem Ka (t:Nat) (N:Nm) (z len:Nat) (rows:List (List AV)) (ht:st.tm t=.hs N z 0 len) (hn:st.hp N=some (.row z rows)) (hl:len=rows.length) (hu:∀ r∈rows,r.length=z) (h:q8 X o K E (st.wR t N (.sl z rows))):q8 X o K E st :=
 UH t N _ (by grind[Hq]) h
end
theorem G8 {X:Ctx} {st:St} {c:Code} {Q:Ex->St->Prop} (n0 n1:Nm) (h0:n0.z7=false\/X.ext n0=false) (h1:n1.z7=false\/X.ext n1=false) (h:zu X c Q (st.move n0 n1)):zu X c Q st:=λa w hR=>h a w (hR.move n0 n1 h0 h1)
def oj (l:Nat) (I:St->Prop) (Q:Ex->St->Prop):Ex->St->Prop
 | .goto l',st=>l'=l/\I st
 | .normal,st=>Q .normal st
 | .exit id,st=>Q (.exit id) st
 | .ret,st=>Q .ret st
 | .aj x,st=>Q (.aj x) st
section
variable {X:Ctx} {st:St} {Q:Ex->St->Prop} {l:Nat} {I:St->Prop} {id:Nat} {x:AV}
theorem SE (h:Q .normal st):oj l I Q .normal st:=h
theorem SF (h:Q .ret st):oj l I Q .ret st:=h
theorem J3 (h:I st):oj l I Q (.goto l) st:=⟨rfl,h⟩
theorem qAD {c rest:Code} (l:Nat) (hf:findLabel c l=some rest) (I:Nat->St->Prop) (h0:zu X c (oj l (λs=>∃ n,I n s) Q) st) (hpass:∀ n s,s.n=X.n->s.gl=X.gl->I n s->zu X rest (oj l (λs'=>∃ m,m<n/\I m s') Q) s):zu X (.scope c) Q st:=by
 intro a w hR
 let J:Nat->Go.Act->World->Prop:=λn a w=>∃ st,Rw X st a w/\I n st
 let μ:Go.Act->World->Nat:=λa w=>open Classical in if h:∃ n,J n a w then (Bg h).choose else 0
 have hμ:∀ n a w,J n a w->μ a w<=n:=by
  intro n a w hJ;have hex:∃ n,J n a w:=⟨n,hJ⟩;simp only [μ,dif_pos hex];exact (Bg hex).choose_spec.2 n hJ
 refine wp_scope_jumps l (λa w=>∃ n,J n a w) μ hf (wp_mono (h0 a w hR) λe a' w' he=>?_) λa w hJ=>?_
 .cases e with
  | goto l' =>
   obtain⟨st',hR',rfl,n,hI⟩:=he;constructor<;>grind
  | normal=>exact he
  | exit id=>exact he
  | ret=>exact he
  | panic ch=>exact he
  | outgrown=>exact he
 .have hspec:J (μ a w) a w:=by
   grind
  obtain⟨st1,hR1,hI1⟩:=hspec;have hR1':=hR1;obtain⟨C,g,x1,x2,x3,x4,x5,x6⟩:=hR1;refine wp_mono (hpass _ st1 x3 x4 hI1 a w hR1') λe a' w' he=>?_
  cases e with
  | goto l' =>
   obtain⟨st',hR',rfl,m,hlt,hI⟩:=he;exact⟨rfl,⟨m,st',hR',hI⟩,Nat.lt_of_le_of_lt (hμ m a' w' ⟨st',hR',hI⟩) hlt⟩
  | normal=>exact he
  | exit id=>exact he
  | ret=>exact he
  | panic ch=>exact he
  | outgrown=>exact he
end
section
variable {D:Nm->Bool} {a b c:Nat} {l:List AV}
theorem Ip (hD:∀ k,D k=true->k.zo=false):(l.map (AV.tr (kl (.s a)))).map (AV.tr (zE D []))=l.map (AV.tr (zE D [])):=by
 simp_all[Q7]
theorem Q8 (hD:∀ k,D k=true->k.zo=false):(l.map (AV.tr (kl (.s a))∘AV.tr (kl (.s b)))).map (AV.tr (zE D []))=l.map (AV.tr (zE D [])):=by
 rw [<- ie,Ip hD,Ip hD]
end
abbrev yo (i:Nat):Nat:=32+29 * i
def HP (D:Nm->Bool) (v:AV) (H:Nm->Option AO):Nm->AV->(Nm->Option AO)->Prop:=λ_ y H'=>y=v/\∀ k,D k=true->H' k=(H k).map (AO.tr (zE D []))
section
variable {hp hp' H H':Nm->Option AO} {p:qC} {m m0 m':qU} {fs:List qN} {f g:qN} {R:List AV} {k:Nat} {r:Nm} {y v:AV} {o:AO}
variable {P:Program} {C:Nat->Prop} {w:World} {g0:Gh} {gl:Nat->Option (List AV)} {n:Nat} {st:St} {K:St->Prop} {E:AV->St->Prop} {d c:Nat} {ty:TypeId} {pos:String} {aft:Array Edge} {gd:Option (Nat×Bool)} {args:Array Operand} {Ts:Array TypeId} {az:List AV} {Rr:Nm->AV->(Nm->Option AO)->Prop}
theorem zk (h0:qE H p m0) (hO:qE st.hp p m) (hl:m0.cells.length<=m.cells.length) (hd:d<n:=by first|(simp;done)|fail) (ha:args.toList.map (ev st)=az:=by simp [fx];first|done|rfl)
  (hF:qE (ze DM st.hp) p m->qV P gl c DM az (ze DM st.hp) Rr qy) (h:∀ y H',Rr (.s d) y H'->K ((st.call d DM (ze DM st.hp) H').put (some d) y)) :
  q8 (jb P C w g0 H n gl) ⟨some d,.call ⟨.value (.func c),args,Ts⟩,ty,pos,aft,gd⟩ K E st:=lh DM (λ_=>qv) (λk i j he=>h0.ext hO hl k i j he) hd ha (hF hO.sub) h
theorem qE.post (h:qE hp p m) (hh:∀ q,DM q=true->hp' q=(hp q).map (AO.tr (zE DM []))):qE hp' p m :=
 h.qz (f:=zE DM []) (λq hq=>qL) hh
theorem qE.CR (h:qE hp p m) (hw:HP DM v (ze DM hp) r y H'):qE H' p m:=by
 refine h.post λq hq=>?_;rw [hw.2 q hq]
 simp_all
theorem qE.qi (h:qE (zH Yn o hp) p m) (hw:A5 DM v Yn o (ze DM hp) r y H'):qE H' p m:=by
 refine h.post λq hq=>?_;rw [hw.2 q hq]
 simp_all
theorem qE.nL (h:qE hp p m) (hm:m.qW=fs++[f]):∃ (J:Nat->List AV) (j:List qR),(∀ i,(J i).length=29)/\hp Yn=some (.row 4415 [qe p m (fs.length+1) (yc (fs++[f]) J)])/\hp (.c Yn 0 (yo fs.length+2))=some (.row 3 (j4 f.qw))/\hp (.c Yn 0 (yo fs.length+3))=some (.row 1 (zV f.cells))/\hp (.c Yn 0 (yo fs.length+28))=some (.row 2 (jZ (f.stack++j))):=by
 obtain⟨J,hJ,e⟩:=h.top;have hf:m.qW[fs.length]?=some f:=gc;obtain⟨j,hs⟩:=h.stack _ f hf;refine⟨J,j,hJ,?_,h.qw _ f hf,h.cls _ f hf,hs⟩
 simp_all
structure lx (p:qC) (m:qU) (i:Nat) (f:qN) (R:List AV):Prop where
 len:R.length=4415
 r0:R[0]?=some (bL (yl p p.length))
 r1:R[1]?=some (.hs (.c Yn 0 1) 1 0 p.length)
 r2:R[2]?=some (iv m.left)
 r3:R[3]?=some (iv m.en)
 r4:R[4]?=some (.hs (.c Yn 0 4) 1 0 m.out.length)
 r5:R[5]?=some (.hs (.c Yn 0 5) 2 0 m.trace.length)
 dX:R[30]?=some (.hs (.c Yn 0 30) 2 0 m.qJ.length)
 fj:R[31]?=some (.hs (.c Yn 0 31) 24 0 m.qO.length)
 h:R[4411]?=some (iv ((i:Int)+1))
 f0:R[yo i]?=some (iv f.qD)
 f1:R[yo i+1]?=some (iv f.pc)
 f2:R[yo i+2]?=some (.hs (.c Yn 0 (yo i+2)) 3 0 f.qw.length)
 f3:R[yo i+3]?=some (.hs (.c Yn 0 (yo i+3)) 1 0 f.cells.length)
 f28:R[yo i+28]?=some (.hs (.c Yn 0 (yo i+28)) 2 0 f.stack.length)
 gl:∀ x j:Nat,x<8->j<3->R[6+(3 * x+j)]?=(j6 (zn m.globals x))[j]?
 nm:∀ x j:Nat,x<8->j<3->R[yo i+4+(3 * x+j)]?=(j6 (zn f.names x))[j]?
 tb:(R.drop (yo i+4)).take 24=jN f.names
theorem Zw {J:Nat->List AV} (hJ:∀ i,(J i).length=29) (hi:fs.length<151):lx p m fs.length f (qe p m (fs.length+1) (yc (fs++[f]) J)):=by
 have hc:=cJ (fs:=fs++[f]) hJ;have hf:(fs++[f])[fs.length]?=some f:=qB
 have hat:∀ {j:Nat},j<29->(qe p m (fs.length+1) (yc (fs++[f]) J))[yo fs.length+j]?=(yR fs.length f)[j]?:=by
  simp_all[cP,qA7,tC]
 refine⟨nW hc,N0,qA9,N1,N2,N3,qAf,qAa,qAb,?_,?_,?_,?_,?_,?_,λx j hx hj=>qAg hx hj,λx j hx hj=>?_,?_⟩
 .grind[Cf]
 .exact (hat (j:=0) qA).trans rfl
 .rw [hat qA];rfl
 .rw [hat qA];rfl
 .rw [hat qA];rfl
 .grind[qBC]
 .rw [cP,hat qA];grind[qBD]
 grind[qA8,tC,qBH]
theorem su {a b:AV} {i:Nat} (h1:R[i]?=some a) (h2:R[i+1]?=some b):(R.drop i).take 2=[a,b]:=by
 grind[gO]
theorem qE.gx (h:qE hp p m) (hm:m.qW=fs++[f]) (hi:fs.length<151) (hr:hp Yn=some (.row 4415 [R])) (hk:f.stack.length=k+1):qE (zH Yn (.row 4415 [ql R (yo fs.length+28) [.hs (.c Yn 0 (yo fs.length+28)) 2 0 k]]) hp) p { m with qW:=fs++[f.pop] }:=by
 obtain⟨J,j,hJ,hT,h2,h3,h28⟩:=h.nL hm
 obtain rfl:R=qe p m (fs.length+1) (yc (fs++[f]) J):=by
  simp_all
 have hlen:=CA hk
 have hs:ql (qe p m (fs.length+1) (yc (fs++[f]) J)) (yo fs.length+28) [.hs (.c Yn 0 (yo fs.length+28)) 2 0 k]=qe p m (fs.length+1) (yc (fs++[f.pop]) J):=by
  have:=Ch (p:=p) (m:=m) (h:=fs.length+1) (fs:=fs++[f]) (i:=fs.length) (f:=f) (g:=f.pop) (j:=28) (vals:=[.hs (.c Yn 0 (yo fs.length+28)) 2 0 k]) hJ qB hi qB (by
   have:=qBG (i:=fs.length) (f:=f) (l:=f.pop.stack);rw [hlen] at this;exact this)
  grind
 rw [hs]
 have key:∀ (i:Nat) f',(fs++[f.pop])[i]?=some f'->∃ f'',m.qW[i]?=some f''/\f'.qw=f''.qw/\f'.cells=f''.cells/\∃ l,f''.stack=f'.stack++l:=by
  intro i f' hf;rcases pb i fs.length with e|e|e
  .simp_all[vn]
  .subst e;simp at hf;subst hf;exact⟨f,gc,rfl,rfl,[f.zN],Md hk⟩
  grind
 refine⟨⟨J,hJ,?_⟩,by simp [h.aK],by simp [h.out],by simp [h.yH],by simp [h.qJ],by simp [h.jk],λi f' hf=>?_,λi f' hf=>?_,λi f' hf=>?_,λc s hc=>by simp [h.cell c s hc],λa b c ha hn=>?_⟩
 .simp only [zH,if_true,kC,b8]
  rfl
 .obtain⟨f'',h1,h2,_,_⟩:=key i f' hf;rw [h2];simp [h.qw i f'' h1]
 .obtain⟨f'',h1,_,h2,_⟩:=key i f' hf;rw [h2];simp [h.cls i f'' h1]
 .obtain⟨f'',h1,_,_,l,h2⟩:=key i f' hf;obtain⟨j',hj'⟩:=h.stack i f'' h1;exact⟨l++j',qL⟩
 .by_cases e:a=1/\b=0/\c=0
  .omega
  .refine h.only a b c ha λe'=>hn ?_
   simp_all
end
def qN.cut (f:qN) (i:Nat):qN:={ f with stack:=f.stack.take (f.stack.length - i) }
section
variable {f:qN} {i n:Nat} {p:qC} {m:qU} {fs:List qN}
theorem Pu:f.cut 0=f:=by simp [qN.cut]
theorem Pt (h:i<f.stack.length):(f.cut i).stack.length=(f.stack.length - (i+1))+1:=by grind[qN.cut]
theorem I3 (h:i<f.stack.length):(f.cut i).pop=f.cut (i+1):=by
 grind[qN.pop,qN.cut,List.dropLast_eq_take]
theorem EK (h:i<f.stack.length):f.stack[f.stack.length - (i+1)]?=some (f.cut i).zN:=by
 grind[qN.cut,qN.zN]
theorem Ps (h:i<f.stack.length):f.stack.drop (f.stack.length - (i+1))=(f.cut i).zN::f.stack.drop (f.stack.length - i):=by
 have h1:=EK h
 grind[gO]
theorem PL (h:n+1<=f.stack.length):eE p m fs f (17,(n:Int))=if (f.cut n).zN.1≠2 then m.stop fs (f.cut (n+1)) 5 else match m.qJ[(f.cut n).zN.2.toNat]? with
  | some g=>if vT p g.1≠n then m.stop fs (f.cut (n+1)) 6 else vP p (m.top fs (f.cut (n+1))) g.1 g.2 (f.stack.drop (f.stack.length - n))
  | none=>m.stop fs (f.cut (n+1)) 5:=by
 have h1:=EK (f:=f) (i:=n) qA
 have h2:f.stack.getD (f.stack.length - n - 1) (0,0)=(f.cut n).zN:=by
  grind
 have h3:({ f with stack:=f.stack.take (f.stack.length - n - 1) }:qN)=f.cut (n+1):=by rw [Nat.sub_sub];rfl
 grind[eE,vN]
end
section
variable {hp:Nm->Option AO} {p:qC} {n:Nm} {m:qU} {dp i b e nf nk nc:Nat} {fs L:List qN} {f:qN} {k:qT}
theorem PS (hh:zZ p) (h:iU p nf nk nc f e) (hk:p[b]?=some k) (hpar:k.parent=f.qD) (i:Nat) (y:Int) (hy:(jr p b)[i]?=some y):∃ z:Nat,y=z/\∃ c,(eT f.cells)[z]?=some c/\((jV p f b)[i]?).map (λ(x:Nat)=>(x:Int))=some c:=by
 have hpa:kU p b=f.qD:=by grind[kU]
 have hr:=IJ hh hk y (gM hy);rw [hpa] at hr;have hcl:=h.cl;have hlt:y.toNat<f.cells.length:=qA
 grind[eT,jV]
end
end Go.Hm
end
section

end
section

end
section
namespace Go.Hm
open Go Go.RowKit
def fS (D:Nm->Bool) (S:Nm) (k:Nm):Option Nm:=if Nm.under S k then none else if D k then some k else none
section
variable {hp hp' H H':Nm->Option AO} {p:qC} {m:qU} {fs:List qN} {f g:qN} {R:List AV} {v:qR} {F:Nm->Option Nm} {D:Nm->Bool} {a b c d:Nat} {S:Nm} {l:List AV} {o:Option AO} {x:AV}
theorem Ij (hD:∀ k,D k=true->k.zo=false) (hS:D S=true):(λm=>((((kl (.s a) m).bind (kl (.s b))).bind (kl (.s c))).bind (mv (.s c) S)).bind (zE D []))=fS D S:=by
 funext m
 by_cases hx:D m=true
 .have h1:=(yC hD hx a).2;have h2:=(yC hD hx b).2;have h3:=(yC hD hx c).2;by_cases hu:Nm.under S m=true
  .simp [h1,h2,h3,fS,hu]
  .simp only [kN] at hu;simp [h1,h2,h3,fS,hu,hx,zE]
 .simp only [kN] at hx;by_cases ha:Nm.under (.s a) m=true
  .simp [fS,ha,hx]
  .simp only [kN] at ha;by_cases hb:Nm.under (.s b) m=true
   .simp [fS,ha,hb,hx]
   .simp only [kN] at hb;by_cases hc:Nm.under (.s c) m=true
    .simp [fS,ha,hb,hc,hx]
    .simp only [kN] at hc;by_cases hu:Nm.under S m=true
     .simp [fS,ha,hb,hc,hu]
     .simp only [kN] at hu;simp [fS,ha,hb,hc,hu,hx,zE]
theorem QX (hD:∀ k,D k=true->k.zo=false) (hS:D S=true):(((((x.tr (kl (.s a))).tr (kl (.s b))).tr (kl (.s c))).tr (mv (.s c) S)).tr (zE D []))=x.tr (fS D S):=by
 rw [AV.uq,AV.uq,AV.uq,AV.uq]
 congr 1
 have:=Ij (a:=a) (b:=b) (c:=c) hD hS;rw [<- this]
 funext m
 cases kl (.s a) m with
 | none=>rfl
 | some m1 =>
  simp only [mG]
  cases kl (.s b) m1 with
  | none=>rfl
  | some m2 =>
   simp only [mG]
   cases kl (.s c) m2 <;> rfl
theorem QY (hD:∀ k,D k=true->k.zo=false) (hS:D S=true):(((l.map (AV.tr (kl (.s c))∘AV.tr (kl (.s b))∘AV.tr (kl (.s a)))).map (AV.tr (mv (.s c) S))).map (AV.tr (zE D [])))=l.map (AV.tr (fS D S)):=by
 simp only [ie];exact fE λx _=>QX hD hS
theorem QZ (hD:∀ k,D k=true->k.zo=false) (hS:D S=true):(((((o.map (AO.tr (kl (.s a)))).map (AO.tr (kl (.s b)))).map (AO.tr (kl (.s c)))).map (AO.tr (mv (.s c) S))).map (AO.tr (zE D [])))=o.map (AO.tr (fS D S)):=by
 cases o with
 | none=>rfl
 | some o =>
  simp only [uX];rw [AO.uq,AO.uq,AO.uq,AO.uq]
  congr 2
  have:=Ij (a:=a) (b:=b) (c:=c) hD hS;rw [<- this]
  funext m
  cases kl (.s a) m with
  | none=>rfl
  | some m1 =>
   simp only [mG]
   cases kl (.s b) m1 with
   | none=>rfl
   | some m2 =>
    simp only [mG]
    cases kl (.s c) m2 <;> rfl
def HM (D:Nm->Bool) (S:Nm) (off:Nat) (R:List AV) (vs:List qR) (H:Nm->Option AO):Nm->AV->(Nm->Option AO)->Prop:=λ_ _ H' =>
 H' Yn=some (.row 4415 [ql (R.map (AV.tr (fS D S))) off [.hs S 2 0 vs.length]])/\H' S=some (.row 2 (jZ vs))/\∀ q,D q=true->q≠Yn->Nm.under S q=false->H' q=(H q).map (AO.tr (fS D S))
theorem qE.cm (h:qE hp p m) (hm:m.qW=fs++[f]) (hi:fs.length<151) (hS:S=.c Yn 0 (yo fs.length+28)) (hr:hp Yn=some (.row 4415 [R])) {y:AV} {r:Nm} (hw:HM DM S (yo fs.length+28) R (f.stack++[v]) (ze DM hp) r y H'):qE H' p { m with qW:=fs++[f.push v] }:=by
 obtain⟨J,j,hJ,hT,h2,h3,h28⟩:=h.nL hm
 obtain rfl:R=qe p m (fs.length+1) (yc (fs++[f]) J):=by
  rw [hr] at hT
  injection hT with e
  injection e with e1 e2
  injection e2
 obtain⟨w1,w2,w3⟩:=hw;have hF:∀ k,DM k=true->Nm.under S k=false->fS DM S k=some k:=λk h1 h2=>by simp only [fS,h1,h2,if_true,b7,if_false]
 have hc:∀ j,j≠yo fs.length+28->Nm.under S (.c Yn 0 j)=false:=λj hj=>by subst hS;simp [hj]
 have hE:∀ i,Nm.under S (En i)=false:=λi=>by subst hS;simp
 have hw3:∀ q o,DM q=true->q≠Yn->Nm.under S q=false->hp q=some o->H' q=some (o.tr (fS DM S)):=λq o a1 a2 a3 a4=>by
  rw [w3 q a1 a2 a3];simp only [ze,a1,if_true,a4,uX]
 have hcN:∀ j,j≠yo fs.length+28->fS DM S (.c Yn 0 j)=some (.c Yn 0 j):=λj hj=>hF _ rfl (hc j hj);have hEN:∀ i,fS DM S (En i)=some (En i):=λi=>hF _ rfl (hE i);have hne:∀ i k,i≠fs.length\/k≠28->k<29->yo i+k≠yo fs.length+28:=λi k h1 h2=>uv;have hsp:fS DM S S=none:=by simp [fS]
 have hfix:∀ i g,i≠fs.length->(yR i g).map (AV.tr (fS DM S))=yR i g:=by
  intro i g hi;simp only [yR,oB,BQ,cR,List.map_nil];have e2:=hcN _ (hne i 2 (.inl hi) qA);have e3:=hcN _ (hne i 3 (.inl hi) qA);have e28:=hcN _ (hne i 28 (.inl hi) qA);simp only [yo] at e2 e3 e28;simp [AV.tr,e2,e3,e28]
 have hrow:ql ((qe p m (fs.length+1) (yc (fs++[f]) J)).map (AV.tr (fS DM S))) (yo fs.length+28) [.hs S 2 0 (f.stack++[v]).length]=qe p m (fs.length+1) (yc (fs++[f.push v]) λi=>(J i).map (AV.tr (fS DM S))):=by
  have hmap:(qe p m (fs.length+1) (yc (fs++[f]) J)).map (AV.tr (fS DM S))=qe p m (fs.length+1) λi=>(yc (fs++[f]) J i).map (AV.tr (fS DM S)):=by
   have h1:(yk (yc (fs++[f]) J) 151).map (AV.tr (fS DM S))=yk (λi=>(yc (fs++[f]) J i).map (AV.tr (fS DM S))) 151:=BI λi _=>rfl;have hk:∀ j,j<32->fS DM S (.c Yn 0 j)=some (.c Yn 0 j):=λj hj=>hcN j uv;simp only [qe,oB,h1,BQ];simp [yA,yB,yZ,hk,AV.tr,C5]
  rw [hmap];have:=Cg (p:=p) (m:=m) (h:=fs.length+1) (c:=λi=>(yc (fs++[f]) J i).map (AV.tr (fS DM S))) (c':=yc (fs++[f.push v]) λi=>(J i).map (AV.tr (fS DM S))) (i:=fs.length) (j:=28) (vals:=[.hs S 2 0 (f.stack++[v]).length]) (λi=>by simp [cJ hJ]) hi qB (λk hk=>?_) ?_
  .rw [<- cP] at this;exact this
  .unfold yc;rcases pb k fs.length with e|e|e
   .rw [vn e,vn e,gE e];simp only;rw [hfix k _ hk]
   .exact absurd e hk
   .rw [fD qn,fD qn]
  .have h1:(fs++[f])[fs.length]?=some f:=qB;have h2:(fs++[f.push v])[fs.length]?=some (f.push v):=qB;rw [tC h1,tC h2];have e2:=hcN _ (hne fs.length 2 (.inr qA) qA);have e3:=hcN _ (hne fs.length 3 (.inr qA) qA);simp only [yo] at e2 e3
   have h3:(yR fs.length f).map (AV.tr (fS DM S))=[iv f.qD,iv f.pc,.hs (.c Yn 0 (32+29 * fs.length+2)) 3 0 f.qw.length,.hs (.c Yn 0 (32+29 * fs.length+3)) 1 0 f.cells.length]++(jN f.names++[AV.bot]):=by
    have hb:fS DM S (.c Yn 0 (32+29 * fs.length+28))=none:=by rw [<- hS];exact hsp
    simp only [yR,oB,BQ,cR,List.map_nil];simp [AV.tr,e2,e3,hb]
   rw [h3,hS];have h4:([iv f.qD,iv f.pc,.hs (.c Yn 0 (32+29 * fs.length+2)) 3 0 f.qw.length,.hs (.c Yn 0 (32+29 * fs.length+3)) 1 0 f.cells.length]++jN f.names).length=28:=qB;rw [<- ig];unfold ql;rw [List.take_append_of_le_length (by rw [h4];exact qX _),yU (by rw [h4];exact qX _),List.drop_eq_nil_of_le qB];simp [yR,qN.push]
 have key:∀ (i:Nat) f',(fs++[f.push v])[i]?=some f'->(i=fs.length/\f'=f.push v)\/(i<fs.length/\m.qW[i]?=some f'):=by
  intro i f' hf;rcases pb i fs.length with e|e|e
  .rw [vn e] at hf;exact .inr ⟨e,by rw [hm,vn e];exact hf⟩
  .subst e;simp at hf;exact .inl ⟨rfl,hf.symm⟩
  .rw [fD qn] at hf
   cases hf
 have hy:∀ j,(.c Yn 0 j:Nm)≠Yn:=λj e=>vQ;refine⟨⟨λi=>(J i).map (AV.tr (fS DM S)),λi=>fN,?_⟩,?_,?_,?_,?_,?_,λi f' hf=>?_,λi f' hf=>?_,λi f' hf=>?_,λc s hs=>?_,λa b c ha hn=>?_⟩
 .rw [w1,hrow];simp only [kC,b8]
  rfl
 .rw [hw3 _ _ rfl (hy 1) (hc 1 uv) h.aK];simp [AO.tr]
 .rw [hw3 _ _ rfl (hy 4) (hc 4 uv) h.out];simp [AO.tr]
 .rw [hw3 _ _ rfl (hy 5) (hc 5 uv) h.yH];simp [AO.tr]
 .rw [hw3 _ _ rfl (hy 30) (hc 30 uv) h.qJ];simp only [AO.tr];rw [RE hEN]
 .rw [hw3 _ _ rfl (hy 31) (hc 31 uv) h.jk];simp [AO.tr]
 .rcases key i f' hf with⟨rfl,rfl⟩|⟨hl,hf⟩
  .rw [hw3 _ _ rfl (hy _) (hc _ (hne fs.length 2 (.inr qA) qA)) h2];simp [AO.tr,qN.push]
  .rw [hw3 _ _ rfl (hy _) (hc _ (hne i 2 (.inl qA) qA)) (h.qw i f' hf)];simp [AO.tr]
 .rcases key i f' hf with⟨rfl,rfl⟩|⟨hl,hf⟩
  .rw [hw3 _ _ rfl (hy _) (hc _ (hne fs.length 3 (.inr qA) qA)) h3];simp only [AO.tr];rw [rq hEN]
   rfl
  .rw [hw3 _ _ rfl (hy _) (hc _ (hne i 3 (.inl qA) qA)) (h.cls i f' hf)];simp only [AO.tr];rw [rq hEN]
 .rcases key i f' hf with⟨rfl,rfl⟩|⟨hl,hf⟩
  .exact⟨[],by rw [<- hS,w2];simp [qN.push]⟩
  .exact (h.stack i f' hf).imp λj hj=>by rw [hw3 _ _ rfl (hy _) (hc _ (hne i 28 (.inl qA) qA)) hj];simp [AO.tr]
 .rw [hw3 _ _ rfl qB (hE c) (h.cell c s hs)];simp [AO.tr]
 .by_cases e:a=1/\b=0/\c=0
  .exact .inl e
  .refine h.only a b c ha λe'=>hn ?_;rw [w3 (.u a b c) ha (by simpa using e) (by subst hS;simp)];have hd:DM (.u a b c)=true:=ha;simp only [ze,hd,if_true,e',Option.map_none]
end
def CE (m:qU):eu:=⟨m.out,m.en,m.left,kx m.globals⟩
noncomputable def iD (p:qC) (f:Int):eu:=if fX p f=true then CE (uP p f.toNat) else ⟨[],0,0,[]⟩
section
variable {hp hp':Nm->Option AO} {p:qC} {m m':qU} {fs:List qN} {f g:qN} {R R':List AV} {i:Nat} {e:Int} {v:qR}
theorem Wy {o:List AV} (h:hp Yn=some (.row 4415 [R])) (h':hp Yn=some (.row 4415 [o])):o=R:=by
 simp_all
theorem gA {i k:Nat} (h:i<k):¬ i=k/\(29 * i=29 * k)=False/\(∀ a,a<29->(32+29 * i+a=yo k)=False)/\∀ a,(32+29 * i=yo k+a)=False :=
 ⟨qA,eq_false qA,λa ha=>eq_false qp,λa=>eq_false qp⟩
theorem qE.eU (h:qE hp p m) (hm:m.qW=fs++[f]) (hm':m'.qW=fs++[g]) (hc:m'.cells.length=m.cells.length)
  (h0:∀ J:Nat->List AV,(∀ i,(J i).length=29)->hp Yn=some (.row 4415 [qe p m (fs.length+1) (yc (fs++[f]) J)])->∃ J':Nat->List AV,(∀ i,(J' i).length=29)/\hp' Yn=some (.row 4415 [qe p m' (fs.length+1) (yc (fs++[g]) J')]))
  (h1:hp' (.c Yn 0 1)=some (.row 1 (ui p p.length)):=by simp [h.aK])
  (h2:hp' (.c Yn 0 4)=some (.row 1 (qm m'.out)):=by simp [h.out])
  (h3:hp' (.c Yn 0 5)=some (.row 2 (vf m'.trace)):=by simp [h.yH])
  (h4:hp' (.c Yn 0 30)=some (.row 2 (u6 m'.qJ)):=by simp [h.qJ])
  (h5:hp' (.c Yn 0 31)=some (.row 24 (ki m'.qO)):=by simp [h.jk])
  (h6:∀ (i:Nat) x,i<fs.length->hp (.c Yn 0 (32+29 * i+2))=some (.row 3 (j4 x))->hp' (.c Yn 0 (32+29 * i+2))=some (.row 3 (j4 x)):=by intro i x hi hx;have e:=gA hi;simp [hx,e.1,e.2.1,e.2.2.1,e.2.2.2])
  (h6t:hp' (.c Yn 0 (yo fs.length+2))=some (.row 3 (j4 g.qw)):=by simp [h.qw])
  (h7:∀ (i:Nat) x,i<fs.length->hp (.c Yn 0 (32+29 * i+3))=some (.row 1 (zV x))->hp' (.c Yn 0 (32+29 * i+3))=some (.row 1 (zV x)):=by intro i x hi hx;have e:=gA hi;simp [hx,e.1,e.2.1,e.2.2.1,e.2.2.2])
  (h7t:hp' (.c Yn 0 (yo fs.length+3))=some (.row 1 (zV g.cells)))
  (h8:∀ (i:Nat) x,i<fs.length->hp (.c Yn 0 (32+29 * i+28))=some (.row 2 (jZ x))->hp' (.c Yn 0 (32+29 * i+28))=some (.row 2 (jZ x)):=by intro i x hi hx;have e:=gA hi;simp [hx,e.1,e.2.1,e.2.2.1,e.2.2.2])
  (h8t:∃ j,hp' (.c Yn 0 (yo fs.length+28))=some (.row 2 (jZ (g.stack++j))))
  (h9:∀ (c:Nat) s,m'.cells[c]?=some s->hp' (En c)=some (.row 3 [j6 s]):=by intro c s hc;simp [h.cell c s hc])
  (hA:∀ k i j,fM k=true->¬ (k=1/\i=0/\j=0)->hp' (.u k i j)≠none->hp (.u k i j)≠none:=by intro k i j hk e hn;simpa [hk,e] using hn):qE hp' p m':=by
 have key:∀ (i:Nat) f',m'.qW[i]?=some f'->(i=fs.length/\f'=g)\/(i<fs.length/\m.qW[i]?=some f'):=by
  grind
 refine⟨?_,h1,h2,h3,h4,h5,λi f' hf=>?_,λi f' hf=>?_,λi f' hf=>?_,h9,λk i j hk hn=>?_⟩
 .grind[top]
 .rcases key i f' hf with⟨rfl,rfl⟩|⟨h1,h2⟩
  .exact h6t
  .exact h6 i _ h1 (h.qw i f' h2)
 .rcases key i f' hf with⟨rfl,rfl⟩|⟨h1,h2⟩
  .exact h7t
  .exact h7 i _ h1 (h.cls i f' h2)
 .rcases key i f' hf with⟨rfl,rfl⟩|⟨h1,h2⟩
  .exact h8t
  .obtain⟨j,hj⟩:=h.stack i f' h2
   grind
 .by_cases e:k=1/\i=0/\j=0
  .omega
  .rw [hc];exact h.only k i j hk (hA k i j hk e hn)
theorem qE.jz (h:qE hp p m) (hm:m.qW=fs++[f]) (hi:fs.length<151):∃ R j,hp Yn=some (.row 4415 [R])/\lx p m fs.length f R/\hp (.c Yn 0 (yo fs.length+2))=some (.row 3 (j4 f.qw))/\hp (.c Yn 0 (yo fs.length+3))=some (.row 1 (zV f.cells))/\hp (.c Yn 0 (yo fs.length+28))=some (.row 2 (jZ (f.stack++j))):=by
 obtain⟨J,j,hJ,hT,h2,h3,h28⟩:=h.nL hm
 grind[Zw]
theorem nE (hr:hp Yn=some (.row 4415 [R])) (h':hp' Yn=some (.row 4415 [R'])) (h0:∀ J:Nat->List AV,(∀ i,(J i).length=29)->R=qe p m (fs.length+1) (yc (fs++[f]) J)->R'=qe p m' (fs.length+1) (yc (fs++[g]) J)) :
  ∀ J:Nat->List AV,(∀ i,(J i).length=29)->hp Yn=some (.row 4415 [qe p m (fs.length+1) (yc (fs++[f]) J)])->∃ J':Nat->List AV,(∀ i,(J' i).length=29)/\hp' Yn=some (.row 4415 [qe p m' (fs.length+1) (yc (fs++[g]) J')]):=λJ hJ e =>
 ⟨J,hJ,qp⟩
theorem CF (hr:hp Yn=some (.row 4415 [R])) (h':hp' Yn=some (.row 4415 [R'])) (h0:∀ J:Nat->List AV,(∀ i,(J i).length=29)->R=qe p m (fs.length+1) (yc (fs++[f]) J)->∃ J':Nat->List AV,(∀ i,(J' i).length=29)/\R'=qe p m' (fs.length+1) (yc (fs++[g]) J')) :
  ∀ J:Nat->List AV,(∀ i,(J i).length=29)->hp Yn=some (.row 4415 [qe p m (fs.length+1) (yc (fs++[f]) J)])->∃ J':Nat->List AV,(∀ i,(J' i).length=29)/\hp' Yn=some (.row 4415 [qe p m' (fs.length+1) (yc (fs++[g]) J')]):=λJ hJ e=>by
 grind
@[simp] theorem yo_ne {k:Nat} (h:k<32):(32+29 * i=k)↔False:=iff_false_intro qA
theorem ix {a b:Nm->Option Nm}:(AV.tr a∘AV.tr b)=AV.tr (λm=>(b m).bind a):=by
 grind[AV.uq]
theorem AH {l:List AV} {v:AV} {k:Nat}:l.take k++v::l.drop (k+1)=ql l k [v]:=tY
section
variable {F:Nm->Option Nm} {h:Nat} {c J:Nat->List AV} {x:AV} {L:List qN}
theorem nZ:(qe p m h c).map (AV.tr F)=(yA p m).map (AV.tr F)++(jN m.globals++((yB m).map (AV.tr F)++(yk (λi=>(c i).map (AV.tr F)) 151++yZ m h))):=by
 have h1:(yk c 151).map (AV.tr F)=yk (λi=>(c i).map (AV.tr F)) 151:=BI λi _=>rfl
 simp_all[qe,yZ]
theorem A0 (hF:∀ j,32<=j->F (.c Yn 0 j)=some (.c Yn 0 j)):(λi=>(yc L J i).map (AV.tr F))=yc L λi=>(J i).map (AV.tr F):=by
 funext i
 unfold yc
 split
 .simp [yR,hF _ (show 32<=32+29 * i+2 by omega),hF _ (show 32<=32+29 * i+3 by omega),hF _ (show 32<=32+29 * i+28 by omega),AV.tr]
 .rfl
theorem qAj (hF:∀ j,j≠4->F (.c Yn 0 j)=some (.c Yn 0 j)):ql ((qe p m h (yc L J)).map (AV.tr F)) 4 [x]=ql (qe p m h (yc L λi=>(J i).map (AV.tr F))) 4 [x]:=by
 rw [nZ,A0 λj hj=>hF j qA]
 simp_all[qe,yA,yB,ql]
theorem qAk (hF:∀ j,j≠5->F (.c Yn 0 j)=some (.c Yn 0 j)):ql ((qe p m h (yc L J)).map (AV.tr F)) 5 [x]=ql (qe p m h (yc L λi=>(J i).map (AV.tr F))) 5 [x]:=by
 rw [nZ,A0 λj hj=>hF j qA]
 simp_all[qe,yA,yB,ql]
theorem N4 {a b a' b' x:AV} {S:List AV} {P:List AV} {k:Nat} (hP:P.length=30) (hk:(k=30/\b=b')\/(k=31/\a=a')):ql (P++([a,b]++S)) k [x]=ql (P++([a',b']++S)) k [x]:=by
 rcases hk with⟨rfl,rfl⟩|⟨rfl,rfl⟩
 .have h1:=sq (P:=P) (X:=[a,b]) (S:=S) (k:=0) (vals:=[x]) qB
  grind[ql]
 .have h1:=sq (P:=P) (X:=[a,b]) (S:=S) (k:=1) (vals:=[x]) qB;have h2:=sq (P:=P) (X:=[a,b']) (S:=S) (k:=1) (vals:=[x]) qB
  grind[ql]
theorem qAh (hF:∀ j,j≠30->F (.c Yn 0 j)=some (.c Yn 0 j)):ql ((qe p m h (yc L J)).map (AV.tr F)) 30 [x]=ql (qe p m h (yc L λi=>(J i).map (AV.tr F))) 30 [x]:=by
 rw [nZ,A0 λj hj=>hF j qA,nV];have e:(yA p m).map (AV.tr F)=yA p m:=by simp_all[yA]
 rw [e,<- ig];exact N4 (by simp [yA]) (.inl ⟨rfl,qL⟩)
theorem qAi (hF:∀ j,j≠31->F (.c Yn 0 j)=some (.c Yn 0 j)):ql ((qe p m h (yc L J)).map (AV.tr F)) 31 [x]=ql (qe p m h (yc L λi=>(J i).map (AV.tr F))) 31 [x]:=by
 rw [nZ,A0 λj hj=>hF j qA,nV];have e:(yA p m).map (AV.tr F)=yA p m:=by simp_all[yA]
 rw [e,<- ig];exact N4 (by simp [yA]) (.inr ⟨rfl,qL⟩)
theorem Wv {o:List (Nat×Nat)} (hF:∀ j,j≠5->F (.c Yn 0 j)=some (.c Yn 0 j)):ql ((qe p m h (yc L J)).map (AV.tr F)) 5 [.hs (.c Yn 0 5) 2 0 o.length]=qe p { m with trace:=o } h (yc L λi=>(J i).map (AV.tr F)):=by rw [qAk hF,qAq]
theorem Wu {o:List Int} (hF:∀ j,j≠4->F (.c Yn 0 j)=some (.c Yn 0 j)):ql ((qe p m h (yc L J)).map (AV.tr F)) 4 [.hs (.c Yn 0 4) 1 0 o.length]=qe p { m with out:=o } h (yc L λi=>(J i).map (AV.tr F)):=by rw [qAj hF,qAp]
theorem Ws {o:List (Nat×List Nat)} (hF:∀ j,j≠30->F (.c Yn 0 j)=some (.c Yn 0 j)):ql ((qe p m h (yc L J)).map (AV.tr F)) 30 [.hs (.c Yn 0 30) 2 0 o.length]=qe p { m with qJ:=o } h (yc L λi=>(J i).map (AV.tr F)):=by rw [qAh hF,qAn]
theorem Wt {o:List (List qu)} (hF:∀ j,j≠31->F (.c Yn 0 j)=some (.c Yn 0 j)):ql ((qe p m h (yc L J)).map (AV.tr F)) 31 [.hs (.c Yn 0 31) 24 0 o.length]=qe p { m with qO:=o } h (yc L λi=>(J i).map (AV.tr F)):=by rw [qAi hF,qAo]
theorem RY (o:List Int) {v:AV} (hJ:∀ i,(J i).length=29) (hv:v=.hs (.c Yn 0 4) 1 0 o.length) (hF:∀ j,j≠4->F (.c Yn 0 j)=some (.c Yn 0 j)):∃ J':Nat->List AV,(∀ i,(J' i).length=29)/\((qe p m h (yc L J)).map (AV.tr F)).take 4++v::((qe p m h (yc L J)).map (AV.tr F)).drop 5=qe p { m with out:=o } h (yc L J') :=
 ⟨λi=>(J i).map (AV.tr F),λi=>fN,by grind[AH,Wu]⟩
theorem RZ (o:List (Nat×Nat)) {v:AV} (hJ:∀ i,(J i).length=29) (hv:v=.hs (.c Yn 0 5) 2 0 o.length) (hF:∀ j,j≠5->F (.c Yn 0 j)=some (.c Yn 0 j)):∃ J':Nat->List AV,(∀ i,(J' i).length=29)/\((qe p m h (yc L J)).map (AV.tr F)).take 5++v::((qe p m h (yc L J)).map (AV.tr F)).drop 6=qe p { m with trace:=o } h (yc L J') :=
 ⟨λi=>(J i).map (AV.tr F),λi=>fN,by grind[AH,Wv]⟩
theorem RW (o:List (Nat×List Nat)) {v:AV} (hJ:∀ i,(J i).length=29) (hv:v=.hs (.c Yn 0 30) 2 0 o.length) (hF:∀ j,j≠30->F (.c Yn 0 j)=some (.c Yn 0 j)):∃ J':Nat->List AV,(∀ i,(J' i).length=29)/\((qe p m h (yc L J)).map (AV.tr F)).take 30++v::((qe p m h (yc L J)).map (AV.tr F)).drop 31=qe p { m with qJ:=o } h (yc L J') :=
 ⟨λi=>(J i).map (AV.tr F),λi=>fN,by grind[AH,Ws]⟩
theorem RX (o:List (List qu)) {v:AV} (hJ:∀ i,(J i).length=29) (hv:v=.hs (.c Yn 0 31) 24 0 o.length) (hF:∀ j,j≠31->F (.c Yn 0 j)=some (.c Yn 0 j)):∃ J':Nat->List AV,(∀ i,(J' i).length=29)/\((qe p m h (yc L J)).map (AV.tr F)).take 31++v::((qe p m h (yc L J)).map (AV.tr F)).drop 32=qe p { m with qO:=o } h (yc L J') :=
 ⟨λi=>(J i).map (AV.tr F),λi=>fN,by grind[AH,Wt]⟩
end
theorem qE.NS (h:qE hp p m) (hm:m.qW=fs++[f]) (hm':m'.qW=fs++[g]) (hr:hp Yn=some (.row 4415 [R])) (h0:∀ J:Nat->List AV,(∀ i,(J i).length=29)->R=qe p m (fs.length+1) (yc (fs++[f]) J)->R'=qe p m' (fs.length+1) (yc (fs++[g]) J))
  (e1:m'.cells=m.cells:=by rfl) (e2:m'.out=m.out:=by rfl) (e3:m'.trace=m.trace:=by rfl) (e4:m'.qJ=m.qJ:=by rfl) (e5:m'.qO=m.qO:=by rfl) (g1:g.qw=f.qw:=by rfl) (g2:g.cells=f.cells:=by rfl) (g3:∃ l,f.stack=g.stack++l:=by exact⟨[],qB⟩) :
  qE (zH Yn (.row 4415 [R']) hp) p m':=by
 have hf:m.qW[fs.length]?=some f:=gc;refine h.eU hm hm' (by rw [e1]) (nE hr rG h0) (by simp [zH,h.aK]) (by grind[zH,out]) (by grind[zH,yH]) (by grind[zH,qJ]) (by grind[zH,jk]) (λi x _ hx=>qL) ?_ (λi x _ hx=>qL) ?_ (λi x _ hx=>qL) ?_ (λc s hc=>?_) (λk i j hk e hn=>?_)
 .rw [g1];simp [zH,h.qw _ f hf]
 .rw [g2];simp [zH,h.cls _ f hf]
 .obtain⟨j,hj⟩:=h.stack _ f hf
  grind[zH]
 .rw [e1] at hc;simp [zH,h.cell c s hc]
 grind[zH]
theorem qE.ea (h:qE hp p m) (hm:m.qW=fs++[f]) (hr:hp Yn=some (.row 4415 [R])):qE (zH Yn (.row 4415 [ql R 3 [iv e]]) hp) p { m with en:=e } :=
 h.NS hm (m':={ m with en:=e }) (g:=f) hm hr (λJ _ e=>by grind[qAm])
end
def vu (m:qU) (fs:List qN) (f:qN) (o:Int×Int) (w:Nat) (e:Int):qU :=
 if w=1 then yY m fs f.pop o (some f.zN) else match uB m f o with
  | none=>m.stop fs f e
  | some v=>if w=0 then m.top fs (f.push v) else yY m fs f o none
structure iX (p:qC) (m:qU) (fs:List qN) (f:qN) (o:Int×Int) (off:Nat):Prop where
 le:off+3<=4411
 rd:∀ g R,g.names=f.names->lx p (m.top fs g) fs.length g R->∀ j,j<3->R[off+j]?=(j6 (uB m f o))[j]?
 wr:∀ g s,g.names=f.names->g.cells=f.cells->∃ G,(yY m fs g o s).qW=fs++[G]/\G.qw=g.qw/\G.cells=g.cells/\G.stack=g.stack/\(yY m fs g o s).cells=m.cells/\(yY m fs g o s).out=m.out/\(yY m fs g o s).trace=m.trace/\(yY m fs g o s).qJ=m.qJ/\(yY m fs g o s).qO=m.qO/\(yY m fs g o s).en=m.en /\
  ∀ J:Nat->List AV,(∀ i,(J i).length=29)->ql (qe p (m.top fs g) (fs.length+1) (yc (fs++[g]) J)) off (j6 s)=qe p (yY m fs g o s) (fs.length+1) (yc (fs++[G]) J)
section
variable {p:qC} {m:qU} {fs:List qN} {f g:qN} {o:Int×Int} {x:Nat}
theorem iX.zJ (hg:m.globals.length=8) (h1:8<=o.1) (h2:o.1<=10) (hx:o.2.toNat<8):iX p m fs f o (6+3 * o.2.toNat):=by
 have e1:¬ o.1<=4:=qA;have e2:¬ o.1<=7:=qA;refine⟨qA,λg R _ tr j hj=>?_,λg s _ _=>⟨g,?_⟩⟩
 .rw [cP,tr.gl _ j hx hj]
  grind[uB,qU.top]
 .have e:yY m fs g o s={ m.top fs g with globals:=m.globals.set o.2.toNat s }:=by grind[yY]
  simp_all[qAt]
theorem iX.name (hn:f.names.length=8) (hi:fs.length<151) (h1:11<=o.1) (hx:o.2.toNat<8):iX p m fs f o (yo fs.length+4+3 * o.2.toNat):=by
 have e1:¬ o.1<=4:=qA;have e2:¬ o.1<=7:=qA;have e3:¬ o.1<=10:=qA;refine⟨qp,λg R hg tr j hj=>?_,λg s hg _=>⟨{ g with names:=g.names.set o.2.toNat s },?_⟩⟩
 .rw [cP,tr.nm _ j hx hj]
  grind[uB]
 .have e:yY m fs g o s=m.top fs { g with names:=g.names.set o.2.toNat s }:=by grind[yY]
  rw [e];refine⟨rfl,rfl,rfl,rfl,rfl,rfl,rfl,rfl,rfl,rfl,λJ hJ=>?_⟩;have:=Ch (p:=p) (m:=m.top fs g) (h:=fs.length+1) (J:=J) (fs:=fs++[g]) (i:=fs.length) (f:=g) (g:={ g with names:=g.names.set o.2.toNat s }) (j:=4+3 * o.2.toNat) (vals:=j6 s) hJ qB hi qn (qBE qL hx)
  grind[qe,yA,yB,yZ,qU.top]
end
end Go.Hm
end
