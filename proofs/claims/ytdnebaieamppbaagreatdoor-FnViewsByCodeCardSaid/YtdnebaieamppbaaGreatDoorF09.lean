import Derived.Test.YtdnebaieamppbaaGreatDoorF08
import Derived.Deep.Slices
import Derived.Deep.Fields
import Derived.ChangeSame
import Derived.SizedLaws
set_option linter.unusedSimpArgs false
set_option linter.unusedVariables false
set_option maxRecDepth 100000
set_option maxHeartbeats 4000000

section
namespace Go.Hm
open Go Go.RowKit
section
variable {X:Ctx} {st:St} {K:St->Prop} {E:AV->St->Prop} {ds:List (Option Nat)} {l:List Oper} {o:Oper}
theorem Ba (n0 n1:Nm) (h0:n0.ZN=false\/X.ext n0=false) (h1:n1.ZN=false\/X.ext n1=false) (h:qO X o K E (st.move n0 n1)):qO X o K E st :=
 λa w Q hR hE=>h a w Q (hR.move n0 n1 h0 h1) hE
theorem Xo (n0 n1:Nm) (h0:n0.ZN=false\/X.ext n0=false) (h1:n1.ZN=false\/X.ext n1=false) (h:fX X ds K E (o::l) (st.move n0 n1)):fX X ds K E (o::l) st :=
 λops i hds hi a w Q hR hE=>h ops i hds hi a w Q (hR.move n0 n1 h0 h1) hE
theorem yu (n0 n1:Nm) (h0:n0.ZN=false\/X.ext n0=false) (h1:n1.ZN=false\/X.ext n1=false) (h:qO X o (λs=>K (s.move n0 n1)) E st):qO X o K E st:=by
 refine qO.post h ?_;intro s a w hR hK;exact⟨_,hR.move n0 n1 h0 h1,hK⟩
end
section
variable {p:YU} {i a b l j:Nat} {n q k1:Nm} {k:Y4}
@[simp] theorem cRows_mv4 (hq:(q=n)=False) (hq':Nm.under (.c q a b) n=false) (hl:i<=l):(eJ n p i).map (λr=>r.map (AV.tr (mv (.c q a b) (.c n l j))))=eJ n p i:=by
 have h1:¬ n=q:=λe=>qH
 have h2:Nm.under (.c n l j) n=false:=by
  cases h:Nm.under (.c n l j) n with
  | false=>rfl
  | true=>exact absurd rfl (Nm.ZB h).2
 grind[Ho,Nm.under,mv]
theorem J8 (hk:p[i]?=some k):qY (eJ n p i) i 0 (Nu n i k)=eJ n p (i+1):=by
 apply aW
 grind[qY,Nu,TG,eJ]
end
theorem qZ {U:Nm} (hU:U.ZN=true):∀ {n:Nm},Nm.under U n=true->n.Y3=false:=by
 intro n
 induction n with
 | s d=>grind[Nm.ZN,Nm.under]
 | u k i j=>intro _;rfl
 | c q i j ih =>
  grind[Nm.under,Nm.ZN,Nm.Y3]
def nO (U:Nm) (hp:Nm->Option AO):Nm->Option AO:=λm=>if Nm.under U m then hp m else none
section
variable {X:Ctx} {st:St} {K:St->Prop} {E:AV->St->Prop} {d f:Nat} {ty:TypeId} {pos:String} {aft:Array Edge} {g:Option (Nat×Bool)} {args:Array Operand} {Ts:Array TypeId} {az:List AV} {R:Nm->AV->(Nm->Option AO)->Prop}
theorem xN (U:Nm) (hU:U.ZN=true) (hext:X.ext U=true->st.hp U≠none) (hd:d<X.n:=by first|(simp;done)|fail) (ha:args.toList.map (ev st)=az:=by simp [fx];first|done|rfl)
  (hF:Yc X.P X.gl f (Nm.under U) az (nO U st.hp) R Yz) (h:∀ y H',R (.s d) y H'->K ((st.call d (Nm.under U) (nO U st.hp) H').put (some d) y)) :
  qO X ⟨some d,.call ⟨.value (.func f),args,Ts⟩,ty,pos,aft,g⟩ K E st:=by
 subst ha;refine fV (D:=Nm.under U) (H:=nO U st.hp) (R:=R) (E0:=Yz) hF (fP hF.1 rfl) false ⟨rfl,λj a a' h h'=>?_⟩ (λn hn=>?_) (λn hn=>?_) (λn hn=>?_) (λk i j he=>?_) (λe he=>qH) (λx H' hR=>?_) (λ_ _ h=>h.elim)
 .rw [h] at h';obtain rfl:=sI h';exact .refl _
 .cases hx:Nm.under U n with
  | false=>rfl
  | true =>
   have h1:=qZ hU hx;have h2:=Nm.ZF (a:=.s d) rfl hn
   simp_all
 .simp [nO,hn]
 .grind[nO]
 .grind[Nm.under,nO]
 simp_all
end
section
variable {st:St} {d t:Nat} {D:Nm->Bool} {H H':Nm->Option AO} {m:Nm}
@[simp] theorem call_tm:(st.call d D H H').tm t=(st.tm t).tr (cf d D H):=rfl
@[simp] theorem call_gl:(st.call d D H H').gl=st.gl:=rfl
@[simp] theorem Sv:(st.call d D H H').hp m=if D m||Nm.under (.s d) m then H' m else (st.hp m).map (AO.tr (cf d D H)):=rfl
@[simp] theorem cf_eq:cf d D H m=if Nm.under (.s d) m then none else if D m then (if m.ZN&&(H m).isSome then some m else none) else some m:=rfl
@[simp] theorem hsub_eq {U:Nm} {hp:Nm->Option AO}:nO U hp m=if Nm.under U m then hp m else none:=rfl
end
theorem AV.ZM (f g:Nm->Option Nm) (a:AV):(a.tr f).tr g=a.tr (λm=>(f m).bind g):=by
 refine AV.rec (motive_1:=λa=>(a.tr f).tr g=a.tr (λm=>(f m).bind g)) (motive_2:=λl=>Nq g (Nq f l)=Nq (λm=>(f m).bind g) l) (motive_3:=λl=>trL g (trL f l)=trL (λm=>(f m).bind g) l) ?_ ?_ ?_ ?_ ?_ ?_ ?_ ?_ ?_ ?_ ?_ ?_ ?_ ?_ ?_ ?_ a
 all_goals intros
 all_goals simp only [AV.tr,trL,Nq, *]
 all_goals grind[tr]
theorem AO.ZM (f g:Nm->Option Nm) (o:AO):(o.tr f).tr g=o.tr (λm=>(f m).bind g):=by
 have h:AV.tr g∘AV.tr f=AV.tr (λm=>(f m).bind g):=funext λa=>AV.ZM f g a
 cases o<;>simp_all[AV.ZM]
def rtf (N V:Nm) (d:Nat) (m:Nm):Option Nm:=if Nm.under N m then (if m=N then some N else none) else if Nm.under V m then none else if Nm.under (.s d) m then none else some m
def St.qBj (st:St) (N V:Nm) (d:Nat) (H':Nm->Option AO):St :=
 { tm:=λt=>(st.tm t).tr (rtf N V d),
   hp:=λm=>if Nm.under N m then (if mv V N (Nm.Yq N V m)=some m then (H' (Nm.Yq N V m)).map (AO.tr (mv V N)) else none) else if Nm.under V m then none else if Nm.under (.s d) m then (H' m).map (AO.tr (mv V N)) else (st.hp m).map (AO.tr (rtf N V d)),
   n:=st.n,gl:=st.gl }
section
variable {st:St} {N V m:Nm} {d t:Nat} {H':Nm->Option AO}
@[simp] theorem UA:rtf N V d m=if Nm.under N m then (if m=N then some N else none) else if Nm.under V m then none else if Nm.under (.s d) m then none else some m:=rfl
@[simp] theorem mutc_tm:(st.qBj N V d H').tm t=(st.tm t).tr (rtf N V d):=rfl
@[simp] theorem mutc_gl:(st.qBj N V d H').gl=st.gl:=rfl
@[simp] theorem mutc_hp:(st.qBj N V d H').hp m=if Nm.under N m then (if mv V N (Nm.Yq N V m)=some m then (H' (Nm.Yq N V m)).map (AO.tr (mv V N)) else none) else if Nm.under V m then none else if Nm.under (.s d) m then (H' m).map (AO.tr (mv V N)) else (st.hp m).map (AO.tr (rtf N V d)):=rfl
end
theorem Eg {N V:Nm} {x:Nm} (h:Nm.under N x=true) (hne:x≠N):(Nm.Yq N V x).ZN=false:=by
 cases x<;>simp_all[Nm.under,Nm.Yq]
theorem oR {V n:Nm} {d:Nat} (hV:V.ZN=true) (h:Nm.under V n=true):Nm.under (.s d) n=false:=by
 cases hx:Nm.under (.s d) n with
 | false=>rfl
 | true =>
  have h1:=qZ hV h;have h2:=Nm.ZF (a:=.s d) rfl hx
  simp_all
theorem Oq {N V:Nm} {d:Nat} {Hs:Nm->Option AO} (hV:V.ZN=true) (hNV:Nm.under V N=false) (hs:(Hs V).isSome=true):(λm=>((mv N V m).bind (cf d (Nm.under V) Hs)).bind (mv V N))=rtf N V d:=by
 funext x
 by_cases hx:Nm.under N x=true
 .have hu:Nm.under V (Nm.Yq N V x)=true:=Nm.ZC x hx;have hsd:=oR (d:=d) hV hu;by_cases e:x=N<;>simp_all[Eg]
 grind[mv,cf,rtf]
theorem SO {st:St} {N V:Nm} {d:Nat} {H':Nm->Option AO} {y:AV} (hV:V.ZN=true) (hNV:Nm.under V N=false) (hs:(nO V (st.move N V).hp V).isSome=true) :
  (((st.move N V).call d (Nm.under V) (nO V (st.move N V).hp) H').put (some d) y).move V N=(st.qBj N V d H').put (some d) (y.tr (mv V N)):=by
 have hc:=Oq (N:=N) (d:=d) hV hNV hs
 have e1:∀ a:AV,((a.tr (mv N V)).tr (cf d (Nm.under V) (nO V (st.move N V).hp))).tr (mv V N)=a.tr (rtf N V d):=by
  grind[AV.ZM]
 have e2:∀ o:AO,((o.tr (mv N V)).tr (cf d (Nm.under V) (nO V (st.move N V).hp))).tr (mv V N)=o.tr (rtf N V d):=by
  grind[AO.ZM]
 unfold St.move;simp only [St.nm,St.put,St.qBj]
 congr 1
 .funext t
  by_cases h:t=d
  .simp [h]
  .simp only [h,if_false];exact e1 _
 .funext m
  simp only [Z6];by_cases h1:Nm.under N m=true
  .simp_all<;>grind
  .simp only [a8] at h1;simp only [h1,cH,if_false];by_cases h2:Nm.under V m=true
   .simp_all
   .simp only [a8] at h2;simp only [h2,cH,if_false,St.call,St.nm,Bool.false_or];by_cases h3:Nm.under (.s d) m=true
    .simp_all
    .simp only [a8] at h3;simp only [h3,cH,if_false,St.nm,St.move,Z6,h2,h1]
     cases st.hp m with
     | none=>rfl
     | some o=>simp only [bU];exact congrArg some (e2 o)
section
variable {X:Ctx} {st:St} {K:St->Prop} {E:AV->St->Prop} {d f:Nat} {ty:TypeId} {pos:String} {aft:Array Edge} {g:Option (Nat×Bool)} {args:Array Operand} {Ts:Array TypeId} {az:List AV} {R:Nm->AV->(Nm->Option AO)->Prop}
theorem sw (N V:Nm) (hV:V.ZN=true:=by rfl) (hN:N.ZN=false:=by rfl) (hNV:Nm.under V N=false:=by first|(simp;done)|fail) (hext:X.ext V=false) (hs:(nO V (st.move N V).hp V).isSome=true) (hd:d<X.n:=by first|(simp;done)|fail)
  (ha:args.toList.map (ev (st.move N V))=az:=by simp [fx];first|done|rfl)
  (hF:Yc X.P X.gl f (Nm.under V) az (nO V (st.move N V).hp) R Yz) (h:∀ y H',R (.s d) y H'->K ((st.qBj N V d H').put (some d) (y.tr (mv V N)))) :
  qO X ⟨some d,.call ⟨.value (.func f),args,Ts⟩,ty,pos,aft,g⟩ K E st:=by
 refine Ba N V (.inl hN) (.inr hext) (yu V N (.inr hext) (.inl hN) ?_)
 grind[xN,SO]
end
section
variable {p:YU} {n:Nm} {i l d a b e:Nat}
@[simp] theorem pRows_rtf (hV:Nm.under (.u a b e) n=false) (hd:Nm.under (.s d) n=false):(j5 n p).map (λr=>r.map (AV.tr (rtf (.c n i l) (.u a b e) d)))=j5 n p:=by
 have hN:Nm.under (.c n i l) n=false:=by
  cases h:Nm.under (.c n i l) n with
  | false=>rfl
  | true=>exact absurd rfl (Nm.ZB h).2
 grind[zW,Nm.under,rtf]
@[simp] theorem pRows_mvself {m:Nm}:(j5 n p).map (λr=>r.map (AV.tr (mv n m)))=j5 m p:=zW qB
end
def dw (n:Nat) (c:Int):List Int:=(List.range n).map (λi:Nat=>c+i)
def nJ (n:Nat) (c:Int):List Y5:=(List.range n).map (λi:Nat=>⟨c+4 * i,c+4 * i+1,c+4 * i+2,c+4 * i+3⟩)
def VL (k:Y4):Nat:=2+k.params.length+4 * k.body.length
def wh (p:YU):Nat->Nat
 | 0=>0
 | i+1=>wh p i+(match p[i]? with|some k=>VL k|none=>0)
def cnt (p:YU):Nat:=wh p p.length
def bP (k:Y4) (c:Int):Y4:=⟨c,c+1,dw k.params.length (c+2),nJ k.body.length (c+2+k.params.length)⟩
def kv (p:YU) (c:Int) (i:Nat):YU:=p.mapIdx (λj k=>if j<i then bP k (c+wh p j) else k)
def PU (p:YU) (c:Int):YU:=kv p c p.length
section
variable {p:YU} {c:Int} {i j:Nat} {k:Y4} {n:Nm}
@[simp] theorem Li {n:Nat}:(dw n c).length=n:=by simp [dw]
@[simp] theorem markS_len {n:Nat}:(nJ n c).length=n:=by simp [nJ]
theorem Mj (h:p[i]?=some k):wh p (i+1)=wh p i+VL k:=by grind[wh]
theorem Hj (hs:Zm p) (i:Nat):wh p i<=5242882 * i:=by
 induction i with
 | zero=>grind[wh]
 | succ i ih =>
  have h1:wh p (i+1)<=wh p i+5242882:=by
   simp only [wh]
   cases h:p[i]? with
   | none=>simp
   | some k =>
    have h1:=(hs.bsm h).params;have h2:=(hs.bsm h).body
    grind[VL]
  omega
@[simp] theorem markTo_len:(kv p c i).length=p.length:=by simp [kv]
theorem wt (h:p[j]?=some k):(kv p c i)[j]?=some (if j<i then bP k (c+wh p j) else k):=by simp [kv,h]
theorem Eu:kv p c 0=p:=by
 apply aW
 grind[kv]
theorem Lh {xs:List Int} (h:i<xs.length):(dw i c++xs.drop i).set i (c+i)=dw (i+1) c++xs.drop (i+1):=by
 simp_all<;>grind[BV,dw,BU]
theorem Lg {xs:List Y5} (h:i<xs.length):(nJ i c++xs.drop i).set i ⟨c+4 * i,c+4 * i+1,c+4 * i+2,c+4 * i+3⟩=nJ (i+1) c++xs.drop (i+1):=by
 simp_all<;>grind[BV,nJ,BU]
@[simp] theorem rowsSet_len {rows:List (List AV)} {off:Nat} {vals:List AV}:(qY rows i off vals).length=rows.length:=by simp [qY]
theorem IV {L:List Y5} {a b d e:Int} (h:i<L.length):qY (qY (qY (qY (jI L) i 0 [iv a]) i 1 [iv b]) i 2 [iv d]) i 3 [iv e]=jI (L.set i ⟨a,b,d,e⟩):=by
 apply aW;intro j;simp only [qY,nV,Kf,bT]
 split<;>simp_all
def E3 (q:YU) (i:Nat) (a b:Int):YU:=q.modify i (λk=>{ k with kind:=a,parent:=b })
theorem El {q:YU} {a b:Int}:qY (qY (j5 n q) i 0 [iv a]) i 1 [iv b]=j5 n (E3 q i a b):=by
 apply aW;intro j;simp only [qY,nV,ku,E3]
 grind
theorem Kr {q:YU} {a b:Int} (h:q[j]?=some k):(E3 q i a b)[j]?=some (if i=j then { k with kind:=a,parent:=b } else k):=by
 grind[E3]
@[simp] theorem setKP_len {q:YU} {a b:Int}:(E3 q i a b).length=q.length:=by simp [E3]
theorem Em {q q':YU} (hl:q.length=q'.length) (h:∀ (j:Nat) k k',q[j]?=some k->q'[j]?=some k'->k.kind=k'.kind/\k.parent=k'.parent/\k.params.length=k'.params.length/\k.body.length=k'.body.length):j5 n q=j5 n q':=by
 apply aW
 grind[ku]
theorem Ir (hk:p[i]?=some k):j5 n (E3 (kv p c i) i (c+wh p i) (c+wh p i+1))=j5 n (kv p c (i+1)):=by
 refine Em qB λj a b ha hb=>?_;have hj:j<p.length:=by grind[kv]
 obtain⟨q,hq⟩:=gX hj;rw [Kr (wt hq)] at ha;rw [wt hq] at hb;obtain rfl:=sI ha;obtain rfl:=sI hb;by_cases e:i=j
 .simp_all[bP]
 grind
end
theorem iz {p:YU} {c:Int} {i j:Nat} {r:Y4} (h:(kv p c i)[j]?=some r):∃ k,p[j]?=some k/\r=if j<i then bP k (c+wh p j) else k:=by
 grind[kv]
section
variable {X:Ctx} {st:St} {K:St->Prop} {E:AV->St->Prop}
theorem uD {o:Oper} (F:St->Prop) (h:F st) (k:∀ s,F s->qO X o K E s):qO X o K E st:=k st h
theorem Ol {ds:List (Option Nat)} {l:List Oper} (F:St->Prop) (h:F st) (k:∀ s,F s->fX X ds K E l s):fX X ds K E l st:=k st h
theorem uk {c:Code} {Q:Ex->St->Prop} (F:St->Prop) (h:F st) (k:∀ s,F s->qa X c Q s):qa X c Q st:=k st h
end
structure qDF (st:St) (d:Nat) (p:YU):Prop where
 tm:st.tm d=.pt (.s d) 0
 hp:st.hp (.s d)=some (.row 1 [[.hs (.c (.s d) 0 0) 4 0 p.length]])
 own:Z3 st.hp (.c (.s d) 0 0) p
end Go.Hm
end
section
namespace Go.Hm
open Go Go.RowKit Go.ChangeShapes Go.WideShapes Go.Deep
def g0 (w:World):Gh:={ C:=λb=>b<w.heap.size,φ:=λ_=>none,κ:=λ_=>0 }
def wO {H:Type} (enc:TypeId×Value->H) (P:Program) (w:World) {α:Type} (t:TypeId) (cells:α->List AV) (Ok:α->Prop):Prop :=
 ∀ (n:Nat) (cs:List Value) (y:DataW H×List MemPlace),DataW.trod enc P w 0 (λ_=>true) true n t cs=some y->(∀ m∈y.1.weights P t,m<=reachBytes) ->
  ∃ x:α,Ok x/\(cells x).length=cs.length/\∀ (j:Nat) v a,cs[j]?=some v->(cells x)[j]?=some a->RV (g0 w) w v a/\v.oneCell'=true
theorem iX {H:Type} {P:Program} {e:TypeId} {d:DataW H}:∀ {l:List (DataW H)},d∈l->∀ m∈d.weights P e,m∈DataW.weightsAll P e l
 | x::l,h,m,hm=>by
  simp only [DataW.weightsAll,cK];rcases wH.1 h with rfl|h
  .simp_all
  .exact .inr (iX h m hm)
theorem Mo {w:World} {a:Addr} {v:Value} (h:w.cell? a=some v):a.block<w.heap.size/\a.spot=none:=by
 unfold World.cell? at h
 split at h
 .rename_i c t fr hb;refine⟨(B0.1 hb).1,?_⟩
  simp_all
 .cases h
theorem Ng {a:Addr} (h:a.spot=none) (n:Nat):a.add n=⟨a.block,a.off+n,none⟩:=by
 obtain⟨b,o,s⟩:=a
 grind[Addr.add]
section
variable {H:Type} {enc:TypeId×Value->H} {P:Program} {w:World}
theorem UG {t:TypeId} (ht:P.underlying t=some (.int .i64)):wO enc P w t (λk:Int=>[iv k]) (λk=>-9223372036854775808<=k/\k<=9223372036854775807):=by
 intro n cs y h _;obtain⟨k,rfl,_,hw⟩:=DataW.trod_int ht h;refine⟨k,by simp_all[Lit.wf,IntKind.min,IntKind.signed,IntKind.bits],rfl,λj v a hv ha=>?_⟩
 cases j with
 | zero =>
  simp at hv ha;subst hv;subst ha;exact⟨.sc _,rfl⟩
 | succ j=>simp at hv
theorem ng {t e:TypeId} {z:Nat} {α:Type} [Inhabited α] {cells:α->List AV} {Ok:α->Prop} (ht:P.underlying t=some (.slice e)) (hc:P.cellsOf e=z) (hz:0<z) (hby:0<P.bytesOf e) (hlen:∀ x,(cells x).length=z)
  (hr:wO enc P w e cells Ok):wO enc P w t (λxs:List α=>[.sl z (xs.map cells)]) (λxs=>xs.length<=1152921504606846976/\∀ x∈xs,Ok x):=by
 intro n cs y h hw;rcases open_slice ht h with⟨rfl,rfl⟩|⟨a,len,cap,m,n',D,Pl,rfl,_,hl,_,hm,rfl,hi⟩
 .refine⟨[],⟨qB,qB⟩,rfl,λj v x hv hx=>?_⟩
  cases j with
  | zero =>
   simp at hv hx;subst hv;subst hx;exact⟨.Zv _ _ _,rfl⟩
  | succ j=>simp at hv
 .simp only [if_true] at hm;subst hm;have hw0:=hw (((List.map D (List.range len)).length+(List.map (λj=>D (len+j)) (List.range (m - len))).length) * P.bytesOf e) (by simp [DataW.weights,ht])
  have hll:len<=1152921504606846976:=by
   simp only [GZ,List.length_range,reachBytes] at hw0;have:len * 1<=(len+(m - len)) * P.bytesOf e:=Nat.mul_le_mul qA hby;omega
  have hel:∀ i,i<len->∃ x:α,Ok x/\∀ j,j<z->∃ v aa,w.cell? ((a.add (i * z)).add j)=some v/\(cells x)[j]?=some aa/\RV (g0 w) w v aa/\v.oneCell'=true:=by
   intro i hil;obtain⟨cs',h1,h2⟩:=hi i qA;rw [hc] at h1;obtain⟨_,hcl,hat⟩:=World.cells?_some h1
   obtain⟨x,hx,hxl,hxr⟩:=hr n' cs' _ h2 (λq hq=>hw q (by
    simp only [DataW.weights,ht,wH,cK];exact .inr (.inl (iX (eg.2 ⟨i,BW.2 hil,rfl⟩) q hq))))
   refine⟨x,hx,λj hj=>?_⟩;have e1:=hat j hj;have e2:cs'[j]?=some (cs'[j]' qA):=gE qA;have e3:(cells x)[j]?=some ((cells x)[j]' qA):=gE qA
   grind
  obtain⟨X,hX⟩:=choose_lt hel
  have hav:∀ i,i<len->(List.map X (List.range len))[i]?=some (X i):=by
   simp_all
  refine⟨(List.range len).map X,⟨qH,?_⟩,rfl,λj v x hv hx=>?_⟩
  .simp_all
  .cases j with
   | succ j=>simp at hv
   | zero =>
    simp only [fm,sL] at hv hx;subst hv;subst hx;refine⟨?_,rfl⟩;rcases iR len with rfl|hpos
    .exact .Zv _ _ _
    .obtain⟨v0,_,hc0,_⟩:=(hX 0 hpos).2 0 hz;obtain⟨hb,hsp⟩:=Mo hc0;rw [Nat.zero_mul] at hb hsp;have ha0:(a.add 0).add 0=a:=by simp [Addr.add]
     rw [ha0] at hb hsp;obtain⟨b,off,s⟩:=a;obtain rfl:s=none:=hsp
     have hcell:∀ i j,(((⟨b,off,none⟩:Addr).add (i * z)).add j)=⟨b,off+i * z+j,none⟩:=by
      grind[Ng]
     refine .slC b off m len z _ (λi j=>(w.cell? ⟨b,off+i * z+j,none⟩).getD undef) hb qB hl ?_ ?_ ?_ ?_<;>grind
theorem tO {t:TypeId} {f0 f1 f2 f3:Field} {α β γ δ τ:Type} {c0:α->AV} {c1:β->AV} {c2:γ->AV} {c3:δ->AV} {O0:α->Prop} {O1:β->Prop} {O2:γ->Prop} {O3:δ->Prop} {cells:τ->List AV} {Ok:τ->Prop}
  (ht:P.underlying t=some (.struct #[f0,f1,f2,f3])) (hone:oneCellFields P #[f0,f1,f2,f3]=true) (hC:P.cellsOf t=4) (mk:α->β->γ->δ->τ) (hm:∀ a b c d,cells (mk a b c d)=[c0 a,c1 b,c2 c,c3 d]) (hok:∀ a b c d,O0 a->O1 b->O2 c->O3 d->Ok (mk a b c d))
  (h0:wO enc P w f0.type (λx=>[c0 x]) O0) (h1:wO enc P w f1.type (λx=>[c1 x]) O1) (h2:wO enc P w f2.type (λx=>[c2 x]) O2) (h3:wO enc P w f3.type (λx=>[c3 x]) O3):wO enc P w t cells Ok:=by
 intro n cs y h hw;obtain⟨xs,n',rfl,rfl,hl,hlen,hf⟩:=DataW.trod_struct ht h;rw [hC] at hl
 match cs,hl with
 | [v0,v1,v2,v3],_ =>
  match xs,hlen with
  | [y0,y1,y2,y3],_ =>
   obtain⟨o0,k0⟩:=hone_of hone 0 f0 rfl;obtain⟨o1,k1⟩:=hone_of hone 1 f1 rfl;obtain⟨o2,k2⟩:=hone_of hone 2 f2 rfl;obtain⟨o3,k3⟩:=hone_of hone 3 f3 rfl;have e0:=hf 0 f0 rfl;have e1:=hf 1 f1 rfl;have e2:=hf 2 f2 rfl;have e3:=hf 3 f3 rfl;simp [o0,k0] at e0;simp [o1,k1] at e1;simp [o2,k2] at e2;simp [o3,k3] at e3;simp only [DataW.weights,ht,dT,sH,DataW.weightsEach,cK,sj] at hw;obtain⟨a,ha,_,ra⟩:=h0 _ _ _ e0 λq hq=>hw q (.inl hq);obtain⟨b,hb,_,rb⟩:=h1 _ _ _ e1 λq hq=>hw q (.inr (.inl hq));obtain⟨c,hc,_,rc⟩:=h2 _ _ _ e2 λq hq=>hw q (.inr (.inr (.inl hq)));obtain⟨d,hd,_,rd⟩:=h3 _ _ _ e3 λq hq=>hw q (.inr (.inr (.inr hq)));refine⟨mk a b c d,hok _ _ _ _ ha hb hc hd,qe,λj v x hv hx=>?_⟩;rw [hm] at hx
   match j,hv,hx with
   | 0,hv,hx=>simp at hv hx;subst hv;subst hx;exact ra 0 _ _ rfl rfl
   | 1,hv,hx=>simp at hv hx;subst hv;subst hx;exact rb 0 _ _ rfl rfl
   | 2,hv,hx=>simp at hv hx;subst hv;subst hx;exact rc 0 _ _ rfl rfl
   | 3,hv,hx=>grind
   | j+4,hv,hx=>simp at hv
theorem In {t:TypeId} {f0:Field} {α:Type} {c0:α->AV} {Ok:α->Prop} {r:Reach} {b0:Nat} {v:Value} {d:DataW H} {p:List MemPlace}
  (ht:P.underlying t=some (.struct #[f0])) (hone:oneCellFields P #[f0]=true) (hC:P.cellsOf t=1) (h0:wO enc P w f0.type (λx=>[c0 x]) Ok)
  (hv:Value.okWide P w r b0 t v) (h:DataW.Trod enc P w 0 (λ_=>true) true t v d p) (hw:∀ m∈d.weights P t,m<=reachBytes):∃ x:α,Ok x/\RV (g0 w) w v (.agg [c0 x]):=by
 obtain⟨cs,rfl,hsz⟩:=okWide_struct ht hv;obtain⟨l⟩:=cs
 match l,hsz.trans hC with
 | [v0],_ =>
  obtain⟨fuel,hf⟩:=h;obtain⟨xs,n,_,hx,_,hlen,hg⟩:=DataW.trod_struct ht hf
  match xs,hlen with
  | [y0],_ =>
   obtain⟨o0,k0⟩:=hone_of hone 0 f0 rfl;have e0:=hg 0 f0 rfl;simp [Value.cells,o0,k0] at e0;simp only [Dw] at hx;rw [hx.1] at hw;simp only [DataW.weights,ht,dT,sH,DataW.weightsEach,sj] at hw;obtain⟨x,hxo,_,rx⟩:=h0 _ _ _ e0 λq hq=>hw q hq;refine⟨x,hxo,.agg [v0] [c0 x] rfl λj u a hu ha=>?_⟩
   grind
end
section
variable {H:Type} {enc:TypeId×Value->H} {P:Program} {w:World}
theorem Rj {tI tP tB tL tK tS:TypeId} {b0 b1 b2 b3 s0 s1 s2 s3 pf:Field} {tp:TypeId} (hI:P.underlying tI=some (.int .i64)) (hIc:P.cellsOf tI=1) (hIb:0<P.bytesOf tI)
  (hS:P.underlying tS=some (.struct #[s0,s1,s2,s3])) (hSo:oneCellFields P #[s0,s1,s2,s3]=true) (hSc:P.cellsOf tS=4) (hSb:0<P.bytesOf tS) (hS0:s0.type=tI) (hS1:s1.type=tI) (hS2:s2.type=tI) (hS3:s3.type=tI)
  (hL:P.underlying tL=some (.slice tI)) (hB:P.underlying tB=some (.slice tS))
  (hK:P.underlying tK=some (.struct #[b0,b1,b2,b3])) (hKo:oneCellFields P #[b0,b1,b2,b3]=true) (hKc:P.cellsOf tK=4) (hKb:0<P.bytesOf tK) (hK0:b0.type=tI) (hK1:b1.type=tI) (hK2:b2.type=tL) (hK3:b3.type=tB)
  (hP:P.underlying tP=some (.slice tK)) (htp:P.underlying tp=some (.struct #[pf])) (hpo:oneCellFields P #[pf]=true) (hpc:P.cellsOf tp=1) (hpt:pf.type=tP)
  {r:Reach} {q0:Nat} {v:Value} {d:DataW H} {p:List MemPlace} (hv:Value.okWide P w r q0 tp v) (h:DataW.Trod enc P w 0 (λ_=>true) true tp v d p) (hw:∀ m∈d.weights P tp,m<=reachBytes) :
  ∃ x:YU,Big x/\RV (g0 w) w v (Zc x):=by
 have rI:=UG (enc:=enc) (w:=w) hI;have rL:=ng hL hIc qA hIb (λ_=>rfl) rI;have rS:wO enc P w tS Y5.cells (λ_=>True):=tO hS hSo hSc Y5.mk (λ_ _ _ _=>rfl) (λ_ _ _ _ _ _ _ _=>trivial) (hS0 ▸ rI) (hS1 ▸ rI) (hS2 ▸ rI) (hS3 ▸ rI);have rB:=ng hB hSc qA hSb (λ_=>rfl) rS
 have rK:wO enc P w tK Y4.cells (λk=>k.params.length<=1152921504606846976/\k.body.length<=1152921504606846976) :=
  tO hK hKo hKc Y4.mk (λ_ _ _ _=>rfl) (λ_ _ _ _ _ _ h2 h3=>⟨h2.1,h3.1⟩) (hK0 ▸ rI) (hK1 ▸ rI) (hK2 ▸ rL) (hK3 ▸ rB)
 have rP:=ng hP hKc qA hKb (λ_=>rfl) rK;obtain⟨x,⟨h1,h2⟩,h3⟩:=In htp hpo hpc (hpt ▸ rP) hv h hw;exact⟨x,⟨h1,λk hk=>(h2 k hk).1,λk hk=>(h2 k hk).2⟩,h3⟩
end
end Go.Hm
end
section
namespace Go.Hm
open Go Go.RowKit
def cY (p:YU) (b:Int):Nat->Int->Bool
 | 0,j=>decide (j=b)
 | n+1,j=>if b<j then (match p[j.toNat]? with|some q=>cY p b n q.parent|none=>false) else decide (j=b)
def qy (p:YU) (c b:Int):Bool:=cY p b p.length c
theorem nB {p:YU} {b:Int} (hh:zD p) (hb:0<=b):∀ (n m:Nat) (j:Int),j<=n->j<=m->cY p b n j=cY p b m j
 | 0,0,_,_,_=>rfl
 | 0,m+1,j,h,_=>by
  grind[cY]
 | n+1,0,j,_,h=>by
  grind[cY]
 | n+1,m+1,j,h1,h2=>by
  simp only [cY]
  split
  .cases hq:p[j.toNat]? with
   | none=>rfl
   | some q =>
    have:=(hh _ q hq).2.1;exact nB hh hb n m _ qA qA
  .rfl
theorem zm {p:YU} {c b:Int} (h:c<=b):qy p c b=decide (c=b):=by
 unfold qy;generalize p.length=n
 cases n<;>grind[cY]
theorem zZ {p:YU} {c:Nat} {b:Int} {q:Y4} (hh:zD p) (hb:0<=b) (hq:p[c]?=some q) (h:b<c):qy p c b=qy p q.parent b:=by
 have hl:c<p.length:=(gS hq).1;have hp:=(hh c q hq).2.1;unfold qy;obtain⟨n,hn⟩:∃ n,p.length=n+1:=⟨p.length - 1,qA⟩
 grind[nB,cY]
def Y4.us (k:Y4):List Int:=sorted (k.rd++k.bd++k.dc 9++k.dc 10)
theorem Y4.qBB (k:Y4):k.us.length<=8:=ud
def dx {α:Type} (f:α->α) (l:List α) (i:Nat):List α:=(l.take i).map f++l.drop i
section
variable {α:Type} {f:α->α} {l:List α} {i:Nat} {x:α}
@[simp] theorem Ct (h:i<=l.length):(dx f l i).length=l.length:=by simp [dx];omega
theorem Iw:dx f l 0=l:=by simp [dx]
theorem Ll:dx f l l.length=l.map f:=by simp [dx]
theorem Cu (h:l[i]?=some x):(dx f l i)[i]?=some x:=by
 grind[dx]
theorem Lk (h:l[i]?=some x):(dx f l i).set i (f x)=dx f l (i+1):=by
 obtain⟨hi,hx⟩:=gS h;apply aW;intro j;rw [bT,Ct qA];by_cases e:i=j<;>grind[dx]
end
end Go.Hm
end
section

end
section

end
section

end
section
namespace Go.Hm
open Go Go.RowKit
def YE (L:List Y5) (i:Nat):List Y5:=L.take i++L.drop (i+1)
def Xq (p:YU) (b i:Nat):YU:=match p[b]? with|some k=>setBody p b (YE k.body i)|none=>p
def VF (p:YU) (b i:Nat):Bool:=match p[b]? with
 | some k=>match k.body[i]? with
  | some s=>((s.kind==9)||(s.kind==10))&&(vL (Xq p b i)&&decide (HH p=HH (Xq p b i)))
  | none=>false
 | none=>false
abbrev byt (v:Int):AV:=.sc (.int .u8 v)
def sE (bs:List Int):List (List AV):=bs.map λv=>[byt v]
abbrev bsl (bs:List Int):AV:=.sl 1 (sE bs)
section
variable {bs:List Int} {i:Nat} {f:Nm->Option Nm}
@[simp] theorem brows_len:(sE bs).length=bs.length:=r8
@[simp] theorem brows_getE {h:i<(sE bs).length}:(sE bs)[i]=[byt (bs[i]' qH)]:=r8
@[simp] theorem brows_tr:(sE bs).map (λr=>r.map (AV.tr f))=sE bs:=r8
@[simp] theorem brows_take {n:Nat}:(sE bs).take n=sE (bs.take n):=r8
@[simp] theorem brows_drop {n:Nat}:(sE bs).drop n=sE (bs.drop n):=r8
end
structure ZL (bs:List Int):Prop where
 len:bs.length<=2000
 rng:∀ v∈bs,0<=v/\v<=255
abbrev Zo (bs:List Int) (pos:Nat):AO:=.row 2 [[bsl bs,iv pos]]
def yb (D:Nm->Bool) (hp:Nm->Option AO):Nm->Option AO:=λm=>if D m then hp m else none
@[simp] theorem bQ {D:Nm->Bool} {hp:Nm->Option AO} {m:Nm}:yb D hp m=if D m then hp m else none:=rfl
def ZK:Nm->Bool:=λn=>Nm.under (.u 1 0 0) n||Nm.under (.u 2 0 0) n
@[simp] theorem IE {n:Nm}:ZK n=(Nm.under (.u 1 0 0) n||Nm.under (.u 2 0 0) n):=rfl
theorem zi {n:Nm} (h:ZK n=true):n.Y3=false:=by
 simp only [ZK,Jh] at h;rcases h with h|h <;> exact qZ rfl h
section
variable {X:Ctx} {st:St} {K:St->Prop} {E:AV->St->Prop} {d f:Nat} {ty:TypeId} {pos:String} {aft:Array Edge} {g:Option (Nat×Bool)} {args:Array Operand} {Ts:Array TypeId} {az:List AV} {R:Nm->AV->(Nm->Option AO)->Prop}
theorem iV (D:Nm->Bool) (hD:∀ n,D n=true->n.Y3=false) (hext:∀ k i j,X.ext (.u k i j)=true->D (.u k i j)=false\/(yb D st.hp) (.u k i j)≠none) (hd:d<X.n:=by first|(simp;done)|fail) (ha:args.toList.map (ev st)=az:=by simp [fx];first|done|rfl)
  (hF:Yc X.P X.gl f D az (yb D st.hp) R Yz) (h:∀ y H',R (.s d) y H'->K ((st.call d D (yb D st.hp) H').put (some d) y)) :
  qO X ⟨some d,.call ⟨.value (.func f),args,Ts⟩,ty,pos,aft,g⟩ K E st:=by
 subst ha;refine fV (D:=D) (H:=yb D st.hp) (R:=R) (E0:=Yz) hF (fP hF.1 rfl) false ⟨rfl,λj a a' h h'=>?_⟩ (λn hn=>?_) (λn hn=>?_) (λn hn=>?_) hext (λe he=>qH) (λx H' hR=>?_) (λ_ _ h=>h.elim)
 .rw [h] at h';obtain rfl:=sI h';exact .refl _
 .cases hx:D n with
  | false=>rfl
  | true =>
   have h1:=hD n hx;have h2:=Nm.ZF (a:=.s d) rfl hn
   simp_all
 .simp [hn]
 .simp_all
 simp_all
theorem Tb (hd:d<X.n:=by first|(simp;done)|fail) (ha:args.toList.map (ev st)=az:=by simp [fx];first|done|rfl) (hF:qX X.P X.gl f az R) (h:∀ y H',R (.s d) y H'->K ((st.call d Z5 noH H').put (some d) y)) :
  qO X ⟨some d,.call ⟨.value (.func f),args,Ts⟩,ty,pos,aft,g⟩ K E st:=by
 subst ha;refine fV (D:=Z5) (H:=noH) (R:=R) (E0:=Yz) hF (fP hF.1 rfl) false ⟨rfl,λj a a' h h'=>?_⟩ (λ_ _=>rfl) (λn hn=>by cases hn) (λn hn=>absurd rfl hn) (λk i j _=>.inl rfl) (λe he=>qH) (λx H' hR=>?_) (λ_ _ h=>h.elim)
 .rw [h] at h';obtain rfl:=sI h';exact .refl _
 simp_all
end
def rk (a d:Nat) (m:Nm):Option Nm :=
 if Nm.under (.s a) m then (if m=.s a then some (.u 2 0 0) else none) else if Nm.under (.u 2 0 0) m then none else if Nm.under (.s d) m then none else if Nm.under (.u 1 0 0) m then (if m=.u 1 0 0 then some (.u 1 0 0) else none) else some m
def St.rdr (st:St) (a d:Nat) (R:AO):St :=
 { tm:=λt=>(st.tm t).tr (rk a d),
   hp:=λm=>if m=.u 1 0 0 then some R else if ZK m||Nm.under (.s d) m||Nm.under (.s a) m then none else (st.hp m).map (AO.tr (rk a d)),
   n:=st.n,gl:=st.gl }
section
variable {st:St} {a d t:Nat} {m:Nm} {R:AO}
@[simp] theorem rk_eq:rk a d m=if Nm.under (.s a) m then (if m=.s a then some (.u 2 0 0) else none) else if Nm.under (.u 2 0 0) m then none else if Nm.under (.s d) m then none else if Nm.under (.u 1 0 0) m then (if m=.u 1 0 0 then some (.u 1 0 0) else none) else some m:=rfl
@[simp] theorem rdr_tm:(st.rdr a d R).tm t=(st.tm t).tr (rk a d):=rfl
@[simp] theorem rdr_gl:(st.rdr a d R).gl=st.gl:=rfl
@[simp] theorem UE:(st.rdr a d R).hp m=if m=.u 1 0 0 then some R else if ZK m||Nm.under (.s d) m||Nm.under (.s a) m then none else (st.hp m).map (AO.tr (rk a d)):=rfl
end
theorem Rh {a d:Nat} {Hs:Nm->Option AO} (h1:(Hs (.u 1 0 0)).isSome=true) (h2:(Hs (.u 2 0 0)).isSome=true):(λm=>(mv (.s a) (.u 2 0 0) m).bind (cf d ZK Hs))=rk a d:=by
 funext x
 by_cases hx:Nm.under (.s a) x=true
 .grind[Nm.Yq,Nm.ZC,oR,Eg,mv,cf,ZK,rk,Nm.ZN]
 .simp only [a8] at hx;by_cases hv:Nm.under (.u 2 0 0) x=true
  .simp_all
  .simp only [a8] at hv;by_cases hd:Nm.under (.s d) x=true
   .simp_all
   .simp only [a8] at hd;by_cases hw:Nm.under (.u 1 0 0) x=true
    .by_cases e:x=.u 1 0 0
     .simp_all
     .have hi:x.ZN=false:=by
       cases x<;>simp_all
      simp_all
    simp_all
section
variable {P:Program} {C:Nat->Prop} {w:World} {g0:Gh} {H:Nm->Option AO} {n:Nat} {gl:Nat->Option (List AV)} {st:St} {K:St->Prop} {E:AV->St->Prop} {d f:Nat} {ty:TypeId} {ps:String} {aft:Array Edge} {gd:Option (Nat×Bool)} {a0 a1:Operand} {Ts:Array TypeId} {bs xs:List Int} {pos:Nat}
def VT (P:Program) (gl:Nat->Option (List AV)) (f:FuncId):Prop:=∀ (H:Nm->Option AO) (bs:List Int) (pos:Nat) (xs:List Int),ZL bs->pos<=1000000->(0<xs.length/\xs.length<=1000)->H (.u 1 0 0)=some (Zo bs pos)->H (.u 2 0 0)=some (.row 1 (qS xs)) ->
  Yc P gl f ZK [.pt (.u 1 0 0) 0,.hs (.u 2 0 0) 1 0 xs.length] H (λ_ z H'=>∃ v,z=iv v/\v∈xs/\H' (.u 1 0 0)=some (Zo bs (pos+1))) Yz
theorem bG {t0 t1:Nat} (hF:VT P gl f) (a:Nat) (xs:List Int) (hb:ZL bs) (hpos:pos<=1000000) (hx:0<xs.length/\xs.length<=1000:=by first|(simp;done)|fail) (hV:H (.u 2 0 0)=none) (hd:d<n:=by first|(simp;done)|fail)
  (h0:st.tm t0=.pt (.u 1 0 0) 0) (h1:st.tm t1=.hs (.s a) 1 0 xs.length) (hH:st.hp (.u 1 0 0)=some (Zo bs pos)) (hL:st.hp (.s a)=some (.row 1 (qS xs)))
  (h:∀ v,v∈xs->K ((st.rdr a d (Zo bs (pos+1))).put (some d) (iv v))) :
  qO (bz P C w g0 H n gl) ⟨some d,.call ⟨.value (.func f),#[.tmp t0,.tmp t1],Ts⟩,ty,ps,aft,gd⟩ K E st:=by
 have e1:(st.move (.s a) (.u 2 0 0)).hp (.u 1 0 0)=some (Zo bs pos):=jU;have e2:(st.move (.s a) (.u 2 0 0)).hp (.u 2 0 0)=some (.row 1 (qS xs)):=mK;have hc:=Rh (a:=a) (d:=d) (Hs:=yb ZK (st.move (.s a) (.u 2 0 0)).hp) jU mK;refine Ba (.s a) (.u 2 0 0) (.inl rfl) (.inr BC) ?_;refine qO.qBY (K':=λs=>∃ v H1,v∈xs/\H1 (.u 1 0 0)=some (Zo bs (pos+1))/\s=(((st.move (.s a) (.u 2 0 0)).call d ZK (yb ZK (st.move (.s a) (.u 2 0 0)).hp) H1).put (some d) (iv v))) ?_ ?_
 .refine iV (az:=[.pt (.u 1 0 0) 0,.hs (.u 2 0 0) 1 0 xs.length]) ZK (λn h=>zi h) (λk i j he=>?_) hd ?_ (hF _ bs pos xs hb hpos hx jU mK) ?_
  .simp_all<;>grind
  .simp_all
  simp_all<;>grind
 .rintro s ⟨v,H1,hv,hH1,rfl⟩;refine⟨((st.rdr a d (Zo bs (pos+1))).put (some d) (iv v)).hp,λm ob e=>?_,?_⟩
  .simp only [Q8,UE] at e
   split at e<;>simp_all[AO.ZM]
  .have ht:(((st.move (.s a) (.u 2 0 0)).call d ZK (yb ZK (st.move (.s a) (.u 2 0 0)).hp) H1).put (some d) (iv v)).tm=((st.rdr a d (Zo bs (pos+1))).put (some d) (iv v)).tm:=by
    simp_all[St.put,AV.ZM]
   rw [ht];exact h v hv
end
def rn (d:Nat) (m:Nm):Option Nm:=if Nm.under (.s d) m then none else if Nm.under (.u 1 0 0) m then (if m=.u 1 0 0 then some (.u 1 0 0) else none) else some m
def St.rdn (st:St) (d:Nat) (R:AO) (Hn:Nm->Option AO):St :=
 { tm:=λt=>(st.tm t).tr (rn d),
   hp:=λm=>if m=.u 1 0 0 then some R else if Nm.under (.u 1 0 0) m then none else if Nm.under (.s d) m then Hn m else (st.hp m).map (AO.tr (rn d)),
   n:=st.n,gl:=st.gl }
section
variable {st:St} {d t:Nat} {m:Nm} {R:AO} {Hn:Nm->Option AO}
@[simp] theorem rn_eq:rn d m=if Nm.under (.s d) m then none else if Nm.under (.u 1 0 0) m then (if m=.u 1 0 0 then some (.u 1 0 0) else none) else some m:=rfl
@[simp] theorem rdn_tm:(st.rdn d R Hn).tm t=(st.tm t).tr (rn d):=rfl
@[simp] theorem rdn_gl:(st.rdn d R Hn).gl=st.gl:=rfl
@[simp] theorem UF:(st.rdn d R Hn).hp m=if m=.u 1 0 0 then some R else if Nm.under (.u 1 0 0) m then none else if Nm.under (.s d) m then Hn m else (st.hp m).map (AO.tr (rn d)):=rfl
end
theorem Rf {d:Nat} {Hs:Nm->Option AO} (h1:(Hs (.u 1 0 0)).isSome=true):cf d (Nm.under (.u 1 0 0)) Hs=rn d:=by
 funext x
 by_cases hd:Nm.under (.s d) x=true
 .simp [hd]
 .simp only [a8] at hd;by_cases hw:Nm.under (.u 1 0 0) x=true
  .by_cases e:x=.u 1 0 0
   .simp_all
   .have hi:x.ZN=false:=by
     cases x<;>simp_all
    simp_all
  simp_all
section
variable {X:Ctx} {st:St} {K:St->Prop} {E:AV->St->Prop} {d f:Nat} {ty:TypeId} {ps:String} {aft:Array Edge} {gd:Option (Nat×Bool)} {args:Array Operand} {Ts:Array TypeId} {az:List AV} {R:Nm->AV->(Nm->Option AO)->Prop} {bs:List Int}
theorem oK (hd:d<X.n:=by first|(simp;done)|fail) (hs:(st.hp (.u 1 0 0)).isSome=true) (ha:args.toList.map (ev st)=az) (hF:Yc X.P X.gl f (Nm.under (.u 1 0 0)) az (nO (.u 1 0 0) st.hp) R Yz)
  (h:∀ z H',R (.s d) z H'->∃ pos',H' (.u 1 0 0)=some (Zo bs pos')/\K ((st.rdn d (Zo bs pos') H').put (some d) z)) :
  qO X ⟨some d,.call ⟨.value (.func f),args,Ts⟩,ty,ps,aft,gd⟩ K E st:=by
 have hc:=Rf (d:=d) (Hs:=nO (.u 1 0 0) st.hp) qH;refine qO.qBY (K':=λs=>∃ z H',R (.s d) z H'/\s=((st.call d (Nm.under (.u 1 0 0)) (nO (.u 1 0 0) st.hp) H').put (some d) z)) ?_ ?_
 .refine xN (.u 1 0 0) rfl (λ_=>qe) hd ha hF λz H' hR=>⟨z,H',hR,rfl⟩
 .rintro s ⟨z,H',hR,rfl⟩;obtain⟨pos',hH,hK⟩:=h z H' hR;refine⟨((st.rdn d (Zo bs pos') H').put (some d) z).hp,λm ob e=>?_,?_⟩
  .simp only [Q8,UF] at e
   grind[St.call,St.nm,Nm.under,St.put]
  .have ht:((st.call d (Nm.under (.u 1 0 0)) (nO (.u 1 0 0) st.hp) H').put (some d) z).tm=((st.rdn d (Zo bs pos') H').put (some d) z).tm:=by
    simp_all[St.put]
   rw [ht];exact hK
def EB {α:Type} (bs:List Int) (V:α->AV) (Q:α->Nat->Prop):Nm->AV->(Nm->Option AO)->Prop:=λ_ z H'=>∃ v pos',z=V v/\Q v pos'/\H' (.u 1 0 0)=some (Zo bs pos')
theorem l7 {α:Type} {V:α->AV} {Q:α->Nat->Prop} (hd:d<X.n:=by first|(simp;done)|fail) (hs:(st.hp (.u 1 0 0)).isSome=true) (ha:args.toList.map (ev st)=az) (hF:Yc X.P X.gl f (Nm.under (.u 1 0 0)) az (nO (.u 1 0 0) st.hp) (EB bs V Q) Yz)
  (h:∀ v pos',Q v pos'->K ((st.rdn d (Zo bs pos') (λ_=>none)).put (some d) (V v))) :
  qO X ⟨some d,.call ⟨.value (.func f),args,Ts⟩,ty,ps,aft,gd⟩ K E st:=by
 refine qO.qBY (K':=λs=>∃ v pos' H',Q v pos'/\s=((st.rdn d (Zo bs pos') H').put (some d) (V v))) ?_ ?_
 .refine oK (bs:=bs) hd hs ha hF ?_
  grind[EB]
 .rintro s ⟨v,pos',H',hQ,rfl⟩;refine⟨((st.rdn d (Zo bs pos') (λ_=>none)).put (some d) (V v)).hp,λm ob e=>?_,h v pos' hQ⟩
  simp_all<;>grind
end
def iP (L:List Y5):List Y5:=L.filter λs=>!((s.kind==9)||(s.kind==10))
def md (k:Y4):Y4:={ k with body:=iP k.body }
def lY (p:YU):YU:=p.map md
theorem Dl {L:List Y5}:(iP L).length<=L.length:=List.length_filter_le _ _
theorem Jc {L:List Y5} {i:Nat} {s:Y5} (h:L[i]?=some s):iP (L.take (i+1))=if ((s.kind==9)||(s.kind==10))=true then iP (L.take i) else iP (L.take i)++[s]:=by
 grind[dN,iP]
theorem GT {p:YU} {i:Nat} {k:Y4} (h:p[i]?=some k):setBody (dx md p i) i (iP k.body)=dx md p (i+1):=by
 rw [<- Lk (f:=md) h];have hg:=Cu (f:=md) h;apply aW
 grind[md,setBody]
def al (N V m:Nm):Option Nm:=if m=N then some V else if Nm.under V m then none else some m
def St.alias (st:St) (N V:Nm) (t:Nat):St:={ tm:=λt'=>if t'=t then (st.tm t).tr (al N V) else (st.tm t').tr (kl V),hp:=hkl V st.hp,n:=st.n,gl:=st.gl }
section
variable {st:St} {N V m:Nm} {t t':Nat}
@[simp] theorem al_eq:al N V m=if m=N then some V else if Nm.under V m then none else some m:=rfl
@[simp] theorem alias_tm:(st.alias N V t).tm t'=if t'=t then (st.tm t).tr (al N V) else (st.tm t').tr (kl V):=rfl
@[simp] theorem alias_gl:(st.alias N V t).gl=st.gl:=rfl
@[simp] theorem alias_hp:(st.alias N V t).hp m=if Nm.under V m then none else (st.hp m).map (AO.tr (kl V)):=rfl
end
theorem Rw.alias {X:Ctx} {st:St} {a:Go.Act} {w:World} (h:Rw X st a w) (N V:Nm) (t:Nat) (hV:X.ext V=false):Rw X (st.alias N V t) a w:=by
 obtain⟨C,g,h1,h2,h3,h4,h5,hg⟩:=h
 let g':Gh:={ C:=g.C,φ:=λm=>if m=V then g.φ N else g.φ m,κ:=λm=>if m=V then g.κ N else g.κ m }
 have hs:=hg.step (g':=g') (w':=w) (f:=kl V) (hp':=hkl V st.hp) rfl (λn n' e=>by
  simp_all<;>grind[Nm.Y0]) rfl rfl rfl (qp _) (λ_ _=>rfl) (λ_ _ _=>rfl) (λm o e=>by
  obtain⟨o',e1,e2,e3⟩:=pR e
  grind)
 refine⟨C,g',h1,h2,h3,h4,λk i j he=>?_,⟨hs.inv,hs.defers,hs.size,λt'=>?_,hs.Yd⟩⟩
 .have:¬ Nm.u k i j=V:=λe=>qH;simp only [g',this,if_false];exact h5 k i j he
 .by_cases e:t'=t
  .subst e;simp only [St.alias,if_true];refine (hg.qA9 t').tr (g':=g') (λ_ h=>h) (λ_ _=>rfl) (λn n' e=>?_)
   grind[al,Nm.Y0]
  .simp only [St.alias,e,if_false];exact hs.qA9 t'
section
variable {X:Ctx} {st:St} {K:St->Prop} {E:AV->St->Prop} {o:Oper}
theorem lx (N V:Nm) (t:Nat) (hV:X.ext V=false) (h:qO X o K E (st.alias N V t)):qO X o K E st :=
 λa w Q hR hE=>h a w Q (hR.alias N V t hV) hE
end
section
variable {n:Nm} {p:YU} {a d i j k:Nat}
@[simp] theorem pRows_rk (h1:Nm.under (.s a) n=false) (h2:Nm.under (.s d) n=false) (h3:Nm.under (.u 2 0 0) n=false) (h4:Nm.under (.u 1 0 0) n=false):(j5 n p).map (λr=>r.map (AV.tr (rk a d)))=j5 n p:=zW qH
@[simp] theorem pRows_rn (h2:Nm.under (.s d) n=false) (h4:Nm.under (.u 1 0 0) n=false):(j5 n p).map (λr=>r.map (AV.tr (rn d)))=j5 n p:=zW qH
@[simp] theorem pRows_klu (h:Nm.under (.u i j k) n=false):(j5 n p).map (λr=>r.map (AV.tr (kl (.u i j k))))=j5 n p:=zW bA
end
end Go.Hm
end
section

end
section
namespace Go.Hm
open Go Go.RowKit
structure qDD (k:Y4) (y:Int):Prop where
 rd:y∉jn k.body
 bd:y∉bB k
 d9:y∉eG k 9
 d10:y∉eG k 10
section
variable {k:Y4} {x y z:Int} (hx:0<=x/\x<=7) (hy:0<=y/\y<=7) (hxy:x≠y) (hf:qDD k y)
include hx hy hxy hf
end
structure qDW (p:YU) (b:Nat) (x y:Int):Prop where
 sh:Y1 p
 made:∀ i,0<i->i<p.length->kw p i=1
 decl:∀ (c:Nat) k,0<c->p[c]?=some k->∀ n:Nat,n<8->ux p c k n=true
 hb:0<b
 Ym:b<p.length
 hx:0<=x/\x<=7
 hy:0<=y/\y<=7
 hxy:x≠y
 fn:∀ k,p[b]?=some k->k.kind=1
 loc:∀ k,p[b]?=some k->qr b k x=true
 free:∀ (c:Nat) k,p[c]?=some k->qy p c b=true->qDD k y
theorem progOk_parts {p:YU} (hs:Zm p) (h:vL p=true):Y1 p/\(∀ i,0<i->i<p.length->kw p i=1)/\(∀ (c:Nat) k,0<c->p[c]?=some k->∀ n:Nat,n<8->ux p c k n=true):=by
 simp only [vL,uR] at h;refine⟨Y1.of hs h.1,(cR h.1).2.2.2.2,λc k h0 hk n hn=>?_⟩
 simp_all<;>grind[vJ]
theorem yD {p:YU} {c b:Int} (h:qy p c b=true):b<=c:=by
 grind[zm]
theorem nN {p:YU} {b:Nat} {z:Int} (hh:zD p) (hb:0<b):∀ (n:Nat),n<p.length->zX p z p.length n=b->qy p n b=true:=by
 intro n
 induction n using Nat.strongRecOn with
 | ind n ih =>
  intro hn ho;rcases iR n with e|e
  .grind[ba]
  .obtain⟨q,hq⟩:=gX hn;rw [jh hh hq e] at ho;obtain⟨g1,g2,g3⟩:=hh n q hq
   have key:zX p z p.length q.parent=b->qy p n b=true:=by
    intro h;have g4:=g3 e;obtain⟨m,hm⟩:∃ m:Nat,q.parent=m:=⟨q.parent.toNat,qA⟩
    grind[zZ,zm]
   grind[zm]
theorem aL {p:YU} {b c:Nat} {k:Y4} {z:Int} (hh:zD p) (hb:0<b) (hk:p[c]?=some k) (h0:0<c) (h:outer p c z=b):qy p c b=true:=by
 rw [jQ hh hk] at h;obtain⟨g1,g2,g3⟩:=hh c k hk;have g4:=g3 h0;have hc:=(gS hk).1;obtain⟨m,hm⟩:∃ m:Nat,k.parent=m:=⟨k.parent.toNat,qA⟩;have h2:=nN hh hb m qA (by rw [<- hm];exact h);have h3:=yD h2
 grind[zZ]
theorem aK {p:YU} {b c:Nat} {k:Y4} {z:Int} (hh:zD p) (hb:0<b) (hk:p[c]?=some k) (h:qh p c z=b):qy p c b=true:=by
 grind[qh,zm,aL]
section
variable {p:YU} {b:Nat} {x y:Int} (H:qDW p b x y)
include H
omit H in
end
end Go.Hm
end
section

end
