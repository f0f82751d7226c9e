import Derived.Test.YtdnebaieamppbaaGreatDoorE08
import Derived.Deep.Slices
import Derived.Deep.Fields
import Derived.ChangeSame
import Derived.SizedLaws
set_option linter.unusedSimpArgs false
set_option linter.unusedVariables false
set_option maxRecDepth 100000
set_option maxHeartbeats 4000000

section
namespace Go.Hm
open Go Go.RowKit
section
variable {X:Ctx} {st:St} {K:St->Prop} {E:AV->St->Prop} {ds:List (Option Nat)} {l:List Oper} {o:Oper}
theorem pI (n0 n1:Nm) (h0:n0.isU=false\/X.ext n0=false) (h1:n1.isU=false\/X.ext n1=false) (h:qS X o K E (st.move n0 n1)):qS X o K E st :=
 λa w Q hR hE=>h a w Q (hR.move n0 n1 h0 h1) hE
theorem yP (n0 n1:Nm) (h0:n0.isU=false\/X.ext n0=false) (h1:n1.isU=false\/X.ext n1=false) (h:qS X o (λs=>K (s.move n0 n1)) E st):qS X o K E st:=by
 refine qS.post h ?_;intro s a w hR hK;exact⟨_,hR.move n0 n1 h0 h1,hK⟩
end
theorem qR {U:Nm} (hU:U.isU=true):∀ {n:Nm},Nm.under U n=true->n.Zi=false:=by
 intro n
 induction n with
 | s d=>grind[Nm.isU,Nm.under]
 | u k i j=>intro _;rfl
 | c q i j ih =>
  grind[Nm.under,Nm.isU,Nm.Zi]
def nD (U:Nm) (hp:Nm->Option AO):Nm->Option AO:=λm=>if Nm.under U m then hp m else none
section
variable {X:Ctx} {st:St} {K:St->Prop} {E:AV->St->Prop} {d f:Nat} {ty:TypeId} {pos:String} {aft:Array Edge} {g:Option (Nat×Bool)} {args:Array Operand} {Ts:Array TypeId} {az:List AV} {R:Nm->AV->(Nm->Option AO)->Prop}
theorem aL (U:Nm) (hU:U.isU=true) (hext:X.ext U=true->st.hp U≠none) (hd:d<X.n:=by first|(simp;done)|fail) (ha:args.toList.map (ev st)=az:=by simp [fx];first|done|rfl)
  (hF:Zj X.P X.gl f (Nm.under U) az (nD U st.hp) R noE) (h:∀ y H',R (.s d) y H'->K ((st.call d (Nm.under U) (nD U st.hp) H').put (some d) y)) :
  qS X ⟨some d,.call ⟨.value (.func f),args,Ts⟩,ty,pos,aft,g⟩ K E st:=by
 subst ha;refine eF (D:=Nm.under U) (H:=nD U st.hp) (R:=R) (E0:=noE) hF (iL hF.1 rfl) false ⟨rfl,λj a a' h h'=>?_⟩ (λn hn=>?_) (λn hn=>?_) (λn hn=>?_) (λk i j he=>?_) (λe he=>qH) (λx H' hR=>?_) (λ_ _ h=>h.elim)
 .rw [h] at h';obtain rfl:=sI h';exact .refl _
 .cases hx:Nm.under U n with
  | false=>rfl
  | true =>
   have h1:=qR hU hx;have h2:=Nm.qAM (a:=.s d) rfl hn
   simp_all
 .simp [nD,hn]
 .grind[nD]
 .grind[Nm.under,nD]
 simp_all
end
section
variable {st:St} {d t:Nat} {D:Nm->Bool} {H H':Nm->Option AO} {m:Nm}
@[simp] theorem call_tm:(st.call d D H H').tm t=(st.tm t).tr (cf d D H):=rfl
@[simp] theorem call_gl:(st.call d D H H').gl=st.gl:=rfl
@[simp] theorem call_hp:(st.call d D H H').hp m=if D m||Nm.under (.s d) m then H' m else (st.hp m).map (AO.tr (cf d D H)):=rfl
@[simp] theorem cf_eq:cf d D H m=if Nm.under (.s d) m then none else if D m then (if m.isU&&(H m).isSome then some m else none) else some m:=rfl
@[simp] theorem hsub_eq {U:Nm} {hp:Nm->Option AO}:nD U hp m=if Nm.under U m then hp m else none:=rfl
end
theorem AV.qAW (f g:Nm->Option Nm) (a:AV):(a.tr f).tr g=a.tr (λm=>(f m).bind g):=by
 refine AV.rec (motive_1:=λa=>(a.tr f).tr g=a.tr (λm=>(f m).bind g)) (motive_2:=λl=>Oj g (Oj f l)=Oj (λm=>(f m).bind g) l) (motive_3:=λl=>trL g (trL f l)=trL (λm=>(f m).bind g) l) ?_ ?_ ?_ ?_ ?_ ?_ ?_ ?_ ?_ ?_ ?_ ?_ ?_ ?_ ?_ ?_ a
 all_goals intros
 all_goals simp only [AV.tr,trL,Oj, *]
 all_goals grind[tr]
theorem AO.qAW (f g:Nm->Option Nm) (o:AO):(o.tr f).tr g=o.tr (λm=>(f m).bind g):=by
 have h:AV.tr g∘AV.tr f=AV.tr (λm=>(f m).bind g):=funext λa=>AV.qAW f g a
 cases o<;>simp_all[AV.qAW]
def rtf (N V:Nm) (d:Nat) (m:Nm):Option Nm:=if Nm.under N m then (if m=N then some N else none) else if Nm.under V m then none else if Nm.under (.s d) m then none else some m
def St.qDE (st:St) (N V:Nm) (d:Nat) (H':Nm->Option AO):St :=
 { tm:=λt=>(st.tm t).tr (rtf N V d),
   hp:=λm=>if Nm.under N m then (if mv V N (Nm.Zn N V m)=some m then (H' (Nm.Zn N V m)).map (AO.tr (mv V N)) else none) else if Nm.under V m then none else if Nm.under (.s d) m then (H' m).map (AO.tr (mv V N)) else (st.hp m).map (AO.tr (rtf N V d)),
   n:=st.n,gl:=st.gl }
section
variable {st:St} {N V m:Nm} {d t:Nat} {H':Nm->Option AO}
@[simp] theorem rtf_eq:rtf N V d m=if Nm.under N m then (if m=N then some N else none) else if Nm.under V m then none else if Nm.under (.s d) m then none else some m:=rfl
@[simp] theorem mutc_tm:(st.qDE N V d H').tm t=(st.tm t).tr (rtf N V d):=rfl
@[simp] theorem mutc_gl:(st.qDE N V d H').gl=st.gl:=rfl
@[simp] theorem mutc_hp:(st.qDE N V d H').hp m=if Nm.under N m then (if mv V N (Nm.Zn N V m)=some m then (H' (Nm.Zn N V m)).map (AO.tr (mv V N)) else none) else if Nm.under V m then none else if Nm.under (.s d) m then (H' m).map (AO.tr (mv V N)) else (st.hp m).map (AO.tr (rtf N V d)):=rfl
end
theorem F8 {N V:Nm} {x:Nm} (h:Nm.under N x=true) (hne:x≠N):(Nm.Zn N V x).isU=false:=by
 cases x<;>simp_all[Nm.under,Nm.Zn]
theorem po {V n:Nm} {d:Nat} (hV:V.isU=true) (h:Nm.under V n=true):Nm.under (.s d) n=false:=by
 cases hx:Nm.under (.s d) n with
 | false=>rfl
 | true =>
  have h1:=qR hV h;have h2:=Nm.qAM (a:=.s d) rfl hx
  simp_all
theorem Ph {N V:Nm} {d:Nat} {Hs:Nm->Option AO} (hV:V.isU=true) (hNV:Nm.under V N=false) (hs:(Hs V).isSome=true):(λm=>((mv N V m).bind (cf d (Nm.under V) Hs)).bind (mv V N))=rtf N V d:=by
 funext x
 by_cases hx:Nm.under N x=true
 .have hu:Nm.under V (Nm.Zn N V x)=true:=Nm.qAK x hx;have hsd:=po (d:=d) hV hu;by_cases e:x=N<;>simp_all[F8]
 grind[mv,cf,rtf]
theorem T4 {st:St} {N V:Nm} {d:Nat} {H':Nm->Option AO} {y:AV} (hV:V.isU=true) (hNV:Nm.under V N=false) (hs:(nD V (st.move N V).hp V).isSome=true) :
  (((st.move N V).call d (Nm.under V) (nD V (st.move N V).hp) H').put (some d) y).move V N=(st.qDE N V d H').put (some d) (y.tr (mv V N)):=by
 have hc:=Ph (N:=N) (d:=d) hV hNV hs
 have e1:∀ a:AV,((a.tr (mv N V)).tr (cf d (Nm.under V) (nD V (st.move N V).hp))).tr (mv V N)=a.tr (rtf N V d):=by
  grind[AV.qAW]
 have e2:∀ o:AO,((o.tr (mv N V)).tr (cf d (Nm.under V) (nD V (st.move N V).hp))).tr (mv V N)=o.tr (rtf N V d):=by
  grind[AO.qAW]
 unfold St.move;simp only [St.nm,St.put,St.qDE]
 congr 1
 .funext t
  by_cases h:t=d
  .simp [h]
  .simp only [h,if_false];exact e1 _
 .funext m
  simp only [hmv];by_cases h1:Nm.under N m=true
  .simp_all<;>grind
  .simp only [bc] at h1;simp only [h1,ak,if_false];by_cases h2:Nm.under V m=true
   .simp_all
   .simp only [bc] at h2;simp only [h2,ak,if_false,St.call,St.nm,Bool.false_or];by_cases h3:Nm.under (.s d) m=true
    .simp_all
    .simp only [bc] at h3;simp only [h3,ak,if_false,St.nm,St.move,hmv,h2,h1]
     cases st.hp m with
     | none=>rfl
     | some o=>simp only [kv];exact congrArg some (e2 o)
section
variable {p:Z0} {n:Nm} {i l d a b e:Nat}
@[simp] theorem pRows_mvself {m:Nm}:(yR n p).map (λr=>r.map (AV.tr (mv n m)))=yR m p:=zA qB
end
def QW (n:Nat) (c:Int):List Int:=(List.range n).map (λi:Nat=>c+i)
section
variable {p:Z0} {c:Int} {i j:Nat} {k:Za} {n:Nm}
@[simp] theorem markI_len {n:Nat}:(QW n c).length=n:=by simp [QW]
@[simp] theorem rowsSet_len {rows:List (List AV)} {off:Nat} {vals:List AV}:(qk rows i off vals).length=rows.length:=by simp [qk]
end
section
variable {X:Ctx} {st:St} {K:St->Prop} {E:AV->St->Prop}
theorem uJ {o:Oper} (F:St->Prop) (h:F st) (k:∀ s,F s->qS X o K E s):qS X o K E st:=k st h
theorem Sn {ds:List (Option Nat)} {l:List Oper} (F:St->Prop) (h:F st) (k:∀ s,F s->il X ds K E l s):il X ds K E l st:=k st h
theorem uu {c:Code} {Q:Ex->St->Prop} (F:St->Prop) (h:F st) (k:∀ s,F s->qh X c Q s):qh X c Q st:=k st h
end
structure qCW (st:St) (d:Nat) (p:Z0):Prop where
 tm:st.tm d=.pt (.s d) 0
 hp:st.hp (.s d)=some (.row 1 [[.hs (.c (.s d) 0 0) 4 0 p.length]])
 own:qAb st.hp (.c (.s d) 0 0) p
end Go.Hm
end
section
namespace Go.Hm
open Go Go.RowKit Go.ChangeShapes Go.WideShapes Go.Deep
def g0 (w:World):Gh:={ C:=λb=>b<w.heap.size,φ:=λ_=>none,κ:=λ_=>0 }
def HY {H:Type} (enc:TypeId×Value->H) (P:Program) (w:World) {α:Type} (t:TypeId) (cells:α->List AV) (Ok:α->Prop):Prop :=
 ∀ (n:Nat) (cs:List Value) (y:DataW H×List MemPlace),DataW.trod enc P w 0 (λ_=>true) true n t cs=some y->(∀ m∈y.1.weights P t,m<=reachBytes) ->
  ∃ x:α,Ok x/\(cells x).length=cs.length/\∀ (j:Nat) v a,cs[j]?=some v->(cells x)[j]?=some a->RV (g0 w) w v a/\v.oneCell'=true
theorem lv {H:Type} {P:Program} {e:TypeId} {d:DataW H}:∀ {l:List (DataW H)},d∈l->∀ m∈d.weights P e,m∈DataW.weightsAll P e l
 | x::l,h,m,hm=>by
  simp only [DataW.weightsAll,dY];rcases aH.1 h with rfl|h
  .simp_all
  .exact .inr (lv h m hm)
theorem Nh {w:World} {a:Addr} {v:Value} (h:w.cell? a=some v):a.block<w.heap.size/\a.spot=none:=by
 unfold World.cell? at h
 split at h
 .rename_i c t fr hb;refine⟨(C3.1 hb).1,?_⟩
  simp_all
 .cases h
theorem Oc {a:Addr} (h:a.spot=none) (n:Nat):a.add n=⟨a.block,a.off+n,none⟩:=by
 obtain⟨b,o,s⟩:=a
 grind[Addr.add]
section
variable {H:Type} {enc:TypeId×Value->H} {P:Program} {w:World}
theorem Ps {t e:TypeId} {z:Nat} {α:Type} [Inhabited α] {cells:α->List AV} {Ok:α->Prop} (ht:P.underlying t=some (.slice e)) (hc:P.cellsOf e=z) (hz:0<z) (hby:0<P.bytesOf e) (hlen:∀ x,(cells x).length=z)
  (hr:HY enc P w e cells Ok):HY enc P w t (λxs:List α=>[.sl z (xs.map cells)]) (λxs=>xs.length<=1152921504606846976/\∀ x∈xs,Ok x):=by
 intro n cs y h hw;rcases open_slice ht h with⟨rfl,rfl⟩|⟨a,len,cap,m,n',D,Pl,rfl,_,hl,_,hm,rfl,hi⟩
 .refine⟨[],⟨qB,qB⟩,rfl,λj v x hv hx=>?_⟩
  cases j with
  | zero =>
   simp at hv hx;subst hv;subst hx;exact⟨.slN _ _ _,rfl⟩
  | succ j=>simp at hv
 .simp only [if_true] at hm;subst hm;have hw0:=hw (((List.map D (List.range len)).length+(List.map (λj=>D (len+j)) (List.range (m - len))).length) * P.bytesOf e) (by simp [DataW.weights,ht])
  have hll:len<=1152921504606846976:=by
   simp only [Eg,List.length_range,reachBytes] at hw0;have:len * 1<=(len+(m - len)) * P.bytesOf e:=Nat.mul_le_mul qA hby;omega
  have hel:∀ i,i<len->∃ x:α,Ok x/\∀ j,j<z->∃ v aa,w.cell? ((a.add (i * z)).add j)=some v/\(cells x)[j]?=some aa/\RV (g0 w) w v aa/\v.oneCell'=true:=by
   intro i hil;obtain⟨cs',h1,h2⟩:=hi i qA;rw [hc] at h1;obtain⟨_,hcl,hat⟩:=World.cells?_some h1
   obtain⟨x,hx,hxl,hxr⟩:=hr n' cs' _ h2 (λq hq=>hw q (by
    simp only [DataW.weights,ht,aH,dY];exact .inr (.inl (lv (fG.2 ⟨i,gh.2 hil,rfl⟩) q hq))))
   refine⟨x,hx,λj hj=>?_⟩;have e1:=hat j hj;have e2:cs'[j]?=some (cs'[j]' qA):=gE qA;have e3:(cells x)[j]?=some ((cells x)[j]' qA):=gE qA
   grind
  obtain⟨X,hX⟩:=choose_lt hel
  have hav:∀ i,i<len->(List.map X (List.range len))[i]?=some (X i):=by
   simp_all
  refine⟨(List.range len).map X,⟨qH,?_⟩,rfl,λj v x hv hx=>?_⟩
  .simp_all
  .cases j with
   | succ j=>simp at hv
   | zero =>
    simp only [iU,oY] at hv hx;subst hv;subst hx;refine⟨?_,rfl⟩;rcases dV len with rfl|hpos
    .exact .slN _ _ _
    .obtain⟨v0,_,hc0,_⟩:=(hX 0 hpos).2 0 hz;obtain⟨hb,hsp⟩:=Nh hc0;rw [Nat.zero_mul] at hb hsp;have ha0:(a.add 0).add 0=a:=by simp [Addr.add]
     rw [ha0] at hb hsp;obtain⟨b,off,s⟩:=a;obtain rfl:s=none:=hsp
     have hcell:∀ i j,(((⟨b,off,none⟩:Addr).add (i * z)).add j)=⟨b,off+i * z+j,none⟩:=by
      grind[Oc]
     refine .slC b off m len z _ (λi j=>(w.cell? ⟨b,off+i * z+j,none⟩).getD undef) hb qB hl ?_ ?_ ?_ ?_<;>grind
end
end Go.Hm
end
section
namespace Go.Hm
open Go Go.RowKit
def jC (n x y:Int):Int:=if n=x then y else n
def Z9.Zn (s:Z9) (x y:Int):Z9 :=
 ⟨s.kind,if s.qBN\/9<=s.kind then jC s.to x y else s.to,
   if s.kind=1\/s.kind=6\/s.kind=7\/s.kind=8\/s.kind=2\/s.kind=5 then jC s.a x y else s.a,if s.kind=2\/s.kind=5 then jC s.b x y else s.b⟩
def Za.Zn (k:Za) (x y:Int):Za:=⟨k.kind,k.parent,k.params.map (λn=>jC n x y),k.body.map (λs=>s.Zn x y)⟩
def aP (p:Z0) (b:Int):Nat->Int->Bool
 | 0,j=>decide (j=b)
 | n+1,j=>if b<j then (match p[j.toNat]? with|some q=>aP p b n q.parent|none=>false) else decide (j=b)
def qi (p:Z0) (c b:Int):Bool:=aP p b p.length c
theorem oq {p:Z0} {b:Int} (hh:zS p) (hb:0<=b):∀ (n m:Nat) (j:Int),j<=n->j<=m->aP p b n j=aP p b m j
 | 0,0,_,_,_=>rfl
 | 0,m+1,j,h,_=>by
  grind[aP]
 | n+1,0,j,_,h=>by
  grind[aP]
 | n+1,m+1,j,h1,h2=>by
  simp only [aP]
  split
  .cases hq:p[j.toNat]? with
   | none=>rfl
   | some q =>
    have:=(hh _ q hq).2.1;exact oq hh hb n m _ qA qA
  .rfl
theorem zf {p:Z0} {c b:Int} (h:c<=b):qi p c b=decide (c=b):=by
 unfold qi;generalize p.length=n
 cases n<;>grind[aP]
theorem zr {p:Z0} {c:Nat} {b:Int} {q:Za} (hh:zS p) (hb:0<=b) (hq:p[c]?=some q) (h:b<c):qi p c b=qi p q.parent b:=by
 have hl:c<p.length:=(gS hq).1;have hp:=(hh c q hq).2.1;unfold qi;obtain⟨n,hn⟩:∃ n,p.length=n+1:=⟨p.length - 1,qA⟩
 grind[oq,aP]
def Za.us (k:Za):List Int:=sorted (k.rd++k.bd++k.dc 9++k.dc 10)
theorem Za.qBH (k:Za):k.us.length<=8:=ar
def qQ (p:Z0) (b x:Int) (c:Nat):Bool:=match p[c]? with|some k=>decide (x∈k.us)&&decide (q7 p c x=b)|none=>false
def yW (p:Z0) (b x:Int):Nat->List Int
 | 0=>[]
 | n+1=>if qQ p b x n=true then yW p b x n++[(n:Int)] else yW p b x n
def zi (p:Z0) (b x:Int):List Int:=yW p b x p.length
theorem bL {p:Z0} {b x:Int} {c:Nat}:∀ {n:Nat},(c:Int)∈yW p b x n↔c<n/\qQ p b x c=true
 | 0=>by simp [yW]
 | n+1=>by
  simp only [yW]
  split
  .rename_i h;simp only [dY,bL (n:=n),w6]
   grind
  .rename_i h;rw [bL (n:=n)]
   grind
theorem pp {p:Z0} {b x:Int}:∀ n:Nat,(yW p b x n).length<=n
 := by intro x0;induction x0<;>grind[yW]
theorem go {p:Z0} {b x z:Int}:∀ {n:Nat},z∈yW p b x n->0<=z/\z<n
 | 0,h=>by grind[yW]
 | n+1,h=>by
  simp only [yW] at h
  split at h
  .rcases dY.1 h with h|h
   .have:=go h;omega
   grind
  .have:=go h;omega
def yQ (c:Bool) (x y:Int) (k:Za):Za:=if c then k.Zn x y else k
def uI (S:Nat->Bool) (x y:Int) (p:Z0):Z0:=p.mapIdx λc k=>yQ (S c) x y k
theorem yx {S:Nat->Bool} {x y:Int} {p:Z0} {c:Nat}:(uI S x y p)[c]?=(p[c]?).map (yQ (S c) x y):=by
 grind[uI]
@[simp] theorem mJ {S:Nat->Bool} {x y:Int} {p:Z0}:(uI S x y p).length=p.length:=by simp [uI]
theorem cm {S T:Nat->Bool} {x y:Int} {p:Z0} (h:∀ c,c<p.length->S c=T c):uI S x y p=uI T x y p:=by
 apply wK
 grind[yx]
theorem DV {x y:Int} {p:Z0}:uI (λ_=>false) x y p=p:=by
 apply wK
 grind[yx,yQ]
theorem IC {S:Nat->Bool} {x y:Int} {p:Z0} {c:Nat} {k:Za} (hk:p[c]?=some k) (hc:S c=false):(uI S x y p).set c (k.Zn x y)=uI (λd=>S d||d==c) x y p:=by
 apply wK
 grind[yQ,uI]
def uO (p:Z0) (b:Nat) (y:Int) (c:Nat):Bool:=decide (b<=c)&&match p[c]? with|some k=>qi p c b&&decide (y∈k.us)|none=>false
def ni (p:Z0) (b:Nat) (y:Int):Bool:=(List.range p.length).any (uO p b y)
def DW (p:Z0) (b:Nat) (x y:Int):Bool:=match p[b]? with|some k=>(k.kind==1)&&qa b k x&&!ni p b y|none=>false
def ye (p:Z0) (b x y:Int):Bool:=jF p&&(decide (0<=b)&&decide (b<p.length))&&(decide (0<=x)&&decide (x<=7))&&(decide (0<=y)&&decide (y<=7))&&(x != y)&&DW p b.toNat x y
def ef (p:Z0) (b x y:Int):Z0:=if ye p b x y=true then uI (qQ p b x) x y p else []
theorem Pp {p:Z0} {b x y:Int} (hs:Sml p):Sml (ef p b x y):=by
 unfold ef
 split
 .have key:∀ k∈uI (qQ p b x) x y p,∃ q∈p,k.params.length=q.params.length/\k.body.length=q.body.length:=by
   grind[eW,yx,yQ,Za.Zn]
  refine⟨by simpa using hs.len,λk hk=>?_,λk hk=>?_⟩
  .obtain⟨q,hq,h1,_⟩:=key k hk;rw [h1];exact hs.params q hq
  .obtain⟨q,hq,_,h2⟩:=key k hk;rw [h2];exact hs.body q hq
 .exact⟨qB,λk hk=>vQ,λk hk=>vQ⟩
def bN {α:Type} (f:α->α) (l:List α) (i:Nat):List α:=(l.take i).map f++l.drop i
section
variable {α:Type} {f:α->α} {l:List α} {i:Nat} {x:α}
@[simp] theorem Dk (h:i<=l.length):(bN f l i).length=l.length:=by simp [bN];omega
theorem ct:bN f l 0=l:=by simp [bN]
theorem fg:bN f l l.length=l.map f:=by simp [bN]
theorem bM (h:l[i]?=some x):(bN f l i)[i]?=some x:=by
 grind[bN]
theorem cu (h:l[i]?=some x):(bN f l i).set i (f x)=bN f l (i+1):=by
 obtain⟨hi,hx⟩:=gS h;apply wK;intro j;rw [eV,Dk qA];by_cases e:i=j<;>grind[bN]
end
theorem pq {p:Z0} {b x:Int}:∀ n:Nat,(yW p b x n).Pairwise (·<·)
 | 0=>by simp [yW]
 | n+1=>by
  have ih:=pq (p:=p) (b:=b) (x:=x) n;simp only [yW]
  split
  .rw [List.pairwise_append];refine⟨ih,qB,λu hu v hv=>?_⟩;have:=go hu
   simp_all
  .exact ih
theorem lx {p:Z0} {b x z:Int} {i:Nat} (h:(zi p b x)[i]?=some z):z∉(zi p b x).take i:=by
 intro hm;obtain⟨j,hj,he⟩:=List.getElem_of_mem hm;obtain⟨hi,hz⟩:=gS h
 have hji:j<i:=by
  grind
 have:=List.pairwise_iff_getElem.1 (pq (p:=p) (b:=b) (x:=x) p.length) j i (by exact Nat.lt_trans hji hi) hi hji;rw [List.getElem_take] at he;have e1:(yW p b x p.length)[j]'(Nat.lt_trans hji hi)=z:=he;have e2:(yW p b x p.length)[i]'hi=z:=hz;omega
theorem JM {p:Z0} {b x z:Int} {i:Nat} (h:(zi p b x)[i]?=some z):∃ c:Nat,z=c/\c<p.length/\qQ p b x c=true:=by
 have hm:=gM h;have h1:=go hm;obtain⟨c,rfl⟩:∃ c:Nat,z=c:=⟨z.toNat,qA⟩;have h2:=bL.1 hm
 grind
theorem D7 {n:Nm} {p:Z0} {c:Nat} {k:Za} {x y:Int} (h:p[c]?=some k):yR n (p.set c (k.Zn x y))=yR n p:=by
 apply wK
 grind[bJ,Za.Zn]
theorem Pk {p:Z0} {b x y:Int} {i c:Nat} {k:Za} (hi:(zi p b x)[i]?=some (c:Int)) (hk:p[c]?=some k) :
  (uI (λd=>decide ((d:Int)∈(zi p b x).take i)) x y p).set c (k.Zn x y)=uI (λd=>decide ((d:Int)∈(zi p b x).take (i+1))) x y p:=by
 grind[IC,lx,uQ]
theorem Su {p:Z0} {b x y:Int} {i c:Nat} {k:Za} (hi:(zi p b x)[i]?=some (c:Int)) (hk:p[c]?=some k):(uI (λd=>decide ((d:Int)∈(zi p b x).take i)) x y p)[c]?=some k:=by
 rw [yx,hk];have:decide ((c:Int)∈(zi p b x).take i)=false:=by grind[lx]
 simp only [this,kv]
 rfl
theorem Sw {p:Z0} {b x y:Int}:uI (λd=>decide ((d:Int)∈(zi p b x).take (zi p b x).length)) x y p=uI (qQ p b x) x y p:=by
 apply cm;intro c hc;rw [an];by_cases h:qQ p b x c=true
 .rw [h];exact decide_eq_true (bL.2 ⟨hc,h⟩)
 .have h':qQ p b x c=false:=qH;rw [h'];simp only [decide_eq_false_iff_not];intro hm;exact h (bL.1 hm).2
def fB (p:Z0) (b x:Int) (i:Nat) (c:Nat):Bool:=decide (c<i)&&qQ p b x c
section
variable {p:Z0} {b x y:Int} {i:Nat} {k:Za}
theorem LL:uI (fB p b x 0) x y p=p:=by
 have:fB p b x 0=λ_=>false:=by grind[fB]
 grind[DV]
theorem PO:uI (fB p b x p.length) x y p=uI (qQ p b x) x y p:=by
 grind[cm,fB]
theorem PN (hk:p[i]?=some k):(uI (fB p b x i) x y p)[i]?=some k:=by
 grind[yx,fB,yQ]
theorem Cn (h:qQ p b x i=false):uI (fB p b x i) x y p=uI (fB p b x (i+1)) x y p:=by
 grind[cm,fB]
theorem LM (hk:p[i]?=some k) (h:qQ p b x i=true):(uI (fB p b x i) x y p).set i (k.Zn x y)=uI (fB p b x (i+1)) x y p:=by
 grind[IC,fB,cm]
end
theorem Ju {α:Type} {f:α->α} {l:List α} {i:Nat} {x:α} (h:l[i]?=some x) (hx:f x=x):bN f l (i+1)=bN f l i:=by
 rw [<- cu h,hx];have hg:=bM (f:=f) h;obtain⟨hi,he⟩:=gS hg;apply wK
 grind
end Go.Hm
end
section

end
section
namespace Go.Hm
open Go Go.RowKit
def ZN (L:List Z9) (i:Nat):List Z9:=L.take i++L.drop (i+1)
def Yx (p:Z0) (b i:Nat):Z0:=match p[b]? with|some k=>setBody p b (ZN k.body i)|none=>p
def WF (p:Z0) (b i:Nat):Bool:=match p[b]? with
 | some k=>match k.body[i]? with
  | some s=>((s.kind==9)||(s.kind==10))&&(jF (Yx p b i)&&decide (IH p=IH (Yx p b i)))
  | none=>false
 | none=>false
abbrev byt (v:Int):AV:=.sc (.int .u8 v)
def tw (bs:List Int):List (List AV):=bs.map λv=>[byt v]
abbrev bsl (bs:List Int):AV:=.sl 1 (tw bs)
section
variable {bs:List Int} {i:Nat} {f:Nm->Option Nm}
@[simp] theorem brows_len:(tw bs).length=bs.length:=tg
@[simp] theorem brows_getE {h:i<(tw bs).length}:(tw bs)[i]=[byt (bs[i]' qH)]:=tg
@[simp] theorem brows_tr:(tw bs).map (λr=>r.map (AV.tr f))=tw bs:=tg
@[simp] theorem brows_take {n:Nat}:(tw bs).take n=tw (bs.take n):=tg
@[simp] theorem brows_drop {n:Nat}:(tw bs).drop n=tw (bs.drop n):=tg
end
structure qAL (bs:List Int):Prop where
 len:bs.length<=2000
 rng:∀ v∈bs,0<=v/\v<=255
abbrev rdO (bs:List Int) (pos:Nat):AO:=.row 2 [[bsl bs,iv pos]]
def vC (D:Nm->Bool) (hp:Nm->Option AO):Nm->Option AO:=λm=>if D m then hp m else none
@[simp] theorem cL {D:Nm->Bool} {hp:Nm->Option AO} {m:Nm}:vC D hp m=if D m then hp m else none:=rfl
def D12:Nm->Bool:=λn=>Nm.under (.u 1 0 0) n||Nm.under (.u 2 0 0) n
@[simp] theorem A2 {n:Nm}:D12 n=(Nm.under (.u 1 0 0) n||Nm.under (.u 2 0 0) n):=rfl
theorem zG {n:Nm} (h:D12 n=true):n.Zi=false:=by
 simp only [D12,Kf] at h;rcases h with h|h <;> exact qR rfl h
section
variable {X:Ctx} {st:St} {K:St->Prop} {E:AV->St->Prop} {d f:Nat} {ty:TypeId} {pos:String} {aft:Array Edge} {g:Option (Nat×Bool)} {args:Array Operand} {Ts:Array TypeId} {az:List AV} {R:Nm->AV->(Nm->Option AO)->Prop}
theorem lq (D:Nm->Bool) (hD:∀ n,D n=true->n.Zi=false) (hext:∀ k i j,X.ext (.u k i j)=true->D (.u k i j)=false\/(vC D st.hp) (.u k i j)≠none) (hd:d<X.n:=by first|(simp;done)|fail) (ha:args.toList.map (ev st)=az:=by simp [fx];first|done|rfl)
  (hF:Zj X.P X.gl f D az (vC D st.hp) R noE) (h:∀ y H',R (.s d) y H'->K ((st.call d D (vC D st.hp) H').put (some d) y)) :
  qS X ⟨some d,.call ⟨.value (.func f),args,Ts⟩,ty,pos,aft,g⟩ K E st:=by
 subst ha;refine eF (D:=D) (H:=vC D st.hp) (R:=R) (E0:=noE) hF (iL hF.1 rfl) false ⟨rfl,λj a a' h h'=>?_⟩ (λn hn=>?_) (λn hn=>?_) (λn hn=>?_) hext (λe he=>qH) (λx H' hR=>?_) (λ_ _ h=>h.elim)
 .rw [h] at h';obtain rfl:=sI h';exact .refl _
 .cases hx:D n with
  | false=>rfl
  | true =>
   have h1:=hD n hx;have h2:=Nm.qAM (a:=.s d) rfl hn
   simp_all
 .simp [hn]
 .simp_all
 simp_all
theorem LF (hd:d<X.n:=by first|(simp;done)|fail) (ha:args.toList.map (ev st)=az:=by simp [fx];first|done|rfl) (hF:qb X.P X.gl f az R) (h:∀ y H',R (.s d) y H'->K ((st.call d noD noH H').put (some d) y)) :
  qS X ⟨some d,.call ⟨.value (.func f),args,Ts⟩,ty,pos,aft,g⟩ K E st:=by
 subst ha;refine eF (D:=noD) (H:=noH) (R:=R) (E0:=noE) hF (iL hF.1 rfl) false ⟨rfl,λj a a' h h'=>?_⟩ (λ_ _=>rfl) (λn hn=>by cases hn) (λn hn=>absurd rfl hn) (λk i j _=>.inl rfl) (λe he=>qH) (λx H' hR=>?_) (λ_ _ h=>h.elim)
 .rw [h] at h';obtain rfl:=sI h';exact .refl _
 simp_all
end
def rk (a d:Nat) (m:Nm):Option Nm :=
 if Nm.under (.s a) m then (if m=.s a then some (.u 2 0 0) else none) else if Nm.under (.u 2 0 0) m then none else if Nm.under (.s d) m then none else if Nm.under (.u 1 0 0) m then (if m=.u 1 0 0 then some (.u 1 0 0) else none) else some m
def St.rdr (st:St) (a d:Nat) (R:AO):St :=
 { tm:=λt=>(st.tm t).tr (rk a d),
   hp:=λm=>if m=.u 1 0 0 then some R else if D12 m||Nm.under (.s d) m||Nm.under (.s a) m then none else (st.hp m).map (AO.tr (rk a d)),
   n:=st.n,gl:=st.gl }
section
variable {st:St} {a d t:Nat} {m:Nm} {R:AO}
@[simp] theorem rk_eq:rk a d m=if Nm.under (.s a) m then (if m=.s a then some (.u 2 0 0) else none) else if Nm.under (.u 2 0 0) m then none else if Nm.under (.s d) m then none else if Nm.under (.u 1 0 0) m then (if m=.u 1 0 0 then some (.u 1 0 0) else none) else some m:=rfl
@[simp] theorem rdr_tm:(st.rdr a d R).tm t=(st.tm t).tr (rk a d):=rfl
@[simp] theorem rdr_gl:(st.rdr a d R).gl=st.gl:=rfl
@[simp] theorem VG:(st.rdr a d R).hp m=if m=.u 1 0 0 then some R else if D12 m||Nm.under (.s d) m||Nm.under (.s a) m then none else (st.hp m).map (AO.tr (rk a d)):=rfl
end
theorem Sr {a d:Nat} {Hs:Nm->Option AO} (h1:(Hs (.u 1 0 0)).isSome=true) (h2:(Hs (.u 2 0 0)).isSome=true):(λm=>(mv (.s a) (.u 2 0 0) m).bind (cf d D12 Hs))=rk a d:=by
 funext x
 by_cases hx:Nm.under (.s a) x=true
 .grind[Nm.Zn,Nm.qAK,po,F8,mv,cf,D12,rk,Nm.isU]
 .simp only [bc] at hx;by_cases hv:Nm.under (.u 2 0 0) x=true
  .simp_all
  .simp only [bc] at hv;by_cases hd:Nm.under (.s d) x=true
   .simp_all
   .simp only [bc] at hd;by_cases hw:Nm.under (.u 1 0 0) x=true
    .by_cases e:x=.u 1 0 0
     .simp_all
     .have hi:x.isU=false:=by
       cases x<;>simp_all
      simp_all
    simp_all
section
variable {P:Program} {C:Nat->Prop} {w:World} {g0:Gh} {H:Nm->Option AO} {n:Nat} {gl:Nat->Option (List AV)} {st:St} {K:St->Prop} {E:AV->St->Prop} {d f:Nat} {ty:TypeId} {ps:String} {aft:Array Edge} {gd:Option (Nat×Bool)} {a0 a1:Operand} {Ts:Array TypeId} {bs xs:List Int} {pos:Nat}
def WS (P:Program) (gl:Nat->Option (List AV)) (f:FuncId):Prop:=∀ (H:Nm->Option AO) (bs:List Int) (pos:Nat) (xs:List Int),qAL bs->pos<=1000000->(0<xs.length/\xs.length<=1000)->H (.u 1 0 0)=some (rdO bs pos)->H (.u 2 0 0)=some (.row 1 (qT xs)) ->
  Zj P gl f D12 [.pt (.u 1 0 0) 0,.hs (.u 2 0 0) 1 0 xs.length] H (λ_ z H'=>∃ v,z=iv v/\v∈xs/\H' (.u 1 0 0)=some (rdO bs (pos+1))) noE
theorem wk {t0 t1:Nat} (hF:WS P gl f) (a:Nat) (xs:List Int) (hb:qAL bs) (hpos:pos<=1000000) (hx:0<xs.length/\xs.length<=1000:=by first|(simp;done)|fail) (hV:H (.u 2 0 0)=none) (hd:d<n:=by first|(simp;done)|fail)
  (h0:st.tm t0=.pt (.u 1 0 0) 0) (h1:st.tm t1=.hs (.s a) 1 0 xs.length) (hH:st.hp (.u 1 0 0)=some (rdO bs pos)) (hL:st.hp (.s a)=some (.row 1 (qT xs)))
  (h:∀ v,v∈xs->K ((st.rdr a d (rdO bs (pos+1))).put (some d) (iv v))) :
  qS (dz P C w g0 H n gl) ⟨some d,.call ⟨.value (.func f),#[.tmp t0,.tmp t1],Ts⟩,ty,ps,aft,gd⟩ K E st:=by
 have e1:(st.move (.s a) (.u 2 0 0)).hp (.u 1 0 0)=some (rdO bs pos):=jM;have e2:(st.move (.s a) (.u 2 0 0)).hp (.u 2 0 0)=some (.row 1 (qT xs)):=cT;have hc:=Sr (a:=a) (d:=d) (Hs:=vC D12 (st.move (.s a) (.u 2 0 0)).hp) jM cT;refine pI (.s a) (.u 2 0 0) (.inl rfl) (.inr tj) ?_;refine qS.qCj (K':=λs=>∃ v H1,v∈xs/\H1 (.u 1 0 0)=some (rdO bs (pos+1))/\s=(((st.move (.s a) (.u 2 0 0)).call d D12 (vC D12 (st.move (.s a) (.u 2 0 0)).hp) H1).put (some d) (iv v))) ?_ ?_
 .refine lq (az:=[.pt (.u 1 0 0) 0,.hs (.u 2 0 0) 1 0 xs.length]) D12 (λn h=>zG h) (λk i j he=>?_) hd ?_ (hF _ bs pos xs hb hpos hx jM cT) ?_
  .simp_all<;>grind
  .simp_all
  simp_all<;>grind
 .rintro s ⟨v,H1,hv,hH1,rfl⟩;refine⟨((st.rdr a d (rdO bs (pos+1))).put (some d) (iv v)).hp,λm ob e=>?_,?_⟩
  .simp only [Rn,VG] at e
   split at e<;>simp_all[AO.qAW]
  .have ht:(((st.move (.s a) (.u 2 0 0)).call d D12 (vC D12 (st.move (.s a) (.u 2 0 0)).hp) H1).put (some d) (iv v)).tm=((st.rdr a d (rdO bs (pos+1))).put (some d) (iv v)).tm:=by
    simp_all[St.put,AV.qAW]
   rw [ht];exact h v hv
end
def rn (d:Nat) (m:Nm):Option Nm:=if Nm.under (.s d) m then none else if Nm.under (.u 1 0 0) m then (if m=.u 1 0 0 then some (.u 1 0 0) else none) else some m
def St.rdn (st:St) (d:Nat) (R:AO) (Hn:Nm->Option AO):St :=
 { tm:=λt=>(st.tm t).tr (rn d),
   hp:=λm=>if m=.u 1 0 0 then some R else if Nm.under (.u 1 0 0) m then none else if Nm.under (.s d) m then Hn m else (st.hp m).map (AO.tr (rn d)),
   n:=st.n,gl:=st.gl }
section
variable {st:St} {d t:Nat} {m:Nm} {R:AO} {Hn:Nm->Option AO}
@[simp] theorem rn_eq:rn d m=if Nm.under (.s d) m then none else if Nm.under (.u 1 0 0) m then (if m=.u 1 0 0 then some (.u 1 0 0) else none) else some m:=rfl
@[simp] theorem rdn_tm:(st.rdn d R Hn).tm t=(st.tm t).tr (rn d):=rfl
@[simp] theorem rdn_gl:(st.rdn d R Hn).gl=st.gl:=rfl
@[simp] theorem VH:(st.rdn d R Hn).hp m=if m=.u 1 0 0 then some R else if Nm.under (.u 1 0 0) m then none else if Nm.under (.s d) m then Hn m else (st.hp m).map (AO.tr (rn d)):=rfl
end
theorem Sq {d:Nat} {Hs:Nm->Option AO} (h1:(Hs (.u 1 0 0)).isSome=true):cf d (Nm.under (.u 1 0 0)) Hs=rn d:=by
 funext x
 by_cases hd:Nm.under (.s d) x=true
 .simp [hd]
 .simp only [bc] at hd;by_cases hw:Nm.under (.u 1 0 0) x=true
  .by_cases e:x=.u 1 0 0
   .simp_all
   .have hi:x.isU=false:=by
     cases x<;>simp_all
    simp_all
  simp_all
section
variable {X:Ctx} {st:St} {K:St->Prop} {E:AV->St->Prop} {d f:Nat} {ty:TypeId} {ps:String} {aft:Array Edge} {gd:Option (Nat×Bool)} {args:Array Operand} {Ts:Array TypeId} {az:List AV} {R:Nm->AV->(Nm->Option AO)->Prop} {bs:List Int}
theorem fI (hd:d<X.n:=by first|(simp;done)|fail) (hs:(st.hp (.u 1 0 0)).isSome=true) (ha:args.toList.map (ev st)=az) (hF:Zj X.P X.gl f (Nm.under (.u 1 0 0)) az (nD (.u 1 0 0) st.hp) R noE)
  (h:∀ z H',R (.s d) z H'->∃ pos',H' (.u 1 0 0)=some (rdO bs pos')/\K ((st.rdn d (rdO bs pos') H').put (some d) z)) :
  qS X ⟨some d,.call ⟨.value (.func f),args,Ts⟩,ty,ps,aft,gd⟩ K E st:=by
 have hc:=Sq (d:=d) (Hs:=nD (.u 1 0 0) st.hp) qH;refine qS.qCj (K':=λs=>∃ z H',R (.s d) z H'/\s=((st.call d (Nm.under (.u 1 0 0)) (nD (.u 1 0 0) st.hp) H').put (some d) z)) ?_ ?_
 .refine aL (.u 1 0 0) rfl (λ_=>qj) hd ha hF λz H' hR=>⟨z,H',hR,rfl⟩
 .rintro s ⟨z,H',hR,rfl⟩;obtain⟨pos',hH,hK⟩:=h z H' hR;refine⟨((st.rdn d (rdO bs pos') H').put (some d) z).hp,λm ob e=>?_,?_⟩
  .simp only [Rn,VH] at e
   grind[St.call,St.nm,Nm.under,St.put]
  .have ht:((st.call d (Nm.under (.u 1 0 0)) (nD (.u 1 0 0) st.hp) H').put (some d) z).tm=((st.rdn d (rdO bs pos') H').put (some d) z).tm:=by
    simp_all[St.put]
   rw [ht];exact hK
def Ep {α:Type} (bs:List Int) (V:α->AV) (Q:α->Nat->Prop):Nm->AV->(Nm->Option AO)->Prop:=λ_ z H'=>∃ v pos',z=V v/\Q v pos'/\H' (.u 1 0 0)=some (rdO bs pos')
theorem iV {α:Type} {V:α->AV} {Q:α->Nat->Prop} (hd:d<X.n:=by first|(simp;done)|fail) (hs:(st.hp (.u 1 0 0)).isSome=true) (ha:args.toList.map (ev st)=az) (hF:Zj X.P X.gl f (Nm.under (.u 1 0 0)) az (nD (.u 1 0 0) st.hp) (Ep bs V Q) noE)
  (h:∀ v pos',Q v pos'->K ((st.rdn d (rdO bs pos') (λ_=>none)).put (some d) (V v))) :
  qS X ⟨some d,.call ⟨.value (.func f),args,Ts⟩,ty,ps,aft,gd⟩ K E st:=by
 refine qS.qCj (K':=λs=>∃ v pos' H',Q v pos'/\s=((st.rdn d (rdO bs pos') H').put (some d) (V v))) ?_ ?_
 .refine fI (bs:=bs) hd hs ha hF ?_
  grind[Ep]
 .rintro s ⟨v,pos',H',hQ,rfl⟩;refine⟨((st.rdn d (rdO bs pos') (λ_=>none)).put (some d) (V v)).hp,λm ob e=>?_,h v pos' hQ⟩
  simp_all<;>grind
end
def li (L:List Z9):List Z9:=L.filter λs=>!((s.kind==9)||(s.kind==10))
def oX (k:Za):Za:={ k with body:=li k.body }
def my (p:Z0):Z0:=p.map oX
theorem EZ {L:List Z9}:(li L).length<=L.length:=List.length_filter_le _ _
theorem Kc {L:List Z9} {i:Nat} {s:Z9} (h:L[i]?=some s):li (L.take (i+1))=if ((s.kind==9)||(s.kind==10))=true then li (L.take i) else li (L.take i)++[s]:=by
 grind[uQ,li]
theorem HN {p:Z0} {i:Nat} {k:Za} (h:p[i]?=some k):setBody (bN oX p i) i (li k.body)=bN oX p (i+1):=by
 rw [<- cu (f:=oX) h];have hg:=bM (f:=oX) h;apply wK
 grind[oX,setBody]
def al (N V m:Nm):Option Nm:=if m=N then some V else if Nm.under V m then none else some m
def St.alias (st:St) (N V:Nm) (t:Nat):St:={ tm:=λt'=>if t'=t then (st.tm t).tr (al N V) else (st.tm t').tr (kl V),hp:=hkl V st.hp,n:=st.n,gl:=st.gl }
section
variable {st:St} {N V m:Nm} {t t':Nat}
@[simp] theorem al_eq:al N V m=if m=N then some V else if Nm.under V m then none else some m:=rfl
@[simp] theorem alias_tm:(st.alias N V t).tm t'=if t'=t then (st.tm t).tr (al N V) else (st.tm t').tr (kl V):=rfl
@[simp] theorem alias_gl:(st.alias N V t).gl=st.gl:=rfl
@[simp] theorem alias_hp:(st.alias N V t).hp m=if Nm.under V m then none else (st.hp m).map (AO.tr (kl V)):=rfl
end
theorem Rw.alias {X:Ctx} {st:St} {a:Go.Act} {w:World} (h:Rw X st a w) (N V:Nm) (t:Nat) (hV:X.ext V=false):Rw X (st.alias N V t) a w:=by
 obtain⟨C,g,h1,h2,h3,h4,h5,hg⟩:=h
 let g':Gh:={ C:=g.C,φ:=λm=>if m=V then g.φ N else g.φ m,κ:=λm=>if m=V then g.κ N else g.κ m }
 have hs:=hg.step (g':=g') (w':=w) (f:=kl V) (hp':=hkl V st.hp) rfl (λn n' e=>by
  simp_all<;>grind[Nm.Z6]) rfl rfl rfl (qf _) (λ_ _=>rfl) (λ_ _ _=>rfl) (λm o e=>by
  obtain⟨o',e1,e2,e3⟩:=sV e
  grind)
 refine⟨C,g',h1,h2,h3,h4,λk i j he=>?_,⟨hs.inv,hs.defers,hs.size,λt'=>?_,hs.Zg⟩⟩
 .have:¬ Nm.u k i j=V:=λe=>qH;simp only [g',this,if_false];exact h5 k i j he
 .by_cases e:t'=t
  .subst e;simp only [St.alias,if_true];refine (hg.qBr t').tr (g':=g') (λ_ h=>h) (λ_ _=>rfl) (λn n' e=>?_)
   grind[al,Nm.Z6]
  .simp only [St.alias,e,if_false];exact hs.qBr t'
section
variable {X:Ctx} {st:St} {K:St->Prop} {E:AV->St->Prop} {o:Oper}
theorem nW (N V:Nm) (t:Nat) (hV:X.ext V=false) (h:qS X o K E (st.alias N V t)):qS X o K E st :=
 λa w Q hR hE=>h a w Q (hR.alias N V t hV) hE
end
section
variable {n:Nm} {p:Z0} {a d i j k:Nat}
@[simp] theorem pRows_rk (h1:Nm.under (.s a) n=false) (h2:Nm.under (.s d) n=false) (h3:Nm.under (.u 2 0 0) n=false) (h4:Nm.under (.u 1 0 0) n=false):(yR n p).map (λr=>r.map (AV.tr (rk a d)))=yR n p:=zA qH
@[simp] theorem pRows_rn (h2:Nm.under (.s d) n=false) (h4:Nm.under (.u 1 0 0) n=false):(yR n p).map (λr=>r.map (AV.tr (rn d)))=yR n p:=zA qH
@[simp] theorem pRows_klu (h:Nm.under (.u i j k) n=false):(yR n p).map (λr=>r.map (AV.tr (kl (.u i j k))))=yR n p:=zA dO
end
structure GenP (p:Z0):Prop where
 Zc:zS p
 len:1<=p.length/\p.length<=8
 params:∀ k∈p,k.params.length<=2
 body:∀ k∈p,k.body.length<=14
theorem GenP.sml {p:Z0} (h:GenP p):Sml p:=⟨by grind[len],λk hk=>by have:=h.params k hk;omega,λk hk=>by have:=h.body k hk;omega⟩
theorem GenP.one {k:Za} (h:k.parent=-1) (hp:k.params.length<=2) (hb:k.body.length<=14):GenP [k]:=by
 refine⟨λi q hq=>?_,qB,λq hq=>?_,λq hq=>?_⟩<;>grind
theorem GenP.add {p:Z0} {k:Za} (h:GenP p) (hl:p.length<=7) (hp:0<=k.parent/\k.parent<p.length) (h1:k.params.length<=2) (h2:k.body.length<=14):GenP (p++[k]):=by
 refine⟨λi q hq=>?_,qc,λq hq=>?_,λq hq=>?_⟩
 .rw [Ef] at hq
  split at hq
  .exact h.Zc i q hq
  grind
 .rcases dY.1 hq with hq|hq
  .exact h.params q hq
  simp_all
 .rcases dY.1 hq with hq|hq
  .exact h.body q hq
  simp_all
theorem bH {p:Z0} {i:Nat} {L:List Z9} {q:Za} (h:q∈setBody p i L):∃ r∈p,q.params=r.params/\(q.body=r.body\/q.body=L):=by
 grind[eW,setBody]
theorem Ak {p:Z0} {i:Nat} {L:List Z9} (h:zS p):zS (setBody p i L):=by
 grind[zS,setBody]
theorem GenP.setBody {p:Z0} {i:Nat} {L:List Z9} (h:GenP p) (hL:L.length<=14):GenP (setBody p i L):=by
 refine⟨Ak h.Zc,by simpa using h.len,λq hq=>?_,λq hq=>?_⟩
 .obtain⟨r,hr,h1,_⟩:=bH hq;rw [h1];exact h.params r hr
 .obtain⟨r,hr,_,h2⟩:=bH hq;rcases h2 with h2|h2
  .rw [h2];exact h.body r hr
  simp_all
theorem GenP.bare {p:Z0} (h:GenP p):GenP (my p):=by
 refine⟨λi q hq=>?_,by grind[my,len],λq hq=>?_,λq hq=>?_⟩
 .simp only [my,kx] at hq;obtain⟨r,hr,rfl⟩:=ku.1 hq;exact h.Zc i r hr
 .obtain⟨r,hr,rfl⟩:=fG.1 hq;exact h.params r hr
 .obtain⟨r,hr,rfl⟩:=fG.1 hq;exact vk EZ (h.body r hr)
def HZ (bs:List Int) (Q:Z0->Nat->Prop):Nm->AV->(Nm->Option AO)->Prop:=λr z H'=>∃ (p:Z0) (pos':Nat),z=.agg [.hs r 4 0 p.length]/\qAb H' r p/\Q p pos'/\H' (.u 1 0 0)=some (rdO bs pos')
theorem Sml.set {p:Z0} {i:Nat} {k:Za} (h:Sml p) (h1:k.params.length<=1048576) (h2:k.body.length<=1048576):Sml (p.set i k):=by
 refine⟨by grind[len],λq hq=>?_,λq hq=>?_⟩
 .rcases List.mem_or_eq_of_mem_set hq with hq|rfl
  .exact h.params q hq
  .exact h1
 .rcases List.mem_or_eq_of_mem_set hq with hq|rfl
  .exact h.body q hq
  .exact h2
theorem rL {p:Z0} {i:Nat} {L:List Z9} (h:Sml p) (hL:L.length<=1048576):Sml (setBody p i L):=by
 refine⟨by simpa using h.len,λq hq=>?_,λq hq=>?_⟩
 .obtain⟨r,hr,h1,_⟩:=bH hq;rw [h1];exact h.params r hr
 .obtain⟨r,hr,_,h2⟩:=bH hq;rcases h2 with h2|h2
  .rw [h2];exact h.body r hr
  simp_all
theorem D6 {n:Nm} {p:Z0} {i:Nat} {k:Za} {v:Int} (hk:p[i]?=some k):qk (yR n p) i 1 [iv v]=yR n (p.set i { k with parent:=v }):=by
 apply wK
 grind[qk,bJ,List.getElem?_eq_some_iff]
theorem ri {n:Nm} {a i len:Nat} {p:Z0} {k:Za} {L:List Int} (hk:p[i]?=some k) (hl:len=L.length) (hn:Nm.under (.s a) n=false) (hn':Nm.under (.c n i 2) n=false) :
  (qk (yR n p) i 2 [.hs (.s a) 1 0 len]).map (λr=>r.map (AV.tr (mv (.s a) (.c n i 2))))=yR n (p.set i { k with params:=L }):=by
 subst hl;apply wK;intro j;simp only [qk,kx,pR,bJ,eV];by_cases e:i=j
 .subst e;simp [(gS hk).1,(gS hk).2,hn,hn']
 .have e':¬ j=i:=λh=>e h.symm
  cases hx:p[j]?<;>simp_all
def Yt (q:Z0) (c:Nat):List Int:=match q[c]? with|some k=>k.us|none=>[]
def BH (p q:Z0) (b:Nat) (x:Int) (n:Nat):Bool:=(List.range n).any (λc=>qi p c b&&decide (x∈Yt q c))
structure qDX (p:Z0) (b:Nat) (x y:Int):Prop where
 valid:jF (ef p b x y)=true
 qEV:ye (ef p b x y) b y x=!BH p (ef p b x y) b x p.length
 back:ye (ef p b x y) b y x=true->ef (ef p b x y) b y x=p
def swp (x y z:Int):Int:=if z=x then y else if z=y then x else z
theorem LZ {x y:Int} (h:x≠y):swp x y y=x:=by grind[swp]
theorem Uu {x y:Int}:swp x y x=y:=by simp [swp]
theorem P4 {x y z:Int} (h1:z≠x) (h2:z≠y):swp x y z=z:=by grind[swp]
theorem Fh {l:List Int} {x y z:Int} (h:x≠y) (hy:y∉l):z∈l.map (λn=>jC n x y)↔swp x y z∈l:=by
 grind[jC,swp]
theorem wc {l:List Int} {x y z:Int} (hx:0<=x/\x<=7) (hy:0<=y/\y<=7) (h:x≠y) (hn:y∉l):z∈sorted (l.map (λn=>jC n x y))↔swp x y z∈sorted l:=by
 grind[mem_sorted,jC,swp]
theorem Z9.qBk {s:Z9} {x y:Int} (hx:0<=x) (hy:0<=y):(s.Zn x y).reads=s.reads.map (λn=>jC n x y):=by
 obtain⟨k,t,a,b⟩:=s;have e:jC b x y=-1↔b=-1:=by grind[jC]
 grind[reads,Zn]
theorem DX {ss:List Z9} {x y:Int} (hx:0<=x) (hy:0<=y):j8 (ss.map (λs=>s.Zn x y))=(j8 ss).map (λn=>jC n x y):=by
 induction ss<;>grind[j8,Z9.qBk]
theorem ml {ss:List Z9} {x y:Int} {f:Int->Bool} (h:∀ s:Z9,f s.kind=true->s.qBN\/9<=s.kind):((ss.map (λs=>s.Zn x y)).filter (λs=>f s.kind)).map Z9.to=((ss.filter (λs=>f s.kind)).map Z9.to).map (λn=>jC n x y):=by
 induction ss<;>grind[Z9.Zn]
theorem EX {k:Za} {x y:Int}:uB (k.Zn x y)=(uB k).map (λn=>jC n x y):=by
 have:=ml (ss:=k.body) (x:=x) (y:=y) (f:=λc=>decide ((0<=c/\c<=6)\/c=11)) (λs h=>by
  grind)
 grind[uB,Za.Zn]
theorem sf {k:Za} {x y d:Int} (hd:9<=d):bU (k.Zn x y) d=(bU k d).map (λn=>jC n x y):=by
 have:=ml (ss:=k.body) (x:=x) (y:=y) (f:=λc=>decide (c=d)) (λs h=>by
  simp_all)
 grind[bU,Za.Zn]
structure qBz (k:Za) (y:Int):Prop where
 rd:y∉j8 k.body
 bd:y∉uB k
 d9:y∉bU k 9
 d10:y∉bU k 10
theorem qBz.of {k:Za} {y:Int} (hy:0<=y/\y<=7) (h:y∉k.us):qBz k y:=by
 constructor<;>grind[Za.us,mem_sorted,Za.rd,Za.bd,Za.dc]
theorem xy {k:Za} {z:Int}:z∈k.us↔z∈k.rd\/z∈k.bd\/z∈k.dc 9\/z∈k.dc 10:=by
 grind[Za.us,mem_sorted,Za.rd,Za.bd,Za.dc]
section
variable {k:Za} {x y z:Int} (hx:0<=x/\x<=7) (hy:0<=y/\y<=7) (hxy:x≠y) (hf:qBz k y)
include hx hy hxy hf
theorem VE:z∈(k.Zn x y).rd↔swp x y z∈k.rd:=by
 unfold Za.rd;rw [show (k.Zn x y).body=k.body.map (λs=>s.Zn x y) from rfl,DX hx.1 hy.1]
 grind[wc,qBz.rd]
theorem Rk:z∈(k.Zn x y).bd↔swp x y z∈k.bd:=by
 grind[Za.bd,EX,wc,qBz.bd]
theorem oe:z∈(k.Zn x y).dc 9↔swp x y z∈k.dc 9:=by
 grind[Za.dc,sf,wc,qBz.d9]
theorem F9:z∈(k.Zn x y).dc 10↔swp x y z∈k.dc 10:=by
 grind[Za.dc,sf,wc,qBz.d10]
theorem OX:z∈(k.Zn x y).us↔swp x y z∈k.us:=by
 grind[xy,VE,Rk,oe,F9]
omit hx hy in
theorem Jj:z∈(k.Zn x y).params↔swp x y z∈k.params:=by
 have:y∉k.params:=λh=>hf.bd (by simp [uB,h]);exact Fh hxy this
theorem ck {c:Nat}:qa c (k.Zn x y) z=qa c k (swp x y z):=by
 grind[qa,Rk,oe,F9]
end
theorem xg {n x y:Int} (h:n≠y):jC (jC n x y) y x=n:=by
 grind[jC]
theorem Z9.qCH {k:Za} {s:Z9} {x y:Int} (hx:0<=x) (hy:0<=y) (hn:qCU k) (hf:qBz k y) (hs:s∈k.body):(s.Zn x y).Zn y x=s:=by
 have hk:=hn.kinds s hs;have hrd:∀ z∈s.reads,z≠y:=λz hz e=>hf.rd (List.mem_flatMap.2 ⟨s,hs,e ▸ hz⟩)
 have hto:s.qBN\/9<=s.kind->s.to≠y:=by
  intro h e;by_cases h9:s.kind=9
  .exact hf.d9 (fG.2 ⟨s,xB.2 ⟨hs,b5⟩,e⟩)
  .by_cases h10:s.kind=10
   .exact hf.d10 (fG.2 ⟨s,xB.2 ⟨hs,bV⟩,e⟩)
   .refine hf.bd (dY.2 (.inr (fG.2 ⟨s,xB.2 ⟨hs,?_⟩,e⟩)))
    grind
 obtain⟨c,t,a,b⟩:=s
 grind[reads,Zn,xg]
theorem Za.qCH {k:Za} {x y:Int} (hx:0<=x) (hy:0<=y) (hn:qCU k) (hf:qBz k y):(k.Zn x y).Zn y x=k:=by
 obtain⟨c,u,ps,ss⟩:=k;simp only [Za.Zn,xA,Za.mk.injEq,true_and];refine⟨?_,?_⟩
 .conv=>rhs;rw [<- List.map_id ps]
  refine mz λn h=>?_;have:n≠y:=λe=>hf.bd (by grind[uB])
  grind[xg]
 .conv=>rhs;rw [<- List.map_id ss]
  grind[mz,Z9.qCH]
end Go.Hm
end
