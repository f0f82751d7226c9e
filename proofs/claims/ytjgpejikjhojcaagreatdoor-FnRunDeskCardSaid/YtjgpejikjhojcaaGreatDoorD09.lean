import Derived.Test.YtjgpejikjhojcaaGreatDoorD08
import Derived.Deep.Slices
import Derived.Deep.Fields
import Derived.ChangeSame
import Derived.SizedLaws
import Derived.OpenShut
import Derived.FnData
set_option linter.all false
set_option maxRecDepth 100000
set_option maxHeartbeats 4000000
open Option renaming some->Z,none->Y
open Bool renaming true->B,false->M
open List renaming length->O

section
namespace Go.Hm
open Go Go.RowKit
variable{N V:Nm}{d:Nat}
theorem AV.ui(f g:Nm->Option Nm)(a:AV):(a.tr f).tr g=a.tr (λm=>(f m).bind g):=by
 refine AV.rec (motive_1:=λa=>(a.tr f).tr g=a.tr (λm=>(f m).bind g)) (motive_2:=λl=>lr g (lr f l)=lr (λm=>(f m).bind g) l) (motive_3:=λl=>cP g (cP f l)=cP (λm=>(f m).bind g) l) ?_ ?_ ?_ ?_ ?_ ?_ ?_ ?_ ?_ ?_ ?_ ?_ ?_ ?_ ?_ ?_ a
 all_goals intros
 all_goals simp only[AV.tr,cP,lr, *]
 all_goals grind[tr]
theorem AO.ui(f g:Nm->Option Nm)(o:AO):(o.tr f).tr g=o.tr (λm=>(f m).bind g):=by
 have h:AV.tr g∘AV.tr f=AV.tr (λm=>(f m).bind g):=funext λa=>AV.ui f g a
 cases o<;>simp_all[AV.ui]
def fy(N V:Nm)(d:Nat)(m:Nm):Option Nm:=if Nm.under N m then(if m=N then Z N else Y)else if Nm.under V m then Y else if Nm.under (.s d) m then Y else Z m
def St.mr(st:St)(N V:Nm)(d:Nat)(H':Nm->Option AO):St:=
 {tm:=λt=>(st.tm t).tr (fy N V d),
  hp:=λm=>if Nm.under N m then(if mv V N (Nm.qy N V m)=Z m then(H' (Nm.qy N V m)).map (AO.tr (mv V N))else Y)else if Nm.under V m then Y else if Nm.under (.s d) m then(H' m).map (AO.tr (mv V N))else(st.hp m).map (AO.tr (fy N V d)),
  n:=st.n,gl:=st.gl}
section
variable{st:St}{N V m:Nm}{d t:Nat}{H':Nm->Option AO}
@[simp]theorem qAM:fy N V d m=if Nm.under N m then(if m=N then Z N else Y)else if Nm.under V m then Y else if Nm.under (.s d) m then Y else Z m:=rfl
@[simp]theorem mutc_tm:(st.mr N V d H').tm t=(st.tm t).tr (fy N V d):=rfl
@[simp]theorem mutc_gl:(st.mr N V d H').gl=st.gl:=rfl
@[simp]theorem mutc_hp:(st.mr N V d H').hp m=if Nm.under N m then(if mv V N (Nm.qy N V m)=Z m then(H' (Nm.qy N V m)).map (AO.tr (mv V N))else Y)else if Nm.under V m then Y else if Nm.under (.s d) m then(H' m).map (AO.tr (mv V N))else(st.hp m).map (AO.tr (fy N V d)):=rfl
end
theorem Hz{x:Nm}(h:Nm.under N x=B)(hne:x≠N):(Nm.qy N V x).z6=M:=by
 cases x<;>simp_all[Nm.under,Nm.qy]
theorem Ij{n:Nm}(hV:V.z6=B)(h:Nm.under V n=B):Nm.under (.s d) n=M:=by
 cases hx:Nm.under (.s d) n with
 |false=>rfl
 |true=>
  have h1:=y8 hV h;have h2:=Nm.nO (a:=.s d) rfl hx
  simp_all
theorem qAL{Hs:Nm->Option AO}(hV:V.z6=B)(hNV:Nm.under V N=M)(hs:(Hs V).isSome=B):(λm=>((mv N V m).bind (cf d (Nm.under V) Hs)).bind (mv V N))=fy N V d:=by
 funext x
 by_cases hx:Nm.under N x=B
 .have hu:Nm.under V (Nm.qy N V x)=B:=Nm.fG x hx;have hsd:=Ij (d:=d) hV hu;by_cases e:x=N<;>simp_all[Hz]
 grind[mv,cf,fy]
theorem Mt{st:St}{H':Nm->Option AO}{y:AV}(hV:V.z6=B)(hNV:Nm.under V N=M)(hs:(uL V (st.move N V).hp V).isSome=B):
  (((st.move N V).call d (Nm.under V) (uL V (st.move N V).hp) H').put (Z d) y).move V N=(st.mr N V d H').put (Z d) (y.tr (mv V N)):=by
 have hc:=qAL (N:=N) (d:=d) hV hNV hs
 have e1:∀a:AV,((a.tr (mv N V)).tr (cf d (Nm.under V) (uL V (st.move N V).hp))).tr (mv V N)=a.tr (fy N V d):=by
  grind[AV.ui]
 have e2:∀o:AO,((o.tr (mv N V)).tr (cf d (Nm.under V) (uL V (st.move N V).hp))).tr (mv V N)=o.tr (fy N V d):=by
  grind[AO.ui]
 unfold St.move;simp only[St.nm,St.put,St.mr]
 congr 1
 .funext t
  by_cases h:t=d
  .simp [h]
  .simp only[h,if_false];exact e1 _
 .funext m
  simp only[jP];by_cases h1:Nm.under N m=B
  .simp_all<;>grind
  .simp only[kr]at h1;simp only[h1,aF,if_false];by_cases h2:Nm.under V m=B
   .simp_all
   .simp only[kr]at h2;simp only[h2,aF,if_false,St.call,St.nm,Bool.false_or];by_cases h3:Nm.under (.s d) m=B
    .simp_all
    .simp only[kr]at h3;simp only[h3,aF,if_false,St.nm,St.move,jP,h2,h1]
     cases st.hp m with
     |none=>rfl
     |some o=>simp only[kB];exact congrArg Z (e2 o)
section
variable{X:Ctx}{st:St}{K:St->Prop}{E:AV->St->Prop}{d f:Nat}{ty:TypeId}{pos:String}{aft:Array Edge}{g:Option (Nat×Bool)}{args:Array Operand}{Ts:Array TypeId}{az:List AV}{R:Nm->AV->(Nm->Option AO)->Prop}
theorem Eg(N V:Nm)(hV:V.z6=B:=by rfl)(hN:N.z6=M:=by rfl)(hNV:Nm.under V N=M:=by first|(simp;done)|fail)(hext:X.ext V=M)(hs:(uL V (st.move N V).hp V).isSome=B)(hd:d<X.n:=by first|(simp;done)|fail)
  (ha:args.toList.map (ev (st.move N V))=az:=by simp[fx];first|done|rfl)
  (hF:qX X.P X.gl f (Nm.under V) az (uL V (st.move N V).hp) R qw)(h:∀y H',R (.s d) y H'->K ((st.mr N V d H').put (Z d) (y.tr (mv V N)))):
  qe X ⟨Z d,.call ⟨.value (.func f),args,Ts⟩,ty,pos,aft,g⟩ K E st:=by
 refine kU N V (.inl hN) (.inr hext) (dC V N (.inr hext) (.inl hN) ?_)
 grind[uT,Mt]
end
section
variable{p:qC}{n:Nm}{i l d a b e:Nat}
@[simp]theorem pRows_mvself{m:Nm}:(yt n p).map (λr=>r.map (AV.tr (mv n m)))=yt m p:=wV qB
@[simp]theorem pRows_rtf2(hN:Nm.under N n=M)(hN2:Nm.under n N=M)(hV:Nm.under (.u a b e) n=M)(hd:Nm.under (.s d) n=M):(yt n p).map (λr=>r.map (AV.tr (fy N (.u a b e) d)))=yt n p:=by
 grind[wV,Nm.under,qAM]
end
section
variable{p:qC}{c:Int}{i j:Nat}{k:qY}{n:Nm}
@[simp]theorem rowsSet_len{rows:List (List AV)}{off:Nat}{vals:List AV}:O (jn rows i off vals)=O rows:=by simp[jn]
end
section
variable{X:Ctx}{st:St}{K:St->Prop}{E:AV->St->Prop}
def uM{o:Oper}(F:St->Prop)(h:F st)(k:∀s,F s->qe X o K E s):qe X o K E st:=k st h
def qAu{ds:List (Option Nat)}{l:List Oper}(F:St->Prop)(h:F st)(k:∀s,F s->yQ X ds K E l s):yQ X ds K E l st:=k st h
def uR{c:Code}{Q:Ex->St->Prop}(F:St->Prop)(h:F st)(k:∀s,F s->jJ X c Q s):jJ X c Q st:=k st h
end
end Go.Hm
end
section
namespace Go.Hm
open Go Go.RowKit Go.ChangeShapes Go.WideShapes Go.Deep
variable{a:Addr}
def g0(w:World):Gh:={C:=λb=>b<w.heap.size,φ:=λ_=>Y,κ:=λ_=>0}
def Eu{H:Type}(enc:TypeId×Value->H)(P:Program)(w:World){α:Type}(t:TypeId)(cells:α->List AV)(Ok:α->Prop):Prop:=
 ∀(n:Nat)(cs:List Value)(y:DataW H×List MemPlace),DataW.trod enc P w 0 (λ_=>B) B n t cs=Z y->(∀m∈y.1.weights P t,m<=reachBytes) ->
  ∃x:α,Ok x/\O (cells x)=O cs/\∀(j:Nat)v a,cs[j]?=Z v->(cells x)[j]?=Z a->RV (g0 w) w v a/\v.oneCell'=B
theorem Po{H:Type}{P:Program}{e:TypeId}{d:DataW H}:∀{l:List (DataW H)},d∈l->∀m∈d.weights P e,m∈DataW.weightsAll P e l
 |x::l,h,m,hm=>by
  simp only[DataW.weightsAll,yI];rcases vV.1 h with rfl|h
  .simp_all
  .exact .inr (Po h m hm)
theorem Kg{w:World}{v:Value}(h:w.cell? a=Z v):a.block<w.heap.size/\a.spot=Y:=by
 unfold World.cell? at h
 split at h
 .rename_i c t fr hb;refine⟨(oA.1 hb).1,?_⟩
  simp_all
 .cases h
theorem Qt(h:a.spot=Y)(n:Nat):a.add n=⟨a.block,a.off+n,Y⟩:=by
 obtain⟨b,o,s⟩:=a
 grind[Addr.add]
section
variable{H:Type}{enc:TypeId×Value->H}{P:Program}{w:World}
theorem ζ{t e:TypeId}{z:Nat}{α:Type}[Inhabited α]{cells:α->List AV}{Ok:α->Prop}(ht:P.underlying t=Z (.slice e))(hc:P.cellsOf e=z)(hz:0<z)(hby:0<P.bytesOf e)(hlen:∀x,O (cells x)=z)
  (hr:Eu enc P w e cells Ok):Eu enc P w t (λxs:List α=>[.sl z (xs.map cells)]) (λxs=>O xs<=1152921504606846976/\∀x∈xs,Ok x):=by
 intro n cs y h hw;rcases open_slice ht h with⟨rfl,rfl⟩|⟨a,len,cap,m,n',D,Pl,rfl,_,hl,_,hm,rfl,hi⟩
 .refine⟨[],⟨qB,qB⟩,rfl,λj v x hv hx=>?_⟩
  cases j with
  |zero=>
   simp at hv hx;subst hv;subst hx;exact⟨.yV _ _ _,rfl⟩
  |succ j=>simp at hv
 .simp only[if_true]at hm;subst hm;have hw0:=hw ((O (List.map D (List.range len))+O (List.map (λj=>D (len+j)) (List.range (m-len))))*P.bytesOf e) (by simp[DataW.weights,ht])
  have hll:len<=1152921504606846976:=by
   simp only[rA,List.length_range,reachBytes]at hw0;have:len*1<=(len+(m-len))*P.bytesOf e:=Nat.mul_le_mul qA hby;omega
  have hel:∀i,i<len->∃x:α,Ok x/\∀j,j<z->∃v aa,w.cell? ((a.add (i*z)).add j)=Z v/\(cells x)[j]?=Z aa/\RV (g0 w) w v aa/\v.oneCell'=B:=by
   intro i hil;obtain⟨cs',h1,h2⟩:=hi i qA;rw[hc]at h1;obtain⟨_,hcl,hat⟩:=World.cells?_some h1
   obtain⟨x,hx,hxl,hxr⟩:=hr n' cs' _ h2 (λq hq=>hw q (by
    simp only[DataW.weights,ht,vV,yI];exact .inr (.inl (Po (wi.2 ⟨i,ix.2 hil,rfl⟩) q hq))))
   refine⟨x,hx,λj hj=>?_⟩;have e1:=hat j hj;have e2:cs'[j]?=Z (cs'[j]' qA):=gE qA;have e3:(cells x)[j]?=Z ((cells x)[j]' qA):=gE qA
   grind
  obtain⟨X,hX⟩:=choose_lt hel
  have hav:∀i,i<len->(List.map X (List.range len))[i]?=Z (X i):=by
   simp_all
  refine⟨(List.range len).map X,⟨qQ,?_⟩,rfl,λj v x hv hx=>?_⟩
  .simp_all
  .cases j with
   |succ j=>simp at hv
   |zero=>
    simp only[gh,AS]at hv hx;subst hv;subst hx;refine⟨?_,rfl⟩;rcases fN len with rfl|hpos
    .exact .yV _ _ _
    .obtain⟨v0,_,hc0,_⟩:=(hX 0 hpos).2 0 hz;obtain⟨hb,hsp⟩:=Kg hc0;rw[Nat.zero_mul]at hb hsp;have ha0:(a.add 0).add 0=a:=by simp[Addr.add]
     rw[ha0]at hb hsp;obtain⟨b,off,s⟩:=a;obtain rfl:s=Y:=hsp
     have hcell:∀i j,(((⟨b,off,Y⟩:Addr).add (i*z)).add j)=⟨b,off+i*z+j,Y⟩:=by
      grind[Qt]
     refine .eL b off m len z _ (λi j=>(w.cell? ⟨b,off+i*z+j,Y⟩).getD undef) hb qB hl ?_ ?_ ?_ ?_<;>grind
end
end Go.Hm
end
section
namespace Go.Hm
open Go Go.RowKit
variable{b:Int}{p:qC}
def md(p:qC)(b:Int):Nat->Int->Bool
 |0,j=>decide (j=b)
 |n+1,j=>if b<j then(match p[j.toNat]? with|some q=>md p b n q.parent|none=>M)else decide (j=b)
def j8(p:qC)(c b:Int):Bool:=md p b (O p) c
theorem Ls{p:qC}{b:Int}(hh:ze p)(hb:0<=b):∀(n m:Nat)(j:Int),j<=n->j<=m->md p b n j=md p b m j
 |0,0,_,_,_=>rfl
 |0,m+1,j,h,_=>by
  grind[md]
 |n+1,0,j,_,h=>by
  grind[md]
 |n+1,m+1,j,h1,h2=>by
  simp only[md]
  split
  .cases hq:p[j.toNat]? with
   |none=>rfl
   |some q=>
    have:=(hh _ q hq).2.1;exact Ls hh hb n m _ qA qA
  .rfl
theorem cF{c:Int}(h:c<=b):j8 p c b=decide (c=b):=by
 unfold j8;generalize O p=n
 cases n<;>grind[md]
theorem eh{c:Nat}{q:qY}(hh:ze p)(hb:0<=b)(hq:p[c]?=Z q)(h:b<c):j8 p c b=j8 p q.parent b:=by
 have hl:c<O p:=(gS hq).1;have hp:=(hh c q hq).2.1;unfold j8;obtain⟨n,hn⟩:∃n,O p=n+1:=⟨O p - 1,qA⟩
 grind[Ls,md]
def qY.us(k:qY):List Int:=sorted (k.rd++k.bd++k.dc 9++k.dc 10)
theorem qY.E9(k:qY):O k.us<=8:=xw
def qDZ(p:qC)(b x:Int)(c:Nat):Bool:=match p[c]? with|some k=>decide (x∈k.us)&&decide (zN p c x=b)|none=>M
def Ih(p:qC)(b x:Int):Nat->List Int
 |0=>[]
 |n+1=>if qDZ p b x n=B then Ih p b x n++[(n:Int)]else Ih p b x n
def touched(p:qC)(b x:Int):List Int:=Ih p b x (O p)
def bY{α:Type}(f:α->α)(l:List α)(i:Nat):List α:=(l.take i).map f++l.drop i
section
variable{α:Type}{f:α->α}{l:List α}{i:Nat}{x:α}
@[simp]theorem Mk(h:i<=O l):O (bY f l i)=O l:=by simp[bY];omega
def WN:bY f l 0=l:=by simp[bY]
def WK:bY f l (O l)=l.map f:=by simp[bY]
theorem Mj(h:l[i]?=Z x):(bY f l i)[i]?=Z x:=by
 grind[bY]
theorem WM(h:l[i]?=Z x):(bY f l i).set i (f x)=bY f l (i+1):=by
 obtain⟨hi,hx⟩:=gS h;apply yp;intro j;rw[fL,Mk qA];by_cases e:i=j<;>grind[bY]
end
end Go.Hm
end
section

end
section

end
section

end
section
namespace Go.Hm
open Go Go.RowKit
variable{Hs:Nm->Option AO}{L:List qT}{d i n:Nat}{k:qY}{p:qC}
def Sd(L:List qT)(i:Nat):List qT:=L.take i++L.drop (i+1)
def Ko(p:qC)(b i:Nat):qC:=match p[b]? with|some k=>setBody p b (Sd k.body i)|none=>p
def U0(p:qC)(b i:Nat):Bool:=match p[b]? with
 |some k=>match k.body[i]? with
  |some s=>((s.kind==9)||(s.kind==10))&&(j2 (Ko p b i)&&decide (N0 p=N0 (Ko p b i)))
  |none=>M
 |none=>M
abbrev FK(v:Int):AV:=.sc (.int .u8 v)
def gq(bs:List Int):List (List AV):=bs.map λv=>[FK v]
abbrev sq(bs:List Int):AV:=.sl 1 (gq bs)
section
variable{bs:List Int}{i:Nat}{f:Nm->Option Nm}
@[simp]theorem brows_len:O (gq bs)=O bs:=Ax
@[simp]theorem brows_getE{h:i<O (gq bs)}:(gq bs)[i]=[FK (bs[i]' qQ)]:=Ax
@[simp]theorem brows_tr:(gq bs).map (λr=>r.map (AV.tr f))=gq bs:=Ax
@[simp]theorem brows_take:(gq bs).take n=gq (bs.take n):=Ax
@[simp]theorem brows_drop:(gq bs).drop n=gq (bs.drop n):=Ax
end
structure ab(bs:List Int):Prop where
 len:O bs<=2000
 Bk:∀v∈bs,0<=v/\v<=255
abbrev jT(bs:List Int)(pos:Nat):AO:=.row 2 [[sq bs,iv pos]]
def zU(D:Nm->Bool)(hp:Nm->Option AO):Nm->Option AO:=λm=>if D m then hp m else Y
@[simp]theorem BD{D:Nm->Bool}{hp:Nm->Option AO}{m:Nm}:zU D hp m=if D m then hp m else Y:=rfl
def zP:Nm->Bool:=λn=>Nm.under (.u 1 0 0) n||Nm.under (.u 2 0 0) n
@[simp]theorem sT{n:Nm}:zP n=(Nm.under (.u 1 0 0) n||Nm.under (.u 2 0 0) n):=rfl
def vF{n:Nm}(h:zP n=B):n.zj=M:=by
 simp only[zP,AX]at h;rcases h with h|h<;>exact y8 rfl h
section
variable{X:Ctx}{st:St}{K:St->Prop}{E:AV->St->Prop}{d f:Nat}{ty:TypeId}{pos:String}{aft:Array Edge}{g:Option (Nat×Bool)}{args:Array Operand}{Ts:Array TypeId}{az:List AV}{R:Nm->AV->(Nm->Option AO)->Prop}
theorem nT(D:Nm->Bool)(hD:∀n,D n=B->n.zj=M)(hext:∀k i j,X.ext (.u k i j)=B->D (.u k i j)=M\/(zU D st.hp) (.u k i j)≠Y)(hd:d<X.n:=by first|(simp;done)|fail)(ha:args.toList.map (ev st)=az:=by simp[fx];first|done|rfl)
  (hF:qX X.P X.gl f D az (zU D st.hp) R qw)(h:∀y H',R (.s d) y H'->K ((st.call d D (zU D st.hp) H').put (Z d) y)):
  qe X ⟨Z d,.call ⟨.value (.func f),args,Ts⟩,ty,pos,aft,g⟩ K E st:=by
 subst ha;refine mY (D:=D) (H:=zU D st.hp) (R:=R) (E0:=qw) hF (oc hF.1 rfl) M ⟨rfl,λj a a' h h'=>?_⟩ (λn hn=>?_) (λn hn=>?_) (λn hn=>?_) hext (λe he=>qQ) (λx H' hR=>?_) (λ_ _ h=>h.elim)
 .rw [h]at h';obtain rfl:=sI h';exact .refl _
 .cases hx:D n with
  |false=>rfl
  |true=>
   have h1:=hD n hx;have h2:=Nm.nO (a:=.s d) rfl hn
   simp_all
 .simp [hn]
 .simp_all
 simp_all
theorem Iw(hd:d<X.n:=by first|(simp;done)|fail)(ha:args.toList.map (ev st)=az:=by simp[fx];first|done|rfl)(hF:qL X.P X.gl f az R)(h:∀y H',R (.s d) y H'->K ((st.call d zl y6 H').put (Z d) y)):
  qe X ⟨Z d,.call ⟨.value (.func f),args,Ts⟩,ty,pos,aft,g⟩ K E st:=by
 subst ha;refine mY (D:=zl) (H:=y6) (R:=R) (E0:=qw) hF (oc hF.1 rfl) M ⟨rfl,λj a a' h h'=>?_⟩ (λ_ _=>rfl) (λn hn=>by cases hn) (λn hn=>absurd rfl hn) (λk i j _=>.inl rfl) (λe he=>qQ) (λx H' hR=>?_) (λ_ _ h=>h.elim)
 .rw [h]at h';obtain rfl:=sI h';exact .refl _
 simp_all
end
def rk(a d:Nat)(m:Nm):Option Nm:=
 if Nm.under (.s a) m then(if m=.s a then Z (.u 2 0 0)else Y)else if Nm.under (.u 2 0 0) m then Y else if Nm.under (.s d) m then Y else if Nm.under (.u 1 0 0) m then(if m=.u 1 0 0 then Z (.u 1 0 0)else Y)else Z m
def St.nK(st:St)(a d:Nat)(R:AO):St:=
 {tm:=λt=>(st.tm t).tr (rk a d),
  hp:=λm=>if m=.u 1 0 0 then Z R else if zP m||Nm.under (.s d) m||Nm.under (.s a) m then Y else(st.hp m).map (AO.tr (rk a d)),
  n:=st.n,gl:=st.gl}
section
variable{st:St}{a d t:Nat}{m:Nm}{R:AO}
@[simp]theorem rk_eq:rk a d m=if Nm.under (.s a) m then(if m=.s a then Z (.u 2 0 0)else Y)else if Nm.under (.u 2 0 0) m then Y else if Nm.under (.s d) m then Y else if Nm.under (.u 1 0 0) m then(if m=.u 1 0 0 then Z (.u 1 0 0)else Y)else Z m:=rfl
@[simp]theorem rdr_tm:(st.nK a d R).tm t=(st.tm t).tr (rk a d):=rfl
@[simp]theorem rdr_gl:(st.nK a d R).gl=st.gl:=rfl
@[simp]theorem OH:(st.nK a d R).hp m=if m=.u 1 0 0 then Z R else if zP m||Nm.under (.s d) m||Nm.under (.s a) m then Y else(st.hp m).map (AO.tr (rk a d)):=rfl
end
theorem ON{a:Nat}(h1:(Hs (.u 1 0 0)).isSome=B)(h2:(Hs (.u 2 0 0)).isSome=B):(λm=>(mv (.s a) (.u 2 0 0) m).bind (cf d zP Hs))=rk a d:=by
 funext x
 by_cases hx:Nm.under (.s a) x=B
 .grind[Nm.qy,Nm.fG,Ij,Hz,mv,cf,zP,rk,Nm.z6]
 .simp only[kr]at hx;by_cases hv:Nm.under (.u 2 0 0) x=B
  .simp_all
  .simp only[kr]at hv;by_cases hd:Nm.under (.s d) x=B
   .simp_all
   .simp only[kr]at hd;by_cases hw:Nm.under (.u 1 0 0) x=B
    .by_cases e:x=.u 1 0 0
     .simp_all
     .have hi:x.z6=M:=by
       cases x<;>simp_all
      simp_all
    simp_all
section
variable{P:Program}{C:Nat->Prop}{w:World}{g0:Gh}{H:Nm->Option AO}{n:Nat}{gl:Nat->Option (List AV)}{st:St}{K:St->Prop}{E:AV->St->Prop}{d f:Nat}{ty:TypeId}{ps:String}{aft:Array Edge}{gd:Option (Nat×Bool)}{a0 a1:Operand}{Ts:Array TypeId}{bs xs:List Int}{pos:Nat}
def JV(P:Program)(gl:Nat->Option (List AV))(f:FuncId):Prop:=∀(H:Nm->Option AO)(bs:List Int)(pos:Nat)(xs:List Int),ab bs->pos<=1000000->(0<O xs/\O xs<=1000)->H (.u 1 0 0)=Z (jT bs pos)->H (.u 2 0 0)=Z (.row 1 (qh xs)) ->
  qX P gl f zP [.pt (.u 1 0 0) 0,.hs (.u 2 0 0) 1 0 (O xs)] H (λ_ z H'=>∃v,z=iv v/\v∈xs/\H' (.u 1 0 0)=Z (jT bs (pos+1))) qw
theorem bj{t0 t1:Nat}(hF:JV P gl f)(a:Nat)(xs:List Int)(hb:ab bs)(hpos:pos<=1000000)(hx:0<O xs/\O xs<=1000:=by first|(simp;done)|fail)(hV:H (.u 2 0 0)=Y)(hd:d<n:=by first|(simp;done)|fail)
  (h0:st.tm t0=.pt (.u 1 0 0) 0)(h1:st.tm t1=.hs (.s a) 1 0 (O xs))(hH:st.hp (.u 1 0 0)=Z (jT bs pos))(hL:st.hp (.s a)=Z (.row 1 (qh xs)))
  (h:∀v,v∈xs->K ((st.nK a d (jT bs (pos+1))).put (Z d) (iv v))):
  qe (jt P C w g0 H n gl) ⟨Z d,.call ⟨.value (.func f),#[.tmp t0,.tmp t1],Ts⟩,ty,ps,aft,gd⟩ K E st:=by
 have e1:(st.move (.s a) (.u 2 0 0)).hp (.u 1 0 0)=Z (jT bs pos):=zo;have e2:(st.move (.s a) (.u 2 0 0)).hp (.u 2 0 0)=Z (.row 1 (qh xs)):=ed;have hc:=ON (a:=a) (d:=d) (Hs:=zU zP (st.move (.s a) (.u 2 0 0)).hp) zo ed;refine kU (.s a) (.u 2 0 0) (.inl rfl) (.inr td) ?_;refine qe.pT (K':=λs=>∃v H1,v∈xs/\H1 (.u 1 0 0)=Z (jT bs (pos+1))/\s=(((st.move (.s a) (.u 2 0 0)).call d zP (zU zP (st.move (.s a) (.u 2 0 0)).hp) H1).put (Z d) (iv v))) ?_ ?_
 .refine nT (az:=[.pt (.u 1 0 0) 0,.hs (.u 2 0 0) 1 0 (O xs)]) zP (λn h=>vF h) (λk i j he=>?_) hd ?_ (hF _ bs pos xs hb hpos hx zo ed) ?_
  .simp_all<;>grind
  .simp_all
  simp_all<;>grind
 .rintro s ⟨v,H1,hv,hH1,rfl⟩;refine⟨((st.nK a d (jT bs (pos+1))).put (Z d) (iv v)).hp,λm ob e=>?_,?_⟩
  .simp only[Hb,OH]at e
   split at e<;>simp_all[AO.ui]
  .have ht:(((st.move (.s a) (.u 2 0 0)).call d zP (zU zP (st.move (.s a) (.u 2 0 0)).hp) H1).put (Z d) (iv v)).tm=((st.nK a d (jT bs (pos+1))).put (Z d) (iv v)).tm:=by
    simp_all[St.put,AV.ui]
   rw[ht];exact h v hv
end
def rn(d:Nat)(m:Nm):Option Nm:=if Nm.under (.s d) m then Y else if Nm.under (.u 1 0 0) m then(if m=.u 1 0 0 then Z (.u 1 0 0)else Y)else Z m
def St.nJ(st:St)(d:Nat)(R:AO)(Hn:Nm->Option AO):St:=
 {tm:=λt=>(st.tm t).tr (rn d),
  hp:=λm=>if m=.u 1 0 0 then Z R else if Nm.under (.u 1 0 0) m then Y else if Nm.under (.s d) m then Hn m else(st.hp m).map (AO.tr (rn d)),
  n:=st.n,gl:=st.gl}
section
variable{st:St}{d t:Nat}{m:Nm}{R:AO}{Hn:Nm->Option AO}
@[simp]theorem rn_eq:rn d m=if Nm.under (.s d) m then Y else if Nm.under (.u 1 0 0) m then(if m=.u 1 0 0 then Z (.u 1 0 0)else Y)else Z m:=rfl
@[simp]theorem rdn_tm:(st.nJ d R Hn).tm t=(st.tm t).tr (rn d):=rfl
@[simp]theorem rdn_gl:(st.nJ d R Hn).gl=st.gl:=rfl
@[simp]theorem θ:(st.nJ d R Hn).hp m=if m=.u 1 0 0 then Z R else if Nm.under (.u 1 0 0) m then Y else if Nm.under (.s d) m then Hn m else(st.hp m).map (AO.tr (rn d)):=rfl
end
theorem qAC(h1:(Hs (.u 1 0 0)).isSome=B):cf d (Nm.under (.u 1 0 0)) Hs=rn d:=by
 funext x
 by_cases hd:Nm.under (.s d) x=B
 .simp [hd]
 .simp only[kr]at hd;by_cases hw:Nm.under (.u 1 0 0) x=B
  .by_cases e:x=.u 1 0 0
   .simp_all
   .have hi:x.z6=M:=by
     cases x<;>simp_all
    simp_all
  simp_all
section
variable{X:Ctx}{st:St}{K:St->Prop}{E:AV->St->Prop}{d f:Nat}{ty:TypeId}{ps:String}{aft:Array Edge}{gd:Option (Nat×Bool)}{args:Array Operand}{Ts:Array TypeId}{az:List AV}{R:Nm->AV->(Nm->Option AO)->Prop}{bs:List Int}
theorem pU(hd:d<X.n:=by first|(simp;done)|fail)(hs:(st.hp (.u 1 0 0)).isSome=B)(ha:args.toList.map (ev st)=az)(hF:qX X.P X.gl f (Nm.under (.u 1 0 0)) az (uL (.u 1 0 0) st.hp) R qw)
  (h:∀z H',R (.s d) z H'->∃pos',H' (.u 1 0 0)=Z (jT bs pos')/\K ((st.nJ d (jT bs pos') H').put (Z d) z)):
  qe X ⟨Z d,.call ⟨.value (.func f),args,Ts⟩,ty,ps,aft,gd⟩ K E st:=by
 have hc:=qAC (d:=d) (Hs:=uL (.u 1 0 0) st.hp) qQ;refine qe.pT (K':=λs=>∃z H',R (.s d) z H'/\s=((st.call d (Nm.under (.u 1 0 0)) (uL (.u 1 0 0) st.hp) H').put (Z d) z)) ?_ ?_
 .refine uT (.u 1 0 0) rfl (λ_=>qx) hd ha hF λz H' hR=>⟨z,H',hR,rfl⟩
 .rintro s ⟨z,H',hR,rfl⟩;obtain⟨pos',hH,hK⟩:=h z H' hR;refine⟨((st.nJ d (jT bs pos') H').put (Z d) z).hp,λm ob e=>?_,?_⟩
  .simp only[Hb,θ]at e
   grind[St.call,St.nm,Nm.under,St.put]
  .have ht:((st.call d (Nm.under (.u 1 0 0)) (uL (.u 1 0 0) st.hp) H').put (Z d) z).tm=((st.nJ d (jT bs pos') H').put (Z d) z).tm:=by
    simp_all[St.put]
   rw[ht];exact hK
def pi{α:Type}(bs:List Int)(V:α->AV)(Q:α->Nat->Prop):Nm->AV->(Nm->Option AO)->Prop:=λ_ z H'=>∃v pos',z=V v/\Q v pos'/\H' (.u 1 0 0)=Z (jT bs pos')
theorem uU{α:Type}{V:α->AV}{Q:α->Nat->Prop}(hd:d<X.n:=by first|(simp;done)|fail)(hs:(st.hp (.u 1 0 0)).isSome=B)(ha:args.toList.map (ev st)=az)(hF:qX X.P X.gl f (Nm.under (.u 1 0 0)) az (uL (.u 1 0 0) st.hp) (pi bs V Q) qw)
  (h:∀v pos',Q v pos'->K ((st.nJ d (jT bs pos') (λ_=>Y)).put (Z d) (V v))):
  qe X ⟨Z d,.call ⟨.value (.func f),args,Ts⟩,ty,ps,aft,gd⟩ K E st:=by
 refine qe.pT (K':=λs=>∃v pos' H',Q v pos'/\s=((st.nJ d (jT bs pos') H').put (Z d) (V v))) ?_ ?_
 .refine pU (bs:=bs) hd hs ha hF ?_
  grind[pi]
 .rintro s ⟨v,pos',H',hQ,rfl⟩;refine⟨((st.nJ d (jT bs pos') (λ_=>Y)).put (Z d) (V v)).hp,λm ob e=>?_,h v pos' hQ⟩
  simp_all<;>grind
end
def cZ(L:List qT):List qT:=L.filter λs=>!((s.kind==9)||(s.kind==10))
def eZ(k:qY):qY:={k with body:=cZ k.body}
def dQ(p:qC):qC:=p.map eZ
def Jd:O (cZ L)<=O L:=List.length_filter_le _ _
theorem RR{s:qT}(h:L[i]?=Z s):cZ (L.take (i+1))=if((s.kind==9)||(s.kind==10))=B then cZ (L.take i)else cZ (L.take i)++[s]:=by
 grind[vd,cZ]
theorem RT(h:p[i]?=Z k):setBody (bY eZ p i) i (cZ k.body)=bY eZ p (i+1):=by
 rw[<- WM (f:=eZ) h];have hg:=Mj (f:=eZ) h;apply yp
 grind[eZ,setBody]
def al(N V m:Nm):Option Nm:=if m=N then Z V else if Nm.under V m then Y else Z m
def St.alias(st:St)(N V:Nm)(t:Nat):St:={tm:=λt'=>if t'=t then(st.tm t).tr (al N V)else(st.tm t').tr (kl V),hp:=jN V st.hp,n:=st.n,gl:=st.gl}
section
variable{st:St}{N V m:Nm}{t t':Nat}
@[simp]theorem al_eq:al N V m=if m=N then Z V else if Nm.under V m then Y else Z m:=rfl
@[simp]theorem alias_tm:(st.alias N V t).tm t'=if t'=t then(st.tm t).tr (al N V)else(st.tm t').tr (kl V):=rfl
@[simp]theorem alias_gl:(st.alias N V t).gl=st.gl:=rfl
@[simp]theorem alias_hp:(st.alias N V t).hp m=if Nm.under V m then Y else(st.hp m).map (AO.tr (kl V)):=rfl
end
theorem Rw.alias{X:Ctx}{st:St}{a:Go.Act}{w:World}(h:Rw X st a w)(N V:Nm)(t:Nat)(hV:X.ext V=M):Rw X (st.alias N V t) a w:=by
 obtain⟨C,g,h1,h2,h3,h4,h5,hg⟩:=h
 let g':Gh:={C:=g.C,φ:=λm=>if m=V then g.φ N else g.φ m,κ:=λm=>if m=V then g.κ N else g.κ m}
 have hs:=hg.step (g':=g') (w':=w) (f:=kl V) (hp':=jN V st.hp) rfl (λn n' e=>by
  simp_all<;>grind[Nm.uQ]) rfl rfl rfl (qb _) (λ_ _=>rfl) (λ_ _ _=>rfl) (λm o e=>by
  obtain⟨o',e1,e2,e3⟩:=D4 e
  grind)
 refine⟨C,g',h1,h2,h3,h4,λk i j he=>?_,⟨hs.inv,hs.defers,hs.size,λt'=>?_,hs.zM⟩⟩
 .have:¬Nm.u k i j=V:=λe=>qQ;simp only[g',this,if_false];exact h5 k i j he
 .by_cases e:t'=t
  .subst e;simp only[St.alias,if_true];refine(hg.dG t').tr (g':=g') (λ_ h=>h) (λ_ _=>rfl) (λn n' e=>?_)
   grind[al,Nm.uQ]
  .simp only[St.alias,e,if_false];exact hs.dG t'
section
variable{X:Ctx}{st:St}{K:St->Prop}{E:AV->St->Prop}{o:Oper}
def xg(N V:Nm)(t:Nat)(hV:X.ext V=M)(h:qe X o K E (st.alias N V t)):qe X o K E st:=
 λa w Q hR hE=>h a w Q (hR.alias N V t hV) hE
end
section
variable{n:Nm}{p:qC}{a d i j k:Nat}
@[simp]theorem pRows_rk(h1:Nm.under (.s a) n=M)(h2:Nm.under (.s d) n=M)(h3:Nm.under (.u 2 0 0) n=M)(h4:Nm.under (.u 1 0 0) n=M):(yt n p).map (λr=>r.map (AV.tr (rk a d)))=yt n p:=wV qQ
@[simp]theorem pRows_rn(h2:Nm.under (.s d) n=M)(h4:Nm.under (.u 1 0 0) n=M):(yt n p).map (λr=>r.map (AV.tr (rn d)))=yt n p:=wV qQ
@[simp]theorem pRows_klu(h:Nm.under (.u i j k) n=M):(yt n p).map (λr=>r.map (AV.tr (kl (.u i j k))))=yt n p:=wV iE
end
structure GenP(p:qC):Prop where
 jK:ze p
 len:1<=O p/\O p<=8
 params:∀k∈p,O k.params<=2
 body:∀k∈p,O k.body<=14
theorem GenP.bc(h:GenP p):jm p:=⟨by grind[len],λk hk=>by have:=h.params k hk;omega,λk hk=>by have:=h.body k hk;omega⟩
theorem GenP.one(h:k.parent=-1)(hp:O k.params<=2)(hb:O k.body<=14):GenP [k]:=by
 refine⟨λi q hq=>?_,qB,λq hq=>?_,λq hq=>?_⟩<;>grind
theorem GenP.add(h:GenP p)(hl:O p<=7)(hp:0<=k.parent/\k.parent<O p)(h1:O k.params<=2)(h2:O k.body<=14):GenP (p++[k]):=by
 refine⟨λi q hq=>?_,qp,λq hq=>?_,λq hq=>?_⟩
 .rw [iw]at hq
  split at hq
  .exact h.jK i q hq
  grind
 .rcases yI.1 hq with hq|hq
  .exact h.params q hq
  simp_all
 .rcases yI.1 hq with hq|hq
  .exact h.body q hq
  simp_all
theorem Bs{q:qY}(h:q∈setBody p i L):∃r∈p,q.params=r.params/\(q.body=r.body\/q.body=L):=by
 grind[ko,setBody]
theorem qBQ(h:ze p):ze (setBody p i L):=by
 grind[ze,setBody]
theorem GenP.setBody{p:qC}{i:Nat}{L:List qT}(h:GenP p)(hL:O L<=14):GenP (setBody p i L):=by
 refine⟨qBQ h.jK,by simpa using h.len,λq hq=>?_,λq hq=>?_⟩
 .obtain⟨r,hr,h1,_⟩:=Bs hq;rw[h1];exact h.params r hr
 .obtain⟨r,hr,_,h2⟩:=Bs hq;rcases h2 with h2|h2
  .rw [h2];exact h.body r hr
  simp_all
theorem GenP.bare(h:GenP p):GenP (dQ p):=by
 refine⟨λi q hq=>?_,by grind[dQ,len],λq hq=>?_,λq hq=>?_⟩
 .simp only[dQ,j3]at hq;obtain⟨r,hr,rfl⟩:=zq.1 hq;exact h.jK i r hr
 .obtain⟨r,hr,rfl⟩:=wi.1 hq;exact h.params r hr
 .obtain⟨r,hr,rfl⟩:=wi.1 hq;exact uV Jd (h.body r hr)
def JX(bs:List Int)(Q:qC->Nat->Prop):Nm->AV->(Nm->Option AO)->Prop:=λr z H'=>∃(p:qC)(pos':Nat),z=.agg [.hs r 4 0 (O p)]/\uz H' r p/\Q p pos'/\H' (.u 1 0 0)=Z (jT bs pos')
end Go.Hm
end
section

end
section

end
section
namespace Go.Hm
open Go Go.RowKit
variable{b c:Nat}{k:qY}{p:qC}{z:Int}
structure JQ(k:qY)(y:Int):Prop where
 rd:y∉aw k.body
 bd:y∉oK k
 d9:y∉o9 k 9
 d10:y∉o9 k 10
section
variable{k:qY}{x y z:Int}(hx:0<=x/\x<=7)(hy:0<=y/\y<=7)(Lm:x≠y)(hf:JQ k y)
include hx hy Lm hf
end
structure Q9(p:qC)(b:Nat)(x y:Int):Prop where
 sh:zw p
 made:∀i,0<i->i<O p->bX p i=1
 decl:∀(c:Nat)k,0<c->p[c]?=Z k->∀n:Nat,n<8->aM p c k n=B
 hb:0<b
 qv:b<O p
 hx:0<=x/\x<=7
 hy:0<=y/\y<=7
 Lm:x≠y
 fn:∀k,p[b]?=Z k->k.kind=1
 loc:∀k,p[b]?=Z k->uW b k x=B
 free:∀(c:Nat)k,p[c]?=Z k->j8 p c b=B->JQ k y
theorem progOk_parts(hs:jm p)(h:j2 p=B):zw p/\(∀i,0<i->i<O p->bX p i=1)/\(∀(c:Nat)k,0<c->p[c]?=Z k->∀n:Nat,n<8->aM p c k n=B):=by
 simp only[j2,yF]at h;refine⟨zw.of hs h.1,(Bx h.1).2.2.2.2,λc k h0 hk n hn=>?_⟩
 simp_all<;>grind[am]
theorem iM{c b:Int}(h:j8 p c b=B):b<=c:=by
 grind[cF]
theorem Ug(hh:ze p)(hb:0<b):∀(n:Nat),n<O p->yU p z (O p) n=b->j8 p n b=B:=by
 intro n
 induction n using Nat.strongRecOn with
 |ind n ih=>
  intro hn ho;rcases fN n with e|e
  .grind[B6]
  .obtain⟨q,hq⟩:=gX hn;rw[mx hh hq e]at ho;obtain⟨g1,g2,g3⟩:=hh n q hq
   have key:yU p z (O p) q.parent=b->j8 p n b=B:=by
    intro h;have g4:=g3 e;obtain⟨m,hm⟩:∃m:Nat,q.parent=m:=⟨q.parent.toNat,qA⟩
    grind[eh,cF]
   grind[cF]
theorem Lt(hh:ze p)(hb:0<b)(hk:p[c]?=Z k)(h0:0<c)(h:outer p c z=b):j8 p c b=B:=by
 rw[mz hh hk]at h;obtain⟨g1,g2,g3⟩:=hh c k hk;have g4:=g3 h0;have hc:=(gS hk).1;obtain⟨m,hm⟩:∃m:Nat,k.parent=m:=⟨k.parent.toNat,qA⟩;have h2:=Ug hh hb m qA (by rw[<- hm];exact h);have h3:=iM h2
 grind[eh]
theorem Gd(hh:ze p)(hb:0<b)(hk:p[c]?=Z k)(h:zN p c z=b):j8 p c b=B:=by
 grind[zN,cF,Lt]
section
variable{p:qC}{b:Nat}{x y:Int}(H:Q9 p b x y)
include H
omit H in
end
end Go.Hm
end
section

end
section
namespace Go.Hm
open Go Go.RowKit Go.ChangeShapes Go.WideShapes Go.Deep
variable{t:TypeId}
variable{H:Type}{enc:TypeId×Value->H}{P:Program}{w:World}
theorem δ(ht:P.underlying t=Z (.int .u8)):Eu enc P w t (λk:Int=>[FK k]) (λk=>0<=k/\k<=255):=by
 intro n cs y h _;obtain⟨k,rfl,_,hw⟩:=DataW.trod_int ht h;refine⟨k,by grind[Lit.wf,IntKind.min,IntKind.max,IntKind.signed,IntKind.bits],rfl,λj v a hv ha=>?_⟩
 cases j with
 |zero=>
  simp at hv ha;subst hv;subst ha;exact⟨.sc _,rfl⟩
 |succ j=>simp at hv
def ε{e:TypeId}(ht:P.underlying t=Z (.slice e))(he:P.underlying e=Z (.int .u8))(hc:P.cellsOf e=1)(hby:0<P.bytesOf e)
  {r:Reach}{b0:Nat}{v:Value}{d:DataW H}{p:List MemPlace}(hv:Value.okWide P w r b0 t v)(h:DataW.Trod enc P w 0 (λ_=>B) B t v d p)(hw:∀m∈d.weights P t,m<=reachBytes):
  ∃bs:List Int,(O bs<=1152921504606846976/\∀x∈bs,0<=x/\x<=255)/\RV (g0 w) w v (sq bs):=by
 obtain⟨a,len,cap,rfl⟩:=okWide_slice ht hv;obtain⟨fuel,hf⟩:=h;obtain⟨x,hx,hl,hr⟩:=ζ (enc:=enc) (w:=w) ht hc qA hby (λ_=>rfl) (δ he) _ _ _ hf hw;exact⟨x,hx,(hr 0 _ _ rfl rfl).1⟩
end Go.Hm
end
section
namespace Go.Hm
open Go Go.RowKit
variable{b c n:Nat}{f:Nat->Bool}{k:qY}{l:List Int}{p:qC}{x:Int}
def jl(f:Nat->Bool):Nat->List Int
 |0=>[]
 |n+1=>if f n=B then jl f n++[(n:Int)]else jl f n
theorem BX{f:Nat->Bool}{x:Int}:∀{n:Nat},x∈jl f n↔∃m:Nat,m<n/\f m=B/\x=m
 |0=>by simp[jl]
 |n+1=>by
  simp only[jl]
  split
  .rename_i h;rw[yI,BX (n:=n),vG]
   grind
  .rename_i h;rw[BX (n:=n)]
   grind
theorem xb{x:Nat}:(x:Int)∈jl f n↔x<n/\f x=B:=by
 grind[BX]
theorem H5{f:Nat->Bool}:∀n:Nat,O (jl f n)<=n
 |0=>by simp[jl]
 |n+1=>by
  have:=H5 (f:=f) n
  grind[jl]
theorem H0{f g:Nat->Bool}:∀{n:Nat},(∀x,x<n->f x=g x)->jl f n=jl g n
 |0,_=>rfl
 |n+1,h=>by
  simp only[jl];rw[h n qA,H0 (n:=n) λx hx=>h x qA]
theorem IW{l:List Int}:∀n:Nat,kN l n=jl (λx=>decide ((x:Int)∈l)) n
 |0=>rfl
 |n+1=>by
  simp only[kN,jl,IW n,decide_eq_true_eq]
theorem qBl:sorted (jl f 8)=jl f 8:=by
 grind[sorted,IW,H0,xb]
theorem IX{l':List Int}(h:∀x:Nat,x<8->((x:Int)∈l↔(x:Int)∈l')):sorted l=sorted l':=by
 grind[sorted,IW,H0]
def cw(g:Nat->List Int):Nat->List Int
 |0=>[]
 |n+1=>cw g n++g n
theorem fp{g:Nat->List Int}{x:Int}:∀{n:Nat},x∈cw g n↔∃m:Nat,m<n/\x∈g m
 |0=>by simp[cw]
 |n+1=>by
  simp only[cw,yI,fp (n:=n)]
  grind
theorem Gj{g:Nat->List Int}(h:∀i,O (g i)<=8):∀n:Nat,O (cw g n)<=8*n
 |0=>by simp[cw]
 |n+1=>by
  have:=Gj h n
  grind[cw]
theorem HS{p:qC}{x:Int}:∀(n:Nat)(j:Int),yU p x n j=-1\/0<yU p x n j
 |0,_=>.inl rfl
 |n+1,j=>by
  simp only[yU]
  split
  .simp
  .rename_i hj
   split
   .simp
   .split
    .exact HS n _
    .split
     .simp
     .split
      .omega
      .exact HS n _
theorem nA:zN p c x=-1\/0<zN p c x:=by
 grind[zN,outer,HS]
def wR(p:qC)(b c:Nat)(x:Int):Bool:=decide (0<zN p c x)&&decide (zN p c x<b)
def ct(p:qC)(b c:Nat):List Int:=match p[c]? with
 |some k=>if j8 p c b=B then k.us.filter (wR p b c)else[]
 |none=>[]
def wt(p:qC)(b:Nat):Nat->List Int:=cw λi=>ct p b (b+i)
def za(p:qC)(b:Nat):List Int:=sorted (wt p b (O p-b))
def bQ(p:qC)(b c:Nat)(x:Int):Bool:=zN p c x==b
def fX(p:qC)(b c:Nat):List Int:=match p[c]? with
 |some k=>k.us.filter (bQ p b c)
 |none=>[]
def aj(p:qC)(b:Nat):Nat->List Int:=cw λi=>fX p b (b+1+i)
def jk(p:qC)(b:Nat):Int:=match p[b]? with|some k=>k.kind|none=>-1
def qa(p:qC)(b:Nat):List Int:=if jk p b=1 then sorted (aj p b (O p-(b+1)))else[]
def kz(p:qC)(b:Nat)(x:Nat):Bool:=match p[b]? with
 |some k=>uW b k x&&!decide ((x:Int)∈qa p b)
 |none=>M
def zB(p:qC)(b:Nat):List Int:=if jk p b=1 then jl (kz p b) 8 else[]
def jc(p:qC)(b:Nat)(x:Int):Int:=
 if zN p b x<0 then 0 else if zN p b x≠b then 1 else if jk p b=2 then 2 else if x∈qa p b then 3 else 4
def cn(p:qC)(b:Nat)(x:Int):Int:=if x∈qa p b then yz (qa p b) x else O (qa p b)+yz (za p b) x
def yM(p:qC)(b:Nat)(x w:Int):Int×Int:=
 if jc p b x=0 then(8+w,x)else if jc p b x=2 then(11+w,x)else if jc p b x=4 then(2+w,yz (zB p b) x)else(5+w,cn p b x)
def LL{f:Int->Bool}(h:O l<=8):O (l.filter f)<=8:=uV (List.length_filter_le _ _) h
theorem Th:O (ct p b c)<=8:=by
 grind[ct,qY.E9]
theorem SG:O (fX p b c)<=8:=by
 grind[fX,qY.E9]
def L6:O (wt p b n)<=8*n:=Gj (λ_=>Th) n
def SM:O (aj p b n)<=8*n:=Gj (λ_=>SG) n
def iL:O (za p b)<=8:=xw
theorem da:O (qa p b)<=8:=by
 grind[qa,xw]
theorem rf:O (zB p b)<=8:=by
 grind[zB,H5]
def Tm:wt p b (n+1)=wt p b n++ct p b (b+n):=rfl
def SO:aj p b (n+1)=aj p b n++fX p b (b+1+n):=rfl
theorem EB{xs:List Int}:-1<=yz xs x/\yz xs x<=O xs:=by
 grind[yz,List.findIdx?_eq_some_iff_findIdx_eq]
theorem qC7(hk:p[b]?=Z k)(hk0:b=0↔k.kind=0)(hk2:k.kind=0\/k.kind=1\/k.kind=2)(h:jc p b x=3\/jc p b x=4):k.kind=1:=by
 grind[jk,jc,nA]
def ff(p:qC)(b c:Nat)(x:Nat):Bool:=match p[c]? with
 |some k=>j8 p c b&&decide ((x:Int)∈k.us)&&(zN p c x != -1)&&!j8 p (zN p c x) b
 |none=>M
def ro(p:qC)(b:Nat):Nat->List Int:=cw λc=>jl (ff p b c) 8
def fY(p:qC)(b c:Nat)(x:Nat):Bool:=match p[c]? with
 |some k=>(c != b)&&decide ((x:Int)∈k.us)&&(zN p c x==b)
 |none=>M
def r7(p:qC)(b:Nat):Nat->List Int:=cw λc=>jl (fY p b c) 8
theorem Uf(hh:ze p){o:Nat}:∀c:Nat,c<O p->j8 p c b=B->j8 p c o=B->b<=o->j8 p o b=B:=by
 intro c
 induction c using Nat.strongRecOn with
 |ind c ih=>
  intro hc h1 h2 hbo;have g2:=iM h2;by_cases e:o=c
  .simp_all
  .obtain⟨q,hq⟩:=gX hc;obtain⟨a1,a2,a3⟩:=hh c q hq;have a4:=a3 qA;obtain⟨m,hm⟩:∃m:Nat,q.parent=m:=⟨q.parent.toNat,qA⟩
   grind[eh]
theorem Lu(hh:ze p)(hk:p[c]?=Z k)(hi:j8 p c b=B)(ho:zN p c x ≠ -1):j8 p (zN p c x) b=!decide (zN p c x<b):=by
 rcases nA (p:=p) (c:=c) (x:=x)with h|h
 .omega
 .obtain⟨o,e⟩:∃o:Nat,zN p c x=o:=⟨(zN p c x).toNat,qA⟩
  grind[Gd,cF,Uf]
theorem Tn(hh:ze p)(hb:b<O p):sorted (ro p b (O p))=za p b:=by
 unfold za;apply IX;intro x hx;unfold ro wt;rw[fp,fp];constructor
 .rintro⟨c,hc,hm⟩;obtain⟨k,hk⟩:=gX hc;rw[xb]at hm;obtain⟨_,hm⟩:=hm;simp only[ff,hk,yF,decide_eq_true_eq,bne_iff_ne,ne_eq,bl]at hm;obtain⟨⟨⟨h1,h2⟩,h3⟩,h4⟩:=hm;have hge:=iM h1;rw[Lu hh hk h1 h3]at h4;refine⟨c-b,qA,?_⟩
  grind[ct,wR,nA]
 .rintro⟨n,hn,hm⟩;have hc:b+n<O p:=qA;obtain⟨k,hk⟩:=gX hc
  grind[ct,wR,xb,ff,Lu]
theorem SP(hh:ze p)(h0:0<b)(hb:b<O p):sorted (r7 p b (O p))=sorted (aj p b (O p-(b+1))):=by
 apply IX;intro x hx;unfold r7 aj;rw[fp,fp];constructor
 .rintro⟨c,hc,hm⟩;obtain⟨k,hk⟩:=gX hc;rw[xb]at hm;obtain⟨_,hm⟩:=hm;simp only[fY,hk,yF,decide_eq_true_eq,bne_iff_ne,ne_eq,beq_iff_eq]at hm;obtain⟨⟨h1,h2⟩,h3⟩:=hm;have hge:=iM (Gd hh h0 hk h3);refine⟨c-(b+1),qA,?_⟩
  grind[fX,bQ]
 .rintro⟨n,hn,hm⟩;have hc:b+1+n<O p:=qA;obtain⟨k,hk⟩:=gX hc
  grind[fX,bQ,xb,fY]
end Go.Hm
end
section
namespace Go.Hm
open Go Go.RowKit Go.ChangeShapes Go.WideShapes Go.Deep
variable{P:Program}
theorem qL.γ{gl:Nat->Option (List AV)}{f:FuncId}{az:List AV}{v0:Value}(h:qL P gl f az (λ_ y _=>y=.sc v0)){W:World}{g:Gh}{args:Array Value}(hC:∀b,g.C b->b<W.heap.size)
  (hgl:∀i row,gl i=Z row->(RV g W (.pointer (Z ⟨i,0,Y⟩)) (.el row 0)/\dI W i row)/\∀f:Nm->Option Nm,row.map (AV.tr f)=row)(hsz:args.size=O az)
  (hargs:∀(j:Nat)v x,args[j]?=Z v->az[j]?=Z x->RV g W v x):Calls P f args W λe W'=>e=.returned v0/\Below W.heap.size W W':=by
 have hinv:Inv (vn g y6) g.C W g y6 W:=⟨rfl,rfl,rfl,qb _,λ_ _ _=>rfl,rfl,hC,λ_ _ e=>vi,λ_ _ _ e=>vi,λ_ _ _ _ _ e=>vi⟩;refine(h.2 (.s 0) g.C W g args (λ_ _=>rfl) rfl (λ_ e=>absurd rfl e) hinv hgl hsz hargs).mono λe w' he=>?_
 cases e with
 |returned v=>
  obtain⟨C',g',H',x,hA,hv,rfl⟩:=he;refine⟨by rw[hv.jF],hA.inv.os,hA.inv.tape,hA.inv.output,hA.inv.size,λb hb=>hA.inv.wx b hb ?_⟩
  grind[vn,y6]
 |panicked ch=>obtain⟨_,_,_,_,_,_,_,_,e⟩:=he;exact e.elim
 |outgrown=>simp_all
theorem η{H:Type}{enc:TypeId×Value->H}{w:World}{base:Nat}{spare:Nat->Bool}{held:Bool}{m n g:Nat}{t e:TypeId}{s:String}{cs:Array Value}{l:List Int}{x:List MemPlace}
  (ht:P.underlying t=Z (.array n e))(he:P.underlying e=Z (.int .i64))(hc:P.cellsOf e=1)(hg:P.globalNamed s=Z g)(hv:w.var? P s=Z cs)
  (h:DataW.trod enc P w base spare held m t cs.toList=Z (.agg (l.map λk=>.lit (.int .i64 k)),x)):∀i k,l[i]?=Z k->w.cell? ⟨g,i,Y⟩=Z (.int .i64 k):=by
 intro i k hk;obtain⟨xs,m1,rfl,hx,hlen,hn,hel⟩:=DataW.trod_array ht h;simp only[s6,DataW.agg.injEq]at hx;have hil:i<O l:=(gS hk).1;have hxl:O l=O xs:=by simpa using congrArg List.length hx.1
 obtain⟨y,hy⟩:∃y,xs[i]?=Z y:=⟨_,gE qA⟩;have h0:=hel i qA;rw[hy,hc]at h0;obtain⟨k',e1,e2,_⟩:=DataW.trod_int he h0;have h3:=congrArg (λz=>z[i]?) hx.1;simp only[j3,hk,hy,kB,AS]at h3;rw[e2]at h3;have hkk:k'=k:=qQ;subst hkk;rw[World.var?_cell hg hv i];have e3:=congrArg (λz=>z[0]?) e1
 grind
end Go.Hm
end
section
namespace Go.Hm
open Go Go.RowKit
variable{b:Nat}{p:qC}{s:qT}
def uF(l:List (Int×Int)):List (List AV):=l.map λo=>[iv o.1,iv o.2]
section
variable{l m:List (Int×Int)}{o:Int×Int}{i:Nat}{f:Nm->Option Nm}
@[simp]theorem orows_len:O (uF l)=O l:=lJ
@[simp]theorem orows_getE{h:i<O (uF l)}:(uF l)[i]=[iv (l[i]' qQ).1,iv (l[i]' qQ).2]:=lJ
@[simp]theorem orows_tr:(uF l).map (λr=>r.map (AV.tr f))=uF l:=lJ
@[simp]theorem orows_take:(uF l).take i=uF (l.take i):=lJ
@[simp]theorem orows_drop:(uF l).drop i=uF (l.drop i):=lJ
@[simp]theorem orows_app:uF l++uF m=uF (l++m):=lJ
@[simp]theorem orows_nil:uF []=[]:=rfl
@[simp]theorem orows_cln:(uF l).all (λr=>r.all AV.jX)=B:=lJ
theorem XK:∀r∈uF l,O r=2:=by
 grind[uF]
abbrev B5(l:List (Int×Int)):AV:=.sl 2 (uF l)
def C7{hp:Nm->Option AO}{n:Nm}{len:Nat}(hn:hp n=Z (.row 2 (uF l)))(hl:len=O l):Bw hp zl (.hs n 2 0 len) (B5 l):=gu hn rW XK
end
def kJ(p:qC)(b:Nat)(s:qT):List (Int×Int):=s.reads.map λx=>yM p b x 0
def vg(s:qT):List (Int×Int):=
 if s.kind=0 then[(1,s.a)]else if s.kind=2 then[(14,0)]else if s.kind=3 then[(15,s.a)]else if s.kind=4 then[(16,s.a)]else if s.kind=5 then[(17,(O s.reads:Int)-1)]
 else if s.kind=6 then[(18,s.b)]else if s.kind=7 then[(19,0)]else if s.kind=8 then[(20,0)]else[]
def vq(p:qC)(b:Nat)(s:qT):List (Int×Int):=if s.kind=11 then[yM p b s.to 2]else if 0<=s.kind/\s.kind<=6 then[yM p b s.to 1]else[]
def kj(p:qC)(b:Nat)(s:qT):List (Int×Int):=(0,0)::(kJ p b s++(vg s++vq p b s))
def uK(p:qC)(b:Nat)(ss:List qT):List (Int×Int):=ss.flatMap (kj p b)
def zS(p:qC)(b:Nat):List (Int×Int):=match p[b]? with|some k=>uK p b k.body|none=>[]
theorem Pr(s:qT):O (vg s)<=1:=by
 grind[vg]
theorem qBS:O (vq p b s)<=1:=by
 grind[vq]
theorem π:O (kJ p b s)<=2:=by
 grind[qT.lf,kJ]
theorem I8:O (kj p b s)<=5:=by
 grind[Pr,qBS,π,kj]
theorem FI:∀ss:List qT,O (uK p b ss)<=5*O ss
 :=by intro x0;induction x0<;>grind[uK,I8]
theorem Jt{ss:List qT}{i:Nat}(h:ss[i]?=Z s):uK p b (ss.take (i+1))=uK p b (ss.take i)++kj p b s:=by
 grind[vd,uK]
def vU(l:List (Int×Int)):Nat:=l.countP λo=>o.1==0
def qDL{l m:List (Int×Int)}:vU (l++m)=vU l+vU m:=by simp[vU]
end Go.Hm
end
