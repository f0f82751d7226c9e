import Derived.Test.YtjgpejikjhojcaaGreatDoorR08
import Derived.Deep.Slices
import Derived.Deep.Fields
import Derived.ChangeSame
import Derived.SizedLaws
import Derived.OpenShut
import Derived.FnData
set_option linter.unusedSimpArgs false
set_option linter.unusedVariables false
set_option maxRecDepth 100000
set_option maxHeartbeats 4000000

section
namespace Go.Hm
open Go Go.RowKit Go.ChangeShapes Go.WideShapes Go.Deep
def g0 (w:World):Gh:={ C:=λb=>b<w.heap.size,φ:=λ_=>none,κ:=λ_=>0 }
def DN {H:Type} (enc:TypeId×Value->H) (P:Program) (w:World) {α:Type} (t:TypeId) (cells:α->List AV) (Ok:α->Prop):Prop :=
 ∀ (n:Nat) (cs:List Value) (y:DataW H×List MemPlace),DataW.trod enc P w 0 (λ_=>true) true n t cs=some y->(∀ m∈y.1.weights P t,m<=reachBytes) ->
  ∃ x:α,Ok x/\(cells x).length=cs.length/\∀ (j:Nat) v a,cs[j]?=some v->(cells x)[j]?=some a->RV (g0 w) w v a/\v.oneCell'=true
theorem Na {H:Type} {P:Program} {e:TypeId} {d:DataW H}:∀ {l:List (DataW H)},d∈l->∀ m∈d.weights P e,m∈DataW.weightsAll P e l
 | x::l,h,m,hm=>by
  simp only [DataW.weightsAll,y9];rcases vQ.1 h with rfl|h
  .simp_all
  .exact .inr (Na h m hm)
theorem Ie {w:World} {a:Addr} {v:Value} (h:w.cell? a=some v):a.block<w.heap.size/\a.spot=none:=by
 unfold World.cell? at h
 split at h
 .rename_i c t fr hb;refine⟨(mE.1 hb).1,?_⟩
  simp_all
 .cases h
theorem Oc {a:Addr} (h:a.spot=none) (n:Nat):a.add n=⟨a.block,a.off+n,none⟩:=by
 obtain⟨b,o,s⟩:=a
 grind[Addr.add]
section
variable {H:Type} {enc:TypeId×Value->H} {P:Program} {w:World}
theorem X1 {t e:TypeId} {z:Nat} {α:Type} [Inhabited α] {cells:α->List AV} {Ok:α->Prop} (ht:P.underlying t=some (.slice e)) (hc:P.cellsOf e=z) (hz:0<z) (hby:0<P.bytesOf e) (hlen:∀ x,(cells x).length=z)
  (hr:DN enc P w e cells Ok):DN enc P w t (λxs:List α=>[.sl z (xs.map cells)]) (λxs=>xs.length<=1152921504606846976/\∀ x∈xs,Ok x):=by
 intro n cs y h hw;rcases open_slice ht h with⟨rfl,rfl⟩|⟨a,len,cap,m,n',D,Pl,rfl,_,hl,_,hm,rfl,hi⟩
 .refine⟨[],⟨qB,qB⟩,rfl,λj v x hv hx=>?_⟩
  cases j with
  | zero =>
   simp at hv hx;subst hv;subst hx;exact⟨.yL _ _ _,rfl⟩
  | succ j=>simp at hv
 .simp only [if_true] at hm;subst hm;have hw0:=hw (((List.map D (List.range len)).length+(List.map (λj=>D (len+j)) (List.range (m - len))).length) * P.bytesOf e) (by simp [DataW.weights,ht])
  have hll:len<=1152921504606846976:=by
   simp only [List.length_map,List.length_range,reachBytes] at hw0;have:len * 1<=(len+(m - len)) * P.bytesOf e:=Nat.mul_le_mul qA hby;omega
  have hel:∀ i,i<len->∃ x:α,Ok x/\∀ j,j<z->∃ v aa,w.cell? ((a.add (i * z)).add j)=some v/\(cells x)[j]?=some aa/\RV (g0 w) w v aa/\v.oneCell'=true:=by
   intro i hil;obtain⟨cs',h1,h2⟩:=hi i qA;rw [hc] at h1;obtain⟨_,hcl,hat⟩:=World.cells?_some h1
   obtain⟨x,hx,hxl,hxr⟩:=hr n' cs' _ h2 (λq hq=>hw q (by
    simp only [DataW.weights,ht,vQ,y9];exact .inr (.inl (Na (bV.2 ⟨i,gT.2 hil,rfl⟩) q hq))))
   refine⟨x,hx,λj hj=>?_⟩;have e1:=hat j hj;have e2:cs'[j]?=some (cs'[j]' qA):=gE qA;have e3:(cells x)[j]?=some ((cells x)[j]' qA):=gE qA
   grind
  obtain⟨X,hX⟩:=choose_lt hel
  have hav:∀ i,i<len->(List.map X (List.range len))[i]?=some (X i):=by
   simp_all
  refine⟨(List.range len).map X,⟨qP,?_⟩,rfl,λj v x hv hx=>?_⟩
  .simp_all
  .cases j with
   | succ j=>simp at hv
   | zero =>
    simp only [fH,te] at hv hx;subst hv;subst hx;refine⟨?_,rfl⟩;rcases tj len with rfl|hpos
    .exact .yL _ _ _
    .obtain⟨v0,_,hc0,_⟩:=(hX 0 hpos).2 0 hz;obtain⟨hb,hsp⟩:=Ie hc0;rw [Nat.zero_mul] at hb hsp;have ha0:(a.add 0).add 0=a:=by simp [Addr.add]
     rw [ha0] at hb hsp;obtain⟨b,off,s⟩:=a;obtain rfl:s=none:=hsp
     have hcell:∀ i j,(((⟨b,off,none⟩:Addr).add (i * z)).add j)=⟨b,off+i * z+j,none⟩:=by
      grind[Oc]
     refine .dA b off m len z _ (λi j=>(w.cell? ⟨b,off+i * z+j,none⟩).getD undef) hb qB hl ?_ ?_ ?_ ?_<;>grind
end
end Go.Hm
end
section
namespace Go.Hm
open Go Go.RowKit
def lN (p:qC) (b:Int):Nat->Int->Bool
 | 0,j=>decide (j=b)
 | n+1,j=>if b<j then (match p[j.toNat]? with|some q=>lN p b n q.parent|none=>false) else decide (j=b)
def jX (p:qC) (c b:Int):Bool:=lN p b p.length c
theorem Jo {p:qC} {b:Int} (hh:zj p) (hb:0<=b):∀ (n m:Nat) (j:Int),j<=n->j<=m->lN p b n j=lN p b m j
 | 0,0,_,_,_=>rfl
 | 0,m+1,j,h,_=>by
  grind[lN]
 | n+1,0,j,_,h=>by
  grind[lN]
 | n+1,m+1,j,h1,h2=>by
  simp only [lN]
  split
  .cases hq:p[j.toNat]? with
   | none=>rfl
   | some q =>
    have:=(hh _ q hq).2.1;exact Jo hh hb n m _ qA qA
  .rfl
theorem bA {p:qC} {c b:Int} (h:c<=b):jX p c b=decide (c=b):=by
 unfold jX;generalize p.length=n
 cases n<;>grind[lN]
theorem dV {p:qC} {c:Nat} {b:Int} {q:qX} (hh:zj p) (hb:0<=b) (hq:p[c]?=some q) (h:b<c):jX p c b=jX p q.parent b:=by
 have hl:c<p.length:=(gS hq).1;have hp:=(hh c q hq).2.1;unfold jX;obtain⟨n,hn⟩:∃ n,p.length=n+1:=⟨p.length - 1,qA⟩
 grind[Jo,lN]
def qX.us (k:qX):List Int:=sorted (k.rd++k.bd++k.dc 9++k.dc 10)
theorem qX.Cr (k:qX):k.us.length<=8:=tI
def qAl (p:qC) (b x:Int) (c:Nat):Bool:=match p[c]? with|some k=>decide (x∈k.us)&&decide (zI p c x=b)|none=>false
def Gg (p:qC) (b x:Int):Nat->List Int
 | 0=>[]
 | n+1=>if qAl p b x n=true then Gg p b x n++[(n:Int)] else Gg p b x n
def touched (p:qC) (b x:Int):List Int:=Gg p b x p.length
end Go.Hm
end
section

end
section

end
section

end
section

end
section
namespace Go.Hm
open Go Go.RowKit
def QN (L:List q8) (i:Nat):List q8:=L.take i++L.drop (i+1)
def In (p:qC) (b i:Nat):qC:=match p[b]? with|some k=>bG p b (QN k.body i)|none=>p
def Ry (p:qC) (b i:Nat):Bool:=match p[b]? with
 | some k=>match k.body[i]? with
  | some s=>((s.kind==9)||(s.kind==10))&&(jq (In p b i)&&decide (LW p=LW (In p b i)))
  | none=>false
 | none=>false
def z6 (D:Nm->Bool) (hp:Nm->Option AO):Nm->Option AO:=λm=>if D m then hp m else none
@[simp] theorem xf {D:Nm->Bool} {hp:Nm->Option AO} {m:Nm}:z6 D hp m=if D m then hp m else none:=rfl
def zd:Nm->Bool:=λn=>Nm.under (.u 1 0 0) n||Nm.under (.u 2 0 0) n
@[simp] theorem py {n:Nm}:zd n=(Nm.under (.u 1 0 0) n||Nm.under (.u 2 0 0) n):=rfl
theorem vK {n:Nm} (h:zd n=true):n.zg=false:=by
 simp only [zd,tk] at h;rcases h with h|h <;> exact vN rfl h
section
variable {X:Ctx} {st:St} {K:St->Prop} {E:AV->St->Prop} {d f:Nat} {ty:TypeId} {pos:String} {aft:Array Edge} {g:Option (Nat×Bool)} {args:Array Operand} {Ts:Array TypeId} {az:List AV} {R:Nm->AV->(Nm->Option AO)->Prop}
theorem po (D:Nm->Bool) (hD:∀ n,D n=true->n.zg=false) (hext:∀ k i j,X.ext (.u k i j)=true->D (.u k i j)=false\/(z6 D st.hp) (.u k i j)≠none) (hd:d<X.n:=by first|(simp;done)|fail) (ha:args.toList.map (ev st)=az:=by simp [fx];first|done|rfl)
  (hF:qZ X.P X.gl f D az (z6 D st.hp) R zG) (h:∀ y H',R (.s d) y H'->K ((st.call d D (z6 D st.hp) H').put (some d) y)) :
  qn X ⟨some d,.call ⟨.value (.func f),args,Ts⟩,ty,pos,aft,g⟩ K E st:=by
 subst ha;refine lH (D:=D) (H:=z6 D st.hp) (R:=R) (E0:=zG) hF (mr hF.1 rfl) false ⟨rfl,λj a a' h h'=>?_⟩ (λn hn=>?_) (λn hn=>?_) (λn hn=>?_) hext (λe he=>qP) (λx H' hR=>?_) (λ_ _ h=>h.elim)
 .rw [h] at h';obtain rfl:=sI h';exact .refl _
 .cases hx:D n with
  | false=>rfl
  | true =>
   have h1:=hD n hx;have h2:=Nm.lj (a:=.s d) rfl hn
   simp_all
 .simp [hn]
 .simp_all
 simp_all
theorem qBa (hd:d<X.n:=by first|(simp;done)|fail) (ha:args.toList.map (ev st)=az:=by simp [fx];first|done|rfl) (hF:qM X.P X.gl f az R) (h:∀ y H',R (.s d) y H'->K ((st.call d zn yP H').put (some d) y)) :
  qn X ⟨some d,.call ⟨.value (.func f),args,Ts⟩,ty,pos,aft,g⟩ K E st:=by
 subst ha;refine lH (D:=zn) (H:=yP) (R:=R) (E0:=zG) hF (mr hF.1 rfl) false ⟨rfl,λj a a' h h'=>?_⟩ (λ_ _=>rfl) (λn hn=>by cases hn) (λn hn=>absurd rfl hn) (λk i j _=>.inl rfl) (λe he=>qP) (λx H' hR=>?_) (λ_ _ h=>h.elim)
 .rw [h] at h';obtain rfl:=sI h';exact .refl _
 simp_all
end
end Go.Hm
end
section

end
section

end
section

end
section

end
section
namespace Go.Hm
open Go Go.RowKit
theorem Mc {p:qC} {i:Nat} {L:List q8} {q:qX} (h:q∈bG p i L):∃ r∈p,q.params=r.params/\(q.body=r.body\/q.body=L):=by
 grind[wj,bG]
end Go.Hm
end
section

end
section
namespace Go.Hm
open Go Go.RowKit
structure HP (k:qX) (y:Int):Prop where
 rd:y∉aJ k.body
 bd:y∉mP k
 d9:y∉mo k 9
 d10:y∉mo k 10
section
variable {k:qX} {x y z:Int} (hx:0<=x/\x<=7) (hy:0<=y/\y<=7) (Jj:x≠y) (hf:HP k y)
include hx hy Jj hf
end
structure OU (p:qC) (b:Nat) (x y:Int):Prop where
 sh:zr p
 made:∀ i,0<i->i<p.length->aW p i=1
 decl:∀ (c:Nat) k,0<c->p[c]?=some k->∀ n:Nat,n<8->w4 p c k n=true
 hb:0<b
 qy:b<p.length
 hx:0<=x/\x<=7
 hy:0<=y/\y<=7
 Jj:x≠y
 fn:∀ k,p[b]?=some k->k.kind=1
 loc:∀ k,p[b]?=some k->uA b k x=true
 free:∀ (c:Nat) k,p[c]?=some k->jX p c b=true->HP k y
theorem progOk_parts {p:qC} (hs:jt p) (h:jq p=true):zr p/\(∀ i,0<i->i<p.length->aW p i=1)/\(∀ (c:Nat) k,0<c->p[c]?=some k->∀ n:Nat,n<8->w4 p c k n=true):=by
 simp only [jq,ju] at h;refine⟨zr.of hs h.1,(Aa h.1).2.2.2.2,λc k h0 hk n hn=>?_⟩
 simp_all<;>grind[aB]
theorem fh {p:qC} {c b:Int} (h:jX p c b=true):b<=c:=by
 grind[bA]
theorem SQ {p:qC} {b:Nat} {z:Int} (hh:zj p) (hb:0<b):∀ (n:Nat),n<p.length->yK p z p.length n=b->jX p n b=true:=by
 intro n
 induction n using Nat.strongRecOn with
 | ind n ih =>
  intro hn ho;rcases tj n with e|e
  .grind[AM]
  .obtain⟨q,hq⟩:=gX hn;rw [lY hh hq e] at ho;obtain⟨g1,g2,g3⟩:=hh n q hq
   have key:yK p z p.length q.parent=b->jX p n b=true:=by
    intro h;have g4:=g3 e;obtain⟨m,hm⟩:∃ m:Nat,q.parent=m:=⟨q.parent.toNat,qA⟩
    grind[dV,bA]
   grind[bA]
theorem Jp {p:qC} {b c:Nat} {k:qX} {z:Int} (hh:zj p) (hb:0<b) (hk:p[c]?=some k) (h0:0<c) (h:outer p c z=b):jX p c b=true:=by
 rw [lZ hh hk] at h;obtain⟨g1,g2,g3⟩:=hh c k hk;have g4:=g3 h0;have hc:=(gS hk).1;obtain⟨m,hm⟩:∃ m:Nat,k.parent=m:=⟨k.parent.toNat,qA⟩;have h2:=SQ hh hb m qA (by rw [<- hm];exact h);have h3:=fh h2
 grind[dV]
theorem Et {p:qC} {b c:Nat} {k:qX} {z:Int} (hh:zj p) (hb:0<b) (hk:p[c]?=some k) (h:zI p c z=b):jX p c b=true:=by
 grind[zI,bA,Jp]
section
variable {p:qC} {b:Nat} {x y:Int} (H:OU p b x y)
include H
omit H in
end
end Go.Hm
end
section

end
section
namespace Go.Hm
open Go Go.RowKit
def ja (f:Nat->Bool):Nat->List Int
 | 0=>[]
 | n+1=>if f n=true then ja f n++[(n:Int)] else ja f n
theorem AD {f:Nat->Bool} {x:Int}:∀ {n:Nat},x∈ja f n↔∃ m:Nat,m<n/\f m=true/\x=m
 | 0=>by simp [ja]
 | n+1=>by
  simp only [ja]
  split
  .rename_i h;rw [y9,AD (n:=n),vD]
   grind
  .rename_i h;rw [AD (n:=n)]
   grind
theorem sm {f:Nat->Bool} {x n:Nat}:(x:Int)∈ja f n↔x<n/\f x=true:=by
 grind[AD]
theorem Fb {f:Nat->Bool}:∀ n:Nat,(ja f n).length<=n
 | 0=>by simp [ja]
 | n+1=>by
  have:=Fb (f:=f) n
  grind[ja]
theorem Fa {f g:Nat->Bool}:∀ {n:Nat},(∀ x,x<n->f x=g x)->ja f n=ja g n
 | 0,_=>rfl
 | n+1,h=>by
  simp only [ja];rw [h n qA,Fa (n:=n) λx hx=>h x qA]
theorem GY {l:List Int}:∀ n:Nat,ul l n=ja (λx=>decide ((x:Int)∈l)) n
 | 0=>rfl
 | n+1=>by
  simp only [ul,ja,GY n,decide_eq_true_eq]
theorem Z1 {f:Nat->Bool}:sorted (ja f 8)=ja f 8:=by
 grind[sorted,GY,Fa,sm]
theorem GZ {l l':List Int} (h:∀ x:Nat,x<8->((x:Int)∈l↔(x:Int)∈l')):sorted l=sorted l':=by
 grind[sorted,GY,Fa]
def bk (g:Nat->List Int):Nat->List Int
 | 0=>[]
 | n+1=>bk g n++g n
theorem eS {g:Nat->List Int} {x:Int}:∀ {n:Nat},x∈bk g n↔∃ m:Nat,m<n/\x∈g m
 | 0=>by simp [bk]
 | n+1=>by
  simp only [bk,y9,eS (n:=n)]
  grind
theorem Ez {g:Nat->List Int} (h:∀ i,(g i).length<=8):∀ n:Nat,(bk g n).length<=8 * n
 | 0=>by simp [bk]
 | n+1=>by
  have:=Ez h n
  grind[bk]
theorem F3 {p:qC} {x:Int}:∀ (n:Nat) (j:Int),yK p x n j=-1\/0<yK p x n j
 | 0,_=>.inl rfl
 | n+1,j=>by
  simp only [yK]
  split
  .simp
  .rename_i hj
   split
   .simp
   .split
    .exact F3 n _
    .split
     .simp
     .split
      .omega
      .exact F3 n _
theorem l5 {p:qC} {c:Nat} {x:Int}:zI p c x=-1\/0<zI p c x:=by
 grind[zI,outer,F3]
def kw (p:qC) (b c:Nat) (x:Int):Bool:=decide (0<zI p c x)&&decide (zI p c x<b)
def bg (p:qC) (b c:Nat):List Int:=match p[c]? with
 | some k=>if jX p c b=true then k.us.filter (kw p b c) else []
 | none=>[]
def wL (p:qC) (b:Nat):Nat->List Int:=bk λi=>bg p b (b+i)
def zZ (p:qC) (b:Nat):List Int:=sorted (wL p b (p.length - b))
def aT (p:qC) (b c:Nat) (x:Int):Bool:=zI p c x==b
def eI (p:qC) (b c:Nat):List Int:=match p[c]? with
 | some k=>k.us.filter (aT p b c)
 | none=>[]
def wz (p:qC) (b:Nat):Nat->List Int:=bk λi=>eI p b (b+1+i)
def j9 (p:qC) (b:Nat):Int:=match p[b]? with|some k=>k.kind|none=>-1
def qY (p:qC) (b:Nat):List Int:=if j9 p b=1 then sorted (wz p b (p.length - (b+1))) else []
def kU (p:qC) (b:Nat) (x:Nat):Bool:=match p[b]? with
 | some k=>uA b k x&&!decide ((x:Int)∈qY p b)
 | none=>false
def qx (p:qC) (b:Nat):List Int:=if j9 p b=1 then ja (kU p b) 8 else []
def j5 (p:qC) (b:Nat) (x:Int):Int :=
 if zI p b x<0 then 0 else if zI p b x≠b then 1 else if j9 p b=2 then 2 else if x∈qY p b then 3 else 4
def bb (p:qC) (b:Nat) (x:Int):Int:=if x∈qY p b then yj (qY p b) x else (qY p b).length+yj (zZ p b) x
def jy (p:qC) (b:Nat) (x w:Int):Int×Int :=
 if j5 p b x=0 then (8+w,x) else if j5 p b x=2 then (11+w,x) else if j5 p b x=4 then (2+w,yj (qx p b) x) else (5+w,bb p b x)
theorem JL {l:List Int} {f:Int->Bool} (h:l.length<=8):(l.filter f).length<=8:=ur (List.length_filter_le _ _) h
theorem RJ {p:qC} {b c:Nat}:(bg p b c).length<=8:=by
 grind[bg,qX.Cr]
theorem Pg {p:qC} {b c:Nat}:(eI p b c).length<=8:=by
 grind[eI,qX.Cr]
theorem J3 {p:qC} {b n:Nat}:(wL p b n).length<=8 * n:=Ez (λ_=>RJ) n
theorem Pn {p:qC} {b n:Nat}:(wz p b n).length<=8 * n:=Ez (λ_=>Pg) n
theorem fg {p:qC} {b:Nat}:(zZ p b).length<=8:=tI
theorem cT {p:qC} {b:Nat}:(qY p b).length<=8:=by
 grind[qY,tI]
theorem pD {p:qC} {b:Nat}:(qx p b).length<=8:=by
 grind[qx,Fb]
theorem RO {p:qC} {b n:Nat}:wL p b (n+1)=wL p b n++bg p b (b+n):=rfl
theorem Pp {p:qC} {b n:Nat}:wz p b (n+1)=wz p b n++eI p b (b+1+n):=rfl
theorem CX {xs:List Int} {x:Int}:-1<=yj xs x/\yj xs x<=xs.length:=by
 grind[yj,List.findIdx?_eq_some_iff_findIdx_eq]
theorem χ {p:qC} {b:Nat} {k:qX} {x:Int} (hk:p[b]?=some k) (hk0:b=0↔k.kind=0) (hk2:k.kind=0\/k.kind=1\/k.kind=2) (h:j5 p b x=3\/j5 p b x=4):k.kind=1:=by
 grind[j9,j5,l5]
def eM (p:qC) (b c:Nat) (x:Nat):Bool:=match p[c]? with
 | some k=>jX p c b&&decide ((x:Int)∈k.us)&&(zI p c x != -1)&&!jX p (zI p c x) b
 | none=>false
def pJ (p:qC) (b:Nat):Nat->List Int:=bk λc=>ja (eM p b c) 8
def eJ (p:qC) (b c:Nat) (x:Nat):Bool:=match p[c]? with
 | some k=>(c != b)&&decide ((x:Int)∈k.us)&&(zI p c x==b)
 | none=>false
def oz (p:qC) (b:Nat):Nat->List Int:=bk λc=>ja (eJ p b c) 8
theorem SP {p:qC} (hh:zj p) {b o:Nat}:∀ c:Nat,c<p.length->jX p c b=true->jX p c o=true->b<=o->jX p o b=true:=by
 intro c
 induction c using Nat.strongRecOn with
 | ind c ih =>
  intro hc h1 h2 hbo;have g2:=fh h2;by_cases e:o=c
  .simp_all
  .obtain⟨q,hq⟩:=gX hc;obtain⟨a1,a2,a3⟩:=hh c q hq;have a4:=a3 qA;obtain⟨m,hm⟩:∃ m:Nat,q.parent=m:=⟨q.parent.toNat,qA⟩
   grind[dV]
theorem Jq {p:qC} (hh:zj p) {b c:Nat} {k:qX} {x:Int} (hk:p[c]?=some k) (hi:jX p c b=true) (ho:zI p c x ≠ -1):jX p (zI p c x) b=!decide (zI p c x<b):=by
 rcases l5 (p:=p) (c:=c) (x:=x) with h|h
 .omega
 .obtain⟨o,e⟩:∃ o:Nat,zI p c x=o:=⟨(zI p c x).toNat,qA⟩
  grind[Et,bA,SP]
theorem RP {p:qC} (hh:zj p) {b:Nat} (hb:b<p.length):sorted (pJ p b p.length)=zZ p b:=by
 unfold zZ;apply GZ;intro x hx;unfold pJ wL;rw [eS,eS];constructor
 .rintro⟨c,hc,hm⟩;obtain⟨k,hk⟩:=gX hc;rw [sm] at hm;obtain⟨_,hm⟩:=hm;simp only [eM,hk,ju,decide_eq_true_eq,bne_iff_ne,ne_eq,aj] at hm;obtain⟨⟨⟨h1,h2⟩,h3⟩,h4⟩:=hm;have hge:=fh h1;rw [Jq hh hk h1 h3] at h4;refine⟨c - b,qA,?_⟩
  grind[bg,kw,l5]
 .rintro⟨n,hn,hm⟩;have hc:b+n<p.length:=qA;obtain⟨k,hk⟩:=gX hc
  grind[bg,kw,sm,eM,Jq]
theorem Pq {p:qC} (hh:zj p) {b:Nat} (h0:0<b) (hb:b<p.length):sorted (oz p b p.length)=sorted (wz p b (p.length - (b+1))):=by
 apply GZ;intro x hx;unfold oz wz;rw [eS,eS];constructor
 .rintro⟨c,hc,hm⟩;obtain⟨k,hk⟩:=gX hc;rw [sm] at hm;obtain⟨_,hm⟩:=hm;simp only [eJ,hk,ju,decide_eq_true_eq,bne_iff_ne,ne_eq,beq_iff_eq] at hm;obtain⟨⟨h1,h2⟩,h3⟩:=hm;have hge:=fh (Et hh h0 hk h3);refine⟨c - (b+1),qA,?_⟩
  grind[eI,aT]
 .rintro⟨n,hn,hm⟩;have hc:b+1+n<p.length:=qA;obtain⟨k,hk⟩:=gX hc
  grind[eI,aT,sm,eJ]
end Go.Hm
end
section
namespace Go.Hm
open Go Go.RowKit Go.ChangeShapes Go.WideShapes Go.Deep
theorem qM.X0 {P:Program} {gl:Nat->Option (List AV)} {f:FuncId} {az:List AV} {v0:Value} (h:qM P gl f az (λ_ y _=>y=.sc v0)) {W:World} {g:Gh} {args:Array Value} (hC:∀ b,g.C b->b<W.heap.size)
  (hgl:∀ i row,gl i=some row->(RV g W (.pointer (some ⟨i,0,none⟩)) (.el row 0)/\cB W i row)/\∀ f:Nm->Option Nm,row.map (AV.tr f)=row) (hsz:args.size=az.length)
  (hargs:∀ (j:Nat) v x,args[j]?=some v->az[j]?=some x->RV g W v x):Calls P f args W λe W'=>e=.returned v0/\Below W.heap.size W W':=by
 have hinv:Inv (vW g yP) g.C W g yP W:=⟨rfl,rfl,rfl,qa _,λ_ _ _=>rfl,rfl,hC,λ_ _ e=>vS,λ_ _ _ e=>vS,λ_ _ _ _ _ e=>vS⟩;refine (h.2 (.s 0) g.C W g args (λ_ _=>rfl) rfl (λ_ e=>absurd rfl e) hinv hgl hsz hargs).mono λe w' he=>?_
 cases e with
 | returned v =>
  obtain⟨C',g',H',x,hA,hv,rfl⟩:=he;refine⟨by rw [hv.zy],hA.inv.os,hA.inv.tape,hA.inv.output,hA.inv.size,λb hb=>hA.inv.wN b hb ?_⟩
  grind[vW,yP]
 | panicked ch=>obtain⟨_,_,_,_,_,_,_,_,e⟩:=he;exact e.elim
 | outgrown=>simp_all
theorem X2 {H:Type} {enc:TypeId×Value->H} {P:Program} {w:World} {base:Nat} {spare:Nat->Bool} {held:Bool} {m n g:Nat} {t e:TypeId} {s:String} {cs:Array Value} {l:List Int} {x:List MemPlace}
  (ht:P.underlying t=some (.array n e)) (he:P.underlying e=some (.int .i64)) (hc:P.cellsOf e=1) (hg:P.globalNamed s=some g) (hv:w.var? P s=some cs)
  (h:DataW.trod enc P w base spare held m t cs.toList=some (.agg (l.map λk=>.lit (.int .i64 k)),x)):∀ i k,l[i]?=some k->w.cell? ⟨g,i,none⟩=some (.int .i64 k):=by
 intro i k hk;obtain⟨xs,m1,rfl,hx,hlen,hn,hel⟩:=DataW.trod_array ht h;simp only [rF,DataW.agg.injEq] at hx;have hil:i<l.length:=(gS hk).1;have hxl:l.length=xs.length:=by simpa using congrArg List.length hx.1
 obtain⟨y,hy⟩:∃ y,xs[i]?=some y:=⟨_,gE qA⟩;have h0:=hel i qA;rw [hy,hc] at h0;obtain⟨k',e1,e2,_⟩:=DataW.trod_int he h0;have h3:=congrArg (λz=>z[i]?) hx.1;simp only [jZ,hk,hy,u7,te] at h3;rw [e2] at h3;have hkk:k'=k:=qP;subst hkk;rw [World.var?_cell hg hv i];have e3:=congrArg (λz=>z[0]?) e1
 grind
end Go.Hm
end
section
namespace Go.Hm
open Go Go.RowKit
def vk (l:List (Int×Int)):List (List AV):=l.map λo=>[iv o.1,iv o.2]
section
variable {l m:List (Int×Int)} {o:Int×Int} {i:Nat} {f:Nm->Option Nm}
@[simp] theorem orows_len:(vk l).length=l.length:=gm
@[simp] theorem orows_getE {h:i<(vk l).length}:(vk l)[i]=[iv (l[i]' qP).1,iv (l[i]' qP).2]:=gm
@[simp] theorem orows_tr:(vk l).map (λr=>r.map (AV.tr f))=vk l:=gm
@[simp] theorem orows_take:(vk l).take i=vk (l.take i):=gm
@[simp] theorem orows_drop:(vk l).drop i=vk (l.drop i):=gm
@[simp] theorem orows_app:vk l++vk m=vk (l++m):=gm
@[simp] theorem orows_nil:vk []=[]:=rfl
@[simp] theorem orows_cln:(vk l).all (λr=>r.all AV.jU)=true:=gm
theorem Ub:∀ r∈vk l,r.length=2:=by
 grind[vk]
abbrev AL (l:List (Int×Int)):AV:=.sl 2 (vk l)
theorem BH {hp:Nm->Option AO} {n:Nm} {len:Nat} (hn:hp n=some (.row 2 (vk l))) (hl:len=l.length):Bw hp zn (.hs n 2 0 len) (AL l):=gb hn oh Ub
end
def ui (p:qC) (b:Nat) (s:q8):List (Int×Int):=s.reads.map λx=>jy p b x 0
def vP (s:q8):List (Int×Int) :=
 if s.kind=0 then [(1,s.a)] else if s.kind=2 then [(14,0)] else if s.kind=3 then [(15,s.a)] else if s.kind=4 then [(16,s.a)] else if s.kind=5 then [(17,(s.reads.length:Int) - 1)]
 else if s.kind=6 then [(18,s.b)] else if s.kind=7 then [(19,0)] else if s.kind=8 then [(20,0)] else []
def vY (p:qC) (b:Nat) (s:q8):List (Int×Int):=if s.kind=11 then [jy p b s.to 2] else if 0<=s.kind/\s.kind<=6 then [jy p b s.to 1] else []
def kM (p:qC) (b:Nat) (s:q8):List (Int×Int):=(0,0)::(ui p b s++(vP s++vY p b s))
def vr (p:qC) (b:Nat) (ss:List q8):List (Int×Int):=ss.flatMap (kM p b)
def zR (p:qC) (b:Nat):List (Int×Int):=match p[b]? with|some k=>vr p b k.body|none=>[]
theorem Nd (s:q8):(vP s).length<=1:=by
 grind[vP]
theorem ZE {p:qC} {b:Nat} {s:q8}:(vY p b s).length<=1:=by
 grind[vY]
theorem X9 {p:qC} {b:Nat} {s:q8}:(ui p b s).length<=2:=by
 grind[q8.iM,ui]
theorem G8 {p:qC} {b:Nat} {s:q8}:(kM p b s).length<=5:=by
 grind[Nd,ZE,X9,kM]
theorem D2 {p:qC} {b:Nat}:∀ ss:List q8,(vr p b ss).length<=5 * ss.length
 := by intro x0;induction x0<;>grind[vr,G8]
theorem Hr {p:qC} {b:Nat} {ss:List q8} {i:Nat} {s:q8} (h:ss[i]?=some s):vr p b (ss.take (i+1))=vr p b (ss.take i)++kM p b s:=by
 grind[uG,vr]
def vB (l:List (Int×Int)):Nat:=l.countP λo=>o.1==0
theorem qA3 {l m:List (Int×Int)}:vB (l++m)=vB l+vB m:=by simp [vB]
theorem nO {xs:List Int} {x:Int} (h:x∈xs):∃ i:Nat,yj xs x=i/\i<xs.length/\xs[i]?=some x:=by
 have h0:=l9.2 h
 grind[yj,rH]
theorem Uh {p:qC} {x:Int} {b:Nat}:∀ (n:Nat) (j:Int),yK p x n j=b->∃ k,p[b]?=some k/\uA b k x=true/\x∉k.dc 9
 := by intro x0;induction x0<;>grind[yK]
theorem F6 {p:qC} {x:Int} {b c:Nat} (h:zI p c x=b):∃ k,p[b]?=some k/\uA b k x=true/\x∉k.dc 9:=by
 grind[zI,outer,Uh]
theorem LU {p:qC} {x:Int} {b:Nat} {k:qX} (hk:p[b]?=some k) (hl:uA b k x=true) (hd:x∉k.dc 9):zI p b x=b:=by
 grind[uA,zI]
theorem CW {p:qC} {x:Int} (hh:zj p):∀ (n:Nat) (j:Int),yK p x n j=-1\/yK p x n j<=j
 | 0,_=>.inl rfl
 | n+1,j=>by
  simp only [yK]
  split
  .simp
  .split
   .simp
   .rename_i q hq;have h1:=(hh _ q hq).2.1;have ih:=CW hh (x:=x) n q.parent;omega
theorem Uo {p:qC} {x:Int} {b:Nat} {k:qX} (hh:zj p) (hk:p[b]?=some k) (h:zI p b x≠b):zI p b x<b:=by
 grind[zI,outer,CW,zj]
theorem υ {p:qC} {b:Nat} {x:Int}:0<=j5 p b x/\j5 p b x<=4:=by
 grind[j5]
theorem ψ {p:qC} {b:Nat} {x:Int} (h:j5 p b x=3):x∈qY p b:=by
 grind[j5]
theorem NN {p:qC} {b:Nat} {k:qX} {x:Int} (hp:zr p) (hk:p[b]?=some k) (hx:0<=x/\x<=7) (h:j5 p b x=4):x∈qx p b:=by
 have hka:j9 p b=k.kind:=fP;unfold j5 at h
 split at h
 .omega
 .rename_i h1
  split at h
  .omega
  .rename_i h2
   split at h
   .omega
   .rename_i h3
    split at h
    .omega
    .rename_i h4;have ho:zI p b x=b:=qA
     have hb:0<b:=by
      grind[l5]
     obtain⟨k',hk',hl,_⟩:=F6 ho;obtain rfl:k=k':=sI (hk.symm.trans hk');have hhd:=hp.head b k hk;unfold uq at hhd;rw [if_neg qA] at hhd;have hk1:j9 p b=1:=qA;unfold qx;rw [if_pos hk1,AD];refine⟨x.toNat,qA,?_,qA⟩
     grind[kU]
theorem ω {p:qC} {b:Nat} {k:qX} {x:Int} (hp:zr p) (hk:p[b]?=some k) (hu:x∈k.us) (h:j5 p b x=1):x∈zZ p b/\x∉qY p b:=by
 have qy:=(gS hk).1
 have hx:0<=x/\x<=7:=by
  grind[qX.us,mem_sorted]
 unfold j5 at h
 split at h
 .omega
 .rename_i h1
  split at h
  rotate_left
  .omega
  .rename_i h2
   have hpos:0<zI p b x:=by
    grind[l5]
   have hlt:=Uo hp.jj hk h2;refine⟨?_,λhc=>h2 ?_⟩
   .unfold zZ wL;rw [mem_sorted,eS];refine⟨⟨0,qA,?_⟩,hx⟩
    grind[bg,kw,bA]
   .unfold qY at hc
    split at hc
    .unfold wz at hc
     grind[mem_sorted,eS,eI,aT,F6,LU]
    .cases hc
theorem UA {p:qC} {b:Nat} {k:qX} {x w:Int} (hp:zr p) (hk:p[b]?=some k) (hu:x∈k.us) :
  (j5 p b x=0/\jy p b x w=(8+w,x))\/(j5 p b x=2/\jy p b x w=(11+w,x)) \/
  (j5 p b x=4/\∃ i:Nat,jy p b x w=(2+w,(i:Int))/\i<(qx p b).length/\(qx p b)[i]?=some x) \/
  (j5 p b x=3/\∃ i:Nat,jy p b x w=(5+w,(i:Int))/\i<(qY p b).length/\(qY p b++zZ p b)[i]?=some x) \/
  (j5 p b x=1/\∃ i:Nat,jy p b x w=(5+w,(((qY p b).length+i:Nat):Int))/\i<(zZ p b).length/\(qY p b++zZ p b)[(qY p b).length+i]?=some x):=by
 have hx:0<=x/\x<=7:=by
  grind[qX.us,mem_sorted]
 obtain⟨s0,s4⟩:=υ (p:=p) (b:=b) (x:=x);by_cases e0:j5 p b x=0
 .grind[jy]
 by_cases e2:j5 p b x=2
 .grind[jy]
 by_cases e4:j5 p b x=4
 .simp_all[nO,NN,jy]
 by_cases e3:j5 p b x=3
 .grind[ψ,nO,jy,bb]
 have e1:j5 p b x=1:=qA
 simp_all[ω,nO,jy,bb,cG]
theorem FR {p:qC} {b:Nat} {x w:Int} (hw:0<=w):2<=(jy p b x w).1:=by
 grind[jy]
theorem Xm {k:qX} {s:q8} {x:Int} (hn:lz k) (hs:s∈k.body) (hx:x∈s.reads):x∈k.us:=by
 have h1:=hn.reads s hs x hx
 grind[qX.us,mem_sorted,qX.rd,aJ,q8.reads]
theorem qAb {k:qX} {s:q8} (hn:lz k) (hs:s∈k.body) (h:s.cz\/s.kind=11):s.to∈k.us:=by
 have h1:=hn.zB s hs
 grind[qX.us,mem_sorted,qX.bd,mP]
theorem qA5 {l:List (Int×Int)} (h:∀ o∈l,0<o.1):vB l=0:=by
 grind[vB]
theorem NJ {p:qC} {b:Nat} {s:q8}:∀ o∈ui p b s++(vP s++vY p b s),0<o.1:=by
 intro o ho;simp only [y9] at ho;rcases ho with ho|ho|ho
 .simp only [ui,bV] at ho;obtain⟨x,_,rfl⟩:=ho;have:=FR (p:=p) (b:=b) (x:=x) (w:=0) qe;omega
 .grind[vP]
 .unfold vY at ho
  split at ho
  .obtain rfl:=vD.1 ho;have:=FR (p:=p) (b:=b) (x:=s.to) (w:=2) qe;omega
  .split at ho
   .obtain rfl:=vD.1 ho;have:=FR (p:=p) (b:=b) (x:=s.to) (w:=1) qe;omega
   .cases ho
theorem qA4 {p:qC} {b:Nat} {s:q8}:vB (kM p b s)=1:=by
 have h:=qA5 (NJ (p:=p) (b:=b) (s:=s))
 grind[vB,kM]
theorem AK {l:List (Int×Int)} {x y:Int}:vk l++[[iv x,iv y]]=vk (l++[(x,y)]):=gm
structure ym where
 kind:Int
 params:List Int
 qq:List Int
 cells:List Int
 ff:List Int
 ops:List (Int×Int)
 deriving DecidableEq,Inhabited
def fo:ym:=⟨0,[],[],[],[],[]⟩
@[simp] theorem noCode_kind:fo.kind=0:=rfl
@[simp] theorem noCode_params:fo.params=[]:=rfl
@[simp] theorem noCode_fasts:fo.qq=[]:=rfl
@[simp] theorem noCode_cells:fo.cells=[]:=rfl
@[simp] theorem noCode_frees:fo.ff=[]:=rfl
@[simp] theorem noCode_ops:fo.ops=[]:=rfl
def zO (p:qC) (b:Nat):ym:=match p[b]? with|some k=>⟨k.kind,k.params,qx p b,qY p b,zZ p b,zR p b⟩|none=>fo
def jb (p:qC) (n:Nat):List ym:=(List.range n).map (zO p)
theorem Il {p:qC} {n:Nat}:jb p (n+1)=jb p n++[zO p n]:=by simp [jb,oU]
@[simp] theorem codesTo_len {p:qC} {n:Nat}:(jb p n).length=n:=by simp [jb]
@[simp] theorem codesTo_zero {p:qC}:jb p 0=[]:=rfl
abbrev ym.row (c:ym):List AV:=[iv c.kind,jG c.params,jG c.qq,jG c.cells,jG c.ff,AL c.ops]
abbrev ym.av (c:ym):AV:=.agg c.row
def gx (cs:List ym):List (List AV):=cs.map ym.row
abbrev uw (cs:List ym):AV:=.sl 6 (gx cs)
def ym.own (n:Nm) (i:Nat) (c:ym):List AV :=
 [iv c.kind,.hs (.c n i 1) 1 0 c.params.length,.hs (.c n i 2) 1 0 c.qq.length,.hs (.c n i 3) 1 0 c.cells.length,.hs (.c n i 4) 1 0 c.ff.length,.hs (.c n i 5) 2 0 c.ops.length]
@[simp] theorem ym.AN {n:Nm} {i:Nat} {c:ym}:c.own n i=[iv c.kind,.hs (.c n i 1) 1 0 c.params.length,.hs (.c n i 2) 1 0 c.qq.length,.hs (.c n i 3) 1 0 c.cells.length,.hs (.c n i 4) 1 0 c.ff.length,.hs (.c n i 5) 2 0 c.ops.length]:=rfl
structure dO (hp:Nm->Option AO) (n:Nm) (i:Nat) (c:ym):Prop where
 params:hp (.c n i 1)=some (.row 1 (qj c.params))
 qq:hp (.c n i 2)=some (.row 1 (qj c.qq))
 cells:hp (.c n i 3)=some (.row 1 (qj c.cells))
 ff:hp (.c n i 4)=some (.row 1 (qj c.ff))
 ops:hp (.c n i 5)=some (.row 2 (vk c.ops))
def kW (n:Nm) (cs:List ym):List (List AV):=cs.mapIdx λi c=>c.own n i
structure tY (hp:Nm->Option AO) (n:Nm) (cs:List ym):Prop where
 top:hp n=some (.row 6 (kW n cs))
 each:∀ (i:Nat) c,cs[i]?=some c->dO hp n i c
section
variable {cs:List ym} {i a b d l:Nat} {n q k1:Nm} {c:ym}
@[simp] theorem kcrows_len:(gx cs).length=cs.length:=by simp [gx]
@[simp] theorem S8:(gx cs)[i]?=(cs[i]?).map ym.row:=by simp [gx]
@[simp] theorem kcrows_tr {f:Nm->Option Nm}:(gx cs).map (λr=>r.map (AV.tr f))=gx cs:=by simp [gx]
@[simp] theorem kdRows_len:(kW n cs).length=cs.length:=by simp [kW]
@[simp] theorem KB:(kW n cs)[i]?=(cs[i]?).map (λc=>c.own n i):=by simp [kW]
@[simp] theorem kdRows_nil:kW n []=[]:=rfl
@[simp] theorem kdRows_take:(kW n cs).take cs.length=kW n cs:=yG qB
theorem KA:kW n (cs++[c])=kW n cs++[c.own n cs.length]:=by simp [kW]
theorem sV {f:Nm->Option Nm} {m:Nm} (h:∀ i j,i<cs.length->f (.c n i j)=some (.c m i j)):(kW n cs).map (λr=>r.map (AV.tr f))=kW m cs:=by
 apply y6;intro i;simp only [jZ,KB,Option.map_map]
 cases hx:cs[i]? with
 | none=>rfl
 | some x=>simp [ym.own,h i _ (gS hx).1]
@[simp] theorem kdRows_kl (h:Nm.under (.s d) n=false):(kW n cs).map (λr=>r.map (AV.tr (kl (.s d))))=kW n cs:=sV gj
@[simp] theorem kdRows_mv1 (h:Nm.under (.s a) n=true):(kW n cs).map (λr=>r.map (AV.tr (mv (.s a) k1)))=kW (Nm.qv (.s a) k1 n) cs:=sV gj
@[simp] theorem kdRows_mvc:(kW n cs).map (λr=>r.map (AV.tr (uK n k1)))=kW k1 cs:=by
 refine sV λi j _=>?_;have:Nm.c n i j≠n:=Nm.nN (Nm.kj n);simp [this]
@[simp] theorem kdRows_mv4 {j:Nat} (hq:(q=n)=False) (hq':Nm.under (.c q a b) n=false) (hl:cs.length<=l):(kW n cs).map (λr=>r.map (AV.tr (mv (.c q a b) (.c n l j))))=kW n cs:=by
 have h1:¬ n=q:=λe=>by simp [e] at hq
 have h2:Nm.under (.c n l j) n=false:=by
  cases h:Nm.under (.c n l j) n with
  | false=>rfl
  | true=>exact absurd rfl (Nm.Cq h).2
 refine sV λi j hi=>?_;have h3:¬ i=l:=qA;simp [h1,hq',h2,h3]
end
theorem IA {hp:Nm->Option AO} {n:Nm} {i:Nat} {c:ym} (h:dO hp n i c):∀ (j:Nat) a a',(c.own n i)[j]?=some a->c.row[j]?=some a'->Bw hp zn a a'
 | 0,a,a',ha,ha'=>by obtain rfl:=sI ha;obtain rfl:=sI ha';exact .refl _
 | 1,a,a',ha,ha'=>by obtain rfl:=sI ha;grind[dR,dO.params]
 | 2,a,a',ha,ha'=>by obtain rfl:=sI ha;grind[dR,dO.qq]
 | 3,a,a',ha,ha'=>by obtain rfl:=sI ha;grind[dR,dO.cells]
 | 4,a,a',ha,ha'=>by obtain rfl:=sI ha;obtain rfl:=sI ha';exact dR h.ff rfl
 | 5,a,a',ha,ha'=>by obtain rfl:=sI ha;obtain rfl:=sI ha';exact BH h.ops rfl
 | j+6,a,a',ha,_=>qP
theorem rP {hp:Nm->Option AO} {n:Nm} {i:Nat} {c:ym} (h:dO hp n i c):Bw hp zn (.agg (c.own n i)) c.av:=.agg _ _ rfl (IA h)
theorem fO {hp:Nm->Option AO} {n:Nm} {len:Nat} {cs:List ym} (h:tY hp n cs) (hl:len=cs.length):Bw hp zn (.hs n 6 0 len) (uw cs):=by
 subst hl;refine .hs n 6 0 cs.length (kW n cs) (gx cs) rfl h.top qB qB (by simp [gx]) λi r r' hr hr' j a a' ha ha'=>?_;rw [fF,KB] at hr;rw [S8] at hr';obtain⟨x,hx,rfl⟩:=zu.1 hr;rw [hx] at hr';obtain rfl:=sI hr';exact IA (h.each i x hx) j a a' ha ha'
theorem dO.vh {H':Nm->Option AO} {n:Nm} {i:Nat} {c:ym} (h:dO H' n i c):dO (vh H') n i c :=
 ⟨aE h.params qB,aE h.qq qB,aE h.cells qB,aE h.ff qB,aE h.ops qB⟩
theorem Co {l:List (Int×Int)} {i:Nat} {o:Int×Int} (h:l[i]?=some o):vB (l.take (i+1))=vB (l.take i)+(if o.1=0 then 1 else 0):=by
 grind[uG,vB]
theorem NW {l:List (Int×Int)}:vB l<=l.length:=List.countP_le_length
theorem pT {p:qC} {b:Nat} (hp:zr p):(zR p b).length<=60:=by
 unfold zR
 split
 .rename_i k hk;have h1:=D2 (p:=p) (b:=b) k.body;have h2:=hp.body k (gM hk);omega
 .simp
end Go.Hm
end
