import Derived.Test.YtjgpejikjhojcaaGreatDoorT08
import Derived.Deep.Slices
import Derived.Deep.Fields
import Derived.ChangeSame
import Derived.SizedLaws
import Derived.OpenShut
import Derived.FnData
set_option linter.unusedSimpArgs false
set_option linter.unusedVariables false
set_option maxRecDepth 100000
set_option maxHeartbeats 4000000

section
namespace Go.Hm
open Go Go.RowKit Go.ChangeShapes Go.WideShapes Go.Deep
def g0 (w:World):Gh:={ C:=λb=>b<w.heap.size,φ:=λ_=>none,κ:=λ_=>0 }
def Cq {H:Type} (enc:TypeId×Value->H) (P:Program) (w:World) {α:Type} (t:TypeId) (cells:α->List AV) (Ok:α->Prop):Prop :=
 ∀ (n:Nat) (cs:List Value) (y:DataW H×List MemPlace),DataW.trod enc P w 0 (λ_=>true) true n t cs=some y->(∀ m∈y.1.weights P t,m<=reachBytes) ->
  ∃ x:α,Ok x/\(cells x).length=cs.length/\∀ (j:Nat) v a,cs[j]?=some v->(cells x)[j]?=some a->RV (g0 w) w v a/\v.oneCell'=true
theorem NO {H:Type} {P:Program} {e:TypeId} {d:DataW H}:∀ {l:List (DataW H)},d∈l->∀ m∈d.weights P e,m∈DataW.weightsAll P e l
 | x::l,h,m,hm=>by
  simp only [DataW.weightsAll,jo];rcases vB.1 h with rfl|h
  .simp_all
  .exact .inr (NO h m hm)
theorem IR {w:World} {a:Addr} {v:Value} (h:w.cell? a=some v):a.block<w.heap.size/\a.spot=none:=by
 unfold World.cell? at h
 split at h
 .rename_i c t fr hb;refine⟨(mD.1 hb).1,?_⟩
  simp_all
 .cases h
theorem OR {a:Addr} (h:a.spot=none) (n:Nat):a.add n=⟨a.block,a.off+n,none⟩:=by
 obtain⟨b,o,s⟩:=a
 grind[Addr.add]
section
variable {H:Type} {enc:TypeId×Value->H} {P:Program} {w:World}
theorem W6 {t e:TypeId} {z:Nat} {α:Type} [Inhabited α] {cells:α->List AV} {Ok:α->Prop} (ht:P.underlying t=some (.slice e)) (hc:P.cellsOf e=z) (hz:0<z) (hby:0<P.bytesOf e) (hlen:∀ x,(cells x).length=z)
  (hr:Cq enc P w e cells Ok):Cq enc P w t (λxs:List α=>[.sl z (xs.map cells)]) (λxs=>xs.length<=1152921504606846976/\∀ x∈xs,Ok x):=by
 intro n cs y h hw;rcases open_slice ht h with⟨rfl,rfl⟩|⟨a,len,cap,m,n',D,Pl,rfl,_,hl,_,hm,rfl,hi⟩
 .refine⟨[],⟨qB,qB⟩,rfl,λj v x hv hx=>?_⟩
  cases j with
  | zero =>
   simp at hv hx;subst hv;subst hx;exact⟨.kX _ _ _,rfl⟩
  | succ j=>simp at hv
 .simp only [if_true] at hm;subst hm;have hw0:=hw (((List.map D (List.range len)).length+(List.map (λj=>D (len+j)) (List.range (m - len))).length) * P.bytesOf e) (by simp [DataW.weights,ht])
  have hll:len<=1152921504606846976:=by
   simp only [List.length_map,List.length_range,reachBytes] at hw0;have:len * 1<=(len+(m - len)) * P.bytesOf e:=Nat.mul_le_mul qA hby;omega
  have hel:∀ i,i<len->∃ x:α,Ok x/\∀ j,j<z->∃ v aa,w.cell? ((a.add (i * z)).add j)=some v/\(cells x)[j]?=some aa/\RV (g0 w) w v aa/\v.oneCell'=true:=by
   intro i hil;obtain⟨cs',h1,h2⟩:=hi i qA;rw [hc] at h1;obtain⟨_,hcl,hat⟩:=World.cells?_some h1
   obtain⟨x,hx,hxl,hxr⟩:=hr n' cs' _ h2 (λq hq=>hw q (by
    simp only [DataW.weights,ht,vB,jo];exact .inr (.inl (NO (wU.2 ⟨i,gN.2 hil,rfl⟩) q hq))))
   refine⟨x,hx,λj hj=>?_⟩;have e1:=hat j hj;have e2:cs'[j]?=some (cs'[j]' qA):=gE qA;have e3:(cells x)[j]?=some ((cells x)[j]' qA):=gE qA
   grind
  obtain⟨X,hX⟩:=choose_lt hel
  have hav:∀ i,i<len->(List.map X (List.range len))[i]?=some (X i):=by
   simp_all
  refine⟨(List.range len).map X,⟨qL,?_⟩,rfl,λj v x hv hx=>?_⟩
  .simp_all
  .cases j with
   | succ j=>simp at hv
   | zero =>
    simp only [bE,fC] at hv hx;subst hv;subst hx;refine⟨?_,rfl⟩;rcases dJ len with rfl|hpos
    .exact .kX _ _ _
    .obtain⟨v0,_,hc0,_⟩:=(hX 0 hpos).2 0 hz;obtain⟨hb,hsp⟩:=IR hc0;rw [Nat.zero_mul] at hb hsp;have ha0:(a.add 0).add 0=a:=by simp [Addr.add]
     rw [ha0] at hb hsp;obtain⟨b,off,s⟩:=a;obtain rfl:s=none:=hsp
     have hcell:∀ i j,(((⟨b,off,none⟩:Addr).add (i * z)).add j)=⟨b,off+i * z+j,none⟩:=by
      grind[OR]
     refine .cw b off m len z _ (λi j=>(w.cell? ⟨b,off+i * z+j,none⟩).getD undef) hb qB hl ?_ ?_ ?_ ?_<;>grind
end
end Go.Hm
end
section
namespace Go.Hm
open Go Go.RowKit
def lG (p:qC) (b:Int):Nat->Int->Bool
 | 0,j=>decide (j=b)
 | n+1,j=>if b<j then (match p[j.toNat]? with|some q=>lG p b n q.parent|none=>false) else decide (j=b)
def jS (p:qC) (c b:Int):Bool:=lG p b p.length c
theorem JX {p:qC} {b:Int} (hh:zZ p) (hb:0<=b):∀ (n m:Nat) (j:Int),j<=n->j<=m->lG p b n j=lG p b m j
 | 0,0,_,_,_=>rfl
 | 0,m+1,j,h,_=>by
  grind[lG]
 | n+1,0,j,_,h=>by
  grind[lG]
 | n+1,m+1,j,h1,h2=>by
  simp only [lG]
  split
  .cases hq:p[j.toNat]? with
   | none=>rfl
   | some q =>
    have:=(hh _ q hq).2.1;exact JX hh hb n m _ qA qA
  .rfl
theorem bo {p:qC} {c b:Int} (h:c<=b):jS p c b=decide (c=b):=by
 unfold jS;generalize p.length=n
 cases n<;>grind[lG]
theorem eK {p:qC} {c:Nat} {b:Int} {q:qT} (hh:zZ p) (hb:0<=b) (hq:p[c]?=some q) (h:b<c):jS p c b=jS p q.parent b:=by
 have hl:c<p.length:=(gS hq).1;have hp:=(hh c q hq).2.1;unfold jS;obtain⟨n,hn⟩:∃ n,p.length=n+1:=⟨p.length - 1,qA⟩
 grind[JX,lG]
def qT.us (k:qT):List Int:=sorted (k.rd++k.bd++k.dc 9++k.dc 10)
def Zx (p:qC) (b x:Int) (c:Nat):Bool:=match p[c]? with|some k=>decide (x∈k.us)&&decide (zA p c x=b)|none=>false
def G0 (p:qC) (b x:Int):Nat->List Int
 | 0=>[]
 | n+1=>if Zx p b x n=true then G0 p b x n++[(n:Int)] else G0 p b x n
def touched (p:qC) (b x:Int):List Int:=G0 p b x p.length
def af {α:Type} (f:α->α) (l:List α) (i:Nat):List α:=(l.take i).map f++l.drop i
section
variable {α:Type} {f:α->α} {l:List α} {i:Nat} {x:α}
@[simp] theorem KK (h:i<=l.length):(af f l i).length=l.length:=by simp [af];omega
theorem TZ:af f l 0=l:=by simp [af]
theorem TX:af f l l.length=l.map f:=by simp [af]
theorem KJ (h:l[i]?=some x):(af f l i)[i]?=some x:=by
 grind[af]
theorem TY (h:l[i]?=some x):(af f l i).set i (f x)=af f l (i+1):=by
 obtain⟨hi,hx⟩:=gS h;apply vl;intro j;rw [ic,KK qA];by_cases e:i=j<;>grind[af]
end
end Go.Hm
end
section

end
section

end
section

end
section
namespace Go.Hm
open Go Go.RowKit
def Pr (L:List qP) (i:Nat):List qP:=L.take i++L.drop (i+1)
def I2 (p:qC) (b i:Nat):qC:=match p[b]? with|some k=>setBody p b (Pr k.body i)|none=>p
def Ra (p:qC) (b i:Nat):Bool:=match p[b]? with
 | some k=>match k.body[i]? with
  | some s=>((s.kind==9)||(s.kind==10))&&(ye (I2 p b i)&&decide (Km p=Km (I2 p b i)))
  | none=>false
 | none=>false
abbrev DE (v:Int):AV:=.sc (.int .u8 v)
def fI (bs:List Int):List (List AV):=bs.map λv=>[DE v]
abbrev tR (bs:List Int):AV:=.sl 1 (fI bs)
section
variable {bs:List Int} {i:Nat} {f:Nm->Option Nm}
@[simp] theorem brows_len:(fI bs).length=bs.length:=td
@[simp] theorem brows_getE {h:i<(fI bs).length}:(fI bs)[i]=[DE (bs[i]' qL)]:=td
@[simp] theorem brows_tr:(fI bs).map (λr=>r.map (AV.tr f))=fI bs:=td
@[simp] theorem brows_take {n:Nat}:(fI bs).take n=fI (bs.take n):=td
@[simp] theorem brows_drop {n:Nat}:(fI bs).drop n=fI (bs.drop n):=td
end
structure aA (bs:List Int):Prop where
 len:bs.length<=2000
 xw:∀ v∈bs,0<=v/\v<=255
abbrev jA (bs:List Int) (pos:Nat):AO:=.row 2 [[tR bs,iv pos]]
def ze (D:Nm->Bool) (hp:Nm->Option AO):Nm->Option AO:=λm=>if D m then hp m else none
@[simp] theorem xL {D:Nm->Bool} {hp:Nm->Option AO} {m:Nm}:ze D hp m=if D m then hp m else none:=rfl
def vV:Nm->Bool:=λn=>Nm.under (.u 1 0 0) n||Nm.under (.u 2 0 0) n
@[simp] theorem HA {n:Nm}:vV n=(Nm.under (.u 1 0 0) n||Nm.under (.u 2 0 0) n):=rfl
theorem bZ {n:Nm} (h:vV n=true):n.zo=false:=by
 simp only [vV,Bool.or_eq_true] at h;rcases h with h|h <;> exact yq rfl h
section
variable {X:Ctx} {st:St} {K:St->Prop} {E:AV->St->Prop} {d f:Nat} {ty:TypeId} {pos:String} {aft:Array Edge} {g:Option (Nat×Bool)} {args:Array Operand} {Ts:Array TypeId} {az:List AV} {R:Nm->AV->(Nm->Option AO)->Prop}
theorem lh (D:Nm->Bool) (hD:∀ n,D n=true->n.zo=false) (hext:∀ k i j,X.ext (.u k i j)=true->D (.u k i j)=false\/(ze D st.hp) (.u k i j)≠none) (hd:d<X.n:=by first|(simp;done)|fail) (ha:args.toList.map (ev st)=az:=by simp [fx];first|done|rfl)
  (hF:qV X.P X.gl f D az (ze D st.hp) R qy) (h:∀ y H',R (.s d) y H'->K ((st.call d D (ze D st.hp) H').put (some d) y)) :
  q8 X ⟨some d,.call ⟨.value (.func f),args,Ts⟩,ty,pos,aft,g⟩ K E st:=by
 subst ha;refine iu (D:=D) (H:=ze D st.hp) (R:=R) (E0:=qy) hF (mc hF.1 rfl) false ⟨rfl,λj a a' h h'=>?_⟩ (λn hn=>?_) (λn hn=>?_) (λn hn=>?_) hext (λe he=>qL) (λx H' hR=>?_) (λ_ _ h=>h.elim)
 .rw [h] at h';obtain rfl:=sI h';exact .refl _
 .cases hx:D n with
  | false=>rfl
  | true =>
   have h1:=hD n hx;have h2:=Nm.l9 (a:=.s d) rfl hn
   simp_all
 .simp [hn]
 .simp_all
 simp_all
theorem NW (hd:d<X.n:=by first|(simp;done)|fail) (ha:args.toList.map (ev st)=az:=by simp [fx];first|done|rfl) (hF:qM X.P X.gl f az R) (h:∀ y H',R (.s d) y H'->K ((st.call d zf jv H').put (some d) y)) :
  q8 X ⟨some d,.call ⟨.value (.func f),args,Ts⟩,ty,pos,aft,g⟩ K E st:=by
 subst ha;refine iu (D:=zf) (H:=jv) (R:=R) (E0:=qy) hF (mc hF.1 rfl) false ⟨rfl,λj a a' h h'=>?_⟩ (λ_ _=>rfl) (λn hn=>by cases hn) (λn hn=>absurd rfl hn) (λk i j _=>.inl rfl) (λe he=>qL) (λx H' hR=>?_) (λ_ _ h=>h.elim)
 .rw [h] at h';obtain rfl:=sI h';exact .refl _
 simp_all
end
def rk (a d:Nat) (m:Nm):Option Nm :=
 if Nm.under (.s a) m then (if m=.s a then some (.u 2 0 0) else none) else if Nm.under (.u 2 0 0) m then none else if Nm.under (.s d) m then none else if Nm.under (.u 1 0 0) m then (if m=.u 1 0 0 then some (.u 1 0 0) else none) else some m
def St.l6 (st:St) (a d:Nat) (R:AO):St :=
 { tm:=λt=>(st.tm t).tr (rk a d),
   hp:=λm=>if m=.u 1 0 0 then some R else if vV m||Nm.under (.s d) m||Nm.under (.s a) m then none else (st.hp m).map (AO.tr (rk a d)),
   n:=st.n,gl:=st.gl }
section
variable {st:St} {a d t:Nat} {m:Nm} {R:AO}
@[simp] theorem rk_eq:rk a d m=if Nm.under (.s a) m then (if m=.s a then some (.u 2 0 0) else none) else if Nm.under (.u 2 0 0) m then none else if Nm.under (.s d) m then none else if Nm.under (.u 1 0 0) m then (if m=.u 1 0 0 then some (.u 1 0 0) else none) else some m:=rfl
@[simp] theorem rdr_tm:(st.l6 a d R).tm t=(st.tm t).tr (rk a d):=rfl
@[simp] theorem rdr_gl:(st.l6 a d R).gl=st.gl:=rfl
@[simp] theorem L3:(st.l6 a d R).hp m=if m=.u 1 0 0 then some R else if vV m||Nm.under (.s d) m||Nm.under (.s a) m then none else (st.hp m).map (AO.tr (rk a d)):=rfl
end
theorem La {a d:Nat} {Hs:Nm->Option AO} (h1:(Hs (.u 1 0 0)).isSome=true) (h2:(Hs (.u 2 0 0)).isSome=true):(λm=>(mv (.s a) (.u 2 0 0) m).bind (cf d vV Hs))=rk a d:=by
 funext x
 by_cases hx:Nm.under (.s a) x=true
 .grind[Nm.qz,Nm.de,G4,Fg,mv,cf,vV,rk,Nm.z7]
 .simp only [kN] at hx;by_cases hv:Nm.under (.u 2 0 0) x=true
  .simp_all
  .simp only [kN] at hv;by_cases hd:Nm.under (.s d) x=true
   .simp_all
   .simp only [kN] at hd;by_cases hw:Nm.under (.u 1 0 0) x=true
    .by_cases e:x=.u 1 0 0
     .simp_all
     .have hi:x.z7=false:=by
       cases x<;>simp_all
      simp_all
    simp_all
section
variable {P:Program} {C:Nat->Prop} {w:World} {g0:Gh} {H:Nm->Option AO} {n:Nat} {gl:Nat->Option (List AV)} {st:St} {K:St->Prop} {E:AV->St->Prop} {d f:Nat} {ty:TypeId} {ps:String} {aft:Array Edge} {gd:Option (Nat×Bool)} {a0 a1:Operand} {Ts:Array TypeId} {bs xs:List Int} {pos:Nat}
def HI (P:Program) (gl:Nat->Option (List AV)) (f:FuncId):Prop:=∀ (H:Nm->Option AO) (bs:List Int) (pos:Nat) (xs:List Int),aA bs->pos<=1000000->(0<xs.length/\xs.length<=1000)->H (.u 1 0 0)=some (jA bs pos)->H (.u 2 0 0)=some (.row 1 (qm xs)) ->
  qV P gl f vV [.pt (.u 1 0 0) 0,.hs (.u 2 0 0) 1 0 xs.length] H (λ_ z H'=>∃ v,z=iv v/\v∈xs/\H' (.u 1 0 0)=some (jA bs (pos+1))) qy
theorem aw {t0 t1:Nat} (hF:HI P gl f) (a:Nat) (xs:List Int) (hb:aA bs) (hpos:pos<=1000000) (hx:0<xs.length/\xs.length<=1000:=by first|(simp;done)|fail) (hV:H (.u 2 0 0)=none) (hd:d<n:=by first|(simp;done)|fail)
  (h0:st.tm t0=.pt (.u 1 0 0) 0) (h1:st.tm t1=.hs (.s a) 1 0 xs.length) (hH:st.hp (.u 1 0 0)=some (jA bs pos)) (hL:st.hp (.s a)=some (.row 1 (qm xs)))
  (h:∀ v,v∈xs->K ((st.l6 a d (jA bs (pos+1))).put (some d) (iv v))) :
  q8 (jb P C w g0 H n gl) ⟨some d,.call ⟨.value (.func f),#[.tmp t0,.tmp t1],Ts⟩,ty,ps,aft,gd⟩ K E st:=by
 have e1:(st.move (.s a) (.u 2 0 0)).hp (.u 1 0 0)=some (jA bs pos):=zb;have e2:(st.move (.s a) (.u 2 0 0)).hp (.u 2 0 0)=some (.row 1 (qm xs)):=dO;have hc:=La (a:=a) (d:=d) (Hs:=ze vV (st.move (.s a) (.u 2 0 0)).hp) zb dO;refine kH (.s a) (.u 2 0 0) (.inl rfl) (.inr rQ) ?_;refine q8.nO (K':=λs=>∃ v H1,v∈xs/\H1 (.u 1 0 0)=some (jA bs (pos+1))/\s=(((st.move (.s a) (.u 2 0 0)).call d vV (ze vV (st.move (.s a) (.u 2 0 0)).hp) H1).put (some d) (iv v))) ?_ ?_
 .refine lh (az:=[.pt (.u 1 0 0) 0,.hs (.u 2 0 0) 1 0 xs.length]) vV (λn h=>bZ h) (λk i j he=>?_) hd ?_ (hF _ bs pos xs hb hpos hx zb dO) ?_
  .simp_all<;>grind
  .simp_all
  simp_all<;>grind
 .rintro s ⟨v,H1,hv,hH1,rfl⟩;refine⟨((st.l6 a d (jA bs (pos+1))).put (some d) (iv v)).hp,λm ob e=>?_,?_⟩
  .simp only [F2,L3] at e
   split at e<;>simp_all[AO.uq]
  .have ht:(((st.move (.s a) (.u 2 0 0)).call d vV (ze vV (st.move (.s a) (.u 2 0 0)).hp) H1).put (some d) (iv v)).tm=((st.l6 a d (jA bs (pos+1))).put (some d) (iv v)).tm:=by
    simp_all[St.put,AV.uq]
   rw [ht];exact h v hv
end
def rn (d:Nat) (m:Nm):Option Nm:=if Nm.under (.s d) m then none else if Nm.under (.u 1 0 0) m then (if m=.u 1 0 0 then some (.u 1 0 0) else none) else some m
def St.l5 (st:St) (d:Nat) (R:AO) (Hn:Nm->Option AO):St :=
 { tm:=λt=>(st.tm t).tr (rn d),
   hp:=λm=>if m=.u 1 0 0 then some R else if Nm.under (.u 1 0 0) m then none else if Nm.under (.s d) m then Hn m else (st.hp m).map (AO.tr (rn d)),
   n:=st.n,gl:=st.gl }
section
variable {st:St} {d t:Nat} {m:Nm} {R:AO} {Hn:Nm->Option AO}
@[simp] theorem rn_eq:rn d m=if Nm.under (.s d) m then none else if Nm.under (.u 1 0 0) m then (if m=.u 1 0 0 then some (.u 1 0 0) else none) else some m:=rfl
@[simp] theorem rdn_tm:(st.l5 d R Hn).tm t=(st.tm t).tr (rn d):=rfl
@[simp] theorem rdn_gl:(st.l5 d R Hn).gl=st.gl:=rfl
@[simp] theorem W8:(st.l5 d R Hn).hp m=if m=.u 1 0 0 then some R else if Nm.under (.u 1 0 0) m then none else if Nm.under (.s d) m then Hn m else (st.hp m).map (AO.tr (rn d)):=rfl
end
theorem Wr {d:Nat} {Hs:Nm->Option AO} (h1:(Hs (.u 1 0 0)).isSome=true):cf d (Nm.under (.u 1 0 0)) Hs=rn d:=by
 funext x
 by_cases hd:Nm.under (.s d) x=true
 .simp [hd]
 .simp only [kN] at hd;by_cases hw:Nm.under (.u 1 0 0) x=true
  .by_cases e:x=.u 1 0 0
   .simp_all
   .have hi:x.z7=false:=by
     cases x<;>simp_all
    simp_all
  simp_all
section
variable {X:Ctx} {st:St} {K:St->Prop} {E:AV->St->Prop} {d f:Nat} {ty:TypeId} {ps:String} {aft:Array Edge} {gd:Option (Nat×Bool)} {args:Array Operand} {Ts:Array TypeId} {az:List AV} {R:Nm->AV->(Nm->Option AO)->Prop} {bs:List Int}
theorem nQ (hd:d<X.n:=by first|(simp;done)|fail) (hs:(st.hp (.u 1 0 0)).isSome=true) (ha:args.toList.map (ev st)=az) (hF:qV X.P X.gl f (Nm.under (.u 1 0 0)) az (vq (.u 1 0 0) st.hp) R qy)
  (h:∀ z H',R (.s d) z H'->∃ pos',H' (.u 1 0 0)=some (jA bs pos')/\K ((st.l5 d (jA bs pos') H').put (some d) z)) :
  q8 X ⟨some d,.call ⟨.value (.func f),args,Ts⟩,ty,ps,aft,gd⟩ K E st:=by
 have hc:=Wr (d:=d) (Hs:=vq (.u 1 0 0) st.hp) qL;refine q8.nO (K':=λs=>∃ z H',R (.s d) z H'/\s=((st.call d (Nm.under (.u 1 0 0)) (vq (.u 1 0 0) st.hp) H').put (some d) z)) ?_ ?_
 .refine ut (.u 1 0 0) rfl (λ_=>qp) hd ha hF λz H' hR=>⟨z,H',hR,rfl⟩
 .rintro s ⟨z,H',hR,rfl⟩;obtain⟨pos',hH,hK⟩:=h z H' hR;refine⟨((st.l5 d (jA bs pos') H').put (some d) z).hp,λm ob e=>?_,?_⟩
  .simp only [F2,W8] at e
   grind[St.call,St.nm,Nm.under,St.put]
  .have ht:((st.call d (Nm.under (.u 1 0 0)) (vq (.u 1 0 0) st.hp) H').put (some d) z).tm=((st.l5 d (jA bs pos') H').put (some d) z).tm:=by
    simp_all[St.put]
   rw [ht];exact hK
def nj {α:Type} (bs:List Int) (V:α->AV) (Q:α->Nat->Prop):Nm->AV->(Nm->Option AO)->Prop:=λ_ z H'=>∃ v pos',z=V v/\Q v pos'/\H' (.u 1 0 0)=some (jA bs pos')
theorem vk {α:Type} {V:α->AV} {Q:α->Nat->Prop} (hd:d<X.n:=by first|(simp;done)|fail) (hs:(st.hp (.u 1 0 0)).isSome=true) (ha:args.toList.map (ev st)=az) (hF:qV X.P X.gl f (Nm.under (.u 1 0 0)) az (vq (.u 1 0 0) st.hp) (nj bs V Q) qy)
  (h:∀ v pos',Q v pos'->K ((st.l5 d (jA bs pos') (λ_=>none)).put (some d) (V v))) :
  q8 X ⟨some d,.call ⟨.value (.func f),args,Ts⟩,ty,ps,aft,gd⟩ K E st:=by
 refine q8.nO (K':=λs=>∃ v pos' H',Q v pos'/\s=((st.l5 d (jA bs pos') H').put (some d) (V v))) ?_ ?_
 .refine nQ (bs:=bs) hd hs ha hF ?_
  grind[nj]
 .rintro s ⟨v,pos',H',hQ,rfl⟩;refine⟨((st.l5 d (jA bs pos') (λ_=>none)).put (some d) (V v)).hp,λm ob e=>?_,h v pos' hQ⟩
  simp_all<;>grind
end
def b9 (L:List qP):List qP:=L.filter λs=>!((s.kind==9)||(s.kind==10))
def dL (k:qT):qT:={ k with body:=b9 k.body }
def cU (p:qC):qC:=p.map dL
theorem HX {L:List qP}:(b9 L).length<=L.length:=List.length_filter_le _ _
theorem Of {L:List qP} {i:Nat} {s:qP} (h:L[i]?=some s):b9 (L.take (i+1))=if ((s.kind==9)||(s.kind==10))=true then b9 (L.take i) else b9 (L.take i)++[s]:=by
 grind[vM,b9]
theorem Og {p:qC} {i:Nat} {k:qT} (h:p[i]?=some k):setBody (af dL p i) i (b9 k.body)=af dL p (i+1):=by
 rw [<- TY (f:=dL) h];have hg:=KJ (f:=dL) h;apply vl
 grind[dL,setBody]
def al (N V m:Nm):Option Nm:=if m=N then some V else if Nm.under V m then none else some m
def St.alias (st:St) (N V:Nm) (t:Nat):St:={ tm:=λt'=>if t'=t then (st.tm t).tr (al N V) else (st.tm t').tr (kl V),hp:=jG V st.hp,n:=st.n,gl:=st.gl }
section
variable {st:St} {N V m:Nm} {t t':Nat}
@[simp] theorem al_eq:al N V m=if m=N then some V else if Nm.under V m then none else some m:=rfl
@[simp] theorem alias_tm:(st.alias N V t).tm t'=if t'=t then (st.tm t).tr (al N V) else (st.tm t').tr (kl V):=rfl
@[simp] theorem alias_gl:(st.alias N V t).gl=st.gl:=rfl
@[simp] theorem alias_hp:(st.alias N V t).hp m=if Nm.under V m then none else (st.hp m).map (AO.tr (kl V)):=rfl
end
theorem Rw.alias {X:Ctx} {st:St} {a:Go.Act} {w:World} (h:Rw X st a w) (N V:Nm) (t:Nat) (hV:X.ext V=false):Rw X (st.alias N V t) a w:=by
 obtain⟨C,g,h1,h2,h3,h4,h5,hg⟩:=h
 let g':Gh:={ C:=g.C,φ:=λm=>if m=V then g.φ N else g.φ m,κ:=λm=>if m=V then g.κ N else g.κ m }
 have hs:=hg.step (g':=g') (w':=w) (f:=kl V) (hp':=jG V st.hp) rfl (λn n' e=>by
  simp_all<;>grind[Nm.uH]) rfl rfl rfl (qX _) (λ_ _=>rfl) (λ_ _ _=>rfl) (λm o e=>by
  obtain⟨o',e1,e2,e3⟩:=BX e
  grind)
 refine⟨C,g',h1,h2,h3,h4,λk i j he=>?_,⟨hs.inv,hs.defers,hs.size,λt'=>?_,hs.zJ⟩⟩
 .have:¬ Nm.u k i j=V:=λe=>qL;simp only [g',this,if_false];exact h5 k i j he
 .by_cases e:t'=t
  .subst e;simp only [St.alias,if_true];refine (hg.cC t').tr (g':=g') (λ_ h=>h) (λ_ _=>rfl) (λn n' e=>?_)
   grind[al,Nm.uH]
  .simp only [St.alias,e,if_false];exact hs.cC t'
section
variable {X:Ctx} {st:St} {K:St->Prop} {E:AV->St->Prop} {o:Oper}
theorem sT (N V:Nm) (t:Nat) (hV:X.ext V=false) (h:q8 X o K E (st.alias N V t)):q8 X o K E st :=
 λa w Q hR hE=>h a w Q (hR.alias N V t hV) hE
end
section
variable {n:Nm} {p:qC} {a d i j k:Nat}
@[simp] theorem pRows_rk (h1:Nm.under (.s a) n=false) (h2:Nm.under (.s d) n=false) (h3:Nm.under (.u 2 0 0) n=false) (h4:Nm.under (.u 1 0 0) n=false):(yX n p).map (λr=>r.map (AV.tr (rk a d)))=yX n p:=kr qL
@[simp] theorem pRows_rn (h2:Nm.under (.s d) n=false) (h4:Nm.under (.u 1 0 0) n=false):(yX n p).map (λr=>r.map (AV.tr (rn d)))=yX n p:=kr qL
@[simp] theorem pRows_klu (h:Nm.under (.u i j k) n=false):(yX n p).map (λr=>r.map (AV.tr (kl (.u i j k))))=yX n p:=kr gZ
end
structure GenP (p:qC):Prop where
 jR:zZ p
 len:1<=p.length/\p.length<=8
 params:∀ k∈p,k.params.length<=2
 body:∀ k∈p,k.body.length<=14
theorem GenP.ft {p:qC} (h:GenP p):uA p:=⟨by grind[len],λk hk=>by have:=h.params k hk;omega,λk hk=>by have:=h.body k hk;omega⟩
theorem GenP.one {k:qT} (h:k.parent=-1) (hp:k.params.length<=2) (hb:k.body.length<=14):GenP [k]:=by
 refine⟨λi q hq=>?_,qB,λq hq=>?_,λq hq=>?_⟩<;>grind
theorem GenP.add {p:qC} {k:qT} (h:GenP p) (hl:p.length<=7) (hp:0<=k.parent/\k.parent<p.length) (h1:k.params.length<=2) (h2:k.body.length<=14):GenP (p++[k]):=by
 refine⟨λi q hq=>?_,qn,λq hq=>?_,λq hq=>?_⟩
 .rw [gK] at hq
  split at hq
  .exact h.jR i q hq
  grind
 .rcases jo.1 hq with hq|hq
  .exact h.params q hq
  simp_all
 .rcases jo.1 hq with hq|hq
  .exact h.body q hq
  simp_all
theorem AB {p:qC} {i:Nat} {L:List qP} {q:qT} (h:q∈setBody p i L):∃ r∈p,q.params=r.params/\(q.body=r.body\/q.body=L):=by
 grind[kB,setBody]
theorem YK {p:qC} {i:Nat} {L:List qP} (h:zZ p):zZ (setBody p i L):=by
 grind[zZ,setBody]
theorem GenP.setBody {p:qC} {i:Nat} {L:List qP} (h:GenP p) (hL:L.length<=14):GenP (setBody p i L):=by
 refine⟨YK h.jR,by simpa using h.len,λq hq=>?_,λq hq=>?_⟩
 .obtain⟨r,hr,h1,_⟩:=AB hq;rw [h1];exact h.params r hr
 .obtain⟨r,hr,_,h2⟩:=AB hq;rcases h2 with h2|h2
  .rw [h2];exact h.body r hr
  simp_all
theorem GenP.bare {p:qC} (h:GenP p):GenP (cU p):=by
 refine⟨λi q hq=>?_,by grind[cU,len],λq hq=>?_,λq hq=>?_⟩
 .simp only [cU,jg] at hq;obtain⟨r,hr,rfl⟩:=zg.1 hq;exact h.jR i r hr
 .obtain⟨r,hr,rfl⟩:=wU.1 hq;exact h.params r hr
 .obtain⟨r,hr,rfl⟩:=wU.1 hq;exact ka HX (h.body r hr)
def HK (bs:List Int) (Q:qC->Nat->Prop):Nm->AV->(Nm->Option AO)->Prop:=λr z H'=>∃ (p:qC) (pos':Nat),z=.agg [.hs r 4 0 p.length]/\uf H' r p/\Q p pos'/\H' (.u 1 0 0)=some (jA bs pos')
end Go.Hm
end
section

end
section

end
section
namespace Go.Hm
open Go Go.RowKit
structure HD (k:qT) (y:Int):Prop where
 rd:y∉pF k.body
 bd:y∉mM k
 d9:y∉ma k 9
 d10:y∉ma k 10
section
variable {k:qT} {x y z:Int} (hx:0<=x/\x<=7) (hy:0<=y/\y<=7) (JS:x≠y) (hf:HD k y)
include hx hy JS hf
end
structure Nw (p:qC) (b:Nat) (x y:Int):Prop where
 sh:z6 p
 made:∀ i,0<i->i<p.length->ae p i=1
 decl:∀ (c:Nat) k,0<c->p[c]?=some k->∀ n:Nat,n<8->w6 p c k n=true
 hb:0<b
 zF:b<p.length
 hx:0<=x/\x<=7
 hy:0<=y/\y<=7
 JS:x≠y
 fn:∀ k,p[b]?=some k->k.kind=1
 loc:∀ k,p[b]?=some k->u7 b k x=true
 free:∀ (c:Nat) k,p[c]?=some k->jS p c b=true->HD k y
theorem progOk_parts {p:qC} (hs:uA p) (h:ye p=true):z6 p/\(∀ i,0<i->i<p.length->ae p i=1)/\(∀ (c:Nat) k,0<c->p[c]?=some k->∀ n:Nat,n<8->w6 p c k n=true):=by
 simp only [ye,jh] at h;refine⟨z6.of hs h.1,(AF h.1).2.2.2.2,λc k h0 hk n hn=>?_⟩
 simp_all<;>grind[aL]
theorem fZ {p:qC} {c b:Int} (h:jS p c b=true):b<=c:=by
 grind[bo]
theorem Rq {p:qC} {b:Nat} {z:Int} (hh:zZ p) (hb:0<b):∀ (n:Nat),n<p.length->jx p z p.length n=b->jS p n b=true:=by
 intro n
 induction n using Nat.strongRecOn with
 | ind n ih =>
  intro hn ho;rcases dJ n with e|e
  .grind[xj]
  .obtain⟨q,hq⟩:=gX hn;rw [lR hh hq e] at ho;obtain⟨g1,g2,g3⟩:=hh n q hq
   have key:jx p z p.length q.parent=b->jS p n b=true:=by
    intro h;have g4:=g3 e;obtain⟨m,hm⟩:∃ m:Nat,q.parent=m:=⟨q.parent.toNat,qA⟩
    grind[eK,bo]
   grind[bo]
theorem JY {p:qC} {b c:Nat} {k:qT} {z:Int} (hh:zZ p) (hb:0<b) (hk:p[c]?=some k) (h0:0<c) (h:outer p c z=b):jS p c b=true:=by
 rw [lT hh hk] at h;obtain⟨g1,g2,g3⟩:=hh c k hk;have g4:=g3 h0;have hc:=(gS hk).1;obtain⟨m,hm⟩:∃ m:Nat,k.parent=m:=⟨k.parent.toNat,qA⟩;have h2:=Rq hh hb m qA (by rw [<- hm];exact h);have h3:=fZ h2
 grind[eK]
theorem E4 {p:qC} {b c:Nat} {k:qT} {z:Int} (hh:zZ p) (hb:0<b) (hk:p[c]?=some k) (h:zA p c z=b):jS p c b=true:=by
 grind[zA,bo,JY]
section
variable {p:qC} {b:Nat} {x y:Int} (H:Nw p b x y)
include H
omit H in
end
end Go.Hm
end
section

end
section
namespace Go.Hm
open Go Go.RowKit Go.ChangeShapes Go.WideShapes Go.Deep
variable {H:Type} {enc:TypeId×Value->H} {P:Program} {w:World}
theorem W4 {t:TypeId} (ht:P.underlying t=some (.int .u8)):Cq enc P w t (λk:Int=>[DE k]) (λk=>0<=k/\k<=255):=by
 intro n cs y h _;obtain⟨k,rfl,_,hw⟩:=DataW.trod_int ht h;refine⟨k,by grind[Lit.wf,IntKind.min,IntKind.max,IntKind.signed,IntKind.bits],rfl,λj v a hv ha=>?_⟩
 cases j with
 | zero =>
  simp at hv ha;subst hv;subst ha;exact⟨.sc _,rfl⟩
 | succ j=>simp at hv
theorem W5 {t e:TypeId} (ht:P.underlying t=some (.slice e)) (he:P.underlying e=some (.int .u8)) (hc:P.cellsOf e=1) (hby:0<P.bytesOf e)
  {r:Reach} {b0:Nat} {v:Value} {d:DataW H} {p:List MemPlace} (hv:Value.okWide P w r b0 t v) (h:DataW.Trod enc P w 0 (λ_=>true) true t v d p) (hw:∀ m∈d.weights P t,m<=reachBytes) :
  ∃ bs:List Int,(bs.length<=1152921504606846976/\∀ x∈bs,0<=x/\x<=255)/\RV (g0 w) w v (tR bs):=by
 obtain⟨a,len,cap,rfl⟩:=okWide_slice ht hv;obtain⟨fuel,hf⟩:=h;obtain⟨x,hx,hl,hr⟩:=W6 (enc:=enc) (w:=w) ht hc qA hby (λ_=>rfl) (W4 he) _ _ _ hf hw;exact⟨x,hx,(hr 0 _ _ rfl rfl).1⟩
end Go.Hm
end
section
namespace Go.Hm
open Go Go.RowKit
def jy (f:Nat->Bool):Nat->List Int
 | 0=>[]
 | n+1=>if f n=true then jy f n++[(n:Int)] else jy f n
theorem ou {f:Nat->Bool} {x:Int}:∀ {n:Nat},x∈jy f n↔∃ m:Nat,m<n/\f m=true/\x=m
 | 0=>by simp [jy]
 | n+1=>by
  simp only [jy]
  split
  .rename_i h;rw [jo,ou (n:=n),yj]
   grind
  .rename_i h;rw [ou (n:=n)]
   grind
theorem sO {f:Nat->Bool} {x n:Nat}:(x:Int)∈jy f n↔x<n/\f x=true:=by
 grind[ou]
theorem Ku {f:Nat->Bool}:∀ n:Nat,(jy f n).length<=n
 | 0=>by simp [jy]
 | n+1=>by
  have:=Ku (f:=f) n
  grind[jy]
theorem FT {f g:Nat->Bool}:∀ {n:Nat},(∀ x,x<n->f x=g x)->jy f n=jy g n
 | 0,_=>rfl
 | n+1,h=>by
  simp only [jy];rw [h n qA,FT (n:=n) λx hx=>h x qA]
theorem GI {l:List Int}:∀ n:Nat,uR l n=jy (λx=>decide ((x:Int)∈l)) n
 | 0=>rfl
 | n+1=>by
  simp only [uR,jy,GI n,decide_eq_true_eq]
theorem Yc {f:Nat->Bool}:sorted (jy f 8)=jy f 8:=by
 grind[sorted,GI,FT,sO]
theorem GK {l l':List Int} (h:∀ x:Nat,x<8->((x:Int)∈l↔(x:Int)∈l')):sorted l=sorted l':=by
 grind[sorted,GI,FT]
def ml (g:Nat->List Int):Nat->List Int
 | 0=>[]
 | n+1=>ml g n++g n
theorem eQ {g:Nat->List Int} {x:Int}:∀ {n:Nat},x∈ml g n↔∃ m:Nat,m<n/\x∈g m
 | 0=>by simp [ml]
 | n+1=>by
  simp only [ml,jo,eQ (n:=n)]
  grind
theorem FJ {p:qC} {x:Int}:∀ (n:Nat) (j:Int),jx p x n j=-1\/0<jx p x n j
 | 0,_=>.inl rfl
 | n+1,j=>by
  simp only [jx]
  split
  .simp
  .rename_i hj
   split
   .simp
   .split
    .exact FJ n _
    .split
     .simp
     .split
      .omega
      .exact FJ n _
theorem lU {p:qC} {c:Nat} {x:Int}:zA p c x=-1\/0<zA p c x:=by
 grind[zA,outer,FJ]
def oe (p:qC) (b c:Nat) (x:Int):Bool:=decide (0<zA p c x)&&decide (zA p c x<b)
def oc (p:qC) (b c:Nat):List Int:=match p[c]? with
 | some k=>if jS p c b=true then k.us.filter (oe p b c) else []
 | none=>[]
def oi (p:qC) (b:Nat):Nat->List Int:=ml λi=>oc p b (b+i)
def jF (p:qC) (b:Nat):List Int:=sorted (oi p b (p.length - b))
def rj (p:qC) (b c:Nat) (x:Int):Bool:=zA p c x==b
def ri (p:qC) (b c:Nat):List Int:=match p[c]? with
 | some k=>k.us.filter (rj p b c)
 | none=>[]
def rl (p:qC) (b:Nat):Nat->List Int:=ml λi=>ri p b (b+1+i)
def zt (p:qC) (b:Nat):Int:=match p[b]? with|some k=>k.kind|none=>-1
def qh (p:qC) (b:Nat):List Int:=if zt p b=1 then sorted (rl p b (p.length - (b+1))) else []
def fV (p:qC) (b:Nat) (x:Nat):Bool:=match p[b]? with
 | some k=>u7 b k x&&!decide ((x:Int)∈qh p b)
 | none=>false
def zK (p:qC) (b:Nat):List Int:=if zt p b=1 then jy (fV p b) 8 else []
def jY (p:qC) (b:Nat) (x:Int):Int :=
 if zA p b x<0 then 0 else if zA p b x≠b then 1 else if zt p b=2 then 2 else if x∈qh p b then 3 else 4
def eG (p:qC) (b:Nat) (x:Int):Int:=if x∈qh p b then vg (qh p b) x else (qh p b).length+vg (jF p b) x
def zy (p:qC) (b:Nat) (x w:Int):Int×Int :=
 if jY p b x=0 then (8+w,x) else if jY p b x=2 then (11+w,x) else if jY p b x=4 then (2+w,vg (zK p b) x) else (5+w,eG p b x)
theorem oh {p:qC} {b:Nat}:(jF p b).length<=8:=CS
theorem xH {p:qC} {b:Nat}:(qh p b).length<=8:=by
 grind[qh,CS]
theorem BO {p:qC} {b:Nat}:(zK p b).length<=8:=by
 grind[zK,Ku]
theorem FX {xs:List Int} {x:Int}:-1<=vg xs x/\vg xs x<=xs.length:=by
 grind[vg,List.findIdx?_eq_some_iff_findIdx_eq]
theorem ZR {p:qC} {b:Nat} {k:qT} {x:Int} (hk:p[b]?=some k) (hk0:b=0↔k.kind=0) (hk2:k.kind=0\/k.kind=1\/k.kind=2) (h:jY p b x=3\/jY p b x=4):k.kind=1:=by
 grind[zt,jY,lU]
def eJ (p:qC) (b c:Nat) (x:Nat):Bool:=match p[c]? with
 | some k=>jS p c b&&decide ((x:Int)∈k.us)&&(zA p c x != -1)&&!jS p (zA p c x) b
 | none=>false
def og (p:qC) (b:Nat):Nat->List Int:=ml λc=>jy (eJ p b c) 8
def eF (p:qC) (b c:Nat) (x:Nat):Bool:=match p[c]? with
 | some k=>(c != b)&&decide ((x:Int)∈k.us)&&(zA p c x==b)
 | none=>false
def oW (p:qC) (b:Nat):Nat->List Int:=ml λc=>jy (eF p b c) 8
theorem Rp {p:qC} (hh:zZ p) {b o:Nat}:∀ c:Nat,c<p.length->jS p c b=true->jS p c o=true->b<=o->jS p o b=true:=by
 intro c
 induction c using Nat.strongRecOn with
 | ind c ih =>
  intro hc h1 h2 hbo;have g2:=fZ h2;by_cases e:o=c
  .simp_all
  .obtain⟨q,hq⟩:=gX hc;obtain⟨a1,a2,a3⟩:=hh c q hq;have a4:=a3 qA;obtain⟨m,hm⟩:∃ m:Nat,q.parent=m:=⟨q.parent.toNat,qA⟩
   grind[eK]
theorem JZ {p:qC} (hh:zZ p) {b c:Nat} {k:qT} {x:Int} (hk:p[c]?=some k) (hi:jS p c b=true) (ho:zA p c x ≠ -1):jS p (zA p c x) b=!decide (zA p c x<b):=by
 rcases lU (p:=p) (c:=c) (x:=x) with h|h
 .omega
 .obtain⟨o,e⟩:∃ o:Nat,zA p c x=o:=⟨(zA p c x).toNat,qA⟩
  grind[E4,bo,Rp]
theorem Qv {p:qC} (hh:zZ p) {b:Nat} (hb:b<p.length):sorted (og p b p.length)=jF p b:=by
 unfold jF;apply GK;intro x hx;unfold og oi;rw [eQ,eQ];constructor
 .rintro⟨c,hc,hm⟩;obtain⟨k,hk⟩:=gX hc;rw [sO] at hm;obtain⟨_,hm⟩:=hm;simp only [eJ,hk,jh,decide_eq_true_eq,bne_iff_ne,ne_eq,bB] at hm;obtain⟨⟨⟨h1,h2⟩,h3⟩,h4⟩:=hm;have hge:=fZ h1;rw [JZ hh hk h1 h3] at h4;refine⟨c - b,qA,?_⟩
  grind[oc,oe,lU]
 .rintro⟨n,hn,hm⟩;have hc:b+n<p.length:=qA;obtain⟨k,hk⟩:=gX hc
  grind[oc,oe,sO,eJ,JZ]
theorem P2 {p:qC} (hh:zZ p) {b:Nat} (h0:0<b) (hb:b<p.length):sorted (oW p b p.length)=sorted (rl p b (p.length - (b+1))):=by
 apply GK;intro x hx;unfold oW rl;rw [eQ,eQ];constructor
 .rintro⟨c,hc,hm⟩;obtain⟨k,hk⟩:=gX hc;rw [sO] at hm;obtain⟨_,hm⟩:=hm;simp only [eF,hk,jh,decide_eq_true_eq,bne_iff_ne,ne_eq,beq_iff_eq] at hm;obtain⟨⟨h1,h2⟩,h3⟩:=hm;have hge:=fZ (E4 hh h0 hk h3);refine⟨c - (b+1),qA,?_⟩
  grind[ri,rj]
 .rintro⟨n,hn,hm⟩;have hc:b+1+n<p.length:=qA;obtain⟨k,hk⟩:=gX hc
  grind[ri,rj,sO,eF]
end Go.Hm
end
section
namespace Go.Hm
open Go Go.RowKit Go.ChangeShapes Go.WideShapes Go.Deep
theorem qM.W2 {P:Program} {gl:Nat->Option (List AV)} {f:FuncId} {az:List AV} {v0:Value} (h:qM P gl f az (λ_ y _=>y=.sc v0)) {W:World} {g:Gh} {args:Array Value} (hC:∀ b,g.C b->b<W.heap.size)
  (hgl:∀ i row,gl i=some row->(RV g W (.pointer (some ⟨i,0,none⟩)) (.el row 0)/\cL W i row)/\∀ f:Nm->Option Nm,row.map (AV.tr f)=row) (hsz:args.size=az.length)
  (hargs:∀ (j:Nat) v x,args[j]?=some v->az[j]?=some x->RV g W v x):Calls P f args W λe W'=>e=.returned v0/\Below W.heap.size W W':=by
 have hinv:Inv (vS g jv) g.C W g jv W:=⟨rfl,rfl,rfl,qX _,λ_ _ _=>rfl,rfl,hC,λ_ _ e=>vQ,λ_ _ _ e=>vQ,λ_ _ _ _ _ e=>vQ⟩;refine (h.2 (.s 0) g.C W g args (λ_ _=>rfl) rfl (λ_ e=>absurd rfl e) hinv hgl hsz hargs).mono λe w' he=>?_
 cases e with
 | returned v =>
  obtain⟨C',g',H',x,hA,hv,rfl⟩:=he;refine⟨by rw [hv.zi],hA.inv.os,hA.inv.tape,hA.inv.output,hA.inv.size,λb hb=>hA.inv.a8 b hb ?_⟩
  grind[vS,jv]
 | panicked ch=>obtain⟨_,_,_,_,_,_,_,_,e⟩:=he;exact e.elim
 | outgrown=>simp_all
theorem W7 {H:Type} {enc:TypeId×Value->H} {P:Program} {w:World} {base:Nat} {spare:Nat->Bool} {held:Bool} {m n g:Nat} {t e:TypeId} {s:String} {cs:Array Value} {l:List Int} {x:List MemPlace}
  (ht:P.underlying t=some (.array n e)) (he:P.underlying e=some (.int .i64)) (hc:P.cellsOf e=1) (hg:P.globalNamed s=some g) (hv:w.var? P s=some cs)
  (h:DataW.trod enc P w base spare held m t cs.toList=some (.agg (l.map λk=>.lit (.int .i64 k)),x)):∀ i k,l[i]?=some k->w.cell? ⟨g,i,none⟩=some (.int .i64 k):=by
 intro i k hk;obtain⟨xs,m1,rfl,hx,hlen,hn,hel⟩:=DataW.trod_array ht h;simp only [Prod.mk.injEq,DataW.agg.injEq] at hx;have hil:i<l.length:=(gS hk).1;have hxl:l.length=xs.length:=by simpa using congrArg List.length hx.1
 obtain⟨y,hy⟩:∃ y,xs[i]?=some y:=⟨_,gE qA⟩;have h0:=hel i qA;rw [hy,hc] at h0;obtain⟨k',e1,e2,_⟩:=DataW.trod_int he h0;have h3:=congrArg (λz=>z[i]?) hx.1;simp only [jg,hk,hy,uX,fC] at h3;rw [e2] at h3;have hkk:k'=k:=qL;subst hkk;rw [World.var?_cell hg hv i];have e3:=congrArg (λz=>z[0]?) e1
 grind
end Go.Hm
end
section
namespace Go.Hm
open Go Go.RowKit
def uE (l:List (Int×Int)):List (List AV):=l.map λo=>[iv o.1,iv o.2]
section
variable {l m:List (Int×Int)} {o:Int×Int} {i:Nat} {f:Nm->Option Nm}
@[simp] theorem orows_len:(uE l).length=l.length:=io
@[simp] theorem orows_getE {h:i<(uE l).length}:(uE l)[i]=[iv (l[i]' qL).1,iv (l[i]' qL).2]:=io
@[simp] theorem orows_tr:(uE l).map (λr=>r.map (AV.tr f))=uE l:=io
@[simp] theorem orows_take:(uE l).take i=uE (l.take i):=io
@[simp] theorem orows_drop:(uE l).drop i=uE (l.drop i):=io
@[simp] theorem orows_app:uE l++uE m=uE (l++m):=io
@[simp] theorem orows_nil:uE []=[]:=rfl
@[simp] theorem orows_cln:(uE l).all (λr=>r.all AV.jE)=true:=io
theorem UY:∀ r∈uE l,r.length=2:=by
 grind[uE]
abbrev xh (l:List (Int×Int)):AV:=.sl 2 (uE l)
theorem Ae {hp:Nm->Option AO} {n:Nm} {len:Nat} (hn:hp n=some (.row 2 (uE l))) (hl:len=l.length):Bw hp zf (.hs n 2 0 len) (xh l):=gU hn oS UY
end
def uG (p:qC) (b:Nat) (s:qP):List (Int×Int):=s.reads.map λx=>zy p b x 0
def jM (s:qP):List (Int×Int) :=
 if s.kind=0 then [(1,s.a)] else if s.kind=2 then [(14,0)] else if s.kind=3 then [(15,s.a)] else if s.kind=4 then [(16,s.a)] else if s.kind=5 then [(17,(s.reads.length:Int) - 1)]
 else if s.kind=6 then [(18,s.b)] else if s.kind=7 then [(19,0)] else if s.kind=8 then [(20,0)] else []
def yP (p:qC) (b:Nat) (s:qP):List (Int×Int):=if s.kind=11 then [zy p b s.to 2] else if 0<=s.kind/\s.kind<=6 then [zy p b s.to 1] else []
def bS (p:qC) (b:Nat) (s:qP):List (Int×Int):=(0,0)::(uG p b s++(jM s++yP p b s))
def vX (p:qC) (b:Nat) (ss:List qP):List (Int×Int):=ss.flatMap (bS p b)
def zm (p:qC) (b:Nat):List (Int×Int):=match p[b]? with|some k=>vX p b k.body|none=>[]
theorem NR (s:qP):(jM s).length<=1:=by
 grind[jM]
theorem YM {p:qC} {b:Nat} {s:qP}:(yP p b s).length<=1:=by
 grind[yP]
theorem Wd {p:qC} {b:Nat} {s:qP}:(uG p b s).length<=2:=by
 grind[qP.pG,uG]
theorem Mj {p:qC} {b:Nat} {s:qP}:(bS p b s).length<=5:=by
 grind[NR,YM,Wd,bS]
theorem Hf {p:qC} {b:Nat}:∀ ss:List qP,(vX p b ss).length<=5 * ss.length
 := by intro x0;induction x0<;>grind[vX,Mj]
theorem PA {p:qC} {b:Nat} {ss:List qP} {i:Nat} {s:qP} (h:ss[i]?=some s):vX p b (ss.take (i+1))=vX p b (ss.take i)++bS p b s:=by
 grind[vM,vX]
def uc (l:List (Int×Int)):Nat:=l.countP λo=>o.1==0
theorem Zp {l m:List (Int×Int)}:uc (l++m)=uc l+uc m:=by simp [uc]
theorem fg {xs:List Int} {x:Int} (h:x∈xs):∃ i:Nat,vg xs x=i/\i<xs.length/\xs[i]?=some x:=by
 have h0:=sW.2 h
 grind[vg,pW]
theorem U5 {p:qC} {x:Int} {b:Nat}:∀ (n:Nat) (j:Int),jx p x n j=b->∃ k,p[b]?=some k/\u7 b k x=true/\x∉k.dc 9
 := by intro x0;induction x0<;>grind[jx]
theorem FN {p:qC} {x:Int} {b c:Nat} (h:zA p c x=b):∃ k,p[b]?=some k/\u7 b k x=true/\x∉k.dc 9:=by
 grind[zA,outer,U5]
theorem Kl {p:qC} {x:Int} {b:Nat} {k:qT} (hk:p[b]?=some k) (hl:u7 b k x=true) (hd:x∉k.dc 9):zA p b x=b:=by
 grind[u7,zA]
theorem FI {p:qC} {x:Int} (hh:zZ p):∀ (n:Nat) (j:Int),jx p x n j=-1\/jx p x n j<=j
 | 0,_=>.inl rfl
 | n+1,j=>by
  simp only [jx]
  split
  .simp
  .split
   .simp
   .rename_i q hq;have h1:=(hh _ q hq).2.1;have ih:=FI hh (x:=x) n q.parent;omega
theorem Ub {p:qC} {x:Int} {b:Nat} {k:qT} (hh:zZ p) (hk:p[b]?=some k) (h:zA p b x≠b):zA p b x<b:=by
 grind[zA,outer,FI,zZ]
theorem ZQ {p:qC} {b:Nat} {x:Int}:0<=jY p b x/\jY p b x<=4:=by
 grind[jY]
theorem ZS {p:qC} {b:Nat} {x:Int} (h:jY p b x=3):x∈qh p b:=by
 grind[jY]
theorem GS {p:qC} {b:Nat} {k:qT} {x:Int} (hp:z6 p) (hk:p[b]?=some k) (hx:0<=x/\x<=7) (h:jY p b x=4):x∈zK p b:=by
 have hka:zt p b=k.kind:=ge;unfold jY at h
 split at h
 .omega
 .rename_i h1
  split at h
  .omega
  .rename_i h2
   split at h
   .omega
   .rename_i h3
    split at h
    .omega
    .rename_i h4;have ho:zA p b x=b:=qA
     have hb:0<b:=by
      grind[lU]
     obtain⟨k',hk',hl,_⟩:=FN ho;obtain rfl:k=k':=sI (hk.symm.trans hk');have hhd:=hp.head b k hk;unfold uU at hhd;rw [if_neg qA] at hhd;have hk1:zt p b=1:=qA;unfold zK;rw [if_pos hk1,ou];refine⟨x.toNat,qA,?_,qA⟩
     grind[fV]
theorem GT {p:qC} {b:Nat} {k:qT} {x:Int} (hp:z6 p) (hk:p[b]?=some k) (hu:x∈k.us) (h:jY p b x=1):x∈jF p b/\x∉qh p b:=by
 have zF:=(gS hk).1
 have hx:0<=x/\x<=7:=by
  grind[qT.us,mem_sorted]
 unfold jY at h
 split at h
 .omega
 .rename_i h1
  split at h
  rotate_left
  .omega
  .rename_i h2
   have hpos:0<zA p b x:=by
    grind[lU]
   have hlt:=Ub hp.jR hk h2;refine⟨?_,λhc=>h2 ?_⟩
   .unfold jF oi;rw [mem_sorted,eQ];refine⟨⟨0,qA,?_⟩,hx⟩
    grind[oc,oe,bo]
   .unfold qh at hc
    split at hc
    .unfold rl at hc
     grind[mem_sorted,eQ,ri,rj,FN,Kl]
    .cases hc
theorem Et {p:qC} {b:Nat} {k:qT} {x w:Int} (hp:z6 p) (hk:p[b]?=some k) (hu:x∈k.us) :
  (jY p b x=0/\zy p b x w=(8+w,x))\/(jY p b x=2/\zy p b x w=(11+w,x)) \/
  (jY p b x=4/\∃ i:Nat,zy p b x w=(2+w,(i:Int))/\i<(zK p b).length/\(zK p b)[i]?=some x) \/
  (jY p b x=3/\∃ i:Nat,zy p b x w=(5+w,(i:Int))/\i<(qh p b).length/\(qh p b++jF p b)[i]?=some x) \/
  (jY p b x=1/\∃ i:Nat,zy p b x w=(5+w,(((qh p b).length+i:Nat):Int))/\i<(jF p b).length/\(qh p b++jF p b)[(qh p b).length+i]?=some x):=by
 have hx:0<=x/\x<=7:=by
  grind[qT.us,mem_sorted]
 obtain⟨s0,s4⟩:=ZQ (p:=p) (b:=b) (x:=x);by_cases e0:jY p b x=0
 .grind[zy]
 by_cases e2:jY p b x=2
 .grind[zy]
 by_cases e4:jY p b x=4
 .simp_all[fg,GS,zy]
 by_cases e3:jY p b x=3
 .grind[ZS,fg,zy,eG]
 have e1:jY p b x=1:=qA
 simp_all[GT,fg,zy,eG,kD]
theorem Es {p:qC} {b:Nat} {x w:Int} (hw:0<=w):2<=(zy p b x w).1:=by
 grind[zy]
theorem Ff {k:qT} {s:qP} {x:Int} (hn:lu k) (hs:s∈k.body) (hx:x∈s.reads):x∈k.us:=by
 have h1:=hn.reads s hs x hx
 grind[qT.us,mem_sorted,qT.rd,pF,qP.reads]
theorem GY {k:qT} {s:qP} (hn:lu k) (hs:s∈k.body) (h:s.cu\/s.kind=11):s.to∈k.us:=by
 have h1:=hn.zN s hs
 grind[qT.us,mem_sorted,qT.bd,mM]
theorem Zs {l:List (Int×Int)} (h:∀ o∈l,0<o.1):uc l=0:=by
 grind[uc]
theorem ZC {p:qC} {b:Nat} {s:qP}:∀ o∈uG p b s++(jM s++yP p b s),0<o.1:=by
 intro o ho;simp only [jo] at ho;rcases ho with ho|ho|ho
 .simp only [uG,wU] at ho;obtain⟨x,_,rfl⟩:=ho;have:=Es (p:=p) (b:=b) (x:=x) (w:=0) qc;omega
 .grind[jM]
 .unfold yP at ho
  split at ho
  .obtain rfl:=yj.1 ho;have:=Es (p:=p) (b:=b) (x:=s.to) (w:=2) qc;omega
  .split at ho
   .obtain rfl:=yj.1 ho;have:=Es (p:=p) (b:=b) (x:=s.to) (w:=1) qc;omega
   .cases ho
theorem Zr {p:qC} {b:Nat} {s:qP}:uc (bS p b s)=1:=by
 have h:=Zs (ZC (p:=p) (b:=b) (s:=s))
 grind[uc,bS]
theorem Mz {p:qC} {b:Nat}:∀ ss:List qP,uc (vX p b ss)=ss.length
 | []=>rfl
 | s::l=>by
  have h:=Mz (p:=p) (b:=b) l
  grind[vX,Zp,Zr]
end Go.Hm
end
