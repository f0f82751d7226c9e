import Derived.Test.YtjgpejikjhojcaaGreatDoorR07
import Derived.Below
set_option linter.unusedSimpArgs false
set_option linter.unusedVariables false
set_option maxRecDepth 100000
set_option maxHeartbeats 4000000

section
namespace Go.Hm
open Go Go.RowKit
def bG (p:qC) (i:Nat) (L:List q8):qC:=p.modify i (λk=>{ k with body:=L })
@[simp] theorem Mb {p:qC} {i:Nat} {L:List q8}:(bG p i L).length=p.length:=by simp [bG]
theorem GR {p:qC} {i j:Nat} {L:List q8} {k:qX} (h:p[j]?=some k):(bG p i L)[j]?=some (if i=j then { k with body:=L } else k):=by
 grind[bG]
theorem LY {n:Nm} {a i len:Nat} {p:qC} {L:List q8} (hl:len=L.length) (hn:Nm.under (.s a) n=false) (hn':Nm.under (.c n i 3) n=false) :
  (j3 (vX n p) i 3 [.hs (.s a) 4 0 len]).map (λr=>r.map (AV.tr (mv (.s a) (.c n i 3))))=vX n (bG p i L):=by
 subst hl;apply y6;intro j;simp only [j3,jZ,fE,F7]
 cases hx:p[j]? with
 | none =>
  simp_all
 | some x =>
  rw [GR hx];by_cases e:i=j
  .simp_all
  simp_all<;>grind
theorem OW {X:Ctx} {st:St} {K:St->Prop} {ds:List (Option Nat)} {l:List Oper} {i j e:Nat} {want t:Bool} {r:qV} {dst:Option Nat} {op:Op} {ty:TypeId} {pos:String} {aft:Array Edge} (_ho:l[i]?=some ⟨dst,op,ty,pos,aft,some (j,want)⟩) (_hj:ds[j]?=some (some e)) (ht:st.tm e=.sc (.bool t))
  (h1:t=true->zi X l ds K (.q i r) (st.put (some e) (.sc (.bool true)))) (h2:t=false->zi X l ds K (.q i r) (st.put (some e) (.sc (.bool false)))):zi X l ds K (.q i r) st:=OX e ht h1 h2
theorem qd:Nm.under (.s 0) (.s 0)=true:=Nm.kj _
theorem qz {x y:Int}:(x != y)=!(x==y):=rfl
section
variable {X:Ctx} {st:St} {K:St->Prop} {E:AV->St->Prop} {ds:List (Option Nat)} {l:List Oper}
variable {d:Nat} {ty:TypeId} {pos:String} {aft:Array Edge} {g:Option (Nat×Bool)} {st' st1:St}
theorem we {op:Op} {z:AV} (hd:d<X.n:=by first|(simp;done)|fail) (hz:yk X.P st ⟨some d,op,ty,pos,aft,g⟩=some z:=by simp [fx];first|done|rfl|exact (ve _).symm) (h:K (st.put (some d) z)):qn X ⟨some d,op,ty,pos,aft,g⟩ K E st:=UW hd hz h
theorem ag {x:Operand} (hd:d<X.n:=by first|(simp;done)|fail) (hs:oY X.P ty d (ev st x) st=st':=by simp [fx];first|done|rfl|exact (ve _).symm) (h:K st'):qn X ⟨some d,.assign x,ty,pos,aft,g⟩ K E st:=UR hd hs h
theorem dk {T:TypeId} {x:Operand} {cs:List AV} (hd:d<X.n:=by first|(simp;done)|fail) (hq:(ev st x).cells=some cs:=by simp [fx];first|done|rfl|exact (ve _).symm) (hz:cs.length=qf X.P T:=by first|(simp [fx];done)|fail)
  (hs:bZ X.P T d cs st=st':=by simp [fx];first|done|rfl|exact (ve _).symm) (h:K st'):qn X ⟨some d,.box T x,ty,pos,aft,g⟩ K E st:=US hd hq hz hs h
theorem iX {T:TypeId} {zs:List AV} (hd:d<X.n:=by first|(simp;done)|fail) (hq:jx X.P T=some zs:=by simp [fx];first|done|rfl|exact (ve _).symm) (hs:bZ X.P T d zs st=st':=by simp [fx];first|done|rfl|exact (ve _).symm) (h:K st'):qn X ⟨some d,.alloc T,ty,pos,aft,g⟩ K E st:=UN hd hq hs h
theorem iY {T:TypeId} {p x:Operand} {n:Nm} {z i off:Nat} {v0:List AV} {rows:List (List AV)} (hT:(X.P.info? T).isSome=true:=by first|(simp [fx];done)|fail) (hv0:(ev st x).cells=some v0:=by simp [fx];first|done|rfl|exact (ve _).symm)
  (hnil:v0.all (λx=>!jV x)=true:=by first|(simp [fx];done)|fail) (hlen:v0.length=qf X.P T:=by first|(simp [fx];done)|fail)
  (hp:pl (ev st p)=some (n,i,off):=by simp [fx];first|done|rfl|exact⟨rfl,rfl⟩|exact⟨rfl,rfl,rfl⟩) (hrows:iN st (ev st p)=some (z,rows):=by simp [fx];first|done|rfl|exact⟨rfl,rfl⟩|exact⟨rfl,rfl,rfl⟩)
  (hi:i<rows.length:=by first|(simp [fx];done)|(simp [fx];omega)|omega) (hoff:off+v0.length<=z:=by first|(simp [fx];done)|(simp [fx];omega)|omega)
  (hs:canon (kK (λj=>.c n i (off+j)) 0 v0) (st.zT n (.row z (j3 rows i off v0)))=st':=by simp [fx];first|done|rfl|exact (ve _).symm) (h:K st') :
  qn X ⟨none,.store T p x,ty,pos,aft,g⟩ K E st:=UZ hT hv0 hnil hlen hp hrows hi hoff hs h
theorem lr {T:TypeId} {p x:Operand} {n:Nm} {z i off:Nat} {v0 v1:List AV} {rows:List (List AV)} (hT:(X.P.info? T).isSome=true:=by first|(simp [fx];done)|fail) (hv0:(ev st x).cells=some v0:=by simp [fx];first|done|rfl|exact (ve _).symm)
  (hlen:v0.length=qf X.P T:=by first|(simp [fx];done)|fail)
  (hp:pl (ev st p)=some (n,i,off):=by simp [fx];first|done|rfl|exact⟨rfl,rfl⟩|exact⟨rfl,rfl,rfl⟩) (hk:wE X.P T n i off v0 st=st1:=by simp [fx];first|done|rfl|exact (ve _).symm)
  (hp1:pl (ev st1 p)=some (n,i,off):=by simp [fx];first|done|rfl|exact⟨rfl,rfl⟩|exact⟨rfl,rfl,rfl⟩) (hv1:(ev st1 x).cells=some v1:=by simp [fx];first|done|rfl|exact (ve _).symm)
  (hsame:v1.map jV=v0.map jV:=by first|(simp [fx];done)|fail) (hrows:iN st1 (ev st1 p)=some (z,rows):=by simp [fx];first|done|rfl|exact⟨rfl,rfl⟩|exact⟨rfl,rfl,rfl⟩)
  (hi:i<rows.length:=by first|(simp [fx];done)|(simp [fx];omega)|omega) (hoff:off+v1.length<=z:=by first|(simp [fx];done)|(simp [fx];omega)|omega)
  (hs:ll n z i off rows (iR X.P T n i off v1) st1=st':=by simp [fx];first|done|rfl|exact (ve _).symm) (h:K st'):qn X ⟨none,.store T p x,ty,pos,aft,g⟩ K E st:=UY hT hv0 hlen hp hk hp1 hv1 hsame hrows hi hoff hs h
theorem dH {T F:TypeId} {s x:Operand} {z:Nat} {rows2:List (List AV)} (hd:d<X.n:=by first|(simp;done)|fail) (hT:yQ X.P T=some F:=by simp [fx];first|done|rfl) (hz:qf X.P F=z:=by simp [fx];first|done|rfl) (hs:ev st s=.sc (.slice none 0 0):=by first|(simp [fx];done)|fail)
  (hx:bH st z (ev st x)=some rows2:=by simp [fx];first|done|rfl) (hlen:rows2.length<=4294967296:=by first|(simp [fx];done)|(simp [fx];omega)|omega)
  (hq:wH d z rows2.length none rows2 st=st':=by simp [fx];first|done|rfl|exact (ve _).symm) (h:K st'):qn X ⟨some d,.call ⟨.builtin .append,#[s,x],#[T,T]⟩,ty,pos,aft,g⟩ K E st:=UP hd hT hz hs hx hlen hq h
theorem bP {T F:TypeId} {s x:Operand} {z len:Nat} {n:Nm} {rows0 rows2:List (List AV)} (hd:d<X.n:=by first|(simp;done)|fail) (hT:yQ X.P T=some F:=by simp [fx];first|done|rfl) (hz:qf X.P F=z:=by simp [fx];first|done|rfl) (hs:ev st s=.hs n z 0 len:=by simp [fx];first|done|rfl|exact⟨rfl,rfl⟩|exact⟨rfl,rfl,rfl⟩)
  (hn:st.hp n=some (.row z rows0):=by simp [fx];first|done|rfl) (hle:len<=rows0.length:=by first|(simp [fx];done)|(simp [fx];omega)|omega)
  (hx:bH st z (ev st x)=some rows2:=by simp [fx];first|done|rfl) (hlen:len+rows2.length<=4294967296:=by first|(simp [fx];done)|(simp [fx];omega)|omega)
  (hq:wH d z (len+rows2.length) (some n) (rows0.take len++rows2) st=st':=by simp [fx];first|done|rfl|exact (ve _).symm) (h:K st'):qn X ⟨some d,.call ⟨.builtin .append,#[s,x],#[T,T]⟩,ty,pos,aft,g⟩ K E st:=UO hd hT hz hs hn hle hx hlen hq h
theorem lq {T F:TypeId} {x y:Operand} {ln z:Nat} {k k':IntKind} {zv:List AV} (hd:d<X.n:=by first|(simp;done)|fail) (hx:ev st x=.sc (.int k ln):=by simp [fx];first|done|rfl|exact⟨rfl,rfl⟩) (hy:ev st y=.sc (.int k' ln):=by simp [fx];first|done|rfl|exact⟨rfl,rfl⟩)
  (hE:yQ X.P T=some F:=by simp [fx];first|done|rfl) (hz:qf X.P F=z:=by simp [fx];first|done|rfl) (hzv:jx X.P F=some zv:=by simp [fx];first|done|rfl) (hl:ln<=4294967296:=by first|(simp [fx];done)|(simp [fx];omega)|omega)
  (hq:AE d z ln zv st=st':=by simp [fx];first|done|rfl|exact (ve _).symm) (h:K st'):qn X ⟨some d,.makeSlice T x y,ty,pos,aft,g⟩ K E st:=UV hd hx hy hE hz hzv hl hq h
theorem dI {T F:TypeId} {len z:Nat} {parts:Array (Nat×Operand)} {rows:List (List AV)} (hd:d<X.n:=by first|(simp;done)|fail) (hE:yQ X.P T=some F:=by simp [fx];first|done|rfl) (hz:qf X.P F=z:=by simp [fx];first|done|rfl) (hrows:iO st parts.toList=some rows:=by simp [fx];first|done|rfl)
  (c1:parts.toList.map (·.1)=List.range len:=by decide) (c2:len * z<=16777216:=by decide) (c3:rows.all (λr=>r.length==z)=true:=by first|(simp [fx];done)|fail)
  (hs:iu X.P F d z rows st=st':=by simp [fx];first|done|rfl|exact (ve _).symm) (h:K st'):qn X ⟨some d,.buildSlice T len parts,ty,pos,aft,g⟩ K E st:=UT hd hE hz hrows c1 c2 c3 hs h
section
variable {f:Nat} {args:Array Operand} {Ts:Array TypeId} {az avs:List AV}
theorem zH {x:AV} (hd:d<X.n:=by first|(simp;done)|fail) (ha:args.toList.map (ev st)=avs:=by simp [fx];first|done|rfl|exact (ve _).symm)
  (hB:aP st.hp zn avs az:=by
    first
    | ((repeat' (first|exact .nil|refine .cons ?_ ?_|exact .refl _|exact dR wx wq|exact gb wx wq rW));done)
    | fail)
  (hF:qM X.P X.gl f az (λ_ y _=>y=x)) (hc:x.jU=true:=by first|(simp [fx];done)|fail) (h:K ((st.kill (.s d)).put (some d) x)) :
  qn X ⟨some d,.call ⟨.value (.func f),args,Ts⟩,ty,pos,aft,g⟩ K E st:=LF hd ha hB hF hc h
theorem wW {z n:Nat} {rows:List (List AV)} (hd:d<X.n:=by first|(simp;done)|fail) (ha:args.toList.map (ev st)=avs:=by simp [fx];first|done|rfl|exact (ve _).symm)
  (hB:aP st.hp zn avs az:=by
    first
    | ((repeat' (first|exact .nil|refine .cons ?_ ?_|exact .refl _|exact dR wx wq|exact gb wx wq rW));done)
    | fail)
  (hF:qM X.P X.gl f az (λr y H'=>y=.hs r z 0 n/\H' r=some (.row z rows))) (hc:rows.all (λr=>r.all AV.jU)=true:=by first|(simp;done)|fail)
  (h:K (((st.kill (.s d)).zT (.s d) (.row z rows)).put (some d) (.hs (.s d) z 0 n))):qn X ⟨some d,.call ⟨.value (.func f),args,Ts⟩,ty,pos,aft,g⟩ K E st:=LG hd ha hB hF hc h
end
end
section
variable {X:Ctx} {st:St} {K:St->Prop} {E:AV->St->Prop} {ds:List (Option Nat)} {l:List Oper} {dst:Option Nat} {op:Op} {ty:TypeId} {pos:String} {aft:Array Edge} {i j e:Nat} {want:Bool} {v:AV}
theorem lp (hj:ds[j]?=some (some e):=by rfl) (ht:st.tm e=v:=by simp [fx];first|done|rfl|exact (ve _).symm) (h:Gx X ds K E l st dst op ty pos aft j want e v):yE X ds K E (⟨dst,op,ty,pos,aft,some (j,want)⟩::l) st:=Yj hj ht h
theorem nw (hn:∀ e,dst=some e->e<X.n:=by first|(simp;done)|fail) (h:yE X ds K E l (st.put dst (.sc undef))):Gx X ds K E l st dst op ty pos aft j true e (.sc (.bool false)):=Rs hn h
theorem nu (hn:∀ e,dst=some e->e<X.n:=by first|(simp;done)|fail) (h:yE X ds K E l (st.put dst (.sc undef))):Gx X ds K E l st dst op ty pos aft j false e (.sc (.bool true)):=Rq hn h
theorem ny (hn:∀ e,dst=some e->e<X.n:=by first|(simp;done)|fail) (h:yE X ds K E l (st.put dst (.sc undef))):Gx X ds K E l st dst op ty pos aft j want e (.sc undef):=Rt hn h
theorem bz {c:Operand} {x y:Code} {Q:Ex->St->Prop} (ht:ev st c=.sc (.bool true):=by first|(simp [fx];done)|fail) (h1:jD X x Q st):jD X (.cond c x y) Q st:=qBK h1 ht
theorem dJ {c:Operand} {x y:Code} {Q:Ex->St->Prop} (ht:ev st c=.sc (.bool false):=by first|(simp [fx];done)|fail) (h1:jD X y Q st):jD X (.cond c x y) Q st:=qBJ h1 ht
theorem vb {c:Nat} {x y:Code} {Q:Ex->St->Prop} {t:Bool} (ht:st.tm c=.sc (.bool t):=by simp [fx];first|done|rfl|exact (ve _).symm) (h1:t=true->jD X x Q (st.put (some c) (.sc (.bool true)))) (h2:t=false->jD X y Q (st.put (some c) (.sc (.bool false)))):jD X (.cond (.tmp c) x y) Q st:=vC ht h1 h2
theorem lu {d:Nat} {r:qV} {z:AV} (ho:l[i]?=some ⟨some d,op,ty,pos,aft,none⟩:=by rfl) (hd:d<X.n:=by first|(simp;done)|fail) (hz:yk X.P st ⟨some d,op,ty,pos,aft,none⟩=some z:=by simp [fx];first|done|rfl|exact (ve _).symm) (h:zi X l ds K r (st.put (some d) z)):zi X l ds K (.q i r) st:=OY ho hd hz h
theorem pu {d:Nat} {r:qV} {z:AV} (ho:l[i]?=some ⟨some d,op,ty,pos,aft,some (j,want)⟩:=by rfl) (hj:ds[j]?=some (some e):=by rfl) (ht:st.tm e=.sc (.bool want):=by first|(simp [fx];done)|fail) (hd:d<X.n:=by first|(simp;done)|fail)
  (hz:yk X.P st ⟨some d,op,ty,pos,aft,some (j,want)⟩=some z:=by simp [fx];first|done|rfl|exact (ve _).symm) (h:zi X l ds K r (st.put (some d) z)):zi X l ds K (.q i r) st:=O0 ho hj ht hd hz h
theorem pr {d:Nat} {r:qV} (ho:l[i]?=some ⟨some d,op,ty,pos,aft,some (j,want)⟩:=by rfl) (hj:ds[j]?=some (some e):=by rfl) (ht:st.tm e=.sc (.bool (!want)):=by first|(simp [fx];done)|fail) (hd:d<X.n:=by first|(simp;done)|fail)
  (h:zi X l ds K r (st.put (some d) (.sc undef))):zi X l ds K (.q i r) st:=OZ ho hj ht hd h
theorem pw {d:Nat} {r:qV} (ho:l[i]?=some ⟨some d,op,ty,pos,aft,some (j,want)⟩:=by rfl) (hj:ds[j]?=some (some e):=by rfl) (ht:st.tm e=.sc undef:=by first|(simp [fx];done)|fail) (hd:d<X.n:=by first|(simp;done)|fail)
  (h:zi X l ds K r (st.put (some d) (.sc undef))):zi X l ds K (.q i r) st:=O1 ho hj ht hd h
theorem pq {t:Bool} {r:qV} (ho:l[i]?=some ⟨dst,op,ty,pos,aft,some (j,want)⟩:=by rfl) (hj:ds[j]?=some (some e):=by rfl) (ht:st.tm e=.sc (.bool t):=by simp [fx];first|done|rfl|exact (ve _).symm)
  (h1:t=true->zi X l ds K (.q i r) (st.put (some e) (.sc (.bool true)))) (h2:t=false->zi X l ds K (.q i r) (st.put (some e) (.sc (.bool false)))):zi X l ds K (.q i r) st:=OW ho hj ht h1 h2
theorem iZ {q:Nat} {ps:List Nat} {o:Oper} (ho:l[q]?=some o:=by rfl) (h1:nj X ds o st:=by first|(simp [nj,fx];done)|(simp [nj,undef,fx];done)|fail) (h2:uX X l ds ps st):uX X l ds (q::ps) st:=Zo ho h1 h2
end
def aX (ss:List q8) (b:Int):Nat:=(ss.filter (λs=>eR s b)).length
def bm (p:qC) (b:Int):Nat->Nat
 | 0=>0
 | n+1=>bm p b n+(match p[n]? with|some q=>aX q.body b|none=>0)
theorem Kk (ss:List q8) (b:Int):aX ss b<=ss.length:=List.length_filter_le _ _
theorem FN {ss:List q8} {b:Int} {j:Nat} {s:q8} (h:ss[j]?=some s):aX (ss.take (j+1)) b=aX (ss.take j) b+(if eR s b then 1 else 0):=by
 simp only [aX];rw [iT h]
 grind
theorem Tj {p:qC} {b:Int} {m:Nat} (h:∀ q∈p,q.body.length<=m):∀ n,bm p b n<=n * m
 := by intro x0;induction x0<;>grind[bm,Kk]
def wP (p:qC) (ss:List q8) (n:Nat):List Int:=(List.range 7).map (λk:Nat=>((bm p k n+aX ss k:Nat):Int))
theorem Kc {p:qC} {ss:List q8} {n k:Nat} (h:k<7):(wP p ss n)[k]?=some ((bm p k n+aX ss k:Nat):Int):=by
 simp [wP,h]
theorem Tg {p:qC} {ss:List q8} {n j k:Nat} {s:q8} (hs:ss[j]?=some s) (hk:s.a=k) (hm:s.kind=3\/s.kind=4) (h7:k<7) :
  (wP p (ss.take j) n).set k (((bm p k n+aX (ss.take j) k:Nat):Int)+1)=wP p (ss.take (j+1)) n:=by
 apply y6;intro i;simp only [wP,dt,List.length_map,List.length_range,jZ];by_cases hi:k=i
 .subst hi;have:eR s k=true:=by grind[eR]
  grind[FN]
 .rw [if_neg hi];by_cases h:i<7
  .have:eR s i=false:=by
    grind[eR]
   grind[FN]
  .simp [h]
theorem Th {p:qC} {ss:List q8} {n j:Nat} {s:q8} (hs:ss[j]?=some s) (hm:¬ (s.kind=3\/s.kind=4)):wP p (ss.take (j+1)) n=wP p (ss.take j) n:=by
 simp_all[wP,eR,FN]
theorem Tf {p:qC} {n:Nat} {q:qX} (h:p[n]?=some q):wP p q.body n=wP p [] (n+1):=by
 grind[wP,bm,aX]
theorem Kd {p:qC} {b:Nat} {k:qX} (hp:zj p) (hk:p[b]?=some k) (hv:∀ (i:Nat) q,p[i]?=some q->∀ s∈q.body,zt p i q s=true) (hpar:0<=k.parent):∀ n,n<=p.length->(bm p b n:Int)=if k.parent<n then aW p b else 0
 | 0,_=>by grind[bm]
 | n+1,hn=>by
  have ih:=Kd hp hk hv hpar n qA;obtain⟨q,hq⟩:∃ q,p[n]?=some q:=⟨_,gE qA⟩;simp only [bm,hq];by_cases e:k.parent=n
  .grind[aW,aX]
  .have h0:aX q.body b=0:=by
    simp only [aX,List.length_eq_zero_iff,List.filter_eq_nil_iff]
    grind[eR,bC,uR,zt]
   omega
theorem Ti {p:qC} {b:Nat} {k:qX} (hp:zj p) (hk:p[b]?=some k) (hv:∀ (i:Nat) q,p[i]?=some q->∀ s∈q.body,zt p i q s=true) (hpar:0<=k.parent):(bm p b p.length:Int)=aW p b:=by
 have hb:=(gS hk).1;have:=(hp b k hk).2.1;rw [Kd hp hk hv hpar _ (qa _),if_pos qA]
@[simp] theorem tr_comp_iv {f:Nm->Option Nm}:AV.tr f∘iv=iv:=rfl
theorem S2 {A:List Int} {a:Nat} {v:Int} (h:a<A.length):(A.map iv).take a++iv v::(A.map iv).drop (a+1)=(A.set a v).map iv:=by
 simp_all[List.set_eq_take_append_cons_drop]
def zY (l:List Int):List AV:=(List.range 8).map (λx:Nat=>bv (decide ((x:Int)∈l)))
section
variable {l l':List Int} {f:Nm->Option Nm} {x:Nat}
@[simp] theorem bset_len:(zY l).length=8:=rb
theorem tq (h:x<8):(zY l)[x]?=some (bv (decide ((x:Int)∈l))):=by simp [zY,h]
@[simp] theorem bset_map:(zY l).map (AV.tr f)=zY l:=rb
@[simp] theorem bset_take:(zY l).take 8=zY l:=yG qB
@[simp] theorem bset_one:(zY l).all AV.one=true:=rb
@[simp] theorem bset_cln:(zY l).all AV.jU=true:=rb
@[simp] theorem Hy:(zY l).all (λx=>!jV x)=true:=rb
theorem Lb {key:Nat->Nm}:∀ {v:List AV} {j:Nat},(∀ x∈v,uO x=none)->kK key j v=[]
 := by intro x0;induction x0<;>simp_all
@[simp] theorem bset_prs {key:Nat->Nm} {j:Nat}:kK key j (zY l)=[]:=Lb rb
@[simp] theorem bset_nk {key:Nat->Nm} {es:List Nat} {j:Nat}:vG key es j (zY l)=[]:=Ku Hy
@[simp] theorem bset_zcs {key:Nat->Nm} {es:List Nat} {j:Nat}:yu key es j (zY l)=zY l:=OF Hy
theorem PV (h:∀ x:Int,0<=x->x<=7->(x∈l↔x∈l')):zY l=zY l':=by
 grind[zY,mH]
theorem BG:zY (sorted l)=zY l:=PV λx h1 h2=>by grind[mem_sorted]
theorem mQ {y:Int} (hy:y=x) (h:x<8):(zY l).take x++bv true::(zY l).drop (x+1)=zY (l++[y]):=by
 subst hy;apply y6
 grind[zY]
end
section
variable {X:Ctx} {st:St} {K:St->Prop} {E:AV->St->Prop}
theorem Yy {o:Oper} {f:FuncId} {az avs:List AV} {R:Nm->AV->(Nm->Option AO)->Prop} {d:Nat} (hEnt:tV X.P st o f avs) (hd:o.dst=some d) (hn:d<X.n) (hF:qM X.P X.gl f az R)
  (hB:aP st.hp zn avs az) (hK:∀ x H',R (.s d) x H'->K ((st.call d zn yP (vh H')).put (some d) (lv x))):qn X o K E st:=by
 refine lH (D:=zn) (H:=yP) (R:=R) hF hEnt true hB (λ_ _=>rfl) (λn h=>kR) (λn h=>absurd rfl h) (λk i j _=>.inl rfl) (λe he=>qP) ?_ (λ_ _ h=>h.elim)
 simp_all
def HQ (P:Program) (gl:Nat->Option (List AV)) (name:String) (x:AV) (R:Nm->AV->(Nm->Option AO)->Prop):Prop:=∃ t y f,x=.jE t y/\ci P t name=some f/\qM P gl f [y] R
variable {d:Nat} {ty:TypeId} {pos:String} {aft:Array Edge} {g:Option (Nat×Bool)} {c:Operand} {name:String} {Ts:Array TypeId} {x:AV}
theorem Gu {z n:Nat} {rows:List (List AV)} (hd:d<X.n:=by first|(simp;done)|fail) (hv:ev st c=x:=by simp [fx];first|done|rfl) (hF:HQ X.P X.gl name x (λr y H'=>y=.hs r z 0 n/\H' r=some (.row z rows))) (hc:rows.all (λr=>r.all AV.jU)=true:=by first|(simp;done)|fail)
  (h:K (((st.kill (.s d)).zT (.s d) (.row z rows)).put (some d) (.hs (.s d) z 0 n))):qn X ⟨some d,.call ⟨.invoke c name,#[],Ts⟩,ty,pos,aft,g⟩ K E st:=by
 obtain⟨t,y,f,rfl,hm,hF⟩:=hF;refine (qn.Cx (Yy (K:=λs=>∃ H',s=(st.call d zn yP H').put (some d) (.hs (.s d) z 0 n)/\H' (.s d)=some (.row z rows)) (Q6 hF.1 rfl hv hm) rfl hd hF (.cons (.refl _) .nil) ?_) ?_)
 .rintro y H' ⟨rfl,e⟩;exact⟨_,rfl,by grind[vh,AO.jU]⟩
 .rintro s ⟨H',rfl,e'⟩;refine⟨((st.kill (.s d)).zT (.s d) (.row z rows)).hp,λm ob e=>?_,?_⟩
  .simp only [St.kill,St.nm,jw,St.zT] at e;simp only [St.put,St.call,St.nm]
   split at e<;>simp_all[pA]
  simp_all[St.put,St.call,St.nm,St.kill,St.zT,pA]
end
section
variable {l:List Int} {r:List AV} {n:Nat}
@[simp] theorem bset_takeN:(zY l++r).take (n+8)=zY l++r.take n:=by
 grind[zY,List.take_length_add_append]
@[simp] theorem bset_dropN:(zY l++r).drop (n+8)=r.drop n:=by
 grind[zY,List.drop_length_add_append]
theorem BE {j:Nat}:(zY l++r)[8+j]?=r[j]?:=by grind[zY]
theorem BF {j:Nat} (h:j<8):(zY l++r)[j]?=some (bv (decide ((j:Int)∈l))):=by grind[zY]
@[simp] theorem bset_drop8':(zY l).drop 8=[]:=qB
theorem La {key:Nat->Nm}:∀ {v u:List AV} {j:Nat},(∀ x∈v,uO x=none)->kK key j (v++u)=kK key (j+v.length) u
 | [],u,j,_=>by simp
 | x::l,u,j,h=>by
  rw [fK,VY,h x qB];simp only;rw [La λy hy=>h y (by simp [hy])]
  grind
@[simp] theorem bset_prsA {key:Nat->Nm} {j:Nat}:kK key j (zY l++r)=kK key (j+8) r:=by
 simp_all[La,zY]
theorem Kt {key:Nat->Nm} {es:List Nat}:∀ {v u:List AV} {j:Nat},v.all (λx=>!jV x)=true->vG key es j (v++u)=vG key es (j+v.length) u
 | [],u,j,_=>by simp
 | x::l,u,j,h=>by
  simp only [List.all_cons,ju,aj] at h;rw [fK,UG,h.1];simp only [wk,if_false];rw [Kt h.2]
  grind
@[simp] theorem bset_nkA {key:Nat->Nm} {es:List Nat} {j:Nat}:vG key es j (zY l++r)=vG key es (j+8) r:=by
 simp_all[Kt]
theorem OE {key:Nat->Nm} {es:List Nat}:∀ {v u:List AV} {j:Nat},v.all (λx=>!jV x)=true->yu key es j (v++u)=v++yu key es (j+v.length) u
 | [],u,j,_=>by simp
 | x::l,u,j,h=>by
  simp only [List.all_cons,ju,aj] at h;rw [fK,qCV,h.1];simp only [wk,if_false];rw [OE h.2]
  grind
@[simp] theorem bset_zcsA {key:Nat->Nm} {es:List Nat} {j:Nat}:yu key es j (zY l++r)=zY l++yu key es (j+8) r:=by
 simp_all[OE]
end
def yS (i:Nat) (k:qX) (o:AV) (ps:List Int):List AV:=iv i::iv k.kind::o::(zY ps++(zY k.rd++(zY k.bd++(zY (k.dc 9)++zY (k.dc 10)))))
section
variable {i x:Nat} {k:qX} {o o':AV} {ps:List Int} {f:Nm->Option Nm}
@[simp] theorem scopeRow_len:(yS i k o ps).length=43:=by simp [yS]
@[simp] theorem Yr:(yS i k o ps).map (AV.tr f)=yS i k (o.tr f) ps:=by simp [yS]
@[simp] theorem scopeRow_0:(yS i k o ps)[0]=iv i:=rfl
@[simp] theorem scopeRow_1:(yS i k o ps)[1]=iv k.kind:=rfl
@[simp] theorem scopeRow_2:(yS i k o ps)[2]=o:=rfl
theorem Yo (h:x<8):(yS i k o ps)[3+x]?=some (bv (decide ((x:Int)∈ps))):=by
 grind[yS,BF]
theorem Yp (h:x<8):(yS i k o ps)[11+x]?=some (bv (decide ((x:Int)∈k.rd))):=by
 grind[yS,BE,BF]
theorem M7 (h:x<8):(yS i k o ps)[19+x]?=some (bv (decide ((x:Int)∈k.bd))):=by
 grind[yS,BE,BF]
theorem Cb (h:x<8):(yS i k o ps)[27+x]?=some (bv (decide ((x:Int)∈k.dc 9))):=by
 grind[yS,BE,BF]
theorem M8 (h:x<8):(yS i k o ps)[35+x]?=some (bv (decide ((x:Int)∈k.dc 10))):=by
 have:35+x=8+(8+(8+(8+x)))+3:=qA;rw [yS,this]
 grind[BE,tq]
theorem Yl {y:Int} (hy:y=x) (h:x<8):(yS i k o ps).take (3+x)++bv true::(yS i k o ps).drop (3+x+1)=yS i k o (ps++[y]):=by
 have e1:3+x=x+3:=qA;have e2:3+x+1=(x+1)+3:=qA;rw [e2,e1];simp only [yS,List.take_succ_cons,List.drop_succ_cons,fK];rw [List.take_append_of_le_length qu,List.drop_append_of_le_length qu,<- mQ hy h];simp
theorem Yq:(yS i k o ps).take 2++o'::(yS i k o ps).drop 3=yS i k o' ps:=rfl
end
def aH:AV:=.sc (.pointer none)
@[simp] theorem nilP_tr {f:Nm->Option Nm}:aH.tr f=aH:=rfl
def uj (n:Nm) (len i:Nat):List (List AV):=(List.range len).map (λj=>[if j<i then AV.pt (.c n j 0) 0 else aH])
def kX (n:Nm) (j:Int):AV:=if j<0 then aH else .pt (.c n j.toNat 0) 0
structure ez (hp:Nm->Option AO) (n:Nm) (p:qC) (i:Nat):Prop where
 top:hp n=some (.row 1 (uj n p.length i))
 sc:∀ (j:Nat) k,j<i->p[j]?=some k->hp (.c n j 0)=some (.row 43 [yS j k (kX n k.parent) k.params])
section
variable {n m:Nm} {len i j:Nat} {f:Nm->Option Nm}
@[simp] theorem sRows_len:(uj n len i).length=len:=by simp [uj]
theorem A3 (h:j<len):(uj n len i)[j]?=some [if j<i then AV.pt (.c n j 0) 0 else aH]:=by simp [uj,h]
theorem A4 (h:∀ j,j<i->f (.c n j 0)=some (.c m j 0)):(uj n len i).map (λr=>r.map (AV.tr f))=uj m len i:=by
 simp only [uj,gU];apply mH;intro j _;by_cases e:j<i
 .simp_all
 .simp [e]
theorem M1 {a:Nat} (hn:Nm.under (.s a) n=false) (hn':Nm.under (.c n i 0) n=false):(j3 (uj n len i) i 0 [.pt (.s a) 0]).map (λr=>r.map (AV.tr (mv (.s a) (.c n i 0))))=uj n len (i+1):=by
 apply y6;intro j;simp only [j3,jZ,fE];by_cases hj:j<len
 .rw [A3 hj,A3 hj];by_cases e:i=j
  .simp_all
  .by_cases e2:j<i
   .simp_all<;>grind
   .have e3:¬ j<i+1:=qA;simp [e,e2,e3]
 simp_all
@[simp] theorem sRows_kl {d:Nat} (h:Nm.under (.s d) n=false):(uj n len i).map (λr=>r.map (AV.tr (kl (.s d))))=uj n len i:=A4 gj
@[simp] theorem sRows_mv1 {a:Nat} {k1:Nm} (h:Nm.under (.s a) n=true):(uj n len i).map (λr=>r.map (AV.tr (mv (.s a) k1)))=uj (Nm.qv (.s a) k1 n) len i:=A4 gj
@[simp] theorem sRows_mv2 {a b:Nat} (h:Nm.under (.s a) n=false) (h':Nm.under (.s b) n=false):(uj n len i).map (λr=>r.map (AV.tr (mv (.s a) (.s b))))=uj n len i:=A4 (by simp [h,h'])
theorem sx {q:Int} (h:0<=q->f (.c n q.toNat 0)=some (.c m q.toNat 0)):(kX n q).tr f=kX m q:=by
 unfold kX
 split<;>simp_all
@[simp] theorem outP_kl {d:Nat} {q:Int} (h:Nm.under (.s d) n=false):(kX n q).tr (kl (.s d))=kX n q:=sx gj
@[simp] theorem outP_mv1 {a:Nat} {k1:Nm} {q:Int} (h:Nm.under (.s a) n=true):(kX n q).tr (mv (.s a) k1)=kX (Nm.qv (.s a) k1 n) q:=sx gj
@[simp] theorem outP_mv2 {a b:Nat} {q:Int} (h:Nm.under (.s a) n=false) (h':Nm.under (.s b) n=false):(kX n q).tr (mv (.s a) (.s b))=kX n q:=sx (by simp [h,h'])
theorem Ud {a:Nat} {q:Int} (h:Nm.under (.s a) n=false) (h':Nm.under (.c n i 0) n=false) (hq:q<i):(kX n q).tr (mv (.s a) (.c n i 0))=kX n q:=sx (λ_=>by
 simp_all<;>omega)
theorem Uf {q:Int} (h:q<0):kX n q=aH:=by simp [kX,h]
theorem Ue {q:Nat}:kX n q=.pt (.c n q 0) 0:=by
 grind[kX]
theorem Yg:List.replicate len [aH]=uj n len 0:=by
 apply y6
 grind[uj]
end
def cw (p:qC):Nat->Int->AV
 | 0,_=>aH
 | n+1,j=>if j<0 then aH else match p[j.toNat]? with
  | none=>aH
  | some k=>.el (yS j.toNat k (cw p n k.parent) k.params) 0
theorem M5 {p:qC} (hp:zj p):∀ (n m:Nat) (j:Int),j<n->j<m->cw p n j=cw p m j
 | 0,0,_,_,_=>rfl
 | 0,m+1,j,h,_=>by grind[cw]
 | n+1,0,j,_,h=>by grind[cw]
 | n+1,m+1,j,h1,h2=>by
  simp only [cw]
  split
  .rfl
  .split
   .rfl
   .rename_i k hk;obtain⟨h3,h4,_⟩:=hp j.toNat k hk;rw [M5 hp n m k.parent qA qA]
theorem M6 {p:qC} {f:Nm->Option Nm}:∀ (n:Nat) (j:Int),(cw p n j).tr f=cw p n j
 | 0,_=>rfl
 | n+1,j=>by
  simp only [cw]
  split
  .rfl
  .split
   .rfl
   .simp [M6 n]
def yl (p:qC) (j:Int):AV:=cw p p.length j
@[simp] theorem scopeA_tr {p:qC} {j:Int} {f:Nm->Option Nm}:(yl p j).tr f=yl p j:=M6 _ _
theorem cu {p:qC} {j:Nat} {k:qX} (hp:zj p) (hk:p[j]?=some k):yl p j=.el (yS j k (yl p k.parent) k.params) 0:=by
 have hj:j<p.length:=(gS hk).1;obtain⟨h1,h2,_⟩:=hp j k hk;obtain⟨n,hn⟩:∃ n,p.length=n+1:=⟨p.length - 1,qA⟩
 grind[cw,M5,yl]
theorem GO {p:qC} {j:Int} (h:j<0):yl p j=aH:=by
 unfold yl
 cases p.length<;>grind[cw]
theorem Ym {hp:Nm->Option AO} {i:Nat} {k:qX} {o o':AV} {ps:List Int} (h:Bw hp zn o o'):∀ (j:Nat) a a',(yS i k o ps)[j]?=some a->(yS i k o' ps)[j]?=some a'->Bw hp zn a a':=by
 intro j a a' ha ha'
 match j,ha,ha' with
 | 0,ha,ha'=>obtain rfl:=sI ha;obtain rfl:=sI ha';exact .refl _
 | 1,ha,ha'=>obtain rfl:=sI ha;obtain rfl:=sI ha';exact .refl _
 | 2,ha,ha'=>simp_all
 | j+3,ha,ha' =>
  simp only [yS,fI] at ha ha';rw [ha] at ha';obtain rfl:=sI ha';exact .refl _
theorem IE {hp:Nm->Option AO} {n:Nm} {p:qC} (h:ez hp n p p.length) (hh:zj p) (j:Nat) (hj:j<p.length):Bw hp zn (.pt (.c n j 0) 0) (yl p j):=by
 induction j using Nat.strongRecOn with
 | _ j ih =>
  obtain⟨k,hk⟩:=gX hj;obtain⟨h1,h2,_⟩:=hh j k hk;rw [cu hh hk];refine .pt (.c n j 0) 43 0 _ _ [] rfl (h.sc j k hj hk) qB (Ym ?_);unfold kX
  split
  .rename_i hn;rw [GO hn];exact .refl _
  grind
def gB (p:qC):List (List AV):=(List.range p.length).map (λj:Nat=>[yl p j])
abbrev vq (p:qC):AV:=.sl 1 (gB p)
@[simp] theorem scRows_len {p:qC}:(gB p).length=p.length:=by simp [gB]
theorem pZ {p:qC} {j:Nat} (h:j<p.length):(gB p)[j]?=some [yl p j]:=by simp [gB,h]
theorem BJ {hp:Nm->Option AO} {n:Nm} {p:qC} {len:Nat} (h:ez hp n p p.length) (hh:zj p) (hl:len=p.length):Bw hp zn (.hs n 1 0 len) (vq p):=by
 subst hl;refine .hs n 1 0 p.length (uj n p.length p.length) (gB p) rfl h.top qB qB (by simp [gB]) λi r r' hr hr' j a a' ha ha'=>?_
 grind[IE,uj,gB]
theorem ez.vh {H':Nm->Option AO} {n:Nm} {p:qC} {i:Nat} (h:ez H' n p i):ez (vh H') n p i:=by
 refine⟨aE h.top ?_,λj k hj hk=>aE (h.sc j k hj hk) ?_⟩
 .simp only [uj,y5];intro r hr;obtain⟨j,_,rfl⟩:=bV.1 hr;intro x hx;simp only [vD] at hx;subst hx
  split <;> rfl
 .have:(kX n k.parent).jU=true:=by unfold kX;split <;> rfl
  simp [yS,this]
theorem qM.XZ {P:Program} {f:FuncId} {az:List AV} {v0:Value} (h:qM P (λ_=>none) f az (λ_ y _=>y=.sc v0)) {W:World} {g:Gh} {args:Array Value} (hC:∀ b,g.C b->b<W.heap.size) (hsz:args.size=az.length)
  (hargs:∀ (j:Nat) v x,args[j]?=some v->az[j]?=some x->RV g W v x):Calls P f args W λe W'=>e=.returned v0/\Below W.heap.size W W':=by
 have hinv:Inv (vW g yP) g.C W g yP W:=⟨rfl,rfl,rfl,qa _,λ_ _ _=>rfl,rfl,hC,λ_ _ e=>vS,λ_ _ _ e=>vS,λ_ _ _ _ _ e=>vS⟩;refine (h.2 (.s 0) g.C W g args (λ_ _=>rfl) rfl (λ_ e=>absurd rfl e) hinv (λ_ _ e=>vS) hsz hargs).mono λe w' he=>?_
 cases e with
 | returned v =>
  obtain⟨C',g',H',x,hA,hv,rfl⟩:=he;refine⟨by rw [hv.zy],hA.inv.os,hA.inv.tape,hA.inv.output,hA.inv.size,λb hb=>hA.inv.wN b hb ?_⟩;rintro⟨n,hn,_⟩;exact hn rfl
 | panicked ch=>obtain⟨_,_,_,_,_,_,_,_,e⟩:=he;exact e.elim
 | outgrown=>simp_all
theorem qM.U1 {P:Program} {gl:Nat->Option (List AV)} {f:FuncId} {az:List AV} {v0:Value} (hc:ib P f)
  (h:∀ (w:World) (g:Gh) (args:Array Value),(∀ b,g.C b->b<w.heap.size)->args.size=az.length->(∀ (j:Nat) v x,args[j]?=some v->az[j]?=some x->RV g w v x)->Calls P f args w λe w'=>e=.returned v0/\Below w.heap.size w w') :
  qM P gl f az (λ_ y _=>y=.sc v0):=by
 refine⟨hc,λroot C w g args _ _ _ hinv _ hsz hargs=>?_⟩;refine (h w g args (λb hb=>hinv.uU b (hinv.hC ▸ hb)) hsz hargs).mono λe w' he=>?_;obtain⟨rfl,hb⟩:=he
 exact⟨C,g,yP,.sc v0,⟨λ_ h=>h,λ_ h=>.inl h,⟨hb.os,hb.tape,hb.output,hb.size,λb hl _=>hb.block b hl,hinv.hC,λb hb'=>uQ (hinv.uU b hb') hb.size,λ_ _ e=>vS,λ_ _ _ e=>vS,λ_ _ _ _ _ e=>vS⟩,
  λ_ e=>absurd rfl e,λ_ _ _=>⟨rfl,rfl⟩,λ_ _ _ _=>⟨rfl,rfl⟩⟩,.sc v0,rfl⟩
theorem RV.S9 {g:Gh} {w W:World} {v:Value} {x:AV} {n:Nat} (h:RV g w v x) (hC:∀ b,g.C b->b<n) (hb:Below n w W):RV g W v x:=h.same (λ_ h=>h) (λb hb'=>hb.block b (hC b hb')) λ_=>⟨rfl,rfl⟩
structure HX (g:Gh) (w:World) (p:qC) (j:Nat) (k:qX) (b o:Nat):Prop where
 C:g.C b
 idx:w.cell? ⟨b,o,none⟩=some (.int .i64 j)
 kind:w.cell? ⟨b,o+1,none⟩=some (.int .i64 k.kind)
 out:∃ a,w.cell? ⟨b,o+2,none⟩=some (.pointer a)/\RV g w (.pointer a) (yl p k.parent)
 zJ:∀ x:Nat,x<8->w.cell? ⟨b,o+(27+x),none⟩=some (.bool (decide ((x:Int)∈k.dc 9)))
theorem RV.ptr {g:Gh} {w:World} {v:Value} {p:qC} {j:Int} (h:RV g w v (yl p j)):∃ a,v=.pointer a:=by
 unfold yl at h;generalize p.length=n at h
 cases n with
 | zero=>exact⟨none,h.zy⟩
 | succ n =>
  simp only [cw] at h
  split at h
  .exact⟨none,h.zy⟩
  .split at h
   .exact⟨none,h.zy⟩
   .cases h<;>grind
theorem RV.M3 {g:Gh} {w:World} {v:Value} {p:qC} {j:Int} (h:RV g w v (yl p j)) (hj:j<0):v=.pointer none:=by
 rw [GO hj] at h;exact h.zy
theorem RV.Ca {g:Gh} {w:World} {v:Value} {p:qC} {j:Nat} {k:qX} (hh:zj p) (hk:p[j]?=some k) (h:RV g w v (yl p j)):∃ b o,v=.pointer (some ⟨b,o,none⟩)/\HX g w p j k b o:=by
 rw [cu hh hk] at h
 cases h with
 | el b o off row f hC hcell ho hr =>
  have get:∀ (i:Nat) (u:Value),(yS j k (yl p k.parent) k.params)[i]?=some (.sc u)->w.cell? ⟨b,o+i,none⟩=some u:=by
   grind[zy]
  refine⟨b,o,rfl,hC,get 0 _ rfl,get 1 _ rfl,?_,λx hx=>get _ _ (Cb hx)⟩;have h2:=hr 2 _ (show (yS j k (yl p k.parent) k.params)[2]?=some (yl p k.parent) from rfl);obtain⟨a,ha⟩:=h2.ptr
  simp_all
inductive Path (p:qC):Int->List Nat->Int->Prop
 | nil (j:Int):Path p j [] j
 | skip (j:Nat) (k:qX) (l:List Nat) (j':Int) (hk:p[j]?=some k) (hn:k.kind≠1) (h:Path p k.parent l j'):Path p j l j'
 | step (j:Nat) (k:qX) (l:List Nat) (j':Int) (hk:p[j]?=some k) (hn:k.kind=1) (h:Path p k.parent l j'):Path p j (j::l) j'
theorem Path.ZL {p:qC} {i:Int} {l:List Nat} {j:Nat} {k:qX} (h:Path p i l j) (hk:p[j]?=some k) (hn:k.kind≠1):Path p i l k.parent:=by
 generalize hj:(j:Int)=j' at h
 induction h with
 | nil _=>subst hj;exact .skip j k [] _ hk hn (.nil _)
 | skip a q l j' ha hq _ ih=>exact .skip a q l _ ha hq (ih hj)
 | step a q l j' ha hq _ ih=>exact .step a q l _ ha hq (ih hj)
theorem Path.NF {p:qC} {i:Int} {l:List Nat} {j:Nat} {k:qX} (h:Path p i l j) (hk:p[j]?=some k) (hn:k.kind=1):Path p i (l++[j]) k.parent:=by
 generalize hj:(j:Int)=j' at h
 induction h with
 | nil _=>subst hj;exact .step j k [] _ hk hn (.nil _)
 | skip a q l j' ha hq _ ih=>exact .skip a q _ _ ha hq (ih hj)
 | step a q l j' ha hq _ ih=>exact .step a q _ _ ha hq (ih hj)
theorem Path.len {p:qC} (hh:zj p) {i j:Int} {l:List Nat} (h:Path p i l j):(l.length:Int)+j<=i:=by
 induction h with
 | nil _=>simp
 | skip a q l j' ha hq _ ih=>have:=(hh a q ha).2.1;omega
 | step a q l j' ha hq _ ih=>have:=(hh a q ha).2.1;simp;omega
def found (p:qC) (x:Int) (j:Nat):Option Int:=match p[j]? with
 | some q=>if x∈q.dc 9 then some (-1) else if uA j q x then some (j:Int) else none
 | none=>none
theorem Path.outer {p:qC} (hh:zj p) {x:Int} {i j:Int} {l:List Nat} (h:Path p i l j) (hb:∀ (k:qX),p[0]?=some k->k.kind≠1) (hno:∀ y∈l,found p x y=none):yK p x p.length i=yK p x p.length j:=by
 induction h with
 | nil _=>rfl
 | skip a q l j' ha hq _ ih =>
  by_cases h0:0<a
  .grind[lY]
  .obtain rfl:a=0:=qA;have:=(hh 0 q ha).2.1
   grind[AM]
 | step a q l j' ha hq _ ih =>
  have h0:0<a:=by
   grind
  rw [lY hh ha h0,if_neg gi];have hf:=hno a qB
  grind[found]
theorem Path.found {p:qC} (hh:zj p) {x r:Int} {i j:Int} {l:List Nat} {y:Nat} (h:Path p i (l++[y]) j) (hb:∀ (k:qX),p[0]?=some k->k.kind≠1) (hno:∀ y∈l,Hm.found p x y=none) (hf:Hm.found p x y=some r):yK p x p.length i=r:=by
 generalize hl:l++[y]=l' at h
 induction h generalizing l with
 | nil _=>simp at hl
 | skip a q l' j' ha hq _ ih =>
  by_cases h0:0<a
  .grind[lY]
  .obtain rfl:a=0:=qA;have:=(hh 0 q ha).2.1
   grind[AM]
 | step a q l' j' ha hq _ ih =>
  have h0:0<a:=by
   grind
  rw [lY hh ha h0,if_neg gi]
  cases l with
  | nil =>
   grind[Hm.found]
  | cons z l =>
   simp only [fK,List.cons.injEq] at hl;obtain⟨rfl,hl⟩:=hl;have hf1:=hno z qB
   grind[Hm.found]
structure lz (k:qX):Prop where
 kinds:∀ s∈k.body,0<=s.kind/\s.kind<=11
 reads:∀ s∈k.body,∀ x∈s.reads,0<=x/\x<=7
 zB:∀ s∈k.body,0<=s.to/\s.to<=7
 params:∀ x∈k.params,0<=x/\x<=7
structure zr (p:qC):Prop where
 br:jt p
 jj:zj p
 head:∀ (i:Nat) k,p[i]?=some k->uq i k
 ed:∀ (i:Nat) k,p[i]?=some k->∀ s∈k.body,zt p i k s=true
 len:1<=p.length/\p.length<=7
 body:∀ k∈p,k.body.length<=12
theorem zr.of {p:qC} (hs:jt p) (h:uk p=true):zr p:=by
 obtain⟨h1,h2,h3,h4,_⟩:=Aa h
 have key:∀ (i:Nat) k,p[i]?=some k->uq i k/\k.body.length<=12/\k.body.all (zt p i k)=true:=λi k hk =>
  BD hk (y5.1 h4 i (gT.2 (gS hk).1))
 refine⟨hs,h1,λi k hk=>(key i k hk).1,λi k hk s hm=>y5.1 (key i k hk).2.2 s hm,⟨h2,h3⟩,λk hk=>?_⟩
 grind[wj]
theorem zt.kind {p:qC} {i:Nat} {k:qX} {s:q8} (h:zt p i k s=true):0<=s.kind/\s.kind<=11:=by
 by_cases hk:0<=s.kind/\s.kind<=11
 .exact hk
 .have h2:¬ (s.kind=0\/s.kind=1\/s.kind=2\/s.kind=3\/s.kind=4\/s.kind=5\/s.kind=6\/s.kind=7\/s.kind=8\/s.kind=9\/s.kind=10\/s.kind=11):=qA
  grind[zt]
theorem zr.names {p:qC} (h:zr p):∀ k∈p,lz k:=by
 intro k hk;obtain⟨i,hi⟩:=wj hk;have hst:=h.ed i k hi;have hhd:=h.head i k hi;refine⟨λs hs=>zt.kind (hst s hs),λs hs x hx=>?_,λs hs=>?_,λx hx=>?_⟩
 .grind[zt]
 .grind[zt]
 .unfold uq at hhd
  split at hhd
  .simp_all
  .rcases hhd.2.2.2.2 with h0|⟨h1,_,h3,h4⟩
   .simp_all
   .match hp:k.params,h1,hx with
    | [y],_,hx =>
     simp_all
theorem zr.dW {p:qC} (h:zr p) {i:Nat} {k:qX} (hk:p[i]?=some k):k.kind=0↔i=0:=by
 have:=h.head i k hk
 grind
theorem zr.RY {p:qC} (h:zr p):∀ k,p[0]?=some k->k.kind≠1:=by
 intro k hk;have:=(h.dW hk).2 rfl;omega
theorem zr.QP {p:qC} (h:zr p) {k:qX} (hk:p[0]?=some k) {d:Int} (hd:d=9\/d=10):k.dc d=[]:=by
 have hnil:mo k d=[]:=by
  simp only [mo,List.map_eq_nil_iff,List.filter_eq_nil_iff];intro s hs hsd;have hst:=h.ed 0 k hk s hs;have hk0:=(h.dW hk).2 rfl
  grind[zt]
 simp only [qX.dc,hnil,sorted]
 decide
theorem LN {p:qC} {x:Int}:∀ (n:Nat) (j:Int),-1<=yK p x n j
 := by intro x0;induction x0<;>grind[yK]
theorem Uk {p:qC} {b:Nat} {x:Int}:-1<=outer p b x:=by
 unfold outer
 split<;>simp_all[LN]
theorem To {xs:List Int} {n:Nat} (h:n<8):(n:Int)∈sorted xs↔(n:Int)∈xs:=by
 grind[mem_sorted]
end Go.Hm
end
section

end
section

end
section
namespace Go.Hm
open Go Go.RowKit
def pre {α:Type} (z:α) (l:List α) (i:Nat):List α:=l.take i++List.replicate (l.length - i) z
section
variable {α:Type} {z x:α} {l:List α} {i:Nat}
@[simp] theorem VT (h:i<=l.length):(pre z l i).length=l.length:=by simp [pre];omega
theorem VV:pre z l 0=List.replicate l.length z:=by simp [pre]
theorem VS:pre z l l.length=l:=by simp [pre]
theorem VU (hx:l[i]?=some x):(pre z l i).set i x=pre z l (i+1):=by
 have hi:=(gS hx).1;apply y6
 grind[pre]
end
section
variable {X:Ctx} {st:St} {K:St->Prop} {E:AV->St->Prop} {ds:List (Option Nat)} {l:List Oper} {o:Oper}
theorem wa (n0 n1:Nm) (h0:n0.z7=false\/X.ext n0=false) (h1:n1.z7=false\/X.ext n1=false) (h:qn X o K E (st.move n0 n1)):qn X o K E st :=
 λa w Q hR hE=>h a w Q (hR.move n0 n1 h0 h1) hE
theorem bn (n0 n1:Nm) (h0:n0.z7=false\/X.ext n0=false) (h1:n1.z7=false\/X.ext n1=false) (h:qn X o (λs=>K (s.move n0 n1)) E st):qn X o K E st:=by
 refine qn.post h ?_;intro s a w hR hK;exact⟨_,hR.move n0 n1 h0 h1,hK⟩
end
theorem vN {U:Nm} (hU:U.z7=true):∀ {n:Nm},Nm.under U n=true->n.zg=false:=by
 intro n
 induction n with
 | s d=>grind[Nm.z7,Nm.under]
 | u k i j=>intro _;rfl
 | c q i j ih =>
  grind[Nm.under,Nm.z7,Nm.zg]
def ux (U:Nm) (hp:Nm->Option AO):Nm->Option AO:=λm=>if Nm.under U m then hp m else none
section
variable {X:Ctx} {st:St} {K:St->Prop} {E:AV->St->Prop} {d f:Nat} {ty:TypeId} {pos:String} {aft:Array Edge} {g:Option (Nat×Bool)} {args:Array Operand} {Ts:Array TypeId} {az:List AV} {R:Nm->AV->(Nm->Option AO)->Prop}
theorem u0 (U:Nm) (hU:U.z7=true) (hext:X.ext U=true->st.hp U≠none) (hd:d<X.n:=by first|(simp;done)|fail) (ha:args.toList.map (ev st)=az:=by simp [fx];first|done|rfl)
  (hF:qZ X.P X.gl f (Nm.under U) az (ux U st.hp) R zG) (h:∀ y H',R (.s d) y H'->K ((st.call d (Nm.under U) (ux U st.hp) H').put (some d) y)) :
  qn X ⟨some d,.call ⟨.value (.func f),args,Ts⟩,ty,pos,aft,g⟩ K E st:=by
 subst ha;refine lH (D:=Nm.under U) (H:=ux U st.hp) (R:=R) (E0:=zG) hF (mr hF.1 rfl) false ⟨rfl,λj a a' h h'=>?_⟩ (λn hn=>?_) (λn hn=>?_) (λn hn=>?_) (λk i j he=>?_) (λe he=>qP) (λx H' hR=>?_) (λ_ _ h=>h.elim)
 .rw [h] at h';obtain rfl:=sI h';exact .refl _
 .cases hx:Nm.under U n with
  | false=>rfl
  | true =>
   have h1:=vN hU hx;have h2:=Nm.lj (a:=.s d) rfl hn
   simp_all
 .simp [ux,hn]
 .grind[ux]
 .grind[Nm.under,ux]
 simp_all
end
section
variable {st:St} {d t:Nat} {D:Nm->Bool} {H H':Nm->Option AO} {m:Nm}
@[simp] theorem call_tm:(st.call d D H H').tm t=(st.tm t).tr (cf d D H):=rfl
@[simp] theorem call_gl:(st.call d D H H').gl=st.gl:=rfl
@[simp] theorem call_hp:(st.call d D H H').hp m=if D m||Nm.under (.s d) m then H' m else (st.hp m).map (AO.tr (cf d D H)):=rfl
@[simp] theorem cf_eq:cf d D H m=if Nm.under (.s d) m then none else if D m then (if m.z7&&(H m).isSome then some m else none) else some m:=rfl
@[simp] theorem hsub_eq {U:Nm} {hp:Nm->Option AO}:ux U hp m=if Nm.under U m then hp m else none:=rfl
end
theorem AV.kO (f g:Nm->Option Nm) (a:AV):(a.tr f).tr g=a.tr (λm=>(f m).bind g):=by
 refine AV.rec (motive_1:=λa=>(a.tr f).tr g=a.tr (λm=>(f m).bind g)) (motive_2:=λl=>iV g (iV f l)=iV (λm=>(f m).bind g) l) (motive_3:=λl=>bM g (bM f l)=bM (λm=>(f m).bind g) l) ?_ ?_ ?_ ?_ ?_ ?_ ?_ ?_ ?_ ?_ ?_ ?_ ?_ ?_ ?_ ?_ a
 all_goals intros
 all_goals simp only [AV.tr,bM,iV, *]
 all_goals grind[tr]
theorem AO.kO (f g:Nm->Option Nm) (o:AO):(o.tr f).tr g=o.tr (λm=>(f m).bind g):=by
 have h:AV.tr g∘AV.tr f=AV.tr (λm=>(f m).bind g):=funext λa=>AV.kO f g a
 cases o<;>simp_all[AV.kO]
def eX (N V:Nm) (d:Nat) (m:Nm):Option Nm:=if Nm.under N m then (if m=N then some N else none) else if Nm.under V m then none else if Nm.under (.s d) m then none else some m
def St.lV (st:St) (N V:Nm) (d:Nat) (H':Nm->Option AO):St :=
 { tm:=λt=>(st.tm t).tr (eX N V d),
   hp:=λm=>if Nm.under N m then (if mv V N (Nm.qv N V m)=some m then (H' (Nm.qv N V m)).map (AO.tr (mv V N)) else none) else if Nm.under V m then none else if Nm.under (.s d) m then (H' m).map (AO.tr (mv V N)) else (st.hp m).map (AO.tr (eX N V d)),
   n:=st.n,gl:=st.gl }
section
variable {st:St} {N V m:Nm} {d t:Nat} {H':Nm->Option AO}
@[simp] theorem Xz:eX N V d m=if Nm.under N m then (if m=N then some N else none) else if Nm.under V m then none else if Nm.under (.s d) m then none else some m:=rfl
@[simp] theorem mutc_tm:(st.lV N V d H').tm t=(st.tm t).tr (eX N V d):=rfl
@[simp] theorem mutc_gl:(st.lV N V d H').gl=st.gl:=rfl
@[simp] theorem mutc_hp:(st.lV N V d H').hp m=if Nm.under N m then (if mv V N (Nm.qv N V m)=some m then (H' (Nm.qv N V m)).map (AO.tr (mv V N)) else none) else if Nm.under V m then none else if Nm.under (.s d) m then (H' m).map (AO.tr (mv V N)) else (st.hp m).map (AO.tr (eX N V d)):=rfl
end
theorem MI {N V:Nm} {x:Nm} (h:Nm.under N x=true) (hne:x≠N):(Nm.qv N V x).z7=false:=by
 cases x<;>simp_all[Nm.under,Nm.qv]
theorem N1 {V n:Nm} {d:Nat} (hV:V.z7=true) (h:Nm.under V n=true):Nm.under (.s d) n=false:=by
 cases hx:Nm.under (.s d) n with
 | false=>rfl
 | true =>
  have h1:=vN hV h;have h2:=Nm.lj (a:=.s d) rfl hx
  simp_all
theorem Xy {N V:Nm} {d:Nat} {Hs:Nm->Option AO} (hV:V.z7=true) (hNV:Nm.under V N=false) (hs:(Hs V).isSome=true):(λm=>((mv N V m).bind (cf d (Nm.under V) Hs)).bind (mv V N))=eX N V d:=by
 funext x
 by_cases hx:Nm.under N x=true
 .have hu:Nm.under V (Nm.qv N V x)=true:=Nm.ei x hx;have hsd:=N1 (d:=d) hV hu;by_cases e:x=N<;>simp_all[MI]
 grind[mv,cf,eX]
theorem Kn {st:St} {N V:Nm} {d:Nat} {H':Nm->Option AO} {y:AV} (hV:V.z7=true) (hNV:Nm.under V N=false) (hs:(ux V (st.move N V).hp V).isSome=true) :
  (((st.move N V).call d (Nm.under V) (ux V (st.move N V).hp) H').put (some d) y).move V N=(st.lV N V d H').put (some d) (y.tr (mv V N)):=by
 have hc:=Xy (N:=N) (d:=d) hV hNV hs
 have e1:∀ a:AV,((a.tr (mv N V)).tr (cf d (Nm.under V) (ux V (st.move N V).hp))).tr (mv V N)=a.tr (eX N V d):=by
  grind[AV.kO]
 have e2:∀ o:AO,((o.tr (mv N V)).tr (cf d (Nm.under V) (ux V (st.move N V).hp))).tr (mv V N)=o.tr (eX N V d):=by
  grind[AO.kO]
 unfold St.move;simp only [St.nm,St.put,St.lV]
 congr 1
 .funext t
  by_cases h:t=d
  .simp [h]
  .simp only [h,if_false];exact e1 _
 .funext m
  simp only [jJ];by_cases h1:Nm.under N m=true
  .simp_all<;>grind
  .simp only [wl] at h1;simp only [h1,wk,if_false];by_cases h2:Nm.under V m=true
   .simp_all
   .simp only [wl] at h2;simp only [h2,wk,if_false,St.call,St.nm,Bool.false_or];by_cases h3:Nm.under (.s d) m=true
    .simp_all
    .simp only [wl] at h3;simp only [h3,wk,if_false,St.nm,St.move,jJ,h2,h1]
     cases st.hp m with
     | none=>rfl
     | some o=>simp only [u7];exact congrArg some (e2 o)
section
variable {X:Ctx} {st:St} {K:St->Prop} {E:AV->St->Prop} {d f:Nat} {ty:TypeId} {pos:String} {aft:Array Edge} {g:Option (Nat×Bool)} {args:Array Operand} {Ts:Array TypeId} {az:List AV} {R:Nm->AV->(Nm->Option AO)->Prop}
theorem DA (N V:Nm) (hV:V.z7=true:=by rfl) (hN:N.z7=false:=by rfl) (hNV:Nm.under V N=false:=by first|(simp;done)|fail) (hext:X.ext V=false) (hs:(ux V (st.move N V).hp V).isSome=true) (hd:d<X.n:=by first|(simp;done)|fail)
  (ha:args.toList.map (ev (st.move N V))=az:=by simp [fx];first|done|rfl)
  (hF:qZ X.P X.gl f (Nm.under V) az (ux V (st.move N V).hp) R zG) (h:∀ y H',R (.s d) y H'->K ((st.lV N V d H').put (some d) (y.tr (mv V N)))) :
  qn X ⟨some d,.call ⟨.value (.func f),args,Ts⟩,ty,pos,aft,g⟩ K E st:=by
 refine wa N V (.inl hN) (.inr hext) (bn V N (.inr hext) (.inl hN) ?_)
 grind[u0,Kn]
end
section
variable {p:qC} {n:Nm} {i l d a b e:Nat}
@[simp] theorem pRows_mvself {m:Nm}:(vX n p).map (λr=>r.map (AV.tr (mv n m)))=vX m p:=iG qB
@[simp] theorem pRows_rtf2 {N:Nm} (hN:Nm.under N n=false) (hN2:Nm.under n N=false) (hV:Nm.under (.u a b e) n=false) (hd:Nm.under (.s d) n=false):(vX n p).map (λr=>r.map (AV.tr (eX N (.u a b e) d)))=vX n p:=by
 grind[iG,Nm.under,Xz]
end
section
variable {p:qC} {c:Int} {i j:Nat} {k:qX} {n:Nm}
@[simp] theorem rowsSet_len {rows:List (List AV)} {off:Nat} {vals:List AV}:(j3 rows i off vals).length=rows.length:=by simp [j3]
end
section
variable {X:Ctx} {st:St} {K:St->Prop} {E:AV->St->Prop}
theorem kJ {o:Oper} (F:St->Prop) (h:F st) (k:∀ s,F s->qn X o K E s):qn X o K E st:=k st h
theorem Yh {ds:List (Option Nat)} {l:List Oper} (F:St->Prop) (h:F st) (k:∀ s,F s->yE X ds K E l s):yE X ds K E l st:=k st h
theorem uZ {c:Code} {Q:Ex->St->Prop} (F:St->Prop) (h:F st) (k:∀ s,F s->jD X c Q s):jD X c Q st:=k st h
end
end Go.Hm
end
