import Derived.Test.YtjgpejikjhojcaaGreatDoorT07
import Derived.Below
set_option linter.unusedSimpArgs false
set_option linter.unusedVariables false
set_option maxRecDepth 100000
set_option maxHeartbeats 4000000

section
namespace Go.Hm
open Go Go.RowKit
def setBody (p:qC) (i:Nat) (L:List qP):qC:=p.modify i (λk=>{ k with body:=L })
@[simp] theorem pK {p:qC} {i:Nat} {L:List qP}:(setBody p i L).length=p.length:=by simp [setBody]
theorem s9 {p:qC} {i j:Nat} {L:List qP} {k:qT} (h:p[j]?=some k):(setBody p i L)[j]?=some (if i=j then { k with body:=L } else k):=by
 grind[setBody]
theorem xk {n:Nm} {a i len:Nat} {p:qC} {L:List qP} (hl:len=L.length) (hn:Nm.under (.s a) n=false) (hn':Nm.under (.c n i 3) n=false) :
  (wP (yX n p) i 3 [.hs (.s a) 4 0 len]).map (λr=>r.map (AV.tr (mv (.s a) (.c n i 3))))=yX n (setBody p i L):=by
 subst hl;apply vl;intro j;simp only [wP,jg,nz,FO]
 cases hx:p[j]? with
 | none =>
  simp_all
 | some x =>
  rw [s9 hx];by_cases e:i=j
  .simp_all
  simp_all<;>grind
theorem OB {X:Ctx} {st:St} {K:St->Prop} {ds:List (Option Nat)} {l:List Oper} {i j e:Nat} {want t:Bool} {r:qb} {dst:Option Nat} {op:Op} {ty:TypeId} {pos:String} {aft:Array Edge} (_ho:l[i]?=some ⟨dst,op,ty,pos,aft,some (j,want)⟩) (_hj:ds[j]?=some (some e)) (ht:st.tm e=.sc (.bool t))
  (h1:t=true->za X l ds K (.q i r) (st.put (some e) (.sc (.bool true)))) (h2:t=false->za X l ds K (.q i r) (st.put (some e) (.sc (.bool false)))):za X l ds K (.q i r) st:=OC e ht h1 h2
theorem qS:Nm.under (.s 0) (.s 0)=true:=Nm.uH _
theorem qx {x y:Int}:(x != y)=!(x==y):=rfl
section
variable {X:Ctx} {st:St} {K:St->Prop} {E:AV->St->Prop} {ds:List (Option Nat)} {l:List Oper}
variable {d:Nat} {ty:TypeId} {pos:String} {aft:Array Edge} {g:Option (Nat×Bool)} {st' st1:St}
theorem ww {op:Op} {z:AV} (hd:d<X.n:=by first|(simp;done)|fail) (hz:y5 X.P st ⟨some d,op,ty,pos,aft,g⟩=some z:=by simp [fx];first|done|rfl|exact (vW _).symm) (h:K (st.put (some d) z)):q8 X ⟨some d,op,ty,pos,aft,g⟩ K E st:=UG hd hz h
theorem bY {x:Operand} (hd:d<X.n:=by first|(simp;done)|fail) (hs:oC X.P ty d (ev st x) st=st':=by simp [fx];first|done|rfl|exact (vW _).symm) (h:K st'):q8 X ⟨some d,.assign x,ty,pos,aft,g⟩ K E st:=UB hd hs h
theorem dh {T:TypeId} {x:Operand} {cs:List AV} (hd:d<X.n:=by first|(simp;done)|fail) (hq:(ev st x).cells=some cs:=by simp [fx];first|done|rfl|exact (vW _).symm) (hz:cs.length=qd X.P T:=by first|(simp [fx];done)|fail)
  (hs:bc X.P T d cs st=st':=by simp [fx];first|done|rfl|exact (vW _).symm) (h:K st'):q8 X ⟨some d,.box T x,ty,pos,aft,g⟩ K E st:=UC hd hq hz hs h
theorem fw {T:TypeId} {zs:List AV} (hd:d<X.n:=by first|(simp;done)|fail) (hq:yJ X.P T=some zs:=by simp [fx];first|done|rfl|exact (vW _).symm) (hs:bc X.P T d zs st=st':=by simp [fx];first|done|rfl|exact (vW _).symm) (h:K st'):q8 X ⟨some d,.alloc T,ty,pos,aft,g⟩ K E st:=Ty hd hq hs h
theorem fz {T:TypeId} {p x:Operand} {n:Nm} {z i off:Nat} {v0:List AV} {rows:List (List AV)} (hT:(X.P.info? T).isSome=true:=by first|(simp [fx];done)|fail) (hv0:(ev st x).cells=some v0:=by simp [fx];first|done|rfl|exact (vW _).symm)
  (hnil:v0.all (λx=>!jK x)=true:=by first|(simp [fx];done)|fail) (hlen:v0.length=qd X.P T:=by first|(simp [fx];done)|fail)
  (hp:pl (ev st p)=some (n,i,off):=by simp [fx];first|done|rfl|exact⟨rfl,rfl⟩|exact⟨rfl,rfl,rfl⟩) (hrows:iE st (ev st p)=some (z,rows):=by simp [fx];first|done|rfl|exact⟨rfl,rfl⟩|exact⟨rfl,rfl,rfl⟩)
  (hi:i<rows.length:=by first|(simp [fx];done)|(simp [fx];omega)|omega) (hoff:off+v0.length<=z:=by first|(simp [fx];done)|(simp [fx];omega)|omega)
  (hs:canon (kI (λj=>.c n i (off+j)) 0 v0) (st.zS n (.row z (wP rows i off v0)))=st':=by simp [fx];first|done|rfl|exact (vW _).symm) (h:K st') :
  q8 X ⟨none,.store T p x,ty,pos,aft,g⟩ K E st:=UK hT hv0 hnil hlen hp hrows hi hoff hs h
theorem iP {T:TypeId} {p x:Operand} {n:Nm} {z i off:Nat} {v0 v1:List AV} {rows:List (List AV)} (hT:(X.P.info? T).isSome=true:=by first|(simp [fx];done)|fail) (hv0:(ev st x).cells=some v0:=by simp [fx];first|done|rfl|exact (vW _).symm)
  (hlen:v0.length=qd X.P T:=by first|(simp [fx];done)|fail)
  (hp:pl (ev st p)=some (n,i,off):=by simp [fx];first|done|rfl|exact⟨rfl,rfl⟩|exact⟨rfl,rfl,rfl⟩) (hk:kz X.P T n i off v0 st=st1:=by simp [fx];first|done|rfl|exact (vW _).symm)
  (hp1:pl (ev st1 p)=some (n,i,off):=by simp [fx];first|done|rfl|exact⟨rfl,rfl⟩|exact⟨rfl,rfl,rfl⟩) (hv1:(ev st1 x).cells=some v1:=by simp [fx];first|done|rfl|exact (vW _).symm)
  (hsame:v1.map jK=v0.map jK:=by first|(simp [fx];done)|fail) (hrows:iE st1 (ev st1 p)=some (z,rows):=by simp [fx];first|done|rfl|exact⟨rfl,rfl⟩|exact⟨rfl,rfl,rfl⟩)
  (hi:i<rows.length:=by first|(simp [fx];done)|(simp [fx];omega)|omega) (hoff:off+v1.length<=z:=by first|(simp [fx];done)|(simp [fx];omega)|omega)
  (hs:lc n z i off rows (iL X.P T n i off v1) st1=st':=by simp [fx];first|done|rfl|exact (vW _).symm) (h:K st'):q8 X ⟨none,.store T p x,ty,pos,aft,g⟩ K E st:=UJ hT hv0 hlen hp hk hp1 hv1 hsame hrows hi hoff hs h
theorem cG {T F:TypeId} {s x:Operand} {z:Nat} {rows2:List (List AV)} (hd:d<X.n:=by first|(simp;done)|fail) (hT:yN X.P T=some F:=by simp [fx];first|done|rfl) (hz:qd X.P F=z:=by simp [fx];first|done|rfl) (hs:ev st s=.sc (.slice none 0 0):=by first|(simp [fx];done)|fail)
  (hx:am st z (ev st x)=some rows2:=by simp [fx];first|done|rfl) (hlen:rows2.length<=4294967296:=by first|(simp [fx];done)|(simp [fx];omega)|omega)
  (hq:kf d z rows2.length none rows2 st=st':=by simp [fx];first|done|rfl|exact (vW _).symm) (h:K st'):q8 X ⟨some d,.call ⟨.builtin .append,#[s,x],#[T,T]⟩,ty,pos,aft,g⟩ K E st:=UA hd hT hz hs hx hlen hq h
theorem dC {T F:TypeId} {s x:Operand} {z len:Nat} {n:Nm} {rows0 rows2:List (List AV)} (hd:d<X.n:=by first|(simp;done)|fail) (hT:yN X.P T=some F:=by simp [fx];first|done|rfl) (hz:qd X.P F=z:=by simp [fx];first|done|rfl) (hs:ev st s=.hs n z 0 len:=by simp [fx];first|done|rfl|exact⟨rfl,rfl⟩|exact⟨rfl,rfl,rfl⟩)
  (hn:st.hp n=some (.row z rows0):=by simp [fx];first|done|rfl) (hle:len<=rows0.length:=by first|(simp [fx];done)|(simp [fx];omega)|omega)
  (hx:am st z (ev st x)=some rows2:=by simp [fx];first|done|rfl) (hlen:len+rows2.length<=4294967296:=by first|(simp [fx];done)|(simp [fx];omega)|omega)
  (hq:kf d z (len+rows2.length) (some n) (rows0.take len++rows2) st=st':=by simp [fx];first|done|rfl|exact (vW _).symm) (h:K st'):q8 X ⟨some d,.call ⟨.builtin .append,#[s,x],#[T,T]⟩,ty,pos,aft,g⟩ K E st:=Tz hd hT hz hs hn hle hx hlen hq h
theorem qAU {T F:TypeId} {s x:Operand} {z len:Nat} {n:Nm} {rows0 rows2:List (List AV)} (hd:d<X.n:=by first|(simp;done)|fail) (hT:yN X.P T=some F:=by simp [fx];first|done|rfl) (hz:qd X.P F=z:=by simp [fx];first|done|rfl) (hs:ev st s=.hs n z 0 len:=by simp [fx];first|done|rfl|exact⟨rfl,rfl⟩|exact⟨rfl,rfl,rfl⟩)
  (hn:st.hp n=some (.row z rows0):=by simp [fx];first|done|rfl) (hle:len<=rows0.length:=by first|(simp [fx];done)|(simp [fx];omega)|omega)
  (hx:am st z (ev st x)=some rows2:=by simp [fx];first|done|rfl) (hlen:len+rows2.length<=4294967296:=by first|(simp [fx];done)|(simp [fx];omega)|omega)
  (hq:Hm.canon (lZ (.s d) len rows2) ((kf d z (len+rows2.length) (some n) (rows0.take len++rows2) st).uD n (.s d))=st':=by simp [fx];first|done|rfl|exact (vW _).symm) (h:K st') :
  q8 X ⟨some d,.call ⟨.builtin .append,#[s,x],#[T,T]⟩,ty,pos,aft,g⟩ K E st:=K7 hd hT hz hs hn hle hx hlen hq h
theorem nP {T F:TypeId} {x y:Operand} {ln z:Nat} {k k':IntKind} {zv:List AV} (hd:d<X.n:=by first|(simp;done)|fail) (hx:ev st x=.sc (.int k ln):=by simp [fx];first|done|rfl|exact⟨rfl,rfl⟩) (hy:ev st y=.sc (.int k' ln):=by simp [fx];first|done|rfl|exact⟨rfl,rfl⟩)
  (hE:yN X.P T=some F:=by simp [fx];first|done|rfl) (hz:qd X.P F=z:=by simp [fx];first|done|rfl) (hzv:yJ X.P F=some zv:=by simp [fx];first|done|rfl) (hl:ln<=4294967296:=by first|(simp [fx];done)|(simp [fx];omega)|omega)
  (hq:xb d z ln zv st=st':=by simp [fx];first|done|rfl|exact (vW _).symm) (h:K st'):q8 X ⟨some d,.makeSlice T x y,ty,pos,aft,g⟩ K E st:=UF hd hx hy hE hz hzv hl hq h
theorem dD {T F:TypeId} {len z:Nat} {parts:Array (Nat×Operand)} {rows:List (List AV)} (hd:d<X.n:=by first|(simp;done)|fail) (hE:yN X.P T=some F:=by simp [fx];first|done|rfl) (hz:qd X.P F=z:=by simp [fx];first|done|rfl) (hrows:iG st parts.toList=some rows:=by simp [fx];first|done|rfl)
  (c1:parts.toList.map (·.1)=List.range len:=by decide) (c2:len * z<=16777216:=by decide) (c3:rows.all (λr=>r.length==z)=true:=by first|(simp [fx];done)|fail)
  (hs:ij X.P F d z rows st=st':=by simp [fx];first|done|rfl|exact (vW _).symm) (h:K st'):q8 X ⟨some d,.buildSlice T len parts,ty,pos,aft,g⟩ K E st:=UD hd hE hz hrows c1 c2 c3 hs h
section
variable {f:Nat} {args:Array Operand} {Ts:Array TypeId} {az avs:List AV}
theorem zL {x:AV} (hd:d<X.n:=by first|(simp;done)|fail) (ha:args.toList.map (ev st)=avs:=by simp [fx];first|done|rfl|exact (vW _).symm)
  (hB:aT st.hp zf avs az:=by
    first
    | ((repeat' (first|exact .nil|refine .cons ?_ ?_|exact .refl _|exact dl aJ aF|exact gU aJ aF rZ));done)
    | fail)
  (hF:qM X.P X.gl f az (λ_ y _=>y=x)) (hc:x.jE=true:=by first|(simp [fx];done)|fail) (h:K ((st.kill (.s d)).put (some d) x)) :
  q8 X ⟨some d,.call ⟨.value (.func f),args,Ts⟩,ty,pos,aft,g⟩ K E st:=K8 hd ha hB hF hc h
theorem fy {z n:Nat} {rows:List (List AV)} (hd:d<X.n:=by first|(simp;done)|fail) (ha:args.toList.map (ev st)=avs:=by simp [fx];first|done|rfl|exact (vW _).symm)
  (hB:aT st.hp zf avs az:=by
    first
    | ((repeat' (first|exact .nil|refine .cons ?_ ?_|exact .refl _|exact dl aJ aF|exact gU aJ aF rZ));done)
    | fail)
  (hF:qM X.P X.gl f az (λr y H'=>y=.hs r z 0 n/\H' r=some (.row z rows))) (hc:rows.all (λr=>r.all AV.jE)=true:=by first|(simp;done)|fail)
  (h:K (((st.kill (.s d)).zS (.s d) (.row z rows)).put (some d) (.hs (.s d) z 0 n))):q8 X ⟨some d,.call ⟨.value (.func f),args,Ts⟩,ty,pos,aft,g⟩ K E st:=K9 hd ha hB hF hc h
end
end
section
variable {X:Ctx} {st:St} {K:St->Prop} {E:AV->St->Prop} {ds:List (Option Nat)} {l:List Oper} {dst:Option Nat} {op:Op} {ty:TypeId} {pos:String} {aft:Array Edge} {i j e:Nat} {want:Bool} {v:AV}
theorem lg (hj:ds[j]?=some (some e):=by rfl) (ht:st.tm e=v:=by simp [fx];first|done|rfl|exact (vW _).symm) (h:Gx X ds K E l st dst op ty pos aft j want e v):jm X ds K E (⟨dst,op,ty,pos,aft,some (j,want)⟩::l) st:=Xq hj ht h
theorem li (hn:∀ e,dst=some e->e<X.n:=by first|(simp;done)|fail) (h:jm X ds K E l (st.put dst (.sc undef))):Gx X ds K E l st dst op ty pos aft j true e (.sc (.bool false)):=R5 hn h
theorem lf (hn:∀ e,dst=some e->e<X.n:=by first|(simp;done)|fail) (h:jm X ds K E l (st.put dst (.sc undef))):Gx X ds K E l st dst op ty pos aft j false e (.sc (.bool true)):=R4 hn h
theorem lj (hn:∀ e,dst=some e->e<X.n:=by first|(simp;done)|fail) (h:jm X ds K E l (st.put dst (.sc undef))):Gx X ds K E l st dst op ty pos aft j want e (.sc undef):=R6 hn h
theorem cI {c:Operand} {x y:Code} {Q:Ex->St->Prop} (ht:ev st c=.sc (.bool true):=by first|(simp [fx];done)|fail) (h1:zu X x Q st):zu X (.cond c x y) Q st:=Φ h1 ht
theorem cH {c:Operand} {x y:Code} {Q:Ex->St->Prop} (ht:ev st c=.sc (.bool false):=by first|(simp [fx];done)|fail) (h1:zu X y Q st):zu X (.cond c x y) Q st:=Ξ h1 ht
theorem vj {c:Nat} {x y:Code} {Q:Ex->St->Prop} {t:Bool} (ht:st.tm c=.sc (.bool t):=by simp [fx];first|done|rfl|exact (vW _).symm) (h1:t=true->zu X x Q (st.put (some c) (.sc (.bool true)))) (h2:t=false->zu X y Q (st.put (some c) (.sc (.bool false)))):zu X (.cond (.tmp c) x y) Q st:=y8 ht h1 h2
theorem ll {d:Nat} {r:qb} {z:AV} (ho:l[i]?=some ⟨some d,op,ty,pos,aft,none⟩:=by rfl) (hd:d<X.n:=by first|(simp;done)|fail) (hz:y5 X.P st ⟨some d,op,ty,pos,aft,none⟩=some z:=by simp [fx];first|done|rfl|exact (vW _).symm) (h:za X l ds K r (st.put (some d) z)):za X l ds K (.q i r) st:=OD ho hd hz h
theorem nT {d:Nat} {r:qb} {z:AV} (ho:l[i]?=some ⟨some d,op,ty,pos,aft,some (j,want)⟩:=by rfl) (hj:ds[j]?=some (some e):=by rfl) (ht:st.tm e=.sc (.bool want):=by first|(simp [fx];done)|fail) (hd:d<X.n:=by first|(simp;done)|fail)
  (hz:y5 X.P st ⟨some d,op,ty,pos,aft,some (j,want)⟩=some z:=by simp [fx];first|done|rfl|exact (vW _).symm) (h:za X l ds K r (st.put (some d) z)):za X l ds K (.q i r) st:=OF ho hj ht hd hz h
theorem nS {d:Nat} {r:qb} (ho:l[i]?=some ⟨some d,op,ty,pos,aft,some (j,want)⟩:=by rfl) (hj:ds[j]?=some (some e):=by rfl) (ht:st.tm e=.sc (.bool (!want)):=by first|(simp [fx];done)|fail) (hd:d<X.n:=by first|(simp;done)|fail)
  (h:za X l ds K r (st.put (some d) (.sc undef))):za X l ds K (.q i r) st:=OE ho hj ht hd h
theorem nU {d:Nat} {r:qb} (ho:l[i]?=some ⟨some d,op,ty,pos,aft,some (j,want)⟩:=by rfl) (hj:ds[j]?=some (some e):=by rfl) (ht:st.tm e=.sc undef:=by first|(simp [fx];done)|fail) (hd:d<X.n:=by first|(simp;done)|fail)
  (h:za X l ds K r (st.put (some d) (.sc undef))):za X l ds K (.q i r) st:=OG ho hj ht hd h
theorem nR {t:Bool} {r:qb} (ho:l[i]?=some ⟨dst,op,ty,pos,aft,some (j,want)⟩:=by rfl) (hj:ds[j]?=some (some e):=by rfl) (ht:st.tm e=.sc (.bool t):=by simp [fx];first|done|rfl|exact (vW _).symm)
  (h1:t=true->za X l ds K (.q i r) (st.put (some e) (.sc (.bool true)))) (h2:t=false->za X l ds K (.q i r) (st.put (some e) (.sc (.bool false)))):za X l ds K (.q i r) st:=OB ho hj ht h1 h2
theorem iQ {q:Nat} {ps:List Nat} {o:Oper} (ho:l[q]?=some o:=by rfl) (h1:nI X ds o st:=by first|(simp [nI,fx];done)|(simp [nI,undef,fx];done)|fail) (h2:ub X l ds ps st):ub X l ds (q::ps) st:=Yt ho h1 h2
end
def ag (ss:List qP) (b:Int):Nat:=(ss.filter (λs=>eP s b)).length
def br (p:qC) (b:Int):Nat->Nat
 | 0=>0
 | n+1=>br p b n+(match p[n]? with|some q=>ag q.body b|none=>0)
theorem KN (ss:List qP) (b:Int):ag ss b<=ss.length:=List.length_filter_le _ _
theorem Eo {ss:List qP} {b:Int} {j:Nat} {s:qP} (h:ss[j]?=some s):ag (ss.take (j+1)) b=ag (ss.take j) b+(if eP s b then 1 else 0):=by
 simp only [ag];rw [nJ h]
 grind
theorem TV {p:qC} {b:Int} {m:Nat} (h:∀ q∈p,q.body.length<=m):∀ n,br p b n<=n * m
 := by intro x0;induction x0<;>grind[br,KN]
def wM (p:qC) (ss:List qP) (n:Nat):List Int:=(List.range 7).map (λk:Nat=>((br p k n+ag ss k:Nat):Int))
theorem KF {p:qC} {ss:List qP} {n k:Nat} (h:k<7):(wM p ss n)[k]?=some ((br p k n+ag ss k:Nat):Int):=by
 simp [wM,h]
theorem TS {p:qC} {ss:List qP} {n j k:Nat} {s:qP} (hs:ss[j]?=some s) (hk:s.a=k) (hm:s.kind=3\/s.kind=4) (h7:k<7) :
  (wM p (ss.take j) n).set k (((br p k n+ag (ss.take j) k:Nat):Int)+1)=wM p (ss.take (j+1)) n:=by
 apply vl;intro i;simp only [wM,ic,List.length_map,List.length_range,jg];by_cases hi:k=i
 .subst hi;have:eP s k=true:=by grind[eP]
  grind[Eo]
 .rw [if_neg hi];by_cases h:i<7
  .have:eP s i=false:=by
    grind[eP]
   grind[Eo]
  .simp [h]
theorem TT {p:qC} {ss:List qP} {n j:Nat} {s:qP} (hs:ss[j]?=some s) (hm:¬ (s.kind=3\/s.kind=4)):wM p (ss.take (j+1)) n=wM p (ss.take j) n:=by
 simp_all[wM,eP,Eo]
theorem TR {p:qC} {n:Nat} {q:qT} (h:p[n]?=some q):wM p q.body n=wM p [] (n+1):=by
 grind[wM,br,ag]
theorem KG {p:qC} {b:Nat} {k:qT} (hp:zZ p) (hk:p[b]?=some k) (hv:∀ (i:Nat) q,p[i]?=some q->∀ s∈q.body,zW p i q s=true) (hpar:0<=k.parent):∀ n,n<=p.length->(br p b n:Int)=if k.parent<n then ae p b else 0
 | 0,_=>by grind[br]
 | n+1,hn=>by
  have ih:=KG hp hk hv hpar n qA;obtain⟨q,hq⟩:∃ q,p[n]?=some q:=⟨_,gE qA⟩;simp only [br,hq];by_cases e:k.parent=n
  .grind[ae,ag]
  .have h0:ag q.body b=0:=by
    simp only [ag,List.length_eq_zero_iff,List.filter_eq_nil_iff]
    grind[eP,ac,vN,zW]
   omega
theorem TU {p:qC} {b:Nat} {k:qT} (hp:zZ p) (hk:p[b]?=some k) (hv:∀ (i:Nat) q,p[i]?=some q->∀ s∈q.body,zW p i q s=true) (hpar:0<=k.parent):(br p b p.length:Int)=ae p b:=by
 have hb:=(gS hk).1;have:=(hp b k hk).2.1;rw [KG hp hk hv hpar _ (qX _),if_pos qA]
@[simp] theorem tr_comp_iv {f:Nm->Option Nm}:AV.tr f∘iv=iv:=rfl
theorem SD {A:List Int} {a:Nat} {v:Int} (h:a<A.length):(A.map iv).take a++iv v::(A.map iv).drop (a+1)=(A.set a v).map iv:=by
 simp_all[List.set_eq_take_append_cons_drop]
def zP (l:List Int):List AV:=(List.range 8).map (λx:Nat=>bv (decide ((x:Int)∈l)))
section
variable {l l':List Int} {f:Nm->Option Nm} {x:Nat}
@[simp] theorem bset_len:(zP l).length=8:=rP
theorem tQ (h:x<8):(zP l)[x]?=some (bv (decide ((x:Int)∈l))):=by simp [zP,h]
@[simp] theorem bset_map:(zP l).map (AV.tr f)=zP l:=rP
@[simp] theorem bset_take:(zP l).take 8=zP l:=yU qB
@[simp] theorem bset_one:(zP l).all AV.one=true:=rP
@[simp] theorem bset_cln:(zP l).all AV.jE=true:=rP
@[simp] theorem Hl:(zP l).all (λx=>!jK x)=true:=rP
theorem Kz {key:Nat->Nm}:∀ {v:List AV} {j:Nat},(∀ x∈v,uQ x=none)->kI key j v=[]
 := by intro x0;induction x0<;>simp_all
@[simp] theorem bset_prs {key:Nat->Nm} {j:Nat}:kI key j (zP l)=[]:=Kz rP
@[simp] theorem bset_nk {key:Nat->Nm} {es:List Nat} {j:Nat}:yt key es j (zP l)=[]:=KY Hl
@[simp] theorem bset_zcs {key:Nat->Nm} {es:List Nat} {j:Nat}:yf key es j (zP l)=zP l:=Ni Hl
theorem PK (h:∀ x:Int,0<=x->x<=7->(x∈l↔x∈l')):zP l=zP l':=by
 grind[zP,fE]
theorem Ad:zP (sorted l)=zP l:=PK λx h1 h2=>by grind[mem_sorted]
theorem mN {y:Int} (hy:y=x) (h:x<8):(zP l).take x++bv true::(zP l).drop (x+1)=zP (l++[y]):=by
 subst hy;apply vl
 grind[zP]
end
section
variable {X:Ctx} {st:St} {K:St->Prop} {E:AV->St->Prop}
theorem YE {o:Oper} {f:FuncId} {az avs:List AV} {R:Nm->AV->(Nm->Option AO)->Prop} {d:Nat} (hEnt:tF X.P st o f avs) (hd:o.dst=some d) (hn:d<X.n) (hF:qM X.P X.gl f az R)
  (hB:aT st.hp zf avs az) (hK:∀ x H',R (.s d) x H'->K ((st.call d zf jv (uC H')).put (some d) (lm x))):q8 X o K E st:=by
 refine iu (D:=zf) (H:=jv) (R:=R) hF hEnt true hB (λ_ _=>rfl) (λn h=>wH) (λn h=>absurd rfl h) (λk i j _=>.inl rfl) (λe he=>qL) ?_ (λ_ _ h=>h.elim)
 simp_all
def HE (P:Program) (gl:Nat->Option (List AV)) (name:String) (x:AV) (R:Nm->AV->(Nm->Option AO)->Prop):Prop:=∃ t y f,x=.zp t y/\cj P t name=some f/\qM P gl f [y] R
variable {d:Nat} {ty:TypeId} {pos:String} {aft:Array Edge} {g:Option (Nat×Bool)} {c:Operand} {name:String} {Ts:Array TypeId} {x:AV}
theorem Gg {z n:Nat} {rows:List (List AV)} (hd:d<X.n:=by first|(simp;done)|fail) (hv:ev st c=x:=by simp [fx];first|done|rfl) (hF:HE X.P X.gl name x (λr y H'=>y=.hs r z 0 n/\H' r=some (.row z rows))) (hc:rows.all (λr=>r.all AV.jE)=true:=by first|(simp;done)|fail)
  (h:K (((st.kill (.s d)).zS (.s d) (.row z rows)).put (some d) (.hs (.s d) z 0 n))):q8 X ⟨some d,.call ⟨.invoke c name,#[],Ts⟩,ty,pos,aft,g⟩ K E st:=by
 obtain⟨t,y,f,rfl,hm,hF⟩:=hF;refine (q8.nO (YE (K:=λs=>∃ H',s=(st.call d zf jv H').put (some d) (.hs (.s d) z 0 n)/\H' (.s d)=some (.row z rows)) (QP hF.1 rfl hv hm) rfl hd hF (.cons (.refl _) .nil) ?_) ?_)
 .rintro y H' ⟨rfl,e⟩;exact⟨_,rfl,by grind[uC,AO.jE]⟩
 .rintro s ⟨H',rfl,e'⟩;refine⟨((st.kill (.s d)).zS (.s d) (.row z rows)).hp,λm ob e=>?_,?_⟩
  .simp only [St.kill,St.nm,jG,St.zS] at e;simp only [St.put,St.call,St.nm]
   split at e<;>simp_all[oX]
  simp_all[St.put,St.call,St.nm,St.kill,St.zS,oX]
end
section
variable {l:List Int} {r:List AV} {n:Nat}
@[simp] theorem bset_takeN:(zP l++r).take (n+8)=zP l++r.take n:=by
 grind[zP,List.take_length_add_append]
@[simp] theorem bset_dropN:(zP l++r).drop (n+8)=r.drop n:=by
 grind[zP,List.drop_length_add_append]
theorem Ab {j:Nat}:(zP l++r)[8+j]?=r[j]?:=by grind[zP]
theorem Ac {j:Nat} (h:j<8):(zP l++r)[j]?=some (bv (decide ((j:Int)∈l))):=by grind[zP]
@[simp] theorem bset_drop8':(zP l).drop 8=[]:=qB
theorem Ky {key:Nat->Nm}:∀ {v u:List AV} {j:Nat},(∀ x∈v,uQ x=none)->kI key j (v++u)=kI key (j+v.length) u
 | [],u,j,_=>by simp
 | x::l,u,j,h=>by
  rw [fF,VJ,h x qB];simp only;rw [Ky λy hy=>h y (by simp [hy])]
  grind
@[simp] theorem bset_prsA {key:Nat->Nm} {j:Nat}:kI key j (zP l++r)=kI key (j+8) r:=by
 simp_all[Ky,zP]
theorem KX {key:Nat->Nm} {es:List Nat}:∀ {v u:List AV} {j:Nat},v.all (λx=>!jK x)=true->yt key es j (v++u)=yt key es (j+v.length) u
 | [],u,j,_=>by simp
 | x::l,u,j,h=>by
  simp only [List.all_cons,jh,bB] at h;rw [fF,Tp,h.1];simp only [b7,if_false];rw [KX h.2]
  grind
@[simp] theorem bset_nkA {key:Nat->Nm} {es:List Nat} {j:Nat}:yt key es j (zP l++r)=yt key es (j+8) r:=by
 simp_all[KX]
theorem Nh {key:Nat->Nm} {es:List Nat}:∀ {v u:List AV} {j:Nat},v.all (λx=>!jK x)=true->yf key es j (v++u)=v++yf key es (j+v.length) u
 | [],u,j,_=>by simp
 | x::l,u,j,h=>by
  simp only [List.all_cons,jh,bB] at h;rw [fF,qBO,h.1];simp only [b7,if_false];rw [Nh h.2]
  grind
@[simp] theorem bset_zcsA {key:Nat->Nm} {es:List Nat} {j:Nat}:yf key es j (zP l++r)=zP l++yf key es (j+8) r:=by
 simp_all[Nh]
end
def yK (i:Nat) (k:qT) (o:AV) (ps:List Int):List AV:=iv i::iv k.kind::o::(zP ps++(zP k.rd++(zP k.bd++(zP (k.dc 9)++zP (k.dc 10)))))
section
variable {i x:Nat} {k:qT} {o o':AV} {ps:List Int} {f:Nm->Option Nm}
@[simp] theorem scopeRow_len:(yK i k o ps).length=43:=by simp [yK]
@[simp] theorem Xx:(yK i k o ps).map (AV.tr f)=yK i k (o.tr f) ps:=by simp [yK]
@[simp] theorem scopeRow_0:(yK i k o ps)[0]=iv i:=rfl
@[simp] theorem scopeRow_1:(yK i k o ps)[1]=iv k.kind:=rfl
@[simp] theorem scopeRow_2:(yK i k o ps)[2]=o:=rfl
theorem Xu (h:x<8):(yK i k o ps)[3+x]?=some (bv (decide ((x:Int)∈ps))):=by
 grind[yK,Ac]
theorem Xv (h:x<8):(yK i k o ps)[11+x]?=some (bv (decide ((x:Int)∈k.rd))):=by
 grind[yK,Ab,Ac]
theorem MB (h:x<8):(yK i k o ps)[19+x]?=some (bv (decide ((x:Int)∈k.bd))):=by
 grind[yK,Ab,Ac]
theorem CO (h:x<8):(yK i k o ps)[27+x]?=some (bv (decide ((x:Int)∈k.dc 9))):=by
 grind[yK,Ab,Ac]
theorem MC (h:x<8):(yK i k o ps)[35+x]?=some (bv (decide ((x:Int)∈k.dc 10))):=by
 have:35+x=8+(8+(8+(8+x)))+3:=qA;rw [yK,this]
 grind[Ab,tQ]
theorem Xs {y:Int} (hy:y=x) (h:x<8):(yK i k o ps).take (3+x)++bv true::(yK i k o ps).drop (3+x+1)=yK i k o (ps++[y]):=by
 have e1:3+x=x+3:=qA;have e2:3+x+1=(x+1)+3:=qA;rw [e2,e1];simp only [yK,List.take_succ_cons,List.drop_succ_cons,fF];rw [List.take_append_of_le_length qn,List.drop_append_of_le_length qn,<- mN hy h];simp
theorem Xw:(yK i k o ps).take 2++o'::(yK i k o ps).drop 3=yK i k o' ps:=rfl
end
def aR:AV:=.sc (.pointer none)
@[simp] theorem nilP_tr {f:Nm->Option Nm}:aR.tr f=aR:=rfl
def un (n:Nm) (len i:Nat):List (List AV):=(List.range len).map (λj=>[if j<i then AV.pt (.c n j 0) 0 else aR])
def kS (n:Nm) (j:Int):AV:=if j<0 then aR else .pt (.c n j.toNat 0) 0
structure eh (hp:Nm->Option AO) (n:Nm) (p:qC) (i:Nat):Prop where
 top:hp n=some (.row 1 (un n p.length i))
 sc:∀ (j:Nat) k,j<i->p[j]?=some k->hp (.c n j 0)=some (.row 43 [yK j k (kS n k.parent) k.params])
section
variable {n m:Nm} {len i j:Nat} {f:Nm->Option Nm}
@[simp] theorem sRows_len:(un n len i).length=len:=by simp [un]
theorem xy (h:j<len):(un n len i)[j]?=some [if j<i then AV.pt (.c n j 0) 0 else aR]:=by simp [un,h]
theorem xz (h:∀ j,j<i->f (.c n j 0)=some (.c m j 0)):(un n len i).map (λr=>r.map (AV.tr f))=un m len i:=by
 simp only [un,ie];apply fE;intro j _;by_cases e:j<i
 .simp_all
 .simp [e]
theorem Lu {a:Nat} (hn:Nm.under (.s a) n=false) (hn':Nm.under (.c n i 0) n=false):(wP (un n len i) i 0 [.pt (.s a) 0]).map (λr=>r.map (AV.tr (mv (.s a) (.c n i 0))))=un n len (i+1):=by
 apply vl;intro j;simp only [wP,jg,nz];by_cases hj:j<len
 .rw [xy hj,xy hj];by_cases e:i=j
  .simp_all
  .by_cases e2:j<i
   .simp_all<;>grind
   .have e3:¬ j<i+1:=qA;simp [e,e2,e3]
 simp_all
@[simp] theorem sRows_kl {d:Nat} (h:Nm.under (.s d) n=false):(un n len i).map (λr=>r.map (AV.tr (kl (.s d))))=un n len i:=xz gZ
@[simp] theorem sRows_mv1 {a:Nat} {k1:Nm} (h:Nm.under (.s a) n=true):(un n len i).map (λr=>r.map (AV.tr (mv (.s a) k1)))=un (Nm.qz (.s a) k1 n) len i:=xz gZ
@[simp] theorem sRows_mv2 {a b:Nat} (h:Nm.under (.s a) n=false) (h':Nm.under (.s b) n=false):(un n len i).map (λr=>r.map (AV.tr (mv (.s a) (.s b))))=un n len i:=xz (by simp [h,h'])
theorem sV {q:Int} (h:0<=q->f (.c n q.toNat 0)=some (.c m q.toNat 0)):(kS n q).tr f=kS m q:=by
 unfold kS
 split<;>simp_all
@[simp] theorem outP_kl {d:Nat} {q:Int} (h:Nm.under (.s d) n=false):(kS n q).tr (kl (.s d))=kS n q:=sV gZ
@[simp] theorem outP_mv1 {a:Nat} {k1:Nm} {q:Int} (h:Nm.under (.s a) n=true):(kS n q).tr (mv (.s a) k1)=kS (Nm.qz (.s a) k1 n) q:=sV gZ
@[simp] theorem outP_mv2 {a b:Nat} {q:Int} (h:Nm.under (.s a) n=false) (h':Nm.under (.s b) n=false):(kS n q).tr (mv (.s a) (.s b))=kS n q:=sV (by simp [h,h'])
theorem U0 {a:Nat} {q:Int} (h:Nm.under (.s a) n=false) (h':Nm.under (.c n i 0) n=false) (hq:q<i):(kS n q).tr (mv (.s a) (.c n i 0))=kS n q:=sV (λ_=>by
 simp_all<;>omega)
theorem U2 {q:Int} (h:q<0):kS n q=aR:=by simp [kS,h]
theorem U1 {q:Nat}:kS n q=.pt (.c n q 0) 0:=by
 grind[kS]
theorem Xm:List.replicate len [aR]=un n len 0:=by
 apply vl
 grind[un]
end
def ct (p:qC):Nat->Int->AV
 | 0,_=>aR
 | n+1,j=>if j<0 then aR else match p[j.toNat]? with
  | none=>aR
  | some k=>.el (yK j.toNat k (ct p n k.parent) k.params) 0
theorem Lz {p:qC} (hp:zZ p):∀ (n m:Nat) (j:Int),j<n->j<m->ct p n j=ct p m j
 | 0,0,_,_,_=>rfl
 | 0,m+1,j,h,_=>by grind[ct]
 | n+1,0,j,_,h=>by grind[ct]
 | n+1,m+1,j,h1,h2=>by
  simp only [ct]
  split
  .rfl
  .split
   .rfl
   .rename_i k hk;obtain⟨h3,h4,_⟩:=hp j.toNat k hk;rw [Lz hp n m k.parent qA qA]
theorem MA {p:qC} {f:Nm->Option Nm}:∀ (n:Nat) (j:Int),(ct p n j).tr f=ct p n j
 | 0,_=>rfl
 | n+1,j=>by
  simp only [ct]
  split
  .rfl
  .split
   .rfl
   .simp [MA n]
def y6 (p:qC) (j:Int):AV:=ct p p.length j
@[simp] theorem scopeA_tr {p:qC} {j:Int} {f:Nm->Option Nm}:(y6 p j).tr f=y6 p j:=MA _ _
theorem cq {p:qC} {j:Nat} {k:qT} (hp:zZ p) (hk:p[j]?=some k):y6 p j=.el (yK j k (y6 p k.parent) k.params) 0:=by
 have hj:j<p.length:=(gS hk).1;obtain⟨h1,h2,_⟩:=hp j k hk;obtain⟨n,hn⟩:∃ n,p.length=n+1:=⟨p.length - 1,qA⟩
 grind[ct,Lz,y6]
theorem Fv {p:qC} {j:Int} (h:j<0):y6 p j=aR:=by
 unfold y6
 cases p.length<;>grind[ct]
theorem Xt {hp:Nm->Option AO} {i:Nat} {k:qT} {o o':AV} {ps:List Int} (h:Bw hp zf o o'):∀ (j:Nat) a a',(yK i k o ps)[j]?=some a->(yK i k o' ps)[j]?=some a'->Bw hp zf a a':=by
 intro j a a' ha ha'
 match j,ha,ha' with
 | 0,ha,ha'=>obtain rfl:=sI ha;obtain rfl:=sI ha';exact .refl _
 | 1,ha,ha'=>obtain rfl:=sI ha;obtain rfl:=sI ha';exact .refl _
 | 2,ha,ha'=>simp_all
 | j+3,ha,ha' =>
  simp only [yK,gL] at ha ha';rw [ha] at ha';obtain rfl:=sI ha';exact .refl _
theorem Ht {hp:Nm->Option AO} {n:Nm} {p:qC} (h:eh hp n p p.length) (hh:zZ p) (j:Nat) (hj:j<p.length):Bw hp zf (.pt (.c n j 0) 0) (y6 p j):=by
 induction j using Nat.strongRecOn with
 | _ j ih =>
  obtain⟨k,hk⟩:=gX hj;obtain⟨h1,h2,_⟩:=hh j k hk;rw [cq hh hk];refine .pt (.c n j 0) 43 0 _ _ [] rfl (h.sc j k hj hk) qB (Xt ?_);unfold kS
  split
  .rename_i hn;rw [Fv hn];exact .refl _
  grind
def fq (p:qC):List (List AV):=(List.range p.length).map (λj:Nat=>[y6 p j])
abbrev vi (p:qC):AV:=.sl 1 (fq p)
@[simp] theorem scRows_len {p:qC}:(fq p).length=p.length:=by simp [fq]
theorem pI {p:qC} {j:Nat} (h:j<p.length):(fq p)[j]?=some [y6 p j]:=by simp [fq,h]
theorem Ag {hp:Nm->Option AO} {n:Nm} {p:qC} {len:Nat} (h:eh hp n p p.length) (hh:zZ p) (hl:len=p.length):Bw hp zf (.hs n 1 0 len) (vi p):=by
 subst hl;refine .hs n 1 0 p.length (un n p.length p.length) (fq p) rfl h.top qB qB (by simp [fq]) λi r r' hr hr' j a a' ha ha'=>?_
 grind[Ht,un,fq]
theorem eh.uC {H':Nm->Option AO} {n:Nm} {p:qC} {i:Nat} (h:eh H' n p i):eh (uC H') n p i:=by
 refine⟨aN h.top ?_,λj k hj hk=>aN (h.sc j k hj hk) ?_⟩
 .simp only [un,yS];intro r hr;obtain⟨j,_,rfl⟩:=wU.1 hr;intro x hx;simp only [yj] at hx;subst hx
  split <;> rfl
 .have:(kS n k.parent).jE=true:=by unfold kS;split <;> rfl
  simp [yK,this]
theorem qM.W1 {P:Program} {f:FuncId} {az:List AV} {v0:Value} (h:qM P (λ_=>none) f az (λ_ y _=>y=.sc v0)) {W:World} {g:Gh} {args:Array Value} (hC:∀ b,g.C b->b<W.heap.size) (hsz:args.size=az.length)
  (hargs:∀ (j:Nat) v x,args[j]?=some v->az[j]?=some x->RV g W v x):Calls P f args W λe W'=>e=.returned v0/\Below W.heap.size W W':=by
 have hinv:Inv (vS g jv) g.C W g jv W:=⟨rfl,rfl,rfl,qX _,λ_ _ _=>rfl,rfl,hC,λ_ _ e=>vQ,λ_ _ _ e=>vQ,λ_ _ _ _ _ e=>vQ⟩;refine (h.2 (.s 0) g.C W g args (λ_ _=>rfl) rfl (λ_ e=>absurd rfl e) hinv (λ_ _ e=>vQ) hsz hargs).mono λe w' he=>?_
 cases e with
 | returned v =>
  obtain⟨C',g',H',x,hA,hv,rfl⟩:=he;refine⟨by rw [hv.zi],hA.inv.os,hA.inv.tape,hA.inv.output,hA.inv.size,λb hb=>hA.inv.a8 b hb ?_⟩;rintro⟨n,hn,_⟩;exact hn rfl
 | panicked ch=>obtain⟨_,_,_,_,_,_,_,_,e⟩:=he;exact e.elim
 | outgrown=>simp_all
theorem qM.UN {P:Program} {gl:Nat->Option (List AV)} {f:FuncId} {az:List AV} {v0:Value} (hc:iR P f)
  (h:∀ (w:World) (g:Gh) (args:Array Value),(∀ b,g.C b->b<w.heap.size)->args.size=az.length->(∀ (j:Nat) v x,args[j]?=some v->az[j]?=some x->RV g w v x)->Calls P f args w λe w'=>e=.returned v0/\Below w.heap.size w w') :
  qM P gl f az (λ_ y _=>y=.sc v0):=by
 refine⟨hc,λroot C w g args _ _ _ hinv _ hsz hargs=>?_⟩;refine (h w g args (λb hb=>hinv.u0 b (hinv.hC ▸ hb)) hsz hargs).mono λe w' he=>?_;obtain⟨rfl,hb⟩:=he
 exact⟨C,g,jv,.sc v0,⟨λ_ h=>h,λ_ h=>.inl h,⟨hb.os,hb.tape,hb.output,hb.size,λb hl _=>hb.block b hl,hinv.hC,λb hb'=>uW (hinv.u0 b hb') hb.size,λ_ _ e=>vQ,λ_ _ _ e=>vQ,λ_ _ _ _ _ e=>vQ⟩,
  λ_ e=>absurd rfl e,λ_ _ _=>⟨rfl,rfl⟩,λ_ _ _ _=>⟨rfl,rfl⟩⟩,.sc v0,rfl⟩
theorem RV.SL {g:Gh} {w W:World} {v:Value} {x:AV} {n:Nat} (h:RV g w v x) (hC:∀ b,g.C b->b<n) (hb:Below n w W):RV g W v x:=h.same (λ_ h=>h) (λb hb'=>hb.block b (hC b hb')) λ_=>⟨rfl,rfl⟩
structure HO (g:Gh) (w:World) (p:qC) (j:Nat) (k:qT) (b o:Nat):Prop where
 C:g.C b
 idx:w.cell? ⟨b,o,none⟩=some (.int .i64 j)
 kind:w.cell? ⟨b,o+1,none⟩=some (.int .i64 k.kind)
 out:∃ a,w.cell? ⟨b,o+2,none⟩=some (.pointer a)/\RV g w (.pointer a) (y6 p k.parent)
 zJ:∀ x:Nat,x<8->w.cell? ⟨b,o+(27+x),none⟩=some (.bool (decide ((x:Int)∈k.dc 9)))
theorem RV.ptr {g:Gh} {w:World} {v:Value} {p:qC} {j:Int} (h:RV g w v (y6 p j)):∃ a,v=.pointer a:=by
 unfold y6 at h;generalize p.length=n at h
 cases n with
 | zero=>exact⟨none,h.zi⟩
 | succ n =>
  simp only [ct] at h
  split at h
  .exact⟨none,h.zi⟩
  .split at h
   .exact⟨none,h.zi⟩
   .cases h<;>grind
theorem RV.Lv {g:Gh} {w:World} {v:Value} {p:qC} {j:Int} (h:RV g w v (y6 p j)) (hj:j<0):v=.pointer none:=by
 rw [Fv hj] at h;exact h.zi
theorem RV.CM {g:Gh} {w:World} {v:Value} {p:qC} {j:Nat} {k:qT} (hh:zZ p) (hk:p[j]?=some k) (h:RV g w v (y6 p j)):∃ b o,v=.pointer (some ⟨b,o,none⟩)/\HO g w p j k b o:=by
 rw [cq hh hk] at h
 cases h with
 | el b o off row f hC hcell ho hr =>
  have get:∀ (i:Nat) (u:Value),(yK j k (y6 p k.parent) k.params)[i]?=some (.sc u)->w.cell? ⟨b,o+i,none⟩=some u:=by
   grind[zi]
  refine⟨b,o,rfl,hC,get 0 _ rfl,get 1 _ rfl,?_,λx hx=>get _ _ (CO hx)⟩;have h2:=hr 2 _ (show (yK j k (y6 p k.parent) k.params)[2]?=some (y6 p k.parent) from rfl);obtain⟨a,ha⟩:=h2.ptr
  simp_all
inductive Path (p:qC):Int->List Nat->Int->Prop
 | nil (j:Int):Path p j [] j
 | skip (j:Nat) (k:qT) (l:List Nat) (j':Int) (hk:p[j]?=some k) (hn:k.kind≠1) (h:Path p k.parent l j'):Path p j l j'
 | step (j:Nat) (k:qT) (l:List Nat) (j':Int) (hk:p[j]?=some k) (hn:k.kind=1) (h:Path p k.parent l j'):Path p j (j::l) j'
theorem Path.YX {p:qC} {i:Int} {l:List Nat} {j:Nat} {k:qT} (h:Path p i l j) (hk:p[j]?=some k) (hn:k.kind≠1):Path p i l k.parent:=by
 generalize hj:(j:Int)=j' at h
 induction h with
 | nil _=>subst hj;exact .skip j k [] _ hk hn (.nil _)
 | skip a q l j' ha hq _ ih=>exact .skip a q l _ ha hq (ih hj)
 | step a q l j' ha hq _ ih=>exact .step a q l _ ha hq (ih hj)
theorem Path.Mf {p:qC} {i:Int} {l:List Nat} {j:Nat} {k:qT} (h:Path p i l j) (hk:p[j]?=some k) (hn:k.kind=1):Path p i (l++[j]) k.parent:=by
 generalize hj:(j:Int)=j' at h
 induction h with
 | nil _=>subst hj;exact .step j k [] _ hk hn (.nil _)
 | skip a q l j' ha hq _ ih=>exact .skip a q _ _ ha hq (ih hj)
 | step a q l j' ha hq _ ih=>exact .step a q _ _ ha hq (ih hj)
theorem Path.len {p:qC} (hh:zZ p) {i j:Int} {l:List Nat} (h:Path p i l j):(l.length:Int)+j<=i:=by
 induction h with
 | nil _=>simp
 | skip a q l j' ha hq _ ih=>have:=(hh a q ha).2.1;omega
 | step a q l j' ha hq _ ih=>have:=(hh a q ha).2.1;simp;omega
def found (p:qC) (x:Int) (j:Nat):Option Int:=match p[j]? with
 | some q=>if x∈q.dc 9 then some (-1) else if u7 j q x then some (j:Int) else none
 | none=>none
theorem Path.outer {p:qC} (hh:zZ p) {x:Int} {i j:Int} {l:List Nat} (h:Path p i l j) (hb:∀ (k:qT),p[0]?=some k->k.kind≠1) (hno:∀ y∈l,found p x y=none):jx p x p.length i=jx p x p.length j:=by
 induction h with
 | nil _=>rfl
 | skip a q l j' ha hq _ ih =>
  by_cases h0:0<a
  .grind[lR]
  .obtain rfl:a=0:=qA;have:=(hh 0 q ha).2.1
   grind[xj]
 | step a q l j' ha hq _ ih =>
  have h0:0<a:=by
   grind
  rw [lR hh ha h0,if_neg ik];have hf:=hno a qB
  grind[found]
theorem Path.found {p:qC} (hh:zZ p) {x r:Int} {i j:Int} {l:List Nat} {y:Nat} (h:Path p i (l++[y]) j) (hb:∀ (k:qT),p[0]?=some k->k.kind≠1) (hno:∀ y∈l,Hm.found p x y=none) (hf:Hm.found p x y=some r):jx p x p.length i=r:=by
 generalize hl:l++[y]=l' at h
 induction h generalizing l with
 | nil _=>simp at hl
 | skip a q l' j' ha hq _ ih =>
  by_cases h0:0<a
  .grind[lR]
  .obtain rfl:a=0:=qA;have:=(hh 0 q ha).2.1
   grind[xj]
 | step a q l' j' ha hq _ ih =>
  have h0:0<a:=by
   grind
  rw [lR hh ha h0,if_neg ik]
  cases l with
  | nil =>
   grind[Hm.found]
  | cons z l =>
   simp only [fF,List.cons.injEq] at hl;obtain⟨rfl,hl⟩:=hl;have hf1:=hno z qB
   grind[Hm.found]
structure lu (k:qT):Prop where
 kinds:∀ s∈k.body,0<=s.kind/\s.kind<=11
 reads:∀ s∈k.body,∀ x∈s.reads,0<=x/\x<=7
 zN:∀ s∈k.body,0<=s.to/\s.to<=7
 params:∀ x∈k.params,0<=x/\x<=7
structure z6 (p:qC):Prop where
 ft:uA p
 jR:zZ p
 head:∀ (i:Nat) k,p[i]?=some k->uU i k
 an:∀ (i:Nat) k,p[i]?=some k->∀ s∈k.body,zW p i k s=true
 len:1<=p.length/\p.length<=7
 body:∀ k∈p,k.body.length<=12
theorem z6.of {p:qC} (hs:uA p) (h:wk p=true):z6 p:=by
 obtain⟨h1,h2,h3,h4,_⟩:=AF h
 have key:∀ (i:Nat) k,p[i]?=some k->uU i k/\k.body.length<=12/\k.body.all (zW p i k)=true:=λi k hk =>
  Aa hk (yS.1 h4 i (gN.2 (gS hk).1))
 refine⟨hs,h1,λi k hk=>(key i k hk).1,λi k hk s hm=>yS.1 (key i k hk).2.2 s hm,⟨h2,h3⟩,λk hk=>?_⟩
 grind[kB]
theorem zW.kind {p:qC} {i:Nat} {k:qT} {s:qP} (h:zW p i k s=true):0<=s.kind/\s.kind<=11:=by
 by_cases hk:0<=s.kind/\s.kind<=11
 .exact hk
 .have h2:¬ (s.kind=0\/s.kind=1\/s.kind=2\/s.kind=3\/s.kind=4\/s.kind=5\/s.kind=6\/s.kind=7\/s.kind=8\/s.kind=9\/s.kind=10\/s.kind=11):=qA
  grind[zW]
theorem z6.names {p:qC} (h:z6 p):∀ k∈p,lu k:=by
 intro k hk;obtain⟨i,hi⟩:=kB hk;have hst:=h.an i k hi;have hhd:=h.head i k hi;refine⟨λs hs=>zW.kind (hst s hs),λs hs x hx=>?_,λs hs=>?_,λx hx=>?_⟩
 .grind[zW]
 .grind[zW]
 .unfold uU at hhd
  split at hhd
  .simp_all
  .rcases hhd.2.2.2.2 with h0|⟨h1,_,h3,h4⟩
   .simp_all
   .match hp:k.params,h1,hx with
    | [y],_,hx =>
     simp_all
theorem z6.dS {p:qC} (h:z6 p) {i:Nat} {k:qT} (hk:p[i]?=some k):k.kind=0↔i=0:=by
 have:=h.head i k hk
 grind
theorem z6.Qx {p:qC} (h:z6 p):∀ k,p[0]?=some k->k.kind≠1:=by
 intro k hk;have:=(h.dS hk).2 rfl;omega
theorem z6.Pw {p:qC} (h:z6 p) {k:qT} (hk:p[0]?=some k) {d:Int} (hd:d=9\/d=10):k.dc d=[]:=by
 have hnil:ma k d=[]:=by
  simp only [ma,List.map_eq_nil_iff,List.filter_eq_nil_iff];intro s hs hsd;have hst:=h.an 0 k hk s hs;have hk0:=(h.dS hk).2 rfl
  grind[zW]
 simp only [qT.dc,hnil,sorted]
 decide
theorem U3 {p:qC} {x:Int}:∀ (n:Nat) (j:Int),-1<=jx p x n j
 := by intro x0;induction x0<;>grind[jx]
theorem U8 {p:qC} {b:Nat} {x:Int}:-1<=outer p b x:=by
 unfold outer
 split<;>simp_all[U3]
theorem T7 {xs:List Int} {n:Nat} (h:n<8):(n:Int)∈sorted xs↔(n:Int)∈xs:=by
 grind[mem_sorted]
end Go.Hm
end
section

end
section

end
section
namespace Go.Hm
open Go Go.RowKit
def pre {α:Type} (z:α) (l:List α) (i:Nat):List α:=l.take i++List.replicate (l.length - i) z
section
variable {X:Ctx} {st:St} {K:St->Prop} {E:AV->St->Prop} {ds:List (Option Nat)} {l:List Oper} {o:Oper}
theorem kH (n0 n1:Nm) (h0:n0.z7=false\/X.ext n0=false) (h1:n1.z7=false\/X.ext n1=false) (h:q8 X o K E (st.move n0 n1)):q8 X o K E st :=
 λa w Q hR hE=>h a w Q (hR.move n0 n1 h0 h1) hE
theorem oz (n0 n1:Nm) (h0:n0.z7=false\/X.ext n0=false) (h1:n1.z7=false\/X.ext n1=false) (h:q8 X o (λs=>K (s.move n0 n1)) E st):q8 X o K E st:=by
 refine q8.post h ?_;intro s a w hR hK;exact⟨_,hR.move n0 n1 h0 h1,hK⟩
end
theorem yq {U:Nm} (hU:U.z7=true):∀ {n:Nm},Nm.under U n=true->n.zo=false:=by
 intro n
 induction n with
 | s d=>grind[Nm.z7,Nm.under]
 | u k i j=>intro _;rfl
 | c q i j ih =>
  grind[Nm.under,Nm.z7,Nm.zo]
def vq (U:Nm) (hp:Nm->Option AO):Nm->Option AO:=λm=>if Nm.under U m then hp m else none
section
variable {X:Ctx} {st:St} {K:St->Prop} {E:AV->St->Prop} {d f:Nat} {ty:TypeId} {pos:String} {aft:Array Edge} {g:Option (Nat×Bool)} {args:Array Operand} {Ts:Array TypeId} {az:List AV} {R:Nm->AV->(Nm->Option AO)->Prop}
theorem ut (U:Nm) (hU:U.z7=true) (hext:X.ext U=true->st.hp U≠none) (hd:d<X.n:=by first|(simp;done)|fail) (ha:args.toList.map (ev st)=az:=by simp [fx];first|done|rfl)
  (hF:qV X.P X.gl f (Nm.under U) az (vq U st.hp) R qy) (h:∀ y H',R (.s d) y H'->K ((st.call d (Nm.under U) (vq U st.hp) H').put (some d) y)) :
  q8 X ⟨some d,.call ⟨.value (.func f),args,Ts⟩,ty,pos,aft,g⟩ K E st:=by
 subst ha;refine iu (D:=Nm.under U) (H:=vq U st.hp) (R:=R) (E0:=qy) hF (mc hF.1 rfl) false ⟨rfl,λj a a' h h'=>?_⟩ (λn hn=>?_) (λn hn=>?_) (λn hn=>?_) (λk i j he=>?_) (λe he=>qL) (λx H' hR=>?_) (λ_ _ h=>h.elim)
 .rw [h] at h';obtain rfl:=sI h';exact .refl _
 .cases hx:Nm.under U n with
  | false=>rfl
  | true =>
   have h1:=yq hU hx;have h2:=Nm.l9 (a:=.s d) rfl hn
   simp_all
 .simp [vq,hn]
 .grind[vq]
 .grind[Nm.under,vq]
 simp_all
end
section
variable {st:St} {d t:Nat} {D:Nm->Bool} {H H':Nm->Option AO} {m:Nm}
@[simp] theorem call_tm:(st.call d D H H').tm t=(st.tm t).tr (cf d D H):=rfl
@[simp] theorem call_gl:(st.call d D H H').gl=st.gl:=rfl
@[simp] theorem call_hp:(st.call d D H H').hp m=if D m||Nm.under (.s d) m then H' m else (st.hp m).map (AO.tr (cf d D H)):=rfl
@[simp] theorem cf_eq:cf d D H m=if Nm.under (.s d) m then none else if D m then (if m.z7&&(H m).isSome then some m else none) else some m:=rfl
@[simp] theorem hsub_eq {U:Nm} {hp:Nm->Option AO}:vq U hp m=if Nm.under U m then hp m else none:=rfl
end
theorem AV.uq (f g:Nm->Option Nm) (a:AV):(a.tr f).tr g=a.tr (λm=>(f m).bind g):=by
 refine AV.rec (motive_1:=λa=>(a.tr f).tr g=a.tr (λm=>(f m).bind g)) (motive_2:=λl=>iO g (iO f l)=iO (λm=>(f m).bind g) l) (motive_3:=λl=>bU g (bU f l)=bU (λm=>(f m).bind g) l) ?_ ?_ ?_ ?_ ?_ ?_ ?_ ?_ ?_ ?_ ?_ ?_ ?_ ?_ ?_ ?_ a
 all_goals intros
 all_goals simp only [AV.tr,bU,iO, *]
 all_goals grind[tr]
theorem AO.uq (f g:Nm->Option Nm) (o:AO):(o.tr f).tr g=o.tr (λm=>(f m).bind g):=by
 have h:AV.tr g∘AV.tr f=AV.tr (λm=>(f m).bind g):=funext λa=>AV.uq f g a
 cases o<;>simp_all[AV.uq]
def eW (N V:Nm) (d:Nat) (m:Nm):Option Nm:=if Nm.under N m then (if m=N then some N else none) else if Nm.under V m then none else if Nm.under (.s d) m then none else some m
def St.lN (st:St) (N V:Nm) (d:Nat) (H':Nm->Option AO):St :=
 { tm:=λt=>(st.tm t).tr (eW N V d),
   hp:=λm=>if Nm.under N m then (if mv V N (Nm.qz N V m)=some m then (H' (Nm.qz N V m)).map (AO.tr (mv V N)) else none) else if Nm.under V m then none else if Nm.under (.s d) m then (H' m).map (AO.tr (mv V N)) else (st.hp m).map (AO.tr (eW N V d)),
   n:=st.n,gl:=st.gl }
section
variable {st:St} {N V m:Nm} {d t:Nat} {H':Nm->Option AO}
@[simp] theorem XB:eW N V d m=if Nm.under N m then (if m=N then some N else none) else if Nm.under V m then none else if Nm.under (.s d) m then none else some m:=rfl
@[simp] theorem mutc_tm:(st.lN N V d H').tm t=(st.tm t).tr (eW N V d):=rfl
@[simp] theorem mutc_gl:(st.lN N V d H').gl=st.gl:=rfl
@[simp] theorem mutc_hp:(st.lN N V d H').hp m=if Nm.under N m then (if mv V N (Nm.qz N V m)=some m then (H' (Nm.qz N V m)).map (AO.tr (mv V N)) else none) else if Nm.under V m then none else if Nm.under (.s d) m then (H' m).map (AO.tr (mv V N)) else (st.hp m).map (AO.tr (eW N V d)):=rfl
end
theorem Fg {N V:Nm} {x:Nm} (h:Nm.under N x=true) (hne:x≠N):(Nm.qz N V x).z7=false:=by
 cases x<;>simp_all[Nm.under,Nm.qz]
theorem G4 {V n:Nm} {d:Nat} (hV:V.z7=true) (h:Nm.under V n=true):Nm.under (.s d) n=false:=by
 cases hx:Nm.under (.s d) n with
 | false=>rfl
 | true =>
  have h1:=yq hV h;have h2:=Nm.l9 (a:=.s d) rfl hx
  simp_all
theorem XA {N V:Nm} {d:Nat} {Hs:Nm->Option AO} (hV:V.z7=true) (hNV:Nm.under V N=false) (hs:(Hs V).isSome=true):(λm=>((mv N V m).bind (cf d (Nm.under V) Hs)).bind (mv V N))=eW N V d:=by
 funext x
 by_cases hx:Nm.under N x=true
 .have hu:Nm.under V (Nm.qz N V x)=true:=Nm.de x hx;have hsd:=G4 (d:=d) hV hu;by_cases e:x=N<;>simp_all[Fg]
 grind[mv,cf,eW]
theorem KR {st:St} {N V:Nm} {d:Nat} {H':Nm->Option AO} {y:AV} (hV:V.z7=true) (hNV:Nm.under V N=false) (hs:(vq V (st.move N V).hp V).isSome=true) :
  (((st.move N V).call d (Nm.under V) (vq V (st.move N V).hp) H').put (some d) y).move V N=(st.lN N V d H').put (some d) (y.tr (mv V N)):=by
 have hc:=XA (N:=N) (d:=d) hV hNV hs
 have e1:∀ a:AV,((a.tr (mv N V)).tr (cf d (Nm.under V) (vq V (st.move N V).hp))).tr (mv V N)=a.tr (eW N V d):=by
  grind[AV.uq]
 have e2:∀ o:AO,((o.tr (mv N V)).tr (cf d (Nm.under V) (vq V (st.move N V).hp))).tr (mv V N)=o.tr (eW N V d):=by
  grind[AO.uq]
 unfold St.move;simp only [St.nm,St.put,St.lN]
 congr 1
 .funext t
  by_cases h:t=d
  .simp [h]
  .simp only [h,if_false];exact e1 _
 .funext m
  simp only [jt];by_cases h1:Nm.under N m=true
  .simp_all<;>grind
  .simp only [kN] at h1;simp only [h1,b7,if_false];by_cases h2:Nm.under V m=true
   .simp_all
   .simp only [kN] at h2;simp only [h2,b7,if_false,St.call,St.nm,Bool.false_or];by_cases h3:Nm.under (.s d) m=true
    .simp_all
    .simp only [kN] at h3;simp only [h3,b7,if_false,St.nm,St.move,jt,h2,h1]
     cases st.hp m with
     | none=>rfl
     | some o=>simp only [uX];exact congrArg some (e2 o)
section
variable {X:Ctx} {st:St} {K:St->Prop} {E:AV->St->Prop} {d f:Nat} {ty:TypeId} {pos:String} {aft:Array Edge} {g:Option (Nat×Bool)} {args:Array Operand} {Ts:Array TypeId} {az:List AV} {R:Nm->AV->(Nm->Option AO)->Prop}
theorem Cd (N V:Nm) (hV:V.z7=true:=by rfl) (hN:N.z7=false:=by rfl) (hNV:Nm.under V N=false:=by first|(simp;done)|fail) (hext:X.ext V=false) (hs:(vq V (st.move N V).hp V).isSome=true) (hd:d<X.n:=by first|(simp;done)|fail)
  (ha:args.toList.map (ev (st.move N V))=az:=by simp [fx];first|done|rfl)
  (hF:qV X.P X.gl f (Nm.under V) az (vq V (st.move N V).hp) R qy) (h:∀ y H',R (.s d) y H'->K ((st.lN N V d H').put (some d) (y.tr (mv V N)))) :
  q8 X ⟨some d,.call ⟨.value (.func f),args,Ts⟩,ty,pos,aft,g⟩ K E st:=by
 refine kH N V (.inl hN) (.inr hext) (oz V N (.inr hext) (.inl hN) ?_)
 grind[ut,KR]
end
section
variable {p:qC} {n:Nm} {i l d a b e:Nat}
@[simp] theorem pRows_mvself {m:Nm}:(yX n p).map (λr=>r.map (AV.tr (mv n m)))=yX m p:=kr qB
@[simp] theorem pRows_rtf2 {N:Nm} (hN:Nm.under N n=false) (hN2:Nm.under n N=false) (hV:Nm.under (.u a b e) n=false) (hd:Nm.under (.s d) n=false):(yX n p).map (λr=>r.map (AV.tr (eW N (.u a b e) d)))=yX n p:=by
 grind[kr,Nm.under,XB]
end
section
variable {X:Ctx} {st:St} {K:St->Prop} {E:AV->St->Prop}
theorem ua {o:Oper} (F:St->Prop) (h:F st) (k:∀ s,F s->q8 X o K E s):q8 X o K E st:=k st h
theorem Xo {ds:List (Option Nat)} {l:List Oper} (F:St->Prop) (h:F st) (k:∀ s,F s->jm X ds K E l s):jm X ds K E l st:=k st h
theorem aS {c:Code} {Q:Ex->St->Prop} (F:St->Prop) (h:F st) (k:∀ s,F s->zu X c Q s):zu X c Q st:=k st h
end
end Go.Hm
end
