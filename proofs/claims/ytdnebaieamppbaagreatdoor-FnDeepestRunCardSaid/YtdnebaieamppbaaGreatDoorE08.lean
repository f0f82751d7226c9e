import Derived.Test.YtdnebaieamppbaaGreatDoorE07
import Derived.Below
set_option linter.unusedSimpArgs false
set_option linter.unusedVariables false
set_option maxRecDepth 100000
set_option maxHeartbeats 4000000

section
namespace Go.Hm
open Go Go.RowKit
def yR (n:Nm) (p:Z0):List (List AV):=p.mapIdx (λi k=>[iv k.kind,iv k.parent,.hs (.c n i 2) 1 0 k.params.length,.hs (.c n i 3) 4 0 k.body.length])
structure qAb (hp:Nm->Option AO) (n:Nm) (p:Z0):Prop where
 top:hp n=some (.row 4 (yR n p))
 params:∀ (i:Nat) k,p[i]?=some k->hp (.c n i 2)=some (.row 1 (qT k.params))
 body:∀ (i:Nat) k,p[i]?=some k->hp (.c n i 3)=some (.row 4 (jg k.body))
section
variable {p:Z0} {i a b d l:Nat} {n q k1:Nm} {k:Za}
@[simp] theorem pRows_len:(yR n p).length=p.length:=tT
@[simp] theorem bJ:(yR n p)[i]?=(p[i]?).map (λk=>[iv k.kind,iv k.parent,.hs (.c n i 2) 1 0 k.params.length,.hs (.c n i 3) 4 0 k.body.length]):=tT
@[simp] theorem pRows_getE {h:i<(yR n p).length}:(yR n p)[i]=[iv (p[i]' qH).kind,iv (p[i]' qH).parent,.hs (.c n i 2) 1 0 (p[i]' qH).params.length,.hs (.c n i 3) 4 0 (p[i]' qH).body.length]:=tT
@[simp] theorem pRows_nil:yR n []=[]:=rfl
@[simp] theorem pRows_take:(yR n p).take p.length=yR n p:=b9 qB
theorem D8:yR n (p++[k])=yR n p++[[iv k.kind,iv k.parent,.hs (.c n p.length 2) 1 0 k.params.length,.hs (.c n p.length 3) 4 0 k.body.length]]:=tT
theorem zA {f:Nm->Option Nm} {m:Nm} (h:∀ i j,i<p.length->f (.c n i j)=some (.c m i j)):(yR n p).map (λr=>r.map (AV.tr f))=yR m p:=by
 apply wK;intro i;simp only [kx,bJ,Option.map_map]
 grind[AV.tr]
@[simp] theorem pRows_kl (h:Nm.under (.s d) n=false):(yR n p).map (λr=>r.map (AV.tr (kl (.s d))))=yR n p:=zA dO
@[simp] theorem pRows_mv2 (h:Nm.under (.s a) n=false) (h':Nm.under (.s b) n=false):(yR n p).map (λr=>r.map (AV.tr (mv (.s a) (.s b))))=yR n p:=zA (by simp [h,h'])
@[simp] theorem pRows_mv3 (h:Nm.under (.s a) n=false) (hq:(q=n)=False) (hq':Nm.under (.c q b l) n=false):(yR n p).map (λr=>r.map (AV.tr (mv (.s a) (.c q b l))))=yR n p:=by
 grind[zA,Nm.under,mv]
@[simp] theorem pRows_mvc:(yR n p).map (λr=>r.map (AV.tr (mvc n k1)))=yR k1 p:=by
 simp_all[zA,Nm.qAT]
@[simp] theorem pRows_mv4 {j:Nat} (hq:(q=n)=False) (hq':Nm.under (.c q a b) n=false) (hl:p.length<=l):(yR n p).map (λr=>r.map (AV.tr (mv (.c q a b) (.c n l j))))=yR n p:=by
 have h1:¬ n=q:=λe=>qH
 have h2:Nm.under (.c n l j) n=false:=by
  cases h:Nm.under (.c n l j) n with
  | false=>rfl
  | true=>exact absurd rfl (Nm.qAS h).2
 grind[zA,Nm.under,mv]
end
theorem cW {hp:Nm->Option AO} {n:Nm} {len:Nat} {p:Z0} (h:qAb hp n p) (hl:len=p.length):Bw hp noD (.hs n 4 0 len) (ksl p):=by
 subst hl;refine .hs n 4 0 p.length (yR n p) (BT p) rfl h.top qB qB tD λi r r' hr hr' j a a' ha ha'=>?_;rw [xX,bJ] at hr;rw [NA] at hr';obtain⟨x,hx,rfl⟩:=ku.1 hr;rw [hx] at hr';obtain rfl:=sI hr'
 match j,ha,ha' with
 | 0,ha,ha'=>obtain rfl:=sI ha;obtain rfl:=sI ha';exact .refl _
 | 1,ha,ha'=>obtain rfl:=sI ha;obtain rfl:=sI ha';exact .refl _
 | 2,ha,ha'=>obtain rfl:=sI ha;obtain rfl:=sI ha';exact vF (h.params i x hx) rfl
 | 3,ha,ha'=>obtain rfl:=sI ha;obtain rfl:=sI ha';exact CU (h.body i x hx) rfl
 | j+4,ha,_=>simp at ha
theorem cX {hp:Nm->Option AO} {x y:AV} (h:Bw hp noD x y):Bw hp noD (.agg [x]) (.agg [y]):=by
 constructor<;>grind
theorem qAb.qAH {H':Nm->Option AO} {n:Nm} {p:Z0} (h:qAb H' n p):qAb (qAH H') n p:=by
 refine⟨zX h.top ?_,λi k hk=>zX (h.params i k hk) qB,λi k hk=>zX (h.body i k hk) qB⟩;simp only [yR,dT];intro r hr;obtain⟨i,hi⟩:=eW hr;rw [List.getElem?_mapIdx] at hi;obtain⟨x,_,rfl⟩:=ku.1 hi;simp
def setBody (p:Z0) (i:Nat) (L:List Z9):Z0:=p.modify i (λk=>{ k with body:=L })
@[simp] theorem uv {p:Z0} {i:Nat} {L:List Z9}:(setBody p i L).length=p.length:=by simp [setBody]
theorem wO {p:Z0} {i j:Nat} {L:List Z9} {k:Za} (h:p[j]?=some k):(setBody p i L)[j]?=some (if i=j then { k with body:=L } else k):=by
 grind[setBody]
theorem fZ {n:Nm} {a i len:Nat} {p:Z0} {L:List Z9} (hl:len=L.length) (hn:Nm.under (.s a) n=false) (hn':Nm.under (.c n i 3) n=false) :
  (qk (yR n p) i 3 [.hs (.s a) 4 0 len]).map (λr=>r.map (AV.tr (mv (.s a) (.c n i 3))))=yR n (setBody p i L):=by
 subst hl;apply wK;intro j;simp only [qk,kx,pR,bJ]
 cases hx:p[j]? with
 | none =>
  simp_all
 | some x =>
  rw [wO hx];by_cases e:i=j
  .simp_all
  simp_all<;>grind
theorem ZS {X:Ctx} {st:St} {K:St->Prop} {ds:List (Option Nat)} {l:List Oper} {i j e:Nat} {want t:Bool} {r:Zh} {dst:Option Nat} {op:Op} {ty:TypeId} {pos:String} {aft:Array Edge} (_ho:l[i]?=some ⟨dst,op,ty,pos,aft,some (j,want)⟩) (_hj:ds[j]?=some (some e)) (ht:st.tm e=.sc (.bool t))
  (h1:t=true->ur X l ds K (.q i r) (st.put (some e) (.sc (.bool true)))) (h2:t=false->ur X l ds K (.q i r) (st.put (some e) (.sc (.bool false)))):ur X l ds K (.q i r) st:=ZR e ht h1 h2
theorem Zk:Nm.under (.s 0) (.s 0)=true:=Nm.Z6 _
theorem qL {x y:Int}:(x != y)=!(x==y):=rfl
section
variable {X:Ctx} {st:St} {K:St->Prop} {E:AV->St->Prop} {ds:List (Option Nat)} {l:List Oper}
variable {d:Nat} {ty:TypeId} {pos:String} {aft:Array Edge} {g:Option (Nat×Bool)} {st' st1:St}
theorem x_q {op:Op} {z:AV} (hd:d<X.n:=by first|(simp;done)|fail) (hz:qev X.P st ⟨some d,op,ty,pos,aft,g⟩=some z:=by simp [fx];first|done|rfl|exact (ll _).symm) (h:K (st.put (some d) z)):qS X ⟨some d,op,ty,pos,aft,g⟩ K E st:=o_q hd hz h
theorem zL {x:Operand} (hd:d<X.n:=by first|(simp;done)|fail) (hs:HO X.P ty d (ev st x) st=st':=by simp [fx];first|done|rfl|exact (ll _).symm) (h:K st'):qS X ⟨some d,.assign x,ty,pos,aft,g⟩ K E st:=QQ hd hs h
theorem lu {T:TypeId} {x:Operand} {cs:List AV} (hd:d<X.n:=by first|(simp;done)|fail) (hq:(ev st x).cells=some cs:=by simp [fx];first|done|rfl|exact (ll _).symm) (hz:cs.length=Zq X.P T:=by first|(simp [fx];done)|fail)
  (hs:lg X.P T d cs st=st':=by simp [fx];first|done|rfl|exact (ll _).symm) (h:K st'):qS X ⟨some d,.box T x,ty,pos,aft,g⟩ K E st:=Ya hd hq hz hs h
theorem u5 {T:TypeId} {zs:List AV} (hd:d<X.n:=by first|(simp;done)|fail) (hq:yn X.P T=some zs:=by simp [fx];first|done|rfl|exact (ll _).symm) (hs:lg X.P T d zs st=st':=by simp [fx];first|done|rfl|exact (ll _).symm) (h:K st'):qS X ⟨some d,.alloc T,ty,pos,aft,g⟩ K E st:=T2 hd hq hs h
theorem jA {T:TypeId} {p x:Operand} {n:Nm} {z i off:Nat} {v0:List AV} {rows:List (List AV)} (hT:(X.P.info? T).isSome=true:=by first|(simp [fx];done)|fail) (hv0:(ev st x).cells=some v0:=by simp [fx];first|done|rfl|exact (ll _).symm)
  (hnil:v0.all (λx=>!zT x)=true:=by first|(simp [fx];done)|fail) (hlen:v0.length=Zq X.P T:=by first|(simp [fx];done)|fail)
  (hp:pl (ev st p)=some (n,i,off):=by simp [fx];first|done|rfl|exact⟨rfl,rfl⟩|exact⟨rfl,rfl,rfl⟩) (hrows:iY st (ev st p)=some (z,rows):=by simp [fx];first|done|rfl|exact⟨rfl,rfl⟩|exact⟨rfl,rfl,rfl⟩)
  (hi:i<rows.length:=by first|(simp [fx];done)|(simp [fx];omega)|omega) (hoff:off+v0.length<=z:=by first|(simp [fx];done)|(simp [fx];omega)|omega)
  (hs:canon (prs (λj=>.c n i (off+j)) 0 v0) (st.Zp n (.row z (qk rows i off v0)))=st':=by simp [fx];first|done|rfl|exact (ll _).symm) (h:K st') :
  qS X ⟨none,.store T p x,ty,pos,aft,g⟩ K E st:=QO hT hv0 hnil hlen hp hrows hi hoff hs h
theorem bB {T:TypeId} {p x:Operand} {n:Nm} {z i off:Nat} {v0 v1:List AV} {rows:List (List AV)} (hT:(X.P.info? T).isSome=true:=by first|(simp [fx];done)|fail) (hv0:(ev st x).cells=some v0:=by simp [fx];first|done|rfl|exact (ll _).symm)
  (hlen:v0.length=Zq X.P T:=by first|(simp [fx];done)|fail)
  (hp:pl (ev st p)=some (n,i,off):=by simp [fx];first|done|rfl|exact⟨rfl,rfl⟩|exact⟨rfl,rfl,rfl⟩) (hk:xN X.P T n i off v0 st=st1:=by simp [fx];first|done|rfl|exact (ll _).symm)
  (hp1:pl (ev st1 p)=some (n,i,off):=by simp [fx];first|done|rfl|exact⟨rfl,rfl⟩|exact⟨rfl,rfl,rfl⟩) (hv1:(ev st1 x).cells=some v1:=by simp [fx];first|done|rfl|exact (ll _).symm)
  (hsame:v1.map zT=v0.map zT:=by first|(simp [fx];done)|fail) (hrows:iY st1 (ev st1 p)=some (z,rows):=by simp [fx];first|done|rfl|exact⟨rfl,rfl⟩|exact⟨rfl,rfl,rfl⟩)
  (hi:i<rows.length:=by first|(simp [fx];done)|(simp [fx];omega)|omega) (hoff:off+v1.length<=z:=by first|(simp [fx];done)|(simp [fx];omega)|omega)
  (hs:Ac n z i off rows (Ol X.P T n i off v1) st1=st':=by simp [fx];first|done|rfl|exact (ll _).symm) (h:K st'):qS X ⟨none,.store T p x,ty,pos,aft,g⟩ K E st:=T0 hT hv0 hlen hp hk hp1 hv1 hsame hrows hi hoff hs h
theorem jW {T F:TypeId} {s x:Operand} {z:Nat} {rows2:List (List AV)} (hd:d<X.n:=by first|(simp;done)|fail) (hT:cG X.P T=some F:=by simp [fx];first|done|rfl) (hz:Zq X.P F=z:=by simp [fx];first|done|rfl) (hs:ev st s=.sc (.slice none 0 0):=by first|(simp [fx];done)|fail)
  (hx:uH st z (ev st x)=some rows2:=by simp [fx];first|done|rfl) (hlen:rows2.length<=4294967296:=by first|(simp [fx];done)|(simp [fx];omega)|omega)
  (hq:xV d z rows2.length none rows2 st=st':=by simp [fx];first|done|rfl|exact (ll _).symm) (h:K st'):qS X ⟨some d,.call ⟨.builtin .append,#[s,x],#[T,T]⟩,ty,pos,aft,g⟩ K E st:=M3 hd hT hz hs hx hlen hq h
theorem jw {T F:TypeId} {s x:Operand} {z len:Nat} {n:Nm} {rows0 rows2:List (List AV)} (hd:d<X.n:=by first|(simp;done)|fail) (hT:cG X.P T=some F:=by simp [fx];first|done|rfl) (hz:Zq X.P F=z:=by simp [fx];first|done|rfl) (hs:ev st s=.hs n z 0 len:=by simp [fx];first|done|rfl|exact⟨rfl,rfl⟩|exact⟨rfl,rfl,rfl⟩)
  (hn:st.hp n=some (.row z rows0):=by simp [fx];first|done|rfl) (hle:len<=rows0.length:=by first|(simp [fx];done)|(simp [fx];omega)|omega)
  (hx:uH st z (ev st x)=some rows2:=by simp [fx];first|done|rfl) (hlen:len+rows2.length<=4294967296:=by first|(simp [fx];done)|(simp [fx];omega)|omega)
  (hq:xV d z (len+rows2.length) (some n) (rows0.take len++rows2) st=st':=by simp [fx];first|done|rfl|exact (ll _).symm) (h:K st'):qS X ⟨some d,.call ⟨.builtin .append,#[s,x],#[T,T]⟩,ty,pos,aft,g⟩ K E st:=QR hd hT hz hs hn hle hx hlen hq h
theorem Cj {T F:TypeId} {s x:Operand} {z len:Nat} {n:Nm} {rows0 rows2:List (List AV)} (hd:d<X.n:=by first|(simp;done)|fail) (hT:cG X.P T=some F:=by simp [fx];first|done|rfl) (hz:Zq X.P F=z:=by simp [fx];first|done|rfl) (hs:ev st s=.hs n z 0 len:=by simp [fx];first|done|rfl|exact⟨rfl,rfl⟩|exact⟨rfl,rfl,rfl⟩)
  (hn:st.hp n=some (.row z rows0):=by simp [fx];first|done|rfl) (hle:len<=rows0.length:=by first|(simp [fx];done)|(simp [fx];omega)|omega)
  (hx:uH st z (ev st x)=some rows2:=by simp [fx];first|done|rfl) (hlen:len+rows2.length<=4294967296:=by first|(simp [fx];done)|(simp [fx];omega)|omega)
  (hq:Hm.canon (Pz (.s d) len rows2) ((xV d z (len+rows2.length) (some n) (rows0.take len++rows2) st).mvc n (.s d))=st':=by simp [fx];first|done|rfl|exact (ll _).symm) (h:K st') :
  qS X ⟨some d,.call ⟨.builtin .append,#[s,x],#[T,T]⟩,ty,pos,aft,g⟩ K E st:=Dd hd hT hz hs hn hle hx hlen hq h
theorem lr {T F:TypeId} {x y:Operand} {ln z:Nat} {k k':IntKind} {zv:List AV} (hd:d<X.n:=by first|(simp;done)|fail) (hx:ev st x=.sc (.int k ln):=by simp [fx];first|done|rfl|exact⟨rfl,rfl⟩) (hy:ev st y=.sc (.int k' ln):=by simp [fx];first|done|rfl|exact⟨rfl,rfl⟩)
  (hE:cG X.P T=some F:=by simp [fx];first|done|rfl) (hz:Zq X.P F=z:=by simp [fx];first|done|rfl) (hzv:yn X.P F=some zv:=by simp [fx];first|done|rfl) (hl:ln<=4294967296:=by first|(simp [fx];done)|(simp [fx];omega)|omega)
  (hq:Vy d z ln zv st=st':=by simp [fx];first|done|rfl|exact (ll _).symm) (h:K st'):qS X ⟨some d,.makeSlice T x y,ty,pos,aft,g⟩ K E st:=Vu hd hx hy hE hz hzv hl hq h
theorem yV {T F:TypeId} {len z:Nat} {parts:Array (Nat×Operand)} {rows:List (List AV)} (hd:d<X.n:=by first|(simp;done)|fail) (hE:cG X.P T=some F:=by simp [fx];first|done|rfl) (hz:Zq X.P F=z:=by simp [fx];first|done|rfl) (hrows:iX st parts.toList=some rows:=by simp [fx];first|done|rfl)
  (c1:parts.toList.map (·.1)=List.range len:=by decide) (c2:len * z<=16777216:=by decide) (c3:rows.all (λr=>r.length==z)=true:=by first|(simp [fx];done)|fail)
  (hs:RF X.P F d z rows st=st':=by simp [fx];first|done|rfl|exact (ll _).symm) (h:K st'):qS X ⟨some d,.buildSlice T len parts,ty,pos,aft,g⟩ K E st:=T1 hd hE hz hrows c1 c2 c3 hs h
section
variable {f:Nat} {args:Array Operand} {Ts:Array TypeId} {az avs:List AV}
theorem qJ {x:AV} (hd:d<X.n:=by first|(simp;done)|fail) (ha:args.toList.map (ev st)=avs:=by simp [fx];first|done|rfl|exact (ll _).symm)
  (hB:BwL st.hp noD avs az:=by
    first
    | ((repeat' (first|exact .nil|refine .cons ?_ ?_|exact .refl _|exact vF vt vw|exact km vt vw eL));done)
    | fail)
  (hF:qb X.P X.gl f az (λ_ y _=>y=x)) (hc:x.cln=true:=by first|(simp [fx];done)|fail) (h:K ((st.kill (.s d)).put (some d) x)) :
  qS X ⟨some d,.call ⟨.value (.func f),args,Ts⟩,ty,pos,aft,g⟩ K E st:=Ro hd ha hB hF hc h
theorem jP {z n:Nat} {rows:List (List AV)} (hd:d<X.n:=by first|(simp;done)|fail) (ha:args.toList.map (ev st)=avs:=by simp [fx];first|done|rfl|exact (ll _).symm)
  (hB:BwL st.hp noD avs az:=by
    first
    | ((repeat' (first|exact .nil|refine .cons ?_ ?_|exact .refl _|exact vF vt vw|exact km vt vw eL));done)
    | fail)
  (hF:qb X.P X.gl f az (λr y H'=>y=.hs r z 0 n/\H' r=some (.row z rows))) (hc:rows.all (λr=>r.all AV.cln)=true:=by first|(simp;done)|fail)
  (h:K (((st.kill (.s d)).Zp (.s d) (.row z rows)).put (some d) (.hs (.s d) z 0 n))):qS X ⟨some d,.call ⟨.value (.func f),args,Ts⟩,ty,pos,aft,g⟩ K E st:=M1 hd ha hB hF hc h
theorem FC {R:Nm->AV->(Nm->Option AO)->Prop} (hd:d<X.n:=by first|(simp;done)|fail) (ha:args.toList.map (ev st)=avs:=by simp [fx];first|done|rfl|exact (ll _).symm)
  (hB:BwL st.hp noD avs az:=by
    first
    | ((repeat' (first|exact .nil|refine .cons ?_ ?_|exact .refl _|exact vF vt vw|exact km vt vw eL));done)
    | fail)
  (hF:qb X.P X.gl f az R) (h:∀ y H',R (.s d) y H'->y.cln=true/\K (((st.kill (.s d)).qCg d (qAH H')).put (some d) y)) :
  qS X ⟨some d,.call ⟨.value (.func f),args,Ts⟩,ty,pos,aft,g⟩ K E st:=M2 hd ha hB hF h
end
end
section
variable {X:Ctx} {st:St} {K:St->Prop} {E:AV->St->Prop} {ds:List (Option Nat)} {l:List Oper} {dst:Option Nat} {op:Op} {ty:TypeId} {pos:String} {aft:Array Edge} {i j e:Nat} {want:Bool} {v:AV}
theorem bC (hj:ds[j]?=some (some e):=by rfl) (ht:st.tm e=v:=by simp [fx];first|done|rfl|exact (ll _).symm) (h:Gx X ds K E l st dst op ty pos aft j want e v):il X ds K E (⟨dst,op,ty,pos,aft,some (j,want)⟩::l) st:=Sm hj ht h
theorem Oy (hn:∀ e,dst=some e->e<X.n:=by first|(simp;done)|fail) (h:il X ds K E l (st.put dst (.sc undef))):Gx X ds K E l st dst op ty pos aft j true e (.sc (.bool false)):=Yh hn h
theorem PC (hn:∀ e,dst=some e->e<X.n:=by first|(simp;done)|fail) (h:il X ds K E l (st.put dst (.sc undef))):Gx X ds K E l st dst op ty pos aft j false e (.sc (.bool true)):=Yi hn h
theorem x_u (hn:∀ e,dst=some e->e<X.n:=by first|(simp;done)|fail) (h:il X ds K E l (st.put dst (.sc undef))):Gx X ds K E l st dst op ty pos aft j want e (.sc undef):=ZJ hn h
theorem jr {c:Operand} {x y:Code} {Q:Ex->St->Prop} (ht:ev st c=.sc (.bool true):=by first|(simp [fx];done)|fail) (h1:qh X x Q st):qh X (.cond c x y) Q st:=PJ h1 ht
theorem yF {c:Operand} {x y:Code} {Q:Ex->St->Prop} (ht:ev st c=.sc (.bool false):=by first|(simp [fx];done)|fail) (h1:qh X y Q st):qh X (.cond c x y) Q st:=PK h1 ht
theorem gn {c:Nat} {x y:Code} {Q:Ex->St->Prop} {t:Bool} (ht:st.tm c=.sc (.bool t):=by simp [fx];first|done|rfl|exact (ll _).symm) (h1:t=true->qh X x Q (st.put (some c) (.sc (.bool true)))) (h2:t=false->qh X y Q (st.put (some c) (.sc (.bool false)))):qh X (.cond (.tmp c) x y) Q st:=w9 ht h1 h2
theorem nC {d:Nat} {r:Zh} {z:AV} (ho:l[i]?=some ⟨some d,op,ty,pos,aft,none⟩:=by rfl) (hd:d<X.n:=by first|(simp;done)|fail) (hz:qev X.P st ⟨some d,op,ty,pos,aft,none⟩=some z:=by simp [fx];first|done|rfl|exact (ll _).symm) (h:ur X l ds K r (st.put (some d) z)):ur X l ds K (.q i r) st:=a_q ho hd hz h
theorem pC {d:Nat} {r:Zh} {z:AV} (ho:l[i]?=some ⟨some d,op,ty,pos,aft,some (j,want)⟩:=by rfl) (hj:ds[j]?=some (some e):=by rfl) (ht:st.tm e=.sc (.bool want):=by first|(simp [fx];done)|fail) (hd:d<X.n:=by first|(simp;done)|fail)
  (hz:qev X.P st ⟨some d,op,ty,pos,aft,some (j,want)⟩=some z:=by simp [fx];first|done|rfl|exact (ll _).symm) (h:ur X l ds K r (st.put (some d) z)):ur X l ds K (.q i r) st:=ZP ho hj ht hd hz h
theorem pD {d:Nat} {r:Zh} (ho:l[i]?=some ⟨some d,op,ty,pos,aft,some (j,want)⟩:=by rfl) (hj:ds[j]?=some (some e):=by rfl) (ht:st.tm e=.sc (.bool (!want)):=by first|(simp [fx];done)|fail) (hd:d<X.n:=by first|(simp;done)|fail)
  (h:ur X l ds K r (st.put (some d) (.sc undef))):ur X l ds K (.q i r) st:=ZQ ho hj ht hd h
theorem pB {d:Nat} {r:Zh} (ho:l[i]?=some ⟨some d,op,ty,pos,aft,some (j,want)⟩:=by rfl) (hj:ds[j]?=some (some e):=by rfl) (ht:st.tm e=.sc undef:=by first|(simp [fx];done)|fail) (hd:d<X.n:=by first|(simp;done)|fail)
  (h:ur X l ds K r (st.put (some d) (.sc undef))):ur X l ds K (.q i r) st:=ZO ho hj ht hd h
theorem pE {t:Bool} {r:Zh} (ho:l[i]?=some ⟨dst,op,ty,pos,aft,some (j,want)⟩:=by rfl) (hj:ds[j]?=some (some e):=by rfl) (ht:st.tm e=.sc (.bool t):=by simp [fx];first|done|rfl|exact (ll _).symm)
  (h1:t=true->ur X l ds K (.q i r) (st.put (some e) (.sc (.bool true)))) (h2:t=false->ur X l ds K (.q i r) (st.put (some e) (.sc (.bool false)))):ur X l ds K (.q i r) st:=ZS ho hj ht h1 h2
theorem wj {q:Nat} {ps:List Nat} {o:Oper} (ho:l[q]?=some o:=by rfl) (h1:Cy X ds o st:=by first|(simp [Cy,fx];done)|(simp [Cy,undef,fx];done)|fail) (h2:fN X l ds ps st):fN X l ds (q::ps) st:=Se ho h1 h2
end
def mkN (ss:List Z9) (b:Int):Nat:=(ss.filter (λs=>fh s b)).length
def lE (p:Z0) (b:Int):Nat->Nat
 | 0=>0
 | n+1=>lE p b n+(match p[n]? with|some q=>mkN q.body b|none=>0)
theorem Rq (ss:List Z9) (b:Int):mkN ss b<=ss.length:=List.length_filter_le _ _
theorem BN {ss:List Z9} {b:Int} {j:Nat} {s:Z9} (h:ss[j]?=some s):mkN (ss.take (j+1)) b=mkN (ss.take j) b+(if fh s b then 1 else 0):=by
 simp only [mkN];rw [zm h]
 grind
theorem QX {p:Z0} {b:Int} {m:Nat} (h:∀ q∈p,q.body.length<=m):∀ n,lE p b n<=n * m
 := by intro x0;induction x0<;>grind[lE,Rq]
def cw (p:Z0) (ss:List Z9) (n:Nat):List Int:=(List.range 7).map (λk:Nat=>((lE p k n+mkN ss k:Nat):Int))
theorem Dl {p:Z0} {ss:List Z9} {n k:Nat} (h:k<7):(cw p ss n)[k]?=some ((lE p k n+mkN ss k:Nat):Int):=by
 simp [cw,h]
theorem Ml {p:Z0} {ss:List Z9} {n j k:Nat} {s:Z9} (hs:ss[j]?=some s) (hk:s.a=k) (hm:s.kind=3\/s.kind=4) (h7:k<7) :
  (cw p (ss.take j) n).set k (((lE p k n+mkN (ss.take j) k:Nat):Int)+1)=cw p (ss.take (j+1)) n:=by
 apply wK;intro i;simp only [cw,eV,Eg,List.length_range,kx];by_cases hi:k=i
 .subst hi;have:fh s k=true:=by grind[fh]
  grind[BN]
 .rw [if_neg hi];by_cases h:i<7
  .have:fh s i=false:=by
    grind[fh]
   grind[BN]
  .simp [h]
theorem Jv {p:Z0} {ss:List Z9} {n j:Nat} {s:Z9} (hs:ss[j]?=some s) (hm:¬ (s.kind=3\/s.kind=4)):cw p (ss.take (j+1)) n=cw p (ss.take j) n:=by
 simp_all[cw,fh,BN]
theorem Jw {p:Z0} {n:Nat} {q:Za} (h:p[n]?=some q):cw p q.body n=cw p [] (n+1):=by
 grind[cw,lE,mkN]
theorem IS {p:Z0} {b:Nat} {k:Za} (hp:zS p) (hk:p[b]?=some k) (hv:∀ (i:Nat) q,p[i]?=some q->∀ s∈q.body,zN p i q s=true) (hpar:0<=k.parent):∀ n,n<=p.length->(lE p b n:Int)=if k.parent<n then kF p b else 0
 | 0,_=>by grind[lE]
 | n+1,hn=>by
  have ih:=IS hp hk hv hpar n qA;obtain⟨q,hq⟩:∃ q,p[n]?=some q:=⟨_,gE qA⟩;simp only [lE,hq];by_cases e:k.parent=n
  .grind[kF,mkN]
  .have h0:mkN q.body b=0:=by
    simp only [mkN,List.length_eq_zero_iff,List.filter_eq_nil_iff]
    grind[fh,kW,b6,zN]
   omega
theorem QY {p:Z0} {b:Nat} {k:Za} (hp:zS p) (hk:p[b]?=some k) (hv:∀ (i:Nat) q,p[i]?=some q->∀ s∈q.body,zN p i q s=true) (hpar:0<=k.parent):(lE p b p.length:Int)=kF p b:=by
 have hb:=(gS hk).1;have:=(hp b k hk).2.1;rw [IS hp hk hv hpar _ (qf _),if_pos qA]
@[simp] theorem tr_comp_iv {f:Nm->Option Nm}:AV.tr f∘iv=iv:=rfl
theorem WA {A:List Int} {a:Nat} {v:Int} (h:a<A.length):(A.map iv).take a++iv v::(A.map iv).drop (a+1)=(A.set a v).map iv:=by
 simp_all[List.set_eq_take_append_cons_drop]
def vJ (l:List Int):List AV:=(List.range 8).map (λx:Nat=>bv (decide ((x:Int)∈l)))
section
variable {l l':List Int} {f:Nm->Option Nm} {x:Nat}
@[simp] theorem bset_len:(vJ l).length=8:=nw
theorem mw (h:x<8):(vJ l)[x]?=some (bv (decide ((x:Int)∈l))):=by simp [vJ,h]
@[simp] theorem bset_map:(vJ l).map (AV.tr f)=vJ l:=nw
@[simp] theorem bset_take:(vJ l).take 8=vJ l:=b9 qB
@[simp] theorem bset_one:(vJ l).all AV.one=true:=nw
@[simp] theorem bset_cln:(vJ l).all AV.cln=true:=nw
@[simp] theorem Io:(vJ l).all (λx=>!zT x)=true:=nw
theorem IE {key:Nat->Nm}:∀ {v:List AV} {j:Nat},(∀ x∈v,sNm x=none)->prs key j v=[]
 := by intro x0;induction x0<;>simp_all
@[simp] theorem bset_prs {key:Nat->Nm} {j:Nat}:prs key j (vJ l)=[]:=IE nw
@[simp] theorem bset_nk {key:Nat->Nm} {es:List Nat} {j:Nat}:zj key es j (vJ l)=[]:=oi Io
@[simp] theorem bset_zcs {key:Nat->Nm} {es:List Nat} {j:Nat}:zcs key es j (vJ l)=vJ l:=H8 Io
theorem K9 (h:∀ x:Int,0<=x->x<=7->(x∈l↔x∈l')):vJ l=vJ l':=by
 grind[vJ,mz]
theorem eT:vJ (sorted l)=vJ l:=K9 λx h1 h2=>by grind[mem_sorted]
theorem aj {y:Int} (hy:y=x) (h:x<8):(vJ l).take x++bv true::(vJ l).drop (x+1)=vJ (l++[y]):=by
 subst hy;apply wK
 grind[vJ]
end
section
variable {X:Ctx} {st:St} {K:St->Prop} {E:AV->St->Prop}
theorem Lw {o:Oper} {f:FuncId} {az avs:List AV} {R:Nm->AV->(Nm->Option AO)->Prop} {d:Nat} (hEnt:Ent X.P st o f avs) (hd:o.dst=some d) (hn:d<X.n) (hF:qb X.P X.gl f az R)
  (hB:BwL st.hp noD avs az) (hK:∀ x H',R (.s d) x H'->K ((st.call d noD noH (qAH H')).put (some d) (LE x))):qS X o K E st:=by
 refine eF (D:=noD) (H:=noH) (R:=R) hF hEnt true hB (λ_ _=>rfl) (λn h=>uA) (λn h=>absurd rfl h) (λk i j _=>.inl rfl) (λe he=>qH) ?_ (λ_ _ h=>h.elim)
 simp_all
def WT (P:Program) (gl:Nat->Option (List AV)) (name:String) (x:AV) (R:Nm->AV->(Nm->Option AO)->Prop):Prop:=∃ t y f,x=.ifc t y/\IQ P t name=some f/\qb P gl f [y] R
variable {d:Nat} {ty:TypeId} {pos:String} {aft:Array Edge} {g:Option (Nat×Bool)} {c:Operand} {name:String} {Ts:Array TypeId} {x:AV}
theorem LG {z n:Nat} {rows:List (List AV)} (hd:d<X.n:=by first|(simp;done)|fail) (hv:ev st c=x:=by simp [fx];first|done|rfl) (hF:WT X.P X.gl name x (λr y H'=>y=.hs r z 0 n/\H' r=some (.row z rows))) (hc:rows.all (λr=>r.all AV.cln)=true:=by first|(simp;done)|fail)
  (h:K (((st.kill (.s d)).Zp (.s d) (.row z rows)).put (some d) (.hs (.s d) z 0 n))):qS X ⟨some d,.call ⟨.invoke c name,#[],Ts⟩,ty,pos,aft,g⟩ K E st:=by
 obtain⟨t,y,f,rfl,hm,hF⟩:=hF;refine (qS.qCj (Lw (K:=λs=>∃ H',s=(st.call d noD noH H').put (some d) (.hs (.s d) z 0 n)/\H' (.s d)=some (.row z rows)) (Tt hF.1 rfl hv hm) rfl hd hF (.cons (.refl _) .nil) ?_) ?_)
 .rintro y H' ⟨rfl,e⟩;exact⟨_,rfl,by grind[qAH,AO.cln]⟩
 .rintro s ⟨H',rfl,e'⟩;refine⟨((st.kill (.s d)).Zp (.s d) (.row z rows)).hp,λm ob e=>?_,?_⟩
  .simp only [St.kill,St.nm,hkl,St.Zp] at e;simp only [St.put,St.call,St.nm]
   split at e<;>simp_all[so]
  simp_all[St.put,St.call,St.nm,St.kill,St.Zp,so]
end
section
variable {l:List Int} {r:List AV} {n:Nat}
@[simp] theorem bset_takeN:(vJ l++r).take (n+8)=vJ l++r.take n:=by
 grind[vJ,List.take_length_add_append]
@[simp] theorem bset_dropN:(vJ l++r).drop (n+8)=r.drop n:=by
 grind[vJ,List.drop_length_add_append]
theorem pe {j:Nat}:(vJ l++r)[8+j]?=r[j]?:=by grind[vJ]
theorem mx {j:Nat} (h:j<8):(vJ l++r)[j]?=some (bv (decide ((j:Int)∈l))):=by grind[vJ]
@[simp] theorem bset_drop8':(vJ l).drop 8=[]:=qB
theorem xr {key:Nat->Nm}:∀ {v u:List AV} {j:Nat},(∀ x∈v,sNm x=none)->prs key j (v++u)=prs key (j+v.length) u
 | [],u,j,_=>by simp
 | x::l,u,j,h=>by
  rw [Ec,Py,h x qB];simp only;rw [xr λy hy=>h y ta]
  grind
@[simp] theorem bset_prsA {key:Nat->Nm} {j:Nat}:prs key j (vJ l++r)=prs key (j+8) r:=by
 simp_all[xr,vJ]
theorem ib {key:Nat->Nm} {es:List Nat}:∀ {v u:List AV} {j:Nat},v.all (λx=>!zT x)=true->zj key es j (v++u)=zj key es (j+v.length) u
 | [],u,j,_=>by simp
 | x::l,u,j,h=>by
  simp only [List.all_cons,ba,xE] at h;rw [Ec,T3,h.1];simp only [ak,if_false];rw [ib h.2]
  grind
@[simp] theorem bset_nkA {key:Nat->Nm} {es:List Nat} {j:Nat}:zj key es j (vJ l++r)=zj key es (j+8) r:=by
 simp_all[ib]
theorem xa {key:Nat->Nm} {es:List Nat}:∀ {v u:List AV} {j:Nat},v.all (λx=>!zT x)=true->zcs key es j (v++u)=v++zcs key es (j+v.length) u
 | [],u,j,_=>by simp
 | x::l,u,j,h=>by
  simp only [List.all_cons,ba,xE] at h;rw [Ec,Ot,h.1];simp only [ak,if_false];rw [xa h.2]
  grind
@[simp] theorem bset_zcsA {key:Nat->Nm} {es:List Nat} {j:Nat}:zcs key es j (vJ l++r)=vJ l++zcs key es (j+8) r:=by
 simp_all[xa]
end
def qp (i:Nat) (k:Za) (o:AV) (ps:List Int):List AV:=iv i::iv k.kind::o::(vJ ps++(vJ k.rd++(vJ k.bd++(vJ (k.dc 9)++vJ (k.dc 10)))))
section
variable {i x:Nat} {k:Za} {o o':AV} {ps:List Int} {f:Nm->Option Nm}
@[simp] theorem scopeRow_len:(qp i k o ps).length=43:=by simp [qp]
@[simp] theorem rN:(qp i k o ps).map (AV.tr f)=qp i k (o.tr f) ps:=by simp [qp]
@[simp] theorem scopeRow_0:(qp i k o ps)[0]=iv i:=rfl
@[simp] theorem scopeRow_1:(qp i k o ps)[1]=iv k.kind:=rfl
@[simp] theorem scopeRow_2:(qp i k o ps)[2]=o:=rfl
theorem J3 (h:x<8):(qp i k o ps)[3+x]?=some (bv (decide ((x:Int)∈ps))):=by
 grind[qp,mx]
theorem J2 (h:x<8):(qp i k o ps)[11+x]?=some (bv (decide ((x:Int)∈k.rd))):=by
 grind[qp,pe,mx]
theorem xl (h:x<8):(qp i k o ps)[19+x]?=some (bv (decide ((x:Int)∈k.bd))):=by
 grind[qp,pe,mx]
theorem gy (h:x<8):(qp i k o ps)[27+x]?=some (bv (decide ((x:Int)∈k.dc 9))):=by
 grind[qp,pe,mx]
theorem xk (h:x<8):(qp i k o ps)[35+x]?=some (bv (decide ((x:Int)∈k.dc 10))):=by
 have:35+x=8+(8+(8+(8+x)))+3:=qA;rw [qp,this]
 grind[pe,mw]
theorem An {y:Int} (hy:y=x) (h:x<8):(qp i k o ps).take (3+x)++bv true::(qp i k o ps).drop (3+x+1)=qp i k o (ps++[y]):=by
 have e1:3+x=x+3:=qA;have e2:3+x+1=(x+1)+3:=qA;rw [e2,e1];simp only [qp,List.take_succ_cons,List.drop_succ_cons,Ec];rw [List.take_append_of_le_length qc,List.drop_append_of_le_length qc,<- aj hy h];simp
theorem Am:(qp i k o ps).take 2++o'::(qp i k o ps).drop 3=qp i k o' ps:=rfl
end
def Ca:AV:=.sc (.pointer none)
@[simp] theorem nilP_tr {f:Nm->Option Nm}:Ca.tr f=Ca:=rfl
def wQ (n:Nm) (len i:Nat):List (List AV):=(List.range len).map (λj=>[if j<i then AV.pt (.c n j 0) 0 else Ca])
def pX (n:Nm) (j:Int):AV:=if j<0 then Ca else .pt (.c n j.toNat 0) 0
structure qBc (hp:Nm->Option AO) (n:Nm) (p:Z0) (i:Nat):Prop where
 top:hp n=some (.row 1 (wQ n p.length i))
 sc:∀ (j:Nat) k,j<i->p[j]?=some k->hp (.c n j 0)=some (.row 43 [qp j k (pX n k.parent) k.params])
section
variable {n m:Nm} {len i j:Nat} {f:Nm->Option Nm}
@[simp] theorem sRows_len:(wQ n len i).length=len:=by simp [wQ]
theorem ci (h:j<len):(wQ n len i)[j]?=some [if j<i then AV.pt (.c n j 0) 0 else Ca]:=by simp [wQ,h]
theorem gz (h:∀ j,j<i->f (.c n j 0)=some (.c m j 0)):(wQ n len i).map (λr=>r.map (AV.tr f))=wQ m len i:=by
 simp only [wQ,xA];apply mz;intro j _;by_cases e:j<i
 .simp_all
 .simp [e]
theorem DJ {a:Nat} (hn:Nm.under (.s a) n=false) (hn':Nm.under (.c n i 0) n=false):(qk (wQ n len i) i 0 [.pt (.s a) 0]).map (λr=>r.map (AV.tr (mv (.s a) (.c n i 0))))=wQ n len (i+1):=by
 apply wK;intro j;simp only [qk,kx,pR];by_cases hj:j<len
 .rw [ci hj,ci hj];by_cases e:i=j
  .simp_all
  .by_cases e2:j<i
   .simp_all<;>grind
   .have e3:¬ j<i+1:=qA;simp [e,e2,e3]
 simp_all
@[simp] theorem sRows_kl {d:Nat} (h:Nm.under (.s d) n=false):(wQ n len i).map (λr=>r.map (AV.tr (kl (.s d))))=wQ n len i:=gz dO
@[simp] theorem sRows_mv1 {a:Nat} {k1:Nm} (h:Nm.under (.s a) n=true):(wQ n len i).map (λr=>r.map (AV.tr (mv (.s a) k1)))=wQ (Nm.Zn (.s a) k1 n) len i:=gz dO
@[simp] theorem sRows_mv2 {a b:Nat} (h:Nm.under (.s a) n=false) (h':Nm.under (.s b) n=false):(wQ n len i).map (λr=>r.map (AV.tr (mv (.s a) (.s b))))=wQ n len i:=gz (by simp [h,h'])
theorem iz {q:Int} (h:0<=q->f (.c n q.toNat 0)=some (.c m q.toNat 0)):(pX n q).tr f=pX m q:=by
 unfold pX
 split<;>simp_all
@[simp] theorem outP_kl {d:Nat} {q:Int} (h:Nm.under (.s d) n=false):(pX n q).tr (kl (.s d))=pX n q:=iz dO
@[simp] theorem outP_mv1 {a:Nat} {k1:Nm} {q:Int} (h:Nm.under (.s a) n=true):(pX n q).tr (mv (.s a) k1)=pX (Nm.Zn (.s a) k1 n) q:=iz dO
@[simp] theorem outP_mv2 {a b:Nat} {q:Int} (h:Nm.under (.s a) n=false) (h':Nm.under (.s b) n=false):(pX n q).tr (mv (.s a) (.s b))=pX n q:=iz (by simp [h,h'])
section
variable {a b c d e l:Nat} {q:Nm} {k:Int}
theorem Yy (h:Nm.under (.s a) n=false):Nm.under (.c (.s a) b c) n=false:=by
 grind[Nm.qAS]
theorem Yv (h:Nm.under (.s a) n=false):¬ n=.s a:=λe=>qH
@[simp] theorem sRows_mv3 (h:Nm.under (.s a) n=false) (h':Nm.under (.s b) n=false):(wQ n len i).map (λr=>r.map (AV.tr (mv (.s a) (.c (.s b) c d))))=wQ n len i:=gz (by simp_all[Yy,Yv])
@[simp] theorem outP_mv3 (h:Nm.under (.s a) n=false) (h':Nm.under (.s b) n=false):(pX n k).tr (mv (.s a) (.c (.s b) c d))=pX n k:=iz (by simp_all[Yy,Yv])
end
theorem QL {a:Nat} {q:Int} (h:Nm.under (.s a) n=false) (h':Nm.under (.c n i 0) n=false) (hq:q<i):(pX n q).tr (mv (.s a) (.c n i 0))=pX n q:=iz (λ_=>by
 simp_all<;>omega)
theorem QJ {q:Int} (h:q<0):pX n q=Ca:=by simp [pX,h]
theorem QK {q:Nat}:pX n q=.pt (.c n q 0) 0:=by
 grind[pX]
theorem J4:List.replicate len [Ca]=wQ n len 0:=by
 apply wK
 grind[wQ]
end
def bf (p:Z0):Nat->Int->AV
 | 0,_=>Ca
 | n+1,j=>if j<0 then Ca else match p[j.toNat]? with
  | none=>Ca
  | some k=>.el (qp j.toNat k (bf p n k.parent) k.params) 0
theorem rO {p:Z0} (hp:zS p):∀ (n m:Nat) (j:Int),j<n->j<m->bf p n j=bf p m j
 | 0,0,_,_,_=>rfl
 | 0,m+1,j,h,_=>by grind[bf]
 | n+1,0,j,_,h=>by grind[bf]
 | n+1,m+1,j,h1,h2=>by
  simp only [bf]
  split
  .rfl
  .split
   .rfl
   .rename_i k hk;obtain⟨h3,h4,_⟩:=hp j.toNat k hk;rw [rO hp n m k.parent qA qA]
theorem DG {p:Z0} {f:Nm->Option Nm}:∀ (n:Nat) (j:Int),(bf p n j).tr f=bf p n j
 | 0,_=>rfl
 | n+1,j=>by
  simp only [bf]
  split
  .rfl
  .split
   .rfl
   .simp [DG n]
def jK (p:Z0) (j:Int):AV:=bf p p.length j
@[simp] theorem scopeA_tr {p:Z0} {j:Int} {f:Nm->Option Nm}:(jK p j).tr f=jK p j:=DG _ _
theorem ji {p:Z0} {j:Nat} {k:Za} (hp:zS p) (hk:p[j]?=some k):jK p j=.el (qp j k (jK p k.parent) k.params) 0:=by
 have hj:j<p.length:=(gS hk).1;obtain⟨h1,h2,_⟩:=hp j k hk;obtain⟨n,hn⟩:∃ n,p.length=n+1:=⟨p.length - 1,qA⟩
 grind[bf,rO,jK]
theorem nO {p:Z0} {j:Int} (h:j<0):jK p j=Ca:=by
 unfold jK
 cases p.length<;>grind[bf]
theorem FX {hp:Nm->Option AO} {i:Nat} {k:Za} {o o':AV} {ps:List Int} (h:Bw hp noD o o'):∀ (j:Nat) a a',(qp i k o ps)[j]?=some a->(qp i k o' ps)[j]?=some a'->Bw hp noD a a':=by
 intro j a a' ha ha'
 match j,ha,ha' with
 | 0,ha,ha'=>obtain rfl:=sI ha;obtain rfl:=sI ha';exact .refl _
 | 1,ha,ha'=>obtain rfl:=sI ha;obtain rfl:=sI ha';exact .refl _
 | 2,ha,ha'=>simp_all
 | j+3,ha,ha' =>
  simp only [qp,Ed] at ha ha';rw [ha] at ha';obtain rfl:=sI ha';exact .refl _
theorem Im {hp:Nm->Option AO} {n:Nm} {p:Z0} (h:qBc hp n p p.length) (hh:zS p) (j:Nat) (hj:j<p.length):Bw hp noD (.pt (.c n j 0) 0) (jK p j):=by
 induction j using Nat.strongRecOn with
 | _ j ih =>
  obtain⟨k,hk⟩:=gX hj;obtain⟨h1,h2,_⟩:=hh j k hk;rw [ji hh hk];refine .pt (.c n j 0) 43 0 _ _ [] rfl (h.sc j k hj hk) qB (FX ?_);unfold pX
  split
  .rename_i hn;rw [nO hn];exact .refl _
  grind
def fT (p:Z0):List (List AV):=(List.range p.length).map (λj:Nat=>[jK p j])
abbrev gx (p:Z0):AV:=.sl 1 (fT p)
@[simp] theorem scRows_len {p:Z0}:(fT p).length=p.length:=by simp [fT]
theorem vf {p:Z0} {j:Nat} (h:j<p.length):(fT p)[j]?=some [jK p j]:=by simp [fT,h]
theorem dS {hp:Nm->Option AO} {n:Nm} {p:Z0} {len:Nat} (h:qBc hp n p p.length) (hh:zS p) (hl:len=p.length):Bw hp noD (.hs n 1 0 len) (gx p):=by
 subst hl;refine .hs n 1 0 p.length (wQ n p.length p.length) (fT p) rfl h.top qB qB (by simp [fT]) λi r r' hr hr' j a a' ha ha'=>?_
 grind[Im,wQ,fT]
theorem qBc.qAH {H':Nm->Option AO} {n:Nm} {p:Z0} {i:Nat} (h:qBc H' n p i):qBc (qAH H') n p i:=by
 refine⟨zX h.top ?_,λj k hj hk=>zX (h.sc j k hj hk) ?_⟩
 .simp only [wQ,dT];intro r hr;obtain⟨j,_,rfl⟩:=fG.1 hr;intro x hx;simp only [w6] at hx;subst hx
  split <;> rfl
 .have:(pX n k.parent).cln=true:=by unfold pX;split <;> rfl
  simp [qp,this]
theorem qb.raw {P:Program} {f:FuncId} {az:List AV} {v0:Value} (h:qb P (λ_=>none) f az (λ_ y _=>y=.sc v0)) {W:World} {g:Gh} {args:Array Value} (hC:∀ b,g.C b->b<W.heap.size) (hsz:args.size=az.length)
  (hargs:∀ (j:Nat) v x,args[j]?=some v->az[j]?=some x->RV g W v x):Calls P f args W λe W'=>e=.returned v0/\Below W.heap.size W W':=by
 have hinv:Inv (oh g noH) g.C W g noH W:=⟨rfl,rfl,rfl,qf _,λ_ _ _=>rfl,rfl,hC,λ_ _ e=>um,λ_ _ _ e=>um,λ_ _ _ _ _ e=>um⟩;refine (h.2 (.s 0) g.C W g args (λ_ _=>rfl) rfl (λ_ e=>absurd rfl e) hinv (λ_ _ e=>um) hsz hargs).mono λe w' he=>?_
 cases e with
 | returned v =>
  obtain⟨C',g',H',x,hA,hv,rfl⟩:=he;refine⟨by rw [hv.Zo],hA.inv.os,hA.inv.tape,hA.inv.output,hA.inv.size,λb hb=>hA.inv.qB7 b hb ?_⟩;rintro⟨n,hn,_⟩;exact hn rfl
 | panicked ch=>obtain⟨_,_,_,_,_,_,_,_,e⟩:=he;exact e.elim
 | outgrown=>simp_all
theorem qb.qDs {P:Program} {gl:Nat->Option (List AV)} {f:FuncId} {az:List AV} {v0:Value} (hc:cE P f)
  (h:∀ (w:World) (g:Gh) (args:Array Value),(∀ b,g.C b->b<w.heap.size)->args.size=az.length->(∀ (j:Nat) v x,args[j]?=some v->az[j]?=some x->RV g w v x)->Calls P f args w λe w'=>e=.returned v0/\Below w.heap.size w w') :
  qb P gl f az (λ_ y _=>y=.sc v0):=by
 refine⟨hc,λroot C w g args _ _ _ hinv _ hsz hargs=>?_⟩;refine (h w g args (λb hb=>hinv.clt b (hinv.hC ▸ hb)) hsz hargs).mono λe w' he=>?_;obtain⟨rfl,hb⟩:=he
 exact⟨C,g,noH,.sc v0,⟨λ_ h=>h,λ_ h=>.inl h,⟨hb.os,hb.tape,hb.output,hb.size,λb hl _=>hb.block b hl,hinv.hC,λb hb'=>aR (hinv.clt b hb') hb.size,λ_ _ e=>um,λ_ _ _ e=>um,λ_ _ _ _ _ e=>um⟩,
  λ_ e=>absurd rfl e,λ_ _ _=>⟨rfl,rfl⟩,λ_ _ _ _=>⟨rfl,rfl⟩⟩,.sc v0,rfl⟩
theorem RV.qET {g:Gh} {w W:World} {v:Value} {x:AV} {n:Nat} (h:RV g w v x) (hC:∀ b,g.C b->b<n) (hb:Below n w W):RV g W v x:=h.same (λ_ h=>h) (λb hb'=>hb.block b (hC b hb')) λ_=>⟨rfl,rfl⟩
structure qE3 (g:Gh) (w:World) (p:Z0) (j:Nat) (k:Za) (b o:Nat):Prop where
 C:g.C b
 idx:w.cell? ⟨b,o,none⟩=some (.int .i64 j)
 kind:w.cell? ⟨b,o+1,none⟩=some (.int .i64 k.kind)
 out:∃ a,w.cell? ⟨b,o+2,none⟩=some (.pointer a)/\RV g w (.pointer a) (jK p k.parent)
 Zg:∀ x:Nat,x<8->w.cell? ⟨b,o+(27+x),none⟩=some (.bool (decide ((x:Int)∈k.dc 9)))
theorem RV.ptr {g:Gh} {w:World} {v:Value} {p:Z0} {j:Int} (h:RV g w v (jK p j)):∃ a,v=.pointer a:=by
 unfold jK at h;generalize p.length=n at h
 cases n with
 | zero=>exact⟨none,h.Zo⟩
 | succ n =>
  simp only [bf] at h
  split at h
  .exact⟨none,h.Zo⟩
  .split at h
   .exact⟨none,h.Zo⟩
   .cases h<;>grind
theorem RV.qDj {g:Gh} {w:World} {v:Value} {p:Z0} {j:Int} (h:RV g w v (jK p j)) (hj:j<0):v=.pointer none:=by
 rw [nO hj] at h;exact h.Zo
theorem RV.qD2 {g:Gh} {w:World} {v:Value} {p:Z0} {j:Nat} {k:Za} (hh:zS p) (hk:p[j]?=some k) (h:RV g w v (jK p j)):∃ b o,v=.pointer (some ⟨b,o,none⟩)/\qE3 g w p j k b o:=by
 rw [ji hh hk] at h
 cases h with
 | el b o off row f hC hcell ho hr =>
  have get:∀ (i:Nat) (u:Value),(qp j k (jK p k.parent) k.params)[i]?=some (.sc u)->w.cell? ⟨b,o+i,none⟩=some u:=by
   grind[Zo]
  refine⟨b,o,rfl,hC,get 0 _ rfl,get 1 _ rfl,?_,λx hx=>get _ _ (gy hx)⟩;have h2:=hr 2 _ (show (qp j k (jK p k.parent) k.params)[2]?=some (jK p k.parent) from rfl);obtain⟨a,ha⟩:=h2.ptr
  simp_all
inductive Path (p:Z0):Int->List Nat->Int->Prop
 | nil (j:Int):Path p j [] j
 | skip (j:Nat) (k:Za) (l:List Nat) (j':Int) (hk:p[j]?=some k) (hn:k.kind≠1) (h:Path p k.parent l j'):Path p j l j'
 | step (j:Nat) (k:Za) (l:List Nat) (j':Int) (hk:p[j]?=some k) (hn:k.kind=1) (h:Path p k.parent l j'):Path p j (j::l) j'
theorem Path.qEJ {p:Z0} {i:Int} {l:List Nat} {j:Nat} {k:Za} (h:Path p i l j) (hk:p[j]?=some k) (hn:k.kind≠1):Path p i l k.parent:=by
 generalize hj:(j:Int)=j' at h
 induction h with
 | nil _=>subst hj;exact .skip j k [] _ hk hn (.nil _)
 | skip a q l j' ha hq _ ih=>exact .skip a q l _ ha hq (ih hj)
 | step a q l j' ha hq _ ih=>exact .step a q l _ ha hq (ih hj)
theorem Path.qDg {p:Z0} {i:Int} {l:List Nat} {j:Nat} {k:Za} (h:Path p i l j) (hk:p[j]?=some k) (hn:k.kind=1):Path p i (l++[j]) k.parent:=by
 generalize hj:(j:Int)=j' at h
 induction h with
 | nil _=>subst hj;exact .step j k [] _ hk hn (.nil _)
 | skip a q l j' ha hq _ ih=>exact .skip a q _ _ ha hq (ih hj)
 | step a q l j' ha hq _ ih=>exact .step a q _ _ ha hq (ih hj)
theorem Path.len {p:Z0} (hh:zS p) {i j:Int} {l:List Nat} (h:Path p i l j):(l.length:Int)+j<=i:=by
 induction h with
 | nil _=>simp
 | skip a q l j' ha hq _ ih=>have:=(hh a q ha).2.1;omega
 | step a q l j' ha hq _ ih=>have:=(hh a q ha).2.1;simp;omega
def found (p:Z0) (x:Int) (j:Nat):Option Int:=match p[j]? with
 | some q=>if x∈q.dc 9 then some (-1) else if qa j q x then some (j:Int) else none
 | none=>none
theorem Path.outer {p:Z0} (hh:zS p) {x:Int} {i j:Int} {l:List Nat} (h:Path p i l j) (hb:∀ (k:Za),p[0]?=some k->k.kind≠1) (hno:∀ y∈l,found p x y=none):zZ p x p.length i=zZ p x p.length j:=by
 induction h with
 | nil _=>rfl
 | skip a q l j' ha hq _ ih =>
  by_cases h0:0<a
  .grind[zq]
  .obtain rfl:a=0:=qA;have:=(hh 0 q ha).2.1
   grind[ax]
 | step a q l j' ha hq _ ih =>
  have h0:0<a:=by
   grind
  rw [zq hh ha h0,if_neg cU];have hf:=hno a qB
  grind[found]
theorem Path.found {p:Z0} (hh:zS p) {x r:Int} {i j:Int} {l:List Nat} {y:Nat} (h:Path p i (l++[y]) j) (hb:∀ (k:Za),p[0]?=some k->k.kind≠1) (hno:∀ y∈l,Hm.found p x y=none) (hf:Hm.found p x y=some r):zZ p x p.length i=r:=by
 generalize hl:l++[y]=l' at h
 induction h generalizing l with
 | nil _=>simp at hl
 | skip a q l' j' ha hq _ ih =>
  by_cases h0:0<a
  .grind[zq]
  .obtain rfl:a=0:=qA;have:=(hh 0 q ha).2.1
   grind[ax]
 | step a q l' j' ha hq _ ih =>
  have h0:0<a:=by
   grind
  rw [zq hh ha h0,if_neg cU]
  cases l with
  | nil =>
   grind[Hm.found]
  | cons z l =>
   simp only [Ec,List.cons.injEq] at hl;obtain⟨rfl,hl⟩:=hl;have hf1:=hno z qB
   grind[Hm.found]
structure qCU (k:Za):Prop where
 kinds:∀ s∈k.body,0<=s.kind/\s.kind<=11
 reads:∀ s∈k.body,∀ x∈s.reads,0<=x/\x<=7
 tos:∀ s∈k.body,0<=s.to/\s.to<=7
 params:∀ x∈k.params,0<=x/\x<=7
structure Z7 (p:Z0):Prop where
 sml:Sml p
 Zc:zS p
 head:∀ (i:Nat) k,p[i]?=some k->vG i k
 stm:∀ (i:Nat) k,p[i]?=some k->∀ s∈k.body,zN p i k s=true
 len:1<=p.length/\p.length<=7
 body:∀ k∈p,k.body.length<=12
theorem Z7.of {p:Z0} (hs:Sml p) (h:jh p=true):Z7 p:=by
 obtain⟨h1,h2,h3,h4,_⟩:=a7 h
 have key:∀ (i:Nat) k,p[i]?=some k->vG i k/\k.body.length<=12/\k.body.all (zN p i k)=true:=λi k hk =>
  AW hk (dT.1 h4 i (gh.2 (gS hk).1))
 refine⟨hs,h1,λi k hk=>(key i k hk).1,λi k hk s hm=>dT.1 (key i k hk).2.2 s hm,⟨h2,h3⟩,λk hk=>?_⟩
 grind[eW]
theorem zN.kind {p:Z0} {i:Nat} {k:Za} {s:Z9} (h:zN p i k s=true):0<=s.kind/\s.kind<=11:=by
 by_cases hk:0<=s.kind/\s.kind<=11
 .exact hk
 .have h2:¬ (s.kind=0\/s.kind=1\/s.kind=2\/s.kind=3\/s.kind=4\/s.kind=5\/s.kind=6\/s.kind=7\/s.kind=8\/s.kind=9\/s.kind=10\/s.kind=11):=qA
  grind[zN]
theorem Z7.names {p:Z0} (h:Z7 p):∀ k∈p,qCU k:=by
 intro k hk;obtain⟨i,hi⟩:=eW hk;have hst:=h.stm i k hi;have hhd:=h.head i k hi;refine⟨λs hs=>zN.kind (hst s hs),λs hs x hx=>?_,λs hs=>?_,λx hx=>?_⟩
 .grind[zN]
 .grind[zN]
 .unfold vG at hhd
  split at hhd
  .simp_all
  .rcases hhd.2.2.2.2 with h0|⟨h1,_,h3,h4⟩
   .simp_all
   .match hp:k.params,h1,hx with
    | [y],_,hx =>
     simp_all
theorem Z7.qAx {p:Z0} (h:Z7 p) {i:Nat} {k:Za} (hk:p[i]?=some k):k.kind=0↔i=0:=by
 have:=h.head i k hk
 grind
theorem Z7.qEU {p:Z0} (h:Z7 p):∀ k,p[0]?=some k->k.kind≠1:=by
 intro k hk;have:=(h.qAx hk).2 rfl;omega
theorem Z7.qE1 {p:Z0} (h:Z7 p) {k:Za} (hk:p[0]?=some k) {d:Int} (hd:d=9\/d=10):k.dc d=[]:=by
 have hnil:bU k d=[]:=by
  simp only [bU,List.map_eq_nil_iff,List.filter_eq_nil_iff];intro s hs hsd;have hst:=h.stm 0 k hk s hs;have hk0:=(h.qAx hk).2 rfl
  grind[zN]
 simp only [Za.dc,hnil,sorted]
 decide
theorem MY {p:Z0} {x:Int}:∀ (n:Nat) (j:Int),-1<=zZ p x n j
 := by intro x0;induction x0<;>grind[zZ]
theorem QI {p:Z0} {b:Nat} {x:Int}:-1<=outer p b x:=by
 unfold outer
 split<;>simp_all[MY]
theorem Di {xs:List Int} {n:Nat} (h:n<8):(n:Int)∈sorted xs↔(n:Int)∈xs:=by
 grind[mem_sorted]
def Vv:AV:=.sc (.slice none 0 0)
def SJ:List AV:=[iv 0,iv 0,Vv,Vv]
def Vp (n:Nm) (j:Nat) (k:Za):List AV:=[iv k.kind,iv k.parent,.hs (.c n j 2) 1 0 k.params.length,.hs (.c n j 3) 4 0 k.body.length]
def mu (n:Nm) (p:Z0) (i:Nat):List (List AV):=p.mapIdx (λj k=>if j<i then Vp n j k else SJ)
structure qEl (hp:Nm->Option AO) (n:Nm) (p:Z0) (i:Nat):Prop where
 top:hp n=some (.row 4 (mu n p i))
 params:∀ (j:Nat) k,j<i->p[j]?=some k->hp (.c n j 2)=some (.row 1 (qT k.params))
 body:∀ (j:Nat) k,j<i->p[j]?=some k->hp (.c n j 3)=some (.row 4 (jg k.body))
section
variable {p:Z0} {i j a b:Nat} {n m k1:Nm} {k:Za} {f:Nm->Option Nm}
@[simp] theorem cRows_len:(mu n p i).length=p.length:=by simp [mu]
theorem dL (hk:p[j]?=some k):(mu n p i)[j]?=some (if j<i then Vp n j k else SJ):=by simp [mu,hk]
theorem K8:List.replicate p.length SJ=mu n p 0:=by
 apply wK
 grind[mu]
theorem Nt:mu n p p.length=yR n p:=by
 apply wK;intro j
 cases hk:p[j]? with
 | none =>
  simp_all
 | some k =>
  rw [dL hk,if_pos (gS hk).1,bJ,hk]
  rfl
theorem RC (h:∀ j l,j<i->f (.c n j l)=some (.c m j l)):(mu n p i).map (λr=>r.map (AV.tr f))=mu m p i:=by
 apply wK;intro j;rw [kx]
 cases hk:p[j]? with
 | none =>
  simp_all
 | some k =>
  rw [dL hk,dL hk]
  grind[Vp,SJ,Vv,AV.tr]
@[simp] theorem cRows_kl {d:Nat} (h:Nm.under (.s d) n=false):(mu n p i).map (λr=>r.map (AV.tr (kl (.s d))))=mu n p i:=RC dO
theorem Ns {d e:Nat} (hk:p[i]?=some k) (hd:Nm.under (.s d) n=false) (he:Nm.under (.s e) n=false) (hde:d≠e) (h2:Nm.under (.c n i 2) n=false) (h3:Nm.under (.c n i 3) n=false) :
  ((qk (mu n p i) i 0 [iv k.kind,iv k.parent,.hs (.s d) 1 0 k.params.length,.hs (.s e) 4 0 k.body.length]).map (λr=>r.map (AV.tr (mv (.s d) (.c n i 2))))).map (λr=>r.map (AV.tr (mv (.s e) (.c n i 3))))=mu n p (i+1):=by
 apply wK;intro j;simp only [qk,kx,pR];have hed:¬ e=d:=λh=>hde h.symm
 cases hj:p[j]? with
 | none =>
  simp_all
 | some q =>
  rw [dL hj,dL hj];by_cases e1:i=j
  .subst e1;rw [hk] at hj;obtain rfl:=sI hj
   simp_all[Vp,SJ]
  .by_cases e2:j<i
   .have e3:j<i+1:=qA;have e4:¬ j=i:=qA
    simp_all[Vp]
   grind[SJ,Vv,AV.tr]
end
end Go.Hm
end
section

end
section
namespace Go.Hm
open Go Go.RowKit
def pre {α:Type} (z:α) (l:List α) (i:Nat):List α:=l.take i++List.replicate (l.length - i) z
theorem Cz {ss:List Z9} {i:Nat} {s:Z9}:qk (jg ss) i 0 s.cells=jg (ss.set i s):=by
 simp only [qk,jg];apply wK;intro j;simp only [pR,kx,eV];by_cases h:i=j
 .subst h
  cases hx:ss[i]?<;>grind[List.getElem?_eq_some_iff]
 .simp [h]
end Go.Hm
end
