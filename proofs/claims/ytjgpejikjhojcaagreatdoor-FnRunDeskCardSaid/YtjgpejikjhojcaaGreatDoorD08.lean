import Derived.Test.YtjgpejikjhojcaaGreatDoorD07
import Derived.Below
set_option linter.all false
set_option maxRecDepth 100000
set_option maxHeartbeats 4000000
open Option renaming some->Z,none->Y
open Bool renaming true->B,false->M
open List renaming length->O

section
namespace Go.Hm
open Go Go.RowKit
variable{F T:TypeId}{L ss:List qT}{P:Program}{Q:Ex->St->Prop}{W w:World}{a b d i j off z:Nat}{az v0:List AV}{c s x:Operand}{es l:List Nat}{f:Nm->Option Nm}{g:Gh}{hp:Nm->Option AO}{k:qY}{k1 n:Nm}{key:Nat->Nm}{o:Oper}{op:Op}{p:qC}{q:Int}{r:qV}{rows:List (List AV)}{t:Bool}{v:Value}{y:Code}
def yt(n:Nm)(p:qC):List (List AV):=p.mapIdx (λi k=>[iv k.kind,iv k.parent,.hs (.c n i 2) 1 0 (O k.params),.hs (.c n i 3) 4 0 (O k.body)])
structure uz(hp:Nm->Option AO)(n:Nm)(p:qC):Prop where
 top:hp n=Z (.row 4 (yt n p))
 params:∀(i:Nat)k,p[i]?=Z k->hp (.c n i 2)=Z (.row 1 (qh k.params))
 body:∀(i:Nat)k,p[i]?=Z k->hp (.c n i 3)=Z (.row 4 (yd k.body))
section
variable{p:qC}{i a b d l:Nat}{n q k1:Nm}{k:qY}
@[simp]theorem pRows_len:O (yt n p)=O p:=Al
@[simp]theorem HW:(yt n p)[i]?=(p[i]?).map (λk=>[iv k.kind,iv k.parent,.hs (.c n i 2) 1 0 (O k.params),.hs (.c n i 3) 4 0 (O k.body)]):=Al
@[simp]theorem pRows_getE{h:i<O (yt n p)}:(yt n p)[i]=[iv (p[i]' qQ).kind,iv (p[i]' qQ).parent,.hs (.c n i 2) 1 0 (O (p[i]' qQ).params),.hs (.c n i 3) 4 0 (O (p[i]' qQ).body)]:=Al
@[simp]theorem pRows_nil:yt n []=[]:=rfl
@[simp]theorem pRows_take:(yt n p).take (O p)=yt n p:=jg qB
def Dz:yt n (p++[k])=yt n p++[[iv k.kind,iv k.parent,.hs (.c n (O p) 2) 1 0 (O k.params),.hs (.c n (O p) 3) 4 0 (O k.body)]]:=Al
theorem wV{m:Nm}(h:∀i j,i<O p->f (.c n i j)=Z (.c m i j)):(yt n p).map (λr=>r.map (AV.tr f))=yt m p:=by
 apply yp;intro i;simp only[j3,HW,Option.map_map]
 grind[AV.tr]
@[simp]theorem pRows_kl(h:Nm.under (.s d) n=M):(yt n p).map (λr=>r.map (AV.tr (kl (.s d))))=yt n p:=wV iE
@[simp]theorem pRows_mv2(h:Nm.under (.s a) n=M)(h':Nm.under (.s b) n=M):(yt n p).map (λr=>r.map (AV.tr (mv (.s a) (.s b))))=yt n p:=wV (by simp[h,h'])
@[simp]theorem pRows_mv3(h:Nm.under (.s a) n=M)(hq:(q=n)=False)(hq':Nm.under (.c q b l) n=M):(yt n p).map (λr=>r.map (AV.tr (mv (.s a) (.c q b l))))=yt n p:=by
 grind[wV,Nm.under,mv]
@[simp]theorem pRows_mvc:(yt n p).map (λr=>r.map (AV.tr (uX n k1)))=yt k1 p:=by
 simp_all[wV,Nm.pC]
@[simp]theorem pRows_mv4(hq:(q=n)=False)(hq':Nm.under (.c q a b) n=M)(hl:O p<=l):(yt n p).map (λr=>r.map (AV.tr (mv (.c q a b) (.c n l j))))=yt n p:=by
 have h1:¬n=q:=λe=>qQ
 have h2:Nm.under (.c n l j) n=M:=by
  cases h:Nm.under (.c n l j) n with
  |false=>rfl
  |true=>exact absurd rfl (Nm.E8 h).2
 grind[wV,Nm.under,mv]
end
theorem lG{len:Nat}(h:uz hp n p)(hl:len=O p):Bw hp zl (.hs n 4 0 len) (j6 p):=by
 subst hl;refine .hs n 4 0 (O p) (yt n p) (mj p) rfl h.top qB qB A3 λi r r' hr hr' j a a' ha ha'=>?_;rw[gc,HW]at hr;rw[VF]at hr';obtain⟨x,hx,rfl⟩:=zq.1 hr;rw[hx]at hr';obtain rfl:=sI hr'
 match j,ha,ha' with
 |0,ha,ha'=>obtain rfl:=sI ha;obtain rfl:=sI ha';exact .refl _
 |1,ha,ha'=>obtain rfl:=sI ha;obtain rfl:=sI ha';exact .refl _
 |2,ha,ha'=>obtain rfl:=sI ha;obtain rfl:=sI ha';exact ea (h.params i x hx) rfl
 |3,ha,ha'=>obtain rfl:=sI ha;obtain rfl:=sI ha';exact Ca (h.body i x hx) rfl
 |j+4,ha,_=>simp at ha
theorem lF{x y:AV}(h:Bw hp zl x y):Bw hp zl (.agg [x]) (.agg [y]):=by
 constructor<;>grind
theorem uz.vj{H':Nm->Option AO}{n:Nm}{p:qC}(h:uz H' n p):uz (vj H') n p:=by
 refine⟨ap h.top ?_,λi k hk=>ap (h.params i k hk) qB,λi k hk=>ap (h.body i k hk) qB⟩;simp only[yt,yn];intro r hr;obtain⟨i,hi⟩:=ko hr;rw[List.getElem?_mapIdx]at hi;obtain⟨x,_,rfl⟩:=zq.1 hi;simp
def setBody(p:qC)(i:Nat)(L:List qT):qC:=p.modify i (λk=>{k with body:=L})
@[simp]theorem sG:O (setBody p i L)=O p:=by simp[setBody]
theorem xt(h:p[j]?=Z k):(setBody p i L)[j]?=Z (if i=j then{k with body:=L}else k):=by
 grind[setBody]
theorem B8{len:Nat}(hl:len=O L)(hn:Nm.under (.s a) n=M)(hn':Nm.under (.c n i 3) n=M):
  (jn (yt n p) i 3 [.hs (.s a) 4 0 len]).map (λr=>r.map (AV.tr (mv (.s a) (.c n i 3))))=yt n (setBody p i L):=by
 subst hl;apply yp;intro j;simp only[jn,j3,it,HW]
 cases hx:p[j]? with
 |none=>
  simp_all
 |some x=>
  rw[xt hx];by_cases e:i=j
  .simp_all
  simp_all<;>grind
def Qd{X:Ctx}{st:St}{K:St->Prop}{ds:List (Option Nat)}{l:List Oper}{e:Nat}{want:Bool}{dst:Option Nat}{ty:TypeId}{pos:String}{aft:Array Edge}(_ho:l[i]?=Z ⟨dst,op,ty,pos,aft,Z (j,want)⟩)(_hj:ds[j]?=Z (Z e))(ht:st.tm e=.sc (.bool t))
  (h1:t=B->zn X l ds K (.q i r) (st.put (Z e) (.sc (.bool B))))(h2:t=M->zn X l ds K (.q i r) (st.put (Z e) (.sc (.bool M)))):zn X l ds K (.q i r) st:=Qe e ht h1 h2
def qW:Nm.under (.s 0) (.s 0)=B:=Nm.uQ _
def zA{x y:Int}:(x != y)=!(x==y):=rfl
section
variable{X:Ctx}{st:St}{K:St->Prop}{E:AV->St->Prop}{ds:List (Option Nat)}{l:List Oper}
variable{d:Nat}{ty:TypeId}{pos:String}{aft:Array Edge}{g:Option (Nat×Bool)}{st' st1:St}
def wc{z:AV}(hd:d<X.n:=by first|(simp;done)|fail)(hz:vA X.P st ⟨Z d,op,ty,pos,aft,g⟩=Z z:=by simp[fx];first|done|rfl|exact(vt _).symm)(h:K (st.put (Z d) z)):qe X ⟨Z d,op,ty,pos,aft,g⟩ K E st:=Wt hd hz h
def a6(hd:d<X.n:=by first|(simp;done)|fail)(hs:rH X.P ty d (ev st x) st=st':=by simp[fx];first|done|rfl|exact(vt _).symm)(h:K st'):qe X ⟨Z d,.assign x,ty,pos,aft,g⟩ K E st:=Wo hd hs h
def eQ{cs:List AV}(hd:d<X.n:=by first|(simp;done)|fail)(hq:(ev st x).cells=Z cs:=by simp[fx];first|done|rfl|exact(vt _).symm)(hz:O cs=qi X.P T:=by first|(simp[fx];done)|fail)
  (hs:ce X.P T d cs st=st':=by simp[fx];first|done|rfl|exact(vt _).symm)(h:K st'):qe X ⟨Z d,.box T x,ty,pos,aft,g⟩ K E st:=Wp hd hq hz hs h
def gL{zs:List AV}(hd:d<X.n:=by first|(simp;done)|fail)(hq:yO X.P T=Z zs:=by simp[fx];first|done|rfl|exact(vt _).symm)(hs:ce X.P T d zs st=st':=by simp[fx];first|done|rfl|exact(vt _).symm)(h:K st'):qe X ⟨Z d,.alloc T,ty,pos,aft,g⟩ K E st:=Wk hd hq hs h
def gN{p:Operand}(hT:(X.P.info? T).isSome=B:=by first|(simp[fx];done)|fail)(hv0:(ev st x).cells=Z v0:=by simp[fx];first|done|rfl|exact(vt _).symm)
  (hnil:v0.all (λx=>!j5 x)=B:=by first|(simp[fx];done)|fail)(hlen:O v0=qi X.P T:=by first|(simp[fx];done)|fail)
  (hp:pl (ev st p)=Z (n,i,off):=by simp[fx];first|done|rfl|exact⟨rfl,rfl⟩|exact⟨rfl,rfl,rfl⟩)(hrows:lg st (ev st p)=Z (z,rows):=by simp[fx];first|done|rfl|exact⟨rfl,rfl⟩|exact⟨rfl,rfl,rfl⟩)
  (hi:i<O rows:=by first|(simp[fx];done)|(simp[fx];omega)|omega)(hoff:off+O v0<=z:=by first|(simp[fx];done)|(simp[fx];omega)|omega)
  (hs:canon (kg (λj=>.c n i (off+j)) 0 v0) (st.zW n (.row z (jn rows i off v0)))=st':=by simp[fx];first|done|rfl|exact(vt _).symm)(h:K st'):
  qe X ⟨Y,.store T p x,ty,pos,aft,g⟩ K E st:=Ww hT hv0 hnil hlen hp hrows hi hoff hs h
def ii{p:Operand}{v1:List AV}(hT:(X.P.info? T).isSome=B:=by first|(simp[fx];done)|fail)(hv0:(ev st x).cells=Z v0:=by simp[fx];first|done|rfl|exact(vt _).symm)
  (hlen:O v0=qi X.P T:=by first|(simp[fx];done)|fail)
  (hp:pl (ev st p)=Z (n,i,off):=by simp[fx];first|done|rfl|exact⟨rfl,rfl⟩|exact⟨rfl,rfl,rfl⟩)(hk:w5 X.P T n i off v0 st=st1:=by simp[fx];first|done|rfl|exact(vt _).symm)
  (hp1:pl (ev st1 p)=Z (n,i,off):=by simp[fx];first|done|rfl|exact⟨rfl,rfl⟩|exact⟨rfl,rfl,rfl⟩)(hv1:(ev st1 x).cells=Z v1:=by simp[fx];first|done|rfl|exact(vt _).symm)
  (hsame:v1.map j5=v0.map j5:=by first|(simp[fx];done)|fail)(hrows:lg st1 (ev st1 p)=Z (z,rows):=by simp[fx];first|done|rfl|exact⟨rfl,rfl⟩|exact⟨rfl,rfl,rfl⟩)
  (hi:i<O rows:=by first|(simp[fx];done)|(simp[fx];omega)|omega)(hoff:off+O v1<=z:=by first|(simp[fx];done)|(simp[fx];omega)|omega)
  (hs:nP n z i off rows (ll X.P T n i off v1) st1=st':=by simp[fx];first|done|rfl|exact(vt _).symm)(h:K st'):qe X ⟨Y,.store T p x,ty,pos,aft,g⟩ K E st:=Wv hT hv0 hlen hp hk hp1 hv1 hsame hrows hi hoff hs h
def bh{rows2:List (List AV)}(hd:d<X.n:=by first|(simp;done)|fail)(hT:yW X.P T=Z F:=by simp[fx];first|done|rfl)(hz:qi X.P F=z:=by simp[fx];first|done|rfl)(hs:ev st s=.sc (.slice Y 0 0):=by first|(simp[fx];done)|fail)
  (hx:be st z (ev st x)=Z rows2:=by simp[fx];first|done|rfl)(hlen:O rows2<=4294967296:=by first|(simp[fx];done)|(simp[fx];omega)|omega)
  (hq:wO d z (O rows2) Y rows2 st=st':=by simp[fx];first|done|rfl|exact(vt _).symm)(h:K st'):qe X ⟨Z d,.call ⟨.builtin .append,#[s,x],#[T,T]⟩,ty,pos,aft,g⟩ K E st:=Wm hd hT hz hs hx hlen hq h
def bH{len:Nat}{rows0 rows2:List (List AV)}(hd:d<X.n:=by first|(simp;done)|fail)(hT:yW X.P T=Z F:=by simp[fx];first|done|rfl)(hz:qi X.P F=z:=by simp[fx];first|done|rfl)(hs:ev st s=.hs n z 0 len:=by simp[fx];first|done|rfl|exact⟨rfl,rfl⟩|exact⟨rfl,rfl,rfl⟩)
  (hn:st.hp n=Z (.row z rows0):=by simp[fx];first|done|rfl)(hle:len<=O rows0:=by first|(simp[fx];done)|(simp[fx];omega)|omega)
  (hx:be st z (ev st x)=Z rows2:=by simp[fx];first|done|rfl)(hlen:len+O rows2<=4294967296:=by first|(simp[fx];done)|(simp[fx];omega)|omega)
  (hq:wO d z (len+O rows2) (Z n) (rows0.take len++rows2) st=st':=by simp[fx];first|done|rfl|exact(vt _).symm)(h:K st'):qe X ⟨Z d,.call ⟨.builtin .append,#[s,x],#[T,T]⟩,ty,pos,aft,g⟩ K E st:=Wl hd hT hz hs hn hle hx hlen hq h
def qEO{len:Nat}{rows0 rows2:List (List AV)}(hd:d<X.n:=by first|(simp;done)|fail)(hT:yW X.P T=Z F:=by simp[fx];first|done|rfl)(hz:qi X.P F=z:=by simp[fx];first|done|rfl)(hs:ev st s=.hs n z 0 len:=by simp[fx];first|done|rfl|exact⟨rfl,rfl⟩|exact⟨rfl,rfl,rfl⟩)
  (hn:st.hp n=Z (.row z rows0):=by simp[fx];first|done|rfl)(hle:len<=O rows0:=by first|(simp[fx];done)|(simp[fx];omega)|omega)
  (hx:be st z (ev st x)=Z rows2:=by simp[fx];first|done|rfl)(hlen:len+O rows2<=4294967296:=by first|(simp[fx];done)|(simp[fx];omega)|omega)
  (hq:Hm.canon (nG (.s d) len rows2) ((wO d z (len+O rows2) (Z n) (rows0.take len++rows2) st).uX n (.s d))=st':=by simp[fx];first|done|rfl|exact(vt _).symm)(h:K st'):
  qe X ⟨Z d,.call ⟨.builtin .append,#[s,x],#[T,T]⟩,ty,pos,aft,g⟩ K E st:=NL hd hT hz hs hn hle hx hlen hq h
def nS{y:Operand}{ln:Nat}{k k':IntKind}{zv:List AV}(hd:d<X.n:=by first|(simp;done)|fail)(hx:ev st x=.sc (.int k ln):=by simp[fx];first|done|rfl|exact⟨rfl,rfl⟩)(hy:ev st y=.sc (.int k' ln):=by simp[fx];first|done|rfl|exact⟨rfl,rfl⟩)
  (hE:yW X.P T=Z F:=by simp[fx];first|done|rfl)(hz:qi X.P F=z:=by simp[fx];first|done|rfl)(hzv:yO X.P F=Z zv:=by simp[fx];first|done|rfl)(hl:ln<=4294967296:=by first|(simp[fx];done)|(simp[fx];omega)|omega)
  (hq:BY d z ln zv st=st':=by simp[fx];first|done|rfl|exact(vt _).symm)(h:K st'):qe X ⟨Z d,.makeSlice T x y,ty,pos,aft,g⟩ K E st:=Ws hd hx hy hE hz hzv hl hq h
def cR{len:Nat}{parts:Array (Nat×Operand)}(hd:d<X.n:=by first|(simp;done)|fail)(hE:yW X.P T=Z F:=by simp[fx];first|done|rfl)(hz:qi X.P F=z:=by simp[fx];first|done|rfl)(hrows:li st parts.toList=Z rows:=by simp[fx];first|done|rfl)
  (c1:parts.toList.map (·.1)=List.range len:=by decide)(c2:len*z<=16777216:=by decide)(c3:rows.all (λr=>O r==z)=B:=by first|(simp[fx];done)|fail)
  (hs:mN X.P F d z rows st=st':=by simp[fx];first|done|rfl|exact(vt _).symm)(h:K st'):qe X ⟨Z d,.buildSlice T len parts,ty,pos,aft,g⟩ K E st:=Wq hd hE hz hrows c1 c2 c3 hs h
section
variable{f:Nat}{args:Array Operand}{Ts:Array TypeId}{az avs:List AV}
def zL{x:AV}(hd:d<X.n:=by first|(simp;done)|fail)(ha:args.toList.map (ev st)=avs:=by simp[fx];first|done|rfl|exact(vt _).symm)
  (hB:bJ st.hp zl avs az:=by
    first
    |((repeat'(first|exact .nil|refine .cons ?_ ?_|exact .refl _|exact ea ai ah|exact gu ai ah sy));done)
    |fail)
  (hF:qL X.P X.gl f az (λ_ y _=>y=x))(hc:x.jX=B:=by first|(simp[fx];done)|fail)(h:K ((st.kill (.s d)).put (Z d) x)):
  qe X ⟨Z d,.call ⟨.value (.func f),args,Ts⟩,ty,pos,aft,g⟩ K E st:=NM hd ha hB hF hc h
def w8{n:Nat}(hd:d<X.n:=by first|(simp;done)|fail)(ha:args.toList.map (ev st)=avs:=by simp[fx];first|done|rfl|exact(vt _).symm)
  (hB:bJ st.hp zl avs az:=by
    first
    |((repeat'(first|exact .nil|refine .cons ?_ ?_|exact .refl _|exact ea ai ah|exact gu ai ah sy));done)
    |fail)
  (hF:qL X.P X.gl f az (λr y H'=>y=.hs r z 0 n/\H' r=Z (.row z rows)))(hc:rows.all (λr=>r.all AV.jX)=B:=by first|(simp;done)|fail)
  (h:K (((st.kill (.s d)).zW (.s d) (.row z rows)).put (Z d) (.hs (.s d) z 0 n))):qe X ⟨Z d,.call ⟨.value (.func f),args,Ts⟩,ty,pos,aft,g⟩ K E st:=NN hd ha hB hF hc h
end
end
section
variable{X:Ctx}{st:St}{K:St->Prop}{E:AV->St->Prop}{ds:List (Option Nat)}{l:List Oper}{dst:Option Nat}{op:Op}{ty:TypeId}{pos:String}{aft:Array Edge}{i j e:Nat}{want:Bool}{v:AV}
def lw(hj:ds[j]?=Z (Z e):=by rfl)(ht:st.tm e=v:=by simp[fx];first|done|rfl|exact(vt _).symm)(h:Gx X ds K E l st dst op ty pos aft j want e v):yQ X ds K E (⟨dst,op,ty,pos,aft,Z (j,want)⟩::l) st:=qAw hj ht h
def nV(hn:∀e,dst=Z e->e<X.n:=by first|(simp;done)|fail)(h:yQ X ds K E l (st.put dst (.sc undef))):Gx X ds K E l st dst op ty pos aft j B e (.sc (.bool M)):=UV hn h
def nR(hn:∀e,dst=Z e->e<X.n:=by first|(simp;done)|fail)(h:yQ X ds K E l (st.put dst (.sc undef))):Gx X ds K E l st dst op ty pos aft j M e (.sc (.bool B)):=UU hn h
def nW(hn:∀e,dst=Z e->e<X.n:=by first|(simp;done)|fail)(h:yQ X ds K E l (st.put dst (.sc undef))):Gx X ds K E l st dst op ty pos aft j want e (.sc undef):=UW hn h
def bi{x:Code}(ht:ev st c=.sc (.bool B):=by first|(simp[fx];done)|fail)(h1:jJ X x Q st):jJ X (.cond c x y) Q st:=qDr h1 ht
def cS{x:Code}(ht:ev st c=.sc (.bool M):=by first|(simp[fx];done)|fail)(h1:jJ X y Q st):jJ X (.cond c x y) Q st:=qDq h1 ht
def vr{c:Nat}{x:Code}(ht:st.tm c=.sc (.bool t):=by simp[fx];first|done|rfl|exact(vt _).symm)(h1:t=B->jJ X x Q (st.put (Z c) (.sc (.bool B))))(h2:t=M->jJ X y Q (st.put (Z c) (.sc (.bool M)))):jJ X (.cond (.tmp c) x y) Q st:=yk ht h1 h2
def ij{z:AV}(ho:l[i]?=Z ⟨Z d,op,ty,pos,aft,Y⟩:=by rfl)(hd:d<X.n:=by first|(simp;done)|fail)(hz:vA X.P st ⟨Z d,op,ty,pos,aft,Y⟩=Z z:=by simp[fx];first|done|rfl|exact(vt _).symm)(h:zn X l ds K r (st.put (Z d) z)):zn X l ds K (.q i r) st:=Qf ho hd hz h
def ng{z:AV}(ho:l[i]?=Z ⟨Z d,op,ty,pos,aft,Z (j,want)⟩:=by rfl)(hj:ds[j]?=Z (Z e):=by rfl)(ht:st.tm e=.sc (.bool want):=by first|(simp[fx];done)|fail)(hd:d<X.n:=by first|(simp;done)|fail)
  (hz:vA X.P st ⟨Z d,op,ty,pos,aft,Z (j,want)⟩=Z z:=by simp[fx];first|done|rfl|exact(vt _).symm)(h:zn X l ds K r (st.put (Z d) z)):zn X l ds K (.q i r) st:=Qh ho hj ht hd hz h
def na(ho:l[i]?=Z ⟨Z d,op,ty,pos,aft,Z (j,want)⟩:=by rfl)(hj:ds[j]?=Z (Z e):=by rfl)(ht:st.tm e=.sc (.bool (!want)):=by first|(simp[fx];done)|fail)(hd:d<X.n:=by first|(simp;done)|fail)
  (h:zn X l ds K r (st.put (Z d) (.sc undef))):zn X l ds K (.q i r) st:=Qg ho hj ht hd h
def nh(ho:l[i]?=Z ⟨Z d,op,ty,pos,aft,Z (j,want)⟩:=by rfl)(hj:ds[j]?=Z (Z e):=by rfl)(ht:st.tm e=.sc undef:=by first|(simp[fx];done)|fail)(hd:d<X.n:=by first|(simp;done)|fail)
  (h:zn X l ds K r (st.put (Z d) (.sc undef))):zn X l ds K (.q i r) st:=Qi ho hj ht hd h
def nZ(ho:l[i]?=Z ⟨dst,op,ty,pos,aft,Z (j,want)⟩:=by rfl)(hj:ds[j]?=Z (Z e):=by rfl)(ht:st.tm e=.sc (.bool t):=by simp[fx];first|done|rfl|exact(vt _).symm)
  (h1:t=B->zn X l ds K (.q i r) (st.put (Z e) (.sc (.bool B))))(h2:t=M->zn X l ds K (.q i r) (st.put (Z e) (.sc (.bool M)))):zn X l ds K (.q i r) st:=Qd ho hj ht h1 h2
def gO{q:Nat}{ps:List Nat}(ho:l[q]?=Z o:=by rfl)(h1:pO X ds o st:=by first|(simp[pO,fx];done)|(simp[pO,undef,fx];done)|fail)(h2:uw X l ds ps st):uw X l ds (q::ps) st:=qCI ho h1 h2
end
def bZ(ss:List qT)(b:Int):Nat:=O (ss.filter (λs=>fo s b))
def dA(p:qC)(b:Int):Nat->Nat
 |0=>0
 |n+1=>dA p b n+(match p[n]? with|some q=>bZ q.body b|none=>0)
theorem Mq(ss:List qT)(b:Int):bZ ss b<=O ss:=List.length_filter_le _ _
theorem HC{b:Int}{s:qT}(h:ss[j]?=Z s):bZ (ss.take (j+1)) b=bZ (ss.take j) b+(if fo s b then 1 else 0):=by
 simp only[bZ];rw[lp h]
 grind
theorem WI{b:Int}{m:Nat}(h:∀q∈p,O q.body<=m):∀n,dA p b n<=n*m
 :=by intro x0;induction x0<;>grind[dA,Mq]
def wz(p:qC)(ss:List qT)(n:Nat):List Int:=(List.range 7).map (λk:Nat=>((dA p k n+bZ ss k:Nat):Int))
def Mf{n k:Nat}(h:k<7):(wz p ss n)[k]?=Z ((dA p k n+bZ ss k:Nat):Int):=by
 simp[wz,h]
theorem WF{n k:Nat}{s:qT}(hs:ss[j]?=Z s)(hk:s.a=k)(hm:s.kind=3\/s.kind=4)(h7:k<7):
  (wz p (ss.take j) n).set k (((dA p k n+bZ (ss.take j) k:Nat):Int)+1)=wz p (ss.take (j+1)) n:=by
 apply yp;intro i;simp only[wz,fL,rA,List.length_range,j3];by_cases hi:k=i
 .subst hi;have:fo s k=B:=by grind[fo]
  grind[HC]
 .rw [if_neg hi];by_cases h:i<7
  .have:fo s i=M:=by
    grind[fo]
   grind[HC]
  .simp [h]
theorem WG{n:Nat}{s:qT}(hs:ss[j]?=Z s)(hm:¬(s.kind=3\/s.kind=4)):wz p (ss.take (j+1)) n=wz p (ss.take j) n:=by
 simp_all[wz,fo,HC]
theorem WE{n:Nat}{q:qY}(h:p[n]?=Z q):wz p q.body n=wz p [] (n+1):=by
 grind[wz,dA,bZ]
theorem Mg{p:qC}{b:Nat}{k:qY}(hp:ze p)(hk:p[b]?=Z k)(hv:∀(i:Nat)q,p[i]?=Z q->∀s∈q.body,zp p i q s=B)(hpar:0<=k.parent):∀n,n<=O p->(dA p b n:Int)=if k.parent<n then bX p b else 0
 |0,_=>by grind[dA]
 |n+1,hn=>by
  have ih:=Mg hp hk hv hpar n qA;obtain⟨q,hq⟩:∃q,p[n]?=Z q:=⟨_,gE qA⟩;simp only[dA,hq];by_cases e:k.parent=n
  .grind[bX,bZ]
  .have h0:bZ q.body b=0:=by
    simp only[bZ,List.length_eq_zero_iff,List.filter_eq_nil_iff]
    grind[fo,bW,un,zp]
   omega
def WH(hp:ze p)(hk:p[b]?=Z k)(hv:∀(i:Nat)q,p[i]?=Z q->∀s∈q.body,zp p i q s=B)(hpar:0<=k.parent):(dA p b (O p):Int)=bX p b:=by
 have hb:=(gS hk).1;have:=(hp b k hk).2.1;rw[Mg hp hk hv hpar _ (qb _),if_pos qA]
@[simp]theorem tr_comp_iv:AV.tr f∘iv=iv:=rfl
theorem Ur{A:List Int}{v:Int}(h:a<O A):(A.map iv).take a++iv v::(A.map iv).drop (a+1)=(A.set a v).map iv:=by
 simp_all[List.set_eq_take_append_cons_drop]
def z8(l:List Int):List AV:=(List.range 8).map (λx:Nat=>bv (decide ((x:Int)∈l)))
section
variable{l l':List Int}{f:Nm->Option Nm}{x:Nat}
@[simp]theorem bset_len:O (z8 l)=8:=tC
theorem A1(h:x<8):(z8 l)[x]?=Z (bv (decide ((x:Int)∈l))):=by simp[z8,h]
@[simp]theorem bset_map:(z8 l).map (AV.tr f)=z8 l:=tC
@[simp]theorem bset_take:(z8 l).take 8=z8 l:=jg qB
@[simp]theorem bset_one:(z8 l).all AV.one=B:=tC
@[simp]theorem bset_cln:(z8 l).all AV.jX=B:=tC
@[simp]theorem KA:(z8 l).all (λx=>!j5 x)=B:=tC
theorem Nc:∀{v:List AV}{j:Nat},(∀x∈v,uh x=Y)->kg key j v=[]
 :=by intro x0;induction x0<;>simp_all
@[simp]theorem bset_prs:kg key j (z8 l)=[]:=Nc tC
@[simp]theorem bset_nk:vX key es j (z8 l)=[]:=NA KA
@[simp]theorem bset_zcs:vM key es j (z8 l)=z8 l:=QR KA
theorem Rj(h:∀x:Int,0<=x->x<=7->(x∈l↔x∈l')):z8 l=z8 l':=by
 grind[z8,oD]
theorem C6:z8 (sorted l)=z8 l:=Rj λx h1 h2=>by grind[mem_sorted]
theorem oL{y:Int}(hy:y=x)(h:x<8):(z8 l).take x++bv B::(z8 l).drop (x+1)=z8 (l++[y]):=by
 subst hy;apply yp
 grind[z8]
end
section
variable{X:Ctx}{st:St}{K:St->Prop}{E:AV->St->Prop}
theorem qBK{f:FuncId}{avs:List AV}{R:Nm->AV->(Nm->Option AO)->Prop}(hEnt:AL X.P st o f avs)(hd:o.dst=Z d)(hn:d<X.n)(hF:qL X.P X.gl f az R)
  (hB:bJ st.hp zl avs az)(hK:∀x H',R (.s d) x H'->K ((st.call d zl y6 (vj H')).put (Z d) (ni x))):qe X o K E st:=by
 refine mY (D:=zl) (H:=y6) (R:=R) hF hEnt B hB (λ_ _=>rfl) (λn h=>kv) (λn h=>absurd rfl h) (λk i j _=>.inl rfl) (λe he=>qQ) ?_ (λ_ _ h=>h.elim)
 simp_all
def JR(P:Program)(gl:Nat->Option (List AV))(name:String)(x:AV)(R:Nm->AV->(Nm->Option AO)->Prop):Prop:=∃t y f,x=.jL t y/\dt P t name=Z f/\qL P gl f [y] R
variable{d:Nat}{ty:TypeId}{pos:String}{aft:Array Edge}{g:Option (Nat×Bool)}{c:Operand}{name:String}{Ts:Array TypeId}{x:AV}
theorem Iu{n:Nat}(hd:d<X.n:=by first|(simp;done)|fail)(hv:ev st c=x:=by simp[fx];first|done|rfl)(hF:JR X.P X.gl name x (λr y H'=>y=.hs r z 0 n/\H' r=Z (.row z rows)))(hc:rows.all (λr=>r.all AV.jX)=B:=by first|(simp;done)|fail)
  (h:K (((st.kill (.s d)).zW (.s d) (.row z rows)).put (Z d) (.hs (.s d) z 0 n))):qe X ⟨Z d,.call ⟨.invoke c name,#[],Ts⟩,ty,pos,aft,g⟩ K E st:=by
 obtain⟨t,y,f,rfl,hm,hF⟩:=hF;refine(qe.pT (qBK (K:=λs=>∃H',s=(st.call d zl y6 H').put (Z d) (.hs (.s d) z 0 n)/\H' (.s d)=Z (.row z rows)) (TA hF.1 rfl hv hm) rfl hd hF (.cons (.refl _) .nil) ?_) ?_)
 .rintro y H' ⟨rfl,e⟩;exact⟨_,rfl,by grind[vj,AO.jX]⟩
 .rintro s ⟨H',rfl,e'⟩;refine⟨((st.kill (.s d)).zW (.s d) (.row z rows)).hp,λm ob e=>?_,?_⟩
  .simp only[St.kill,St.nm,jN,St.zW]at e;simp only[St.put,St.call,St.nm]
   split at e<;>simp_all[r8]
  simp_all[St.put,St.call,St.nm,St.kill,St.zW,r8]
end
section
variable{l:List Int}{r:List AV}{n:Nat}
@[simp]theorem bset_takeN:(z8 l++r).take (n+8)=z8 l++r.take n:=by
 grind[z8,List.take_length_add_append]
@[simp]theorem bset_dropN:(z8 l++r).drop (n+8)=r.drop n:=by
 grind[z8,List.drop_length_add_append]
theorem C4:(z8 l++r)[8+j]?=r[j]?:=by grind[z8]
theorem C5(h:j<8):(z8 l++r)[j]?=Z (bv (decide ((j:Int)∈l))):=by grind[z8]
@[simp]theorem bset_drop8':(z8 l).drop 8=[]:=qB
theorem Nb{key:Nat->Nm}:∀{v u:List AV}{j:Nat},(∀x∈v,uh x=Y)->kg key j (v++u)=kg key (j+O v) u
 |[],u,j,_=>by simp
 |x::l,u,j,h=>by
  rw[gk,Xv,h x qB];simp only;rw[Nb λy hy=>h y (by simp[hy])]
  grind
@[simp]theorem bset_prsA:kg key j (z8 l++r)=kg key (j+8) r:=by
 simp_all[Nb,z8]
theorem Mz{key:Nat->Nm}{es:List Nat}:∀{v u:List AV}{j:Nat},v.all (λx=>!j5 x)=B->vX key es j (v++u)=vX key es (j+O v) u
 |[],u,j,_=>by simp
 |x::l,u,j,h=>by
  simp only[List.all_cons,yF,bl]at h;rw[gk,Wc,h.1];simp only[aF,if_false];rw[Mz h.2]
  grind
@[simp]theorem bset_nkA:vX key es j (z8 l++r)=vX key es (j+8) r:=by
 simp_all[Mz]
theorem QQ{key:Nat->Nm}{es:List Nat}:∀{v u:List AV}{j:Nat},v.all (λx=>!j5 x)=B->vM key es j (v++u)=v++vM key es (j+O v) u
 |[],u,j,_=>by simp
 |x::l,u,j,h=>by
  simp only[List.all_cons,yF,bl]at h;rw[gk,qFG,h.1];simp only[aF,if_false];rw[QQ h.2]
  grind
@[simp]theorem bset_zcsA:vM key es j (z8 l++r)=z8 l++vM key es (j+8) r:=by
 simp_all[QQ]
end
def yb(i:Nat)(k:qY)(o:AV)(ps:List Int):List AV:=iv i::iv k.kind::o::(z8 ps++(z8 k.rd++(z8 k.bd++(z8 (k.dc 9)++z8 (k.dc 10)))))
section
variable{i x:Nat}{k:qY}{o o':AV}{ps:List Int}{f:Nm->Option Nm}
@[simp]theorem scopeRow_len:O (yb i k o ps)=43:=by simp[yb]
@[simp]theorem qBD:(yb i k o ps).map (AV.tr f)=yb i k (o.tr f) ps:=by simp[yb]
@[simp]theorem scopeRow_0:(yb i k o ps)[0]=iv i:=rfl
@[simp]theorem scopeRow_1:(yb i k o ps)[1]=iv k.kind:=rfl
@[simp]theorem scopeRow_2:(yb i k o ps)[2]=o:=rfl
theorem qBA(h:x<8):(yb i k o ps)[3+x]?=Z (bv (decide ((x:Int)∈ps))):=by
 grind[yb,C5]
theorem qBB(h:x<8):(yb i k o ps)[11+x]?=Z (bv (decide ((x:Int)∈k.rd))):=by
 grind[yb,C4,C5]
theorem Oc(h:x<8):(yb i k o ps)[19+x]?=Z (bv (decide ((x:Int)∈k.bd))):=by
 grind[yb,C4,C5]
theorem EP(h:x<8):(yb i k o ps)[27+x]?=Z (bv (decide ((x:Int)∈k.dc 9))):=by
 grind[yb,C4,C5]
theorem Od(h:x<8):(yb i k o ps)[35+x]?=Z (bv (decide ((x:Int)∈k.dc 10))):=by
 have:35+x=8+(8+(8+(8+x)))+3:=qA;rw[yb,this]
 grind[C4,A1]
def qAy{y:Int}(hy:y=x)(h:x<8):(yb i k o ps).take (3+x)++bv B::(yb i k o ps).drop (3+x+1)=yb i k o (ps++[y]):=by
 have e1:3+x=x+3:=qA;have e2:3+x+1=(x+1)+3:=qA;rw[e2,e1];simp only[yb,List.take_succ_cons,List.drop_succ_cons,gk];rw[List.take_append_of_le_length qp,List.drop_append_of_le_length qp,<- oL hy h];simp
def qBC:(yb i k o ps).take 2++o'::(yb i k o ps).drop 3=yb i k o' ps:=rfl
end
def au:AV:=.sc (.pointer Y)
@[simp]theorem nilP_tr:au.tr f=au:=rfl
def kK(n:Nm)(len i:Nat):List (List AV):=(List.range len).map (λj=>[if j<i then AV.pt (.c n j 0) 0 else au])
def wC(n:Nm)(j:Int):AV:=if j<0 then au else .pt (.c n j.toNat 0) 0
structure gU(hp:Nm->Option AO)(n:Nm)(p:qC)(i:Nat):Prop where
 top:hp n=Z (.row 1 (kK n (O p) i))
 sc:∀(j:Nat)k,j<i->p[j]?=Z k->hp (.c n j 0)=Z (.row 43 [yb j k (wC n k.parent) k.params])
section
variable{n m:Nm}{len i j:Nat}{f:Nm->Option Nm}
@[simp]theorem sRows_len:O (kK n len i)=len:=by simp[kK]
def Bo(h:j<len):(kK n len i)[j]?=Z [if j<i then AV.pt (.c n j 0) 0 else au]:=by simp[kK,h]
theorem Bp(h:∀j,j<i->f (.c n j 0)=Z (.c m j 0)):(kK n len i).map (λr=>r.map (AV.tr f))=kK m len i:=by
 simp only[kK,iy];apply oD;intro j _;by_cases e:j<i
 .simp_all
 .simp [e]
theorem O6(hn:Nm.under (.s a) n=M)(hn':Nm.under (.c n i 0) n=M):(jn (kK n len i) i 0 [.pt (.s a) 0]).map (λr=>r.map (AV.tr (mv (.s a) (.c n i 0))))=kK n len (i+1):=by
 apply yp;intro j;simp only[jn,j3,it];by_cases hj:j<len
 .rw [Bo hj,Bo hj];by_cases e:i=j
  .simp_all
  .by_cases e2:j<i
   .simp_all<;>grind
   .have e3:¬j<i+1:=qA;simp[e,e2,e3]
 simp_all
@[simp]theorem sRows_kl(h:Nm.under (.s d) n=M):(kK n len i).map (λr=>r.map (AV.tr (kl (.s d))))=kK n len i:=Bp iE
@[simp]theorem sRows_mv1(h:Nm.under (.s a) n=B):(kK n len i).map (λr=>r.map (AV.tr (mv (.s a) k1)))=kK (Nm.qy (.s a) k1 n) len i:=Bp iE
@[simp]theorem sRows_mv2(h:Nm.under (.s a) n=M)(h':Nm.under (.s b) n=M):(kK n len i).map (λr=>r.map (AV.tr (mv (.s a) (.s b))))=kK n len i:=Bp (by simp[h,h'])
theorem xj(h:0<=q->f (.c n q.toNat 0)=Z (.c m q.toNat 0)):(wC n q).tr f=wC m q:=by
 unfold wC
 split<;>simp_all
@[simp]theorem outP_kl(h:Nm.under (.s d) n=M):(wC n q).tr (kl (.s d))=wC n q:=xj iE
@[simp]theorem outP_mv1(h:Nm.under (.s a) n=B):(wC n q).tr (mv (.s a) k1)=wC (Nm.qy (.s a) k1 n) q:=xj iE
@[simp]theorem outP_mv2(h:Nm.under (.s a) n=M)(h':Nm.under (.s b) n=M):(wC n q).tr (mv (.s a) (.s b))=wC n q:=xj (by simp[h,h'])
theorem XM(h:Nm.under (.s a) n=M)(h':Nm.under (.c n i 0) n=M)(hq:q<i):(wC n q).tr (mv (.s a) (.c n i 0))=wC n q:=xj (λ_=>by
 simp_all<;>omega)
def XO(h:q<0):wC n q=au:=by simp[wC,h]
theorem XN{q:Nat}:wC n q=.pt (.c n q 0) 0:=by
 grind[wC]
theorem qAt:List.replicate len [au]=kK n len 0:=by
 apply yp
 grind[kK]
end
def eI(p:qC):Nat->Int->AV
 |0,_=>au
 |n+1,j=>if j<0 then au else match p[j.toNat]? with
  |none=>au
  |some k=>.el (yb j.toNat k (eI p n k.parent) k.params) 0
theorem Oa{p:qC}(hp:ze p):∀(n m:Nat)(j:Int),j<n->j<m->eI p n j=eI p m j
 |0,0,_,_,_=>rfl
 |0,m+1,j,h,_=>by grind[eI]
 |n+1,0,j,_,h=>by grind[eI]
 |n+1,m+1,j,h1,h2=>by
  simp only[eI]
  split
  .rfl
  .split
   .rfl
   .rename_i k hk;obtain⟨h3,h4,_⟩:=hp j.toNat k hk;rw[Oa hp n m k.parent qA qA]
def Ob{p:qC}{f:Nm->Option Nm}:∀(n:Nat)(j:Int),(eI p n j).tr f=eI p n j
 |0,_=>rfl
 |n+1,j=>by
  simp only[eI]
  split
  .rfl
  .split
   .rfl
   .simp [Ob n]
def vB(p:qC)(j:Int):AV:=eI p (O p) j
@[simp]theorem scopeA_tr{j:Int}:(vB p j).tr f=vB p j:=Ob _ _
theorem eH(hp:ze p)(hk:p[j]?=Z k):vB p j=.el (yb j k (vB p k.parent) k.params) 0:=by
 have hj:j<O p:=(gS hk).1;obtain⟨h1,h2,_⟩:=hp j k hk;obtain⟨n,hn⟩:∃n,O p=n+1:=⟨O p - 1,qA⟩
 grind[eI,Oa,vB]
theorem IM{j:Int}(h:j<0):vB p j=au:=by
 unfold vB
 cases O p<;>grind[eI]
theorem qAz{o o':AV}{ps:List Int}(h:Bw hp zl o o'):∀(j:Nat)a a',(yb i k o ps)[j]?=Z a->(yb i k o' ps)[j]?=Z a'->Bw hp zl a a':=by
 intro j a a' ha ha'
 match j,ha,ha' with
 |0,ha,ha'=>obtain rfl:=sI ha;obtain rfl:=sI ha';exact .refl _
 |1,ha,ha'=>obtain rfl:=sI ha;obtain rfl:=sI ha';exact .refl _
 |2,ha,ha'=>simp_all
 |j+3,ha,ha'=>
  simp only[yb,gi]at ha ha';rw[ha]at ha';obtain rfl:=sI ha';exact .refl _
theorem KG(h:gU hp n p (O p))(hh:ze p)(j:Nat)(hj:j<O p):Bw hp zl (.pt (.c n j 0) 0) (vB p j):=by
 induction j using Nat.strongRecOn with
 |_ j ih=>
  obtain⟨k,hk⟩:=gX hj;obtain⟨h1,h2,_⟩:=hh j k hk;rw[eH hh hk];refine .pt (.c n j 0) 43 0 _ _ [] rfl (h.sc j k hj hk) qB (qAz ?_);unfold wC
  split
  .rename_i hn;rw[IM hn];exact .refl _
  grind
def ia(p:qC):List (List AV):=(List.range (O p)).map (λj:Nat=>[vB p j])
abbrev uI(p:qC):AV:=.sl 1 (ia p)
@[simp]theorem scRows_len:O (ia p)=O p:=by simp[ia]
def sF(h:j<O p):(ia p)[j]?=Z [vB p j]:=by simp[ia,h]
theorem C9{len:Nat}(h:gU hp n p (O p))(hh:ze p)(hl:len=O p):Bw hp zl (.hs n 1 0 len) (uI p):=by
 subst hl;refine .hs n 1 0 (O p) (kK n (O p) (O p)) (ia p) rfl h.top qB qB (by simp[ia]) λi r r' hr hr' j a a' ha ha'=>?_
 grind[KG,kK,ia]
theorem gU.vj{H':Nm->Option AO}{n:Nm}{p:qC}{i:Nat}(h:gU H' n p i):gU (vj H') n p i:=by
 refine⟨ap h.top ?_,λj k hj hk=>ap (h.sc j k hj hk) ?_⟩
 .simp only[kK,yn];intro r hr;obtain⟨j,_,rfl⟩:=wi.1 hr;intro x hx;simp only[vG]at hx;subst hx
  split<;>rfl
 .have:(wC n k.parent).jX=B:=by unfold wC;split<;>rfl
  simp[yb,this]
theorem qL.Zz{f:FuncId}{v0:Value}(h:qL P (λ_=>Y) f az (λ_ y _=>y=.sc v0)){args:Array Value}(hC:∀b,g.C b->b<W.heap.size)(hsz:args.size=O az)
  (hargs:∀(j:Nat)v x,args[j]?=Z v->az[j]?=Z x->RV g W v x):Calls P f args W λe W'=>e=.returned v0/\Below W.heap.size W W':=by
 have hinv:Inv (vn g y6) g.C W g y6 W:=⟨rfl,rfl,rfl,qb _,λ_ _ _=>rfl,rfl,hC,λ_ _ e=>vi,λ_ _ _ e=>vi,λ_ _ _ _ _ e=>vi⟩;refine(h.2 (.s 0) g.C W g args (λ_ _=>rfl) rfl (λ_ e=>absurd rfl e) hinv (λ_ _ e=>vi) hsz hargs).mono λe w' he=>?_
 cases e with
 |returned v=>
  obtain⟨C',g',H',x,hA,hv,rfl⟩:=he;refine⟨by rw[hv.jF],hA.inv.os,hA.inv.tape,hA.inv.output,hA.inv.size,λb hb=>hA.inv.wx b hb ?_⟩;rintro⟨n,hn,_⟩;exact hn rfl
 |panicked ch=>obtain⟨_,_,_,_,_,_,_,_,e⟩:=he;exact e.elim
 |outgrown=>simp_all
def qL.Wz{gl:Nat->Option (List AV)}{f:FuncId}{v0:Value}(hc:ly P f)
  (h:∀(w:World)(g:Gh)(args:Array Value),(∀b,g.C b->b<w.heap.size)->args.size=O az->(∀(j:Nat)v x,args[j]?=Z v->az[j]?=Z x->RV g w v x)->Calls P f args w λe w'=>e=.returned v0/\Below w.heap.size w w'):
  qL P gl f az (λ_ y _=>y=.sc v0):=by
 refine⟨hc,λroot C w g args _ _ _ hinv _ hsz hargs=>?_⟩;refine(h w g args (λb hb=>hinv.ur b (hinv.hC ▸ hb)) hsz hargs).mono λe w' he=>?_;obtain⟨rfl,hb⟩:=he
 exact⟨C,g,y6,.sc v0,⟨λ_ h=>h,λ_ h=>.inl h,⟨hb.os,hb.tape,hb.output,hb.size,λb hl _=>hb.block b hl,hinv.hC,λb hb'=>um (hinv.ur b hb') hb.size,λ_ _ e=>vi,λ_ _ _ e=>vi,λ_ _ _ _ _ e=>vi⟩,
  λ_ e=>absurd rfl e,λ_ _ _=>⟨rfl,rfl⟩,λ_ _ _ _=>⟨rfl,rfl⟩⟩,.sc v0,rfl⟩
def RV.Uy{x:AV}{n:Nat}(h:RV g w v x)(hC:∀b,g.C b->b<n)(hb:Below n w W):RV g W v x:=h.same (λ_ h=>h) (λb hb'=>hb.block b (hC b hb')) λ_=>⟨rfl,rfl⟩
structure J1(g:Gh)(w:World)(p:qC)(j:Nat)(k:qY)(b o:Nat):Prop where
 C:g.C b
 idx:w.cell? ⟨b,o,Y⟩=Z (.int .i64 j)
 kind:w.cell? ⟨b,o+1,Y⟩=Z (.int .i64 k.kind)
 out:∃a,w.cell? ⟨b,o+2,Y⟩=Z (.pointer a)/\RV g w (.pointer a) (vB p k.parent)
 zM:∀x:Nat,x<8->w.cell? ⟨b,o+(27+x),Y⟩=Z (.bool (decide ((x:Int)∈k.dc 9)))
theorem RV.ptr{j:Int}(h:RV g w v (vB p j)):∃a,v=.pointer a:=by
 unfold vB at h;generalize O p=n at h
 cases n with
 |zero=>exact⟨Y,h.jF⟩
 |succ n=>
  simp only[eI]at h
  split at h
  .exact⟨Y,h.jF⟩
  .split at h
   .exact⟨Y,h.jF⟩
   .cases h<;>grind
def RV.O7{j:Int}(h:RV g w v (vB p j))(hj:j<0):v=.pointer Y:=by
 rw[IM hj]at h;exact h.jF
theorem RV.EO(hh:ze p)(hk:p[j]?=Z k)(h:RV g w v (vB p j)):∃b o,v=.pointer (Z ⟨b,o,Y⟩)/\J1 g w p j k b o:=by
 rw[eH hh hk]at h
 cases h with
 |el b o off row f hC hcell ho hr=>
  have get:∀(i:Nat)(u:Value),(yb j k (vB p k.parent) k.params)[i]?=Z (.sc u)->w.cell? ⟨b,o+i,Y⟩=Z u:=by
   grind[jF]
  refine⟨b,o,rfl,hC,get 0 _ rfl,get 1 _ rfl,?_,λx hx=>get _ _ (EP hx)⟩;have h2:=hr 2 _ (show(yb j k (vB p k.parent) k.params)[2]?=Z (vB p k.parent)from rfl);obtain⟨a,ha⟩:=h2.ptr
  simp_all
inductive Path(p:qC):Int->List Nat->Int->Prop
 |nil (j:Int):Path p j [] j
 |skip (j:Nat) (k:qY) (l:List Nat) (j':Int) (hk:p[j]?=Z k) (hn:k.kind≠1) (h:Path p k.parent l j'):Path p j l j'
 |step (j:Nat) (k:qY) (l:List Nat) (j':Int) (hk:p[j]?=Z k) (hn:k.kind=1) (h:Path p k.parent l j'):Path p j (j::l) j'
def Path.qB2{i:Int}(h:Path p i l j)(hk:p[j]?=Z k)(hn:k.kind≠1):Path p i l k.parent:=by
 generalize hj:(j:Int)=j' at h
 induction h with
 |nil _=>subst hj;exact .skip j k [] _ hk hn (.nil _)
 |skip a q l j' ha hq _ ih=>exact .skip a q l _ ha hq (ih hj)
 |step a q l j' ha hq _ ih=>exact .step a q l _ ha hq (ih hj)
def Path.PN{i:Int}(h:Path p i l j)(hk:p[j]?=Z k)(hn:k.kind=1):Path p i (l++[j]) k.parent:=by
 generalize hj:(j:Int)=j' at h
 induction h with
 |nil _=>subst hj;exact .step j k [] _ hk hn (.nil _)
 |skip a q l j' ha hq _ ih=>exact .skip a q _ _ ha hq (ih hj)
 |step a q l j' ha hq _ ih=>exact .step a q _ _ ha hq (ih hj)
theorem Path.len(hh:ze p){i j:Int}(h:Path p i l j):(O l:Int)+j<=i:=by
 induction h with
 |nil _=>simp
 |skip a q l j' ha hq _ ih=>have:=(hh a q ha).2.1;omega
 |step a q l j' ha hq _ ih=>have:=(hh a q ha).2.1;simp;omega
def found(p:qC)(x:Int)(j:Nat):Option Int:=match p[j]? with
 |some q=>if x∈q.dc 9 then Z (-1)else if uW j q x then Z (j:Int)else Y
 |none=>Y
theorem Path.outer(hh:ze p){x:Int}{i j:Int}(h:Path p i l j)(hb:∀(k:qY),p[0]?=Z k->k.kind≠1)(hno:∀y∈l,found p x y=Y):yU p x (O p) i=yU p x (O p) j:=by
 induction h with
 |nil _=>rfl
 |skip a q l j' ha hq _ ih=>
  by_cases h0:0<a
  .grind[mx]
  .obtain rfl:a=0:=qA;have:=(hh 0 q ha).2.1
   grind[B6]
 |step a q l j' ha hq _ ih=>
  have h0:0<a:=by
   grind
  rw[mx hh ha h0,if_neg lL];have hf:=hno a qB
  grind[found]
theorem Path.found{p:qC}(hh:ze p){x r:Int}{i j:Int}{l:List Nat}{y:Nat}(h:Path p i (l++[y]) j)(hb:∀(k:qY),p[0]?=Z k->k.kind≠1)(hno:∀y∈l,Hm.found p x y=Y)(hf:Hm.found p x y=Z r):yU p x (O p) i=r:=by
 generalize hl:l++[y]=l' at h
 induction h generalizing l with
 |nil _=>simp at hl
 |skip a q l' j' ha hq _ ih=>
  by_cases h0:0<a
  .grind[mx]
  .obtain rfl:a=0:=qA;have:=(hh 0 q ha).2.1
   grind[B6]
 |step a q l' j' ha hq _ ih=>
  have h0:0<a:=by
   grind
  rw[mx hh ha h0,if_neg lL]
  cases l with
  |nil=>
   grind[Hm.found]
  |cons z l=>
   simp only[gk,List.cons.injEq]at hl;obtain⟨rfl,hl⟩:=hl;have hf1:=hno z qB
   grind[Hm.found]
structure nr(k:qY):Prop where
 kinds:∀s∈k.body,0<=s.kind/\s.kind<=11
 reads:∀s∈k.body,∀x∈s.reads,0<=x/\x<=7
 zE:∀s∈k.body,0<=s.to/\s.to<=7
 params:∀x∈k.params,0<=x/\x<=7
structure zw(p:qC):Prop where
 bc:jm p
 jK:ze p
 head:∀(i:Nat)k,p[i]?=Z k->ul i k
 fD:∀(i:Nat)k,p[i]?=Z k->∀s∈k.body,zp p i k s=B
 len:1<=O p/\O p<=7
 body:∀k∈p,O k.body<=12
theorem zw.of(hs:jm p)(h:kL p=B):zw p:=by
 obtain⟨h1,h2,h3,h4,_⟩:=Bx h
 have key:∀(i:Nat)k,p[i]?=Z k->ul i k/\O k.body<=12/\k.body.all (zp p i k)=B:=λi k hk=>
  C3 hk (yn.1 h4 i (ix.2 (gS hk).1))
 refine⟨hs,h1,λi k hk=>(key i k hk).1,λi k hk s hm=>yn.1 (key i k hk).2.2 s hm,⟨h2,h3⟩,λk hk=>?_⟩
 grind[ko]
theorem zp.kind{p:qC}{i:Nat}{k:qY}{s:qT}(h:zp p i k s=B):0<=s.kind/\s.kind<=11:=by
 by_cases hk:0<=s.kind/\s.kind<=11
 .exact hk
 .have h2:¬(s.kind=0\/s.kind=1\/s.kind=2\/s.kind=3\/s.kind=4\/s.kind=5\/s.kind=6\/s.kind=7\/s.kind=8\/s.kind=9\/s.kind=10\/s.kind=11):=qA
  grind[zp]
theorem zw.names(h:zw p):∀k∈p,nr k:=by
 intro k hk;obtain⟨i,hi⟩:=ko hk;have hst:=h.fD i k hi;have hhd:=h.head i k hi;refine⟨λs hs=>zp.kind (hst s hs),λs hs x hx=>?_,λs hs=>?_,λx hx=>?_⟩
 .grind[zp]
 .grind[zp]
 .unfold ul at hhd
  split at hhd
  .simp_all
  .rcases hhd.2.2.2.2 with h0|⟨h1,_,h3,h4⟩
   .simp_all
   .match hp:k.params,h1,hx with
    |[y],_,hx=>
     simp_all
theorem zw.ei(h:zw p)(hk:p[i]?=Z k):k.kind=0↔i=0:=by
 have:=h.head i k hk
 grind
def zw.Tv(h:zw p):∀k,p[0]?=Z k->k.kind≠1:=by
 intro k hk;have:=(h.ei hk).2 rfl;omega
theorem zw.Sf(h:zw p)(hk:p[0]?=Z k){d:Int}(hd:d=9\/d=10):k.dc d=[]:=by
 have hnil:o9 k d=[]:=by
  simp only[o9,List.map_eq_nil_iff,List.filter_eq_nil_iff];intro s hs hsd;have hst:=h.fD 0 k hk s hs;have hk0:=(h.ei hk).2 rfl
  grind[zp]
 simp only[qY.dc,hnil,sorted]
 decide
theorem NU{x:Int}:∀(n:Nat)(j:Int),-1<=yU p x n j
 :=by intro x0;induction x0<;>grind[yU]
theorem XT{x:Int}:-1<=outer p b x:=by
 unfold outer
 split<;>simp_all[NU]
theorem WR{xs:List Int}{n:Nat}(h:n<8):(n:Int)∈sorted xs↔(n:Int)∈xs:=by
 grind[mem_sorted]
end Go.Hm
end
section

end
section

end
section
namespace Go.Hm
open Go Go.RowKit
variable{U:Nm}
def pre{α:Type}(z:α)(l:List α)(i:Nat):List α:=l.take i++List.replicate (O l-i) z
section
variable{X:Ctx}{st:St}{K:St->Prop}{E:AV->St->Prop}{ds:List (Option Nat)}{l:List Oper}{o:Oper}
def kU(n0 n1:Nm)(h0:n0.z6=M\/X.ext n0=M)(h1:n1.z6=M\/X.ext n1=M)(h:qe X o K E (st.move n0 n1)):qe X o K E st:=
 λa w Q hR hE=>h a w Q (hR.move n0 n1 h0 h1) hE
def dC(n0 n1:Nm)(h0:n0.z6=M\/X.ext n0=M)(h1:n1.z6=M\/X.ext n1=M)(h:qe X o (λs=>K (s.move n0 n1)) E st):qe X o K E st:=by
 refine qe.post h ?_;intro s a w hR hK;exact⟨_,hR.move n0 n1 h0 h1,hK⟩
end
theorem y8(hU:U.z6=B):∀{n:Nm},Nm.under U n=B->n.zj=M:=by
 intro n
 induction n with
 |s d=>grind[Nm.z6,Nm.under]
 |u k i j=>intro _;rfl
 |c q i j ih=>
  grind[Nm.under,Nm.z6,Nm.zj]
def uL(U:Nm)(hp:Nm->Option AO):Nm->Option AO:=λm=>if Nm.under U m then hp m else Y
section
variable{X:Ctx}{st:St}{K:St->Prop}{E:AV->St->Prop}{d f:Nat}{ty:TypeId}{pos:String}{aft:Array Edge}{g:Option (Nat×Bool)}{args:Array Operand}{Ts:Array TypeId}{az:List AV}{R:Nm->AV->(Nm->Option AO)->Prop}
theorem uT(U:Nm)(hU:U.z6=B)(hext:X.ext U=B->st.hp U≠Y)(hd:d<X.n:=by first|(simp;done)|fail)(ha:args.toList.map (ev st)=az:=by simp[fx];first|done|rfl)
  (hF:qX X.P X.gl f (Nm.under U) az (uL U st.hp) R qw)(h:∀y H',R (.s d) y H'->K ((st.call d (Nm.under U) (uL U st.hp) H').put (Z d) y)):
  qe X ⟨Z d,.call ⟨.value (.func f),args,Ts⟩,ty,pos,aft,g⟩ K E st:=by
 subst ha;refine mY (D:=Nm.under U) (H:=uL U st.hp) (R:=R) (E0:=qw) hF (oc hF.1 rfl) M ⟨rfl,λj a a' h h'=>?_⟩ (λn hn=>?_) (λn hn=>?_) (λn hn=>?_) (λk i j he=>?_) (λe he=>qQ) (λx H' hR=>?_) (λ_ _ h=>h.elim)
 .rw [h]at h';obtain rfl:=sI h';exact .refl _
 .cases hx:Nm.under U n with
  |false=>rfl
  |true=>
   have h1:=y8 hU hx;have h2:=Nm.nO (a:=.s d) rfl hn
   simp_all
 .simp [uL,hn]
 .grind[uL]
 .grind[Nm.under,uL]
 simp_all
end
section
variable{st:St}{d t:Nat}{D:Nm->Bool}{H H':Nm->Option AO}{m:Nm}
@[simp]theorem call_tm:(st.call d D H H').tm t=(st.tm t).tr (cf d D H):=rfl
@[simp]theorem call_gl:(st.call d D H H').gl=st.gl:=rfl
@[simp]theorem call_hp:(st.call d D H H').hp m=if D m||Nm.under (.s d) m then H' m else(st.hp m).map (AO.tr (cf d D H)):=rfl
@[simp]theorem cf_eq:cf d D H m=if Nm.under (.s d) m then Y else if D m then(if m.z6&&(H m).isSome then Z m else Y)else Z m:=rfl
@[simp]theorem hsub_eq{hp:Nm->Option AO}:uL U hp m=if Nm.under U m then hp m else Y:=rfl
end
end Go.Hm
end
