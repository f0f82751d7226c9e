import Derived.Test.YtdnebaieamppbaaGreatDoorE13
set_option linter.unusedSimpArgs false
set_option linter.unusedVariables false
set_option maxRecDepth 100000
set_option maxHeartbeats 4000000

section
namespace Go.Hm
open Go Go.RowKit
structure Vw where
 block:Int
 names:List Int
 vals:List Int
 deriving DecidableEq,Inhabited
def Vw.own (n:Nm) (i:Nat) (v:Vw):List AV:=[iv v.block,.hs (.c n i 1) 1 0 v.names.length,.hs (.c n i 2) 1 0 v.vals.length]
@[simp] theorem Vw.qB1 {n:Nm} {i:Nat} {v:Vw}:v.own n i=[iv v.block,.hs (.c n i 1) 1 0 v.names.length,.hs (.c n i 2) 1 0 v.vals.length]:=rfl
structure qE5 (hp:Nm->Option AO) (n:Nm) (i:Nat) (v:Vw):Prop where
 names:hp (.c n i 1)=some (.row 1 (qT v.names))
 vals:hp (.c n i 2)=some (.row 1 (qT v.vals))
def ua (n:Nm) (cs:List Vw):List (List AV):=cs.mapIdx λi c=>c.own n i
structure qDA (hp:Nm->Option AO) (n:Nm) (cs:List Vw):Prop where
 top:hp n=some (.row 3 (ua n cs))
 each:∀ (i:Nat) c,cs[i]?=some c->qE5 hp n i c
section
variable {cs:List Vw} {i a b d l:Nat} {n q k1:Nm} {c:Vw}
@[simp] theorem vwRows_len:(ua n cs).length=cs.length:=by simp [ua]
@[simp] theorem JD:(ua n cs)[i]?=(cs[i]?).map (λc=>c.own n i):=by simp [ua]
@[simp] theorem vwRows_nil:ua n []=[]:=rfl
@[simp] theorem vwRows_take:(ua n cs).take cs.length=ua n cs:=b9 qB
theorem JE:ua n (cs++[c])=ua n cs++[c.own n cs.length]:=by simp [ua]
theorem ca {f:Nm->Option Nm} {m:Nm} (h:∀ i j,i<cs.length->f (.c n i j)=some (.c m i j)):(ua n cs).map (λr=>r.map (AV.tr f))=ua m cs:=by
 apply wK;intro i;simp only [kx,JD,Option.map_map]
 cases hx:cs[i]? with
 | none=>rfl
 | some x=>simp [Vw.own,h i _ (gS hx).1]
@[simp] theorem vwRows_mv1 (h:Nm.under (.s a) n=true):(ua n cs).map (λr=>r.map (AV.tr (mv (.s a) k1)))=ua (Nm.Zn (.s a) k1 n) cs:=ca dO
@[simp] theorem vwRows_mvc:(ua n cs).map (λr=>r.map (AV.tr (mvc n k1)))=ua k1 cs:=by
 refine ca λi j _=>?_;have:Nm.c n i j≠n:=Nm.qAT (Nm.Z6 n);simp [this]
@[simp] theorem vwRows_mv4 {j:Nat} (hq:(q=n)=False) (hq':Nm.under (.c q a b) n=false) (hl:cs.length<=l):(ua n cs).map (λr=>r.map (AV.tr (mv (.c q a b) (.c n l j))))=ua n cs:=by
 have h1:¬ n=q:=λe=>by simp [e] at hq
 have h2:Nm.under (.c n l j) n=false:=by
  cases h:Nm.under (.c n l j) n with
  | false=>rfl
  | true=>exact absurd rfl (Nm.qAS h).2
 refine ca λi j hi=>?_;have h3:¬ i=l:=qA;simp [h1,hq',h2,h3]
end
def WP:List Int:=[0,1,2,3,4,5,6,7]
def iQ (p:Z0) (b:Nat):List Int:=if qg p b=1 then sorted ((qP p b++qF p b)++qd p b) else WP
def xc (l:List (Int×Zt)):List Int:=l.filterMap λq=>match q.2 with|some _=>some q.1|none=>none
def JG (l:List (Int×Zt)):List Int:=l.filterMap λq=>match q.2 with|some v=>some (shown v)|none=>none
def sU (p:Z0) (b:Nat) (x:Int):Nat:=match p[b]? with
 | some k=>if qa b k x then b else (outer p b x).toNat
 | none=>0
def Ah (p:Z0) (w:Z5) (a:Nat) (x:Int):Zt :=
 if w.Z1 a=0 then w.get none x else if qg p (w.Z1 a)=2 then w.get (some a) x else w.get (some (uV w.ZX (sU p (w.Z1 a) x) a a)) x
def JH (p:Z0) (w:Z5) (a:Nat):Vw :=
 let l:=(iQ p (w.Z1 a)).map λx=>(x,Ah p w a x)
 ⟨w.Z1 a,xc l,JG l⟩
def xd (p:Z0) (w:Z5):List Vw:=w.stack.map (JH p w)
def ea (p:Z0) (f:Int):List Vw:=if jT p f then xd p (yI p f.toNat) else []
section
variable {p:Z0} {b c:Nat} {x:Int} {k:Za} {l:List (Int×Zt)} {q:Int×Zt}
theorem Lz:(iQ p b).length<=8:=by
 unfold iQ
 split
 .exact fP 8
 .decide
theorem DE (h:x∈iQ p b):0<=x/\x<=7:=by
 unfold iQ at h
 split at h
 .grind[mem_sorted]
 .simp only [WP,aH,HS,or_false] at h;omega
theorem Jq (hh:zS p) (hk:p[b]?=some k) (hk1:k.kind=1) (hb0:0<b) {o:Int} (h0:0<o) (hob:o<b):∀ c:Nat,qi p c b=true->zZ p x p.length c=o->outer p b x=o:=by
 intro c
 induction c using Nat.strongRecOn with
 | ind c ih =>
  intro hi h;have hbc:=ym hi;have hc0:0<c:=qA
  cases hq:p[c]? with
  | none =>
   by_cases e:c=b
   .simp_all
   .have hl:=RM.1 hq
    have:p.length=0\/∃ n,p.length=n+1:=by
     cases p.length<;>grind
    grind[zZ]
  | some q =>
   rw [zq hh hq hc0] at h;obtain⟨g1,g2,g3⟩:=hh c q hq;have g4:=g3 hc0;obtain⟨m,hm⟩:∃ m:Nat,q.parent=m:=⟨q.parent.toNat,qA⟩
   grind[jG,zr]
theorem KO (hh:zS p) (hk:p[b]?=some k) (hk1:k.kind=1) (hb0:0<b) (hx:x∈qd p b):∃ o:Nat,0<o/\o<b/\outer p b x=o/\qi p b o=true:=by
 have key:∃ o:Int,0<o/\o<b/\outer p b x=o:=by
  simp only [qd,mem_sorted,jb,jX] at hx;obtain⟨⟨i,hi,hx⟩,_⟩:=hx;unfold aT at hx
  cases hq:p[b+i]? with
  | none=>simp_all
  | some q =>
   rw [hq] at hx;simp only at hx
   split at hx
   case isFalse=>simp at hx
   rename_i hin;have hf:=(xB.1 hx).2;simp only [uZ,ba,decide_eq_true_eq] at hf;refine⟨q7 p (b+i) x,hf.1,hf.2,?_⟩;have ho:q7 p (b+i) x=q7 p (b+i) x:=rfl;generalize hO:q7 p (b+i) x=o at *;simp only [q7,hq] at hO
   split at hO
   .omega
   .split at hO
    .omega
    .by_cases e:i=0
     .simp_all
     .rw [jG hh hq] at hO;obtain⟨g1,g2,g3⟩:=hh (b+i) q hq;have g4:=g3 qA;obtain⟨m,hm⟩:∃ m:Nat,q.parent=m:=⟨q.parent.toNat,qA⟩;have hs:=zr hh (b:=(b:Int)) qA hq qA
      grind[Jq]
 obtain⟨o,h1,h2,h3⟩:=key;obtain⟨n,rfl⟩:∃ n:Nat,o=n:=⟨o.toNat,qA⟩
 grind[bS]
theorem Tj (hh:zS p) (hk:p[b]?=some k) (hk1:k.kind=1) (hb0:0<b) (hx:x∈iQ p b):0<sU p b x/\qi p b (sU p b x)=true/\(qa b k x=false->outer p b x=sU p b x):=by
 have hkk:qg p b=1:=eQ;unfold sU;rw [hk];simp only
 cases hl:qa b k x
 .simp only [ak,if_false]
  have hf:x∈qd p b:=by
   simp only [iQ,hkk,if_true,mem_sorted,dY] at hx;rcases hx.1 with (h|h)|h
   .grind[qP,kE,vn]
   .exfalso;simp only [qF,hkk,if_true,mem_sorted,jn,jX] at h;obtain⟨⟨i,hi,h⟩,_⟩:=h;unfold bp at h
    cases hq:p[b+1+i]? with
    | none=>simp_all
    | some q =>
     rw [hq] at h;have hf:=(xB.1 h).2;simp only [kg,beq_iff_eq] at hf;simp only [q7,hq] at hf
     split at hf
     .omega
     .split at hf
      .omega
      .rw [jG hh hq] at hf
       grind[fb]
   .exact h
  grind[KO]
 grind[zf]
end
def xO (p:Z0) (b:Nat) (x:Nat):Bool:=match p[b]? with
 | some k=>k.kind != 1||qa b k x||zI (qd p b) x != -1
 | none=>false
section
variable {p:Z0} {b:Nat} {k:Za}
theorem pK (hh:zS p) (hk:p[b]?=some k) (hk1:k.kind=1) (hb0:0<b) {x:Int} (h:x∈qF p b):qa b k x=true:=by
 have hkk:qg p b=1:=eQ;simp only [qF,hkk,if_true,mem_sorted,jn,jX] at h;obtain⟨⟨i,hi,h⟩,_⟩:=h;unfold bp at h
 cases hq:p[b+1+i]? with
 | none=>simp_all
 | some q =>
  rw [hq] at h;have hf:=(xB.1 h).2;simp only [kg,beq_iff_eq] at hf;simp only [q7,hq] at hf
  split at hf
  .omega
  .split at hf
   .omega
   .rw [jG hh hq] at hf
    grind[fb]
theorem Jp {xs:List Int} {x:Int}:(zI xs x != -1)=decide (x∈xs):=by
 grind[zI]
theorem fO {xs ys:List Int} (h:∀ n:Nat,n<8->((n:Int)∈xs↔(n:Int)∈ys)):sorted xs=sorted ys:=by
 have:∀ m:Nat,m<=8->zM xs m=zM ys m:=by
  intro m
  induction m<;>grind[zM]
 exact this 8 (qf _)
theorem DF (hh:zS p) (hk:p[b]?=some k) (hb:k.kind=1->0<b):sorted (zB (xO p b) 8)=iQ p b:=by
 have hka:qg p b=k.kind:=bY;unfold iQ;by_cases hk1:k.kind=1
 .grind[fO,ja,qP,vn,pK,xO,Jp]
 .rw [if_neg qA]
  have hs:∀ n,xO p b n=true:=by
   grind[xO]
  have:sorted (zB (xO p b) 8)=sorted WP:=by
   refine fO λn hn=>?_;rw [ja];have:(n:Int)∈WP:=by simp only [WP,aH,HS,or_false];omega
   simp_all
  rw [this]
  decide
theorem RD {f:Nat->Bool} {x:Nat} (h:x<8):(vJ (zB f x)).take x++bv (f x)::(vJ (zB f x)).drop (x+1)=vJ (zB f (x+1)):=by
 cases hf:f x<;>grind[zB,ja,vJ,Ea,List.take_append_drop,aj]
end
def aQ (g:Int->Zt) (l:List Int):List (AV×AV):=l.map λx=>(iv x,.agg (jm (g x)))
def lG (g:Int->Zt) (l:List Int) (x:Nat):List Int:=l.filter λy=>decide ((x:Int)<=y)||(g y).isSome
section
variable {g:Int->Zt} {l:List Int} {n:Int} {f:Nm->Option Nm}
@[simp] theorem grows_nil:aQ g []=[]:=rfl
@[simp] theorem NG:(aQ g l).length=l.length:=by simp [aQ]
@[simp] theorem grows_keys:cK .i64 (aQ g l)=true:=by
 induction l with
 | nil=>rfl
 | cons q l ih=>simp only [aQ,gi,cK] at ih ⊢;simpa using ih
@[simp] theorem grows_tr:(aQ g l).map (λe=>(e.1.tr f,e.2.tr f))=aQ g l:=by
 simp only [aQ,xA];refine mz λx _=>?_;simp [Hr]
theorem Dx:Eu .i64 n (aQ g l)=if n∈l then some (.agg (jm (g n))) else none:=by
 induction l<;>grind[aQ,Eu]
theorem NH:Ev .i64 n (aQ g l)=aQ g (l.erase n):=by
 induction l<;>grind[aQ,Ev]
theorem NF (h:n∉l):IR .i64 n (.agg (jm (g n))) (aQ g l)=aQ g (l++[n]):=by
 induction l<;>grind[aQ,IR]
theorem KF (h:∀ y∈l,0<=y/\y<=7):lG g l 0=l:=by
 simp_all[lG]
theorem My (h:∀ y∈l,0<=y/\y<=7):lG g l 8=l.filter λy=>(g y).isSome:=by
 grind[lG,List.filter_congr]
theorem Dj {x:Nat}:(x:Int)∈lG g l x↔(x:Int)∈l:=by simp [lG]
theorem AD {x:Nat} (h:(x:Int)∈l->(g x).isSome=true):lG g l (x+1)=lG g l x:=by
 grind[lG,List.filter_congr]
theorem KG {x:Nat} (hd:l.Nodup) (h:(g x).isSome=false):lG g l (x+1)=(lG g l x).erase x:=by
 unfold lG;rw [List.Nodup.erase_eq_filter (hd.filter _)];rw [List.filter_filter]
 grind
theorem FE:xc (l.map λx=>(x,g x))=l.filter λy=>(g y).isSome:=by
 induction l<;>grind[xc]
theorem JF:JG (l.map λx=>(x,g x))=(l.filter λy=>(g y).isSome).map λy=>shown ((g y).getD (0,0)):=by
 induction l<;>grind[JG]
theorem dg {xs:List Int}:∀ n:Nat,(zM xs n).Pairwise (·<·)
 | 0=>.nil
 | n+1=>by
  simp only [zM]
  split
  .refine List.pairwise_append.2 ⟨dg n,qB,?_⟩
   grind[bi]
  .exact dg n
theorem Pe {p:Z0} {b:Nat}:(iQ p b).Pairwise (·<·):=by
 unfold iQ
 split
 .exact dg 8
 .decide
end
structure Z8 where
 Z1:Nat
 pc:Nat
 Z3:List Zt
 cells:List Nat
 names:List Zt
 stack:List Zd
structure Zb where
 cells:List Zt
 globals:List Zt
 ZZ:List (Nat×List Nat)
 ZV:List (List Zt)
 ZW:List Z8
 made:Nat
 deep:Nat
 out:List Int
 trace:List (Nat×Nat)
 en:Int
 left:Nat
def ac (p:Z0) (b:Nat):Nat:=match p[b]? with|some k=>k.parent.toNat|none=>0
def zt (p:Z0) (b:Nat):List Int:=(qd p b).map (aE p (ac p b))
theorem dJ {p:Z0} {b:Nat}:(zt p b).length<=8:=by simp [zt,yY]
section
variable (p:Z0) (m:Zb) (fs:List Z8) (f:Z8) (o:Int×Int)
def Zb.top:Zb:={ m with ZW:=fs++[f] }
def Zb.stop (e:Int):Zb:={ m.top fs f with en:=e }
def Z8.push (v:Zd):Z8:={ f with stack:=f.stack++[v] }
def Z8.pop:Z8:={ f with stack:=f.stack.dropLast }
def Z8.tos:Zd:=f.stack.getLastD (0,0)
def uE (l:List Zt) (i:Nat):Zt:=match l[i]? with|some s=>s|none=>none
def ft:Zt :=
 if o.1<=4 then uE f.Z3 o.2.toNat
 else if o.1<=7 then uE m.cells (f.cells.getD o.2.toNat 0)
 else if o.1<=10 then uE m.globals o.2.toNat else uE f.names o.2.toNat
def fH:Int:=if o.1<=4 then 2 else if o.1<=7 then (if o.2<(qF p f.Z1).length then 2 else 3) else 4
def qAD (s:Zt):Zb :=
 if o.1<=4 then m.top fs { f with Z3:=f.Z3.set o.2.toNat s }
 else if o.1<=7 then { m.top fs f with cells:=m.cells.set (f.cells.getD o.2.toNat 0) s }
 else if o.1<=10 then { m.top fs f with globals:=m.globals.set o.2.toNat s } else m.top fs { f with names:=f.names.set o.2.toNat s }
def vj:Zb:=match ft m f o with
 | some v=>m.top fs (f.push v)
 | none=>if fH p f o=4 then
   match uE m.globals o.2.toNat with
   | some v=>m.top fs (f.push v)
   | none=>if o.2=7 then m.top fs (f.push (1,70)) else m.stop fs f 4
  else m.stop fs f (fH p f o)
def rB:Zb:=qAD m fs f.pop o (some f.tos)
def AL:Zb:=match ft m f o with
 | some _=>qAD m fs f o none
 | none=>m.stop fs f (fH p f o)
def z8 (b:Nat) (cs:List Nat) (vs:List Zd):Zb :=
 let F:Z8:=⟨b,0,List.replicate (qP p b).length none,((List.range (qF p b).length).map (m.cells.length+·))++cs,q9,[]⟩
 let M:Zb:={ m with cells:=m.cells++List.replicate (qF p b).length none,made:=m.made+1,deep:=max m.deep (m.ZW.length+1),ZW:=m.ZW++[F] }
 match (zC p b).params,vs with
 | [x],[v]=>if x∈qP p b then { M with ZW:=m.ZW++[{ F with Z3:=F.Z3.set (zI (qP p b) x).toNat (some v) }] }
  else { M with cells:=M.cells.set (m.cells.length+(zI (qF p b) x).toNat) (some v) }
 | _,_=>M
def dK:Zb :=
 let n:=o.2.toNat
 let k:=f.stack.length - n - 1
 let F:Z8:={ f with stack:=f.stack.take k }
 let g:=f.stack.getD k (0,0)
 if g.1≠2 then m.stop fs F 5 else
 match m.ZZ[g.2.toNat]? with
 | some h=>if cp p h.1≠n then m.stop fs F 6 else z8 p (m.top fs F) h.1 h.2 (f.stack.drop (k+1))
 | none=>m.stop fs F 5
def uk (b:Nat):List Nat:=(zt p b).map λk=>f.cells.getD k.toNat 0
def ge:Zb :=
 let v:=f.tos
 if v.1≠3 then m.stop fs f.pop 5 else
 match uE (m.ZV.getD v.2.toNat []) o.2.toNat with
 | some u=>m.top fs (f.pop.push u)
 | none=>m.stop fs f.pop 7
def HU:Zb :=
 let b:=f.tos
 let a:=f.pop.tos
 if a.1≠1\/b.1≠1 then m.stop fs f.pop.pop 5 else m.top fs (f.pop.pop.push (1,(a.2+b.2).tmod 1000))
def zW (v:Zd):Zb:=match fs.getLast? with
 | some g=>{ m with ZW:=fs.dropLast++[g.push v] }
 | none=>{ m with ZW:=[] }
def Bb:Zb:=if qg p f.Z1=2 then zW { m with ZV:=m.ZV++[f.names] } fs (3,m.ZV.length) else zW m fs (0,0)
def bE:Zb:=if m.left=0 then m.stop fs f 1 else
 { m.top fs f with left:=m.left - 1,trace:=m.trace++[(f.Z1,ub ((vI p f.Z1).take (f.pc - 1)))] }
def ya:Zb :=
 if o.1=1 then m.top fs (f.push (1,o.2))
 else if o.1=14 then HU m fs f
 else if o.1=15 then { m.top fs (f.push (2,m.ZZ.length)) with ZZ:=m.ZZ++[(o.2.toNat,uk p f o.2.toNat)] }
 else if o.1=16 then z8 p (m.top fs f) o.2.toNat (uk p f o.2.toNat) []
 else if o.1=17 then dK p m fs f o
 else if o.1=18 then ge m fs f o
 else if o.1=19 then { m.top fs f.pop with out:=m.out++[shown f.tos] }
 else zW m fs f.tos
def kM:Zb :=
 if o.1=0 then bE p m fs f
 else if 2<=o.1/\o.1<=13 then
  (if (o.1 - 2) % 3=0 then vj p m fs f o else if (o.1 - 2) % 3=1 then rB m fs f o else AL p m fs f o)
 else ya p m fs f o
end
def uS (p:Z0) (m:Zb):Zb:=match m.ZW.getLast? with
 | some f=>match (vI p f.Z1)[f.pc]? with
  | some o=>kM p m m.ZW.dropLast { f with pc:=f.pc+1 } o
  | none=>Bb p m m.ZW.dropLast f
 | none=>m
def Zb.ended (m:Zb):Prop:=m.ZW=[]\/m.en≠0
instance (m:Zb):Decidable m.ended:=decidable_of_iff (m.ZW.length=0\/m.en≠0) (by simp [Zb.ended])
def j7 (p:Z0):Nat->Zb->Zb
 | 0,m=>m
 | n+1,m=>if m.ended then m else j7 p n (uS p m)
def z6 (fuel:Nat):Zb:=⟨[],q9,[],[],[],0,0,[],[],0,fuel⟩
def q8 (p:Z0) (fuel:Nat):Zb:=z8 p (z6 fuel) 0 [] []
section
variable {p:Z0} {b o c:Nat} {k q:Za} {x:Int}
theorem Dv (hh:zS p):∀ c:Nat,c<p.length->qi p c b=true->qi p b o=true->qi p c o=true:=by
 intro c
 induction c using Nat.strongRecOn with
 | ind c ih =>
  intro hl h1 h2;have g1:=ym h1;have g2:=ym h2;by_cases e:c=b
  .simp_all
  .obtain⟨q,hq⟩:=gX hl;obtain⟨f1,f2,f3⟩:=hh c q hq;have f4:=f3 qA;obtain⟨m,hm⟩:∃ m:Nat,q.parent=m:=⟨q.parent.toNat,qA⟩
   grind[zr]
theorem Fe (hh:zS p) (hk:p[b]?=some k) (hb0:0<b) {o:Int} (h0:0<o) (hob:o<b):∀ c:Nat,qi p c b=true->zZ p x p.length c=o->outer p b x=o:=by
 intro c
 induction c using Nat.strongRecOn with
 | ind c ih =>
  intro hi h;have hbc:=ym hi;have hc0:0<c:=qA
  cases hq:p[c]? with
  | none =>
   by_cases e:c=b
   .simp_all
   .have:p.length=0\/∃ n,p.length=n+1:=by
     cases p.length<;>grind
    grind[zZ]
  | some q =>
   rw [zq hh hq hc0] at h;obtain⟨g1,g2,g3⟩:=hh c q hq;have g4:=g3 hc0;obtain⟨m,hm⟩:∃ m:Nat,q.parent=m:=⟨q.parent.toNat,qA⟩
   grind[jG,zr]
theorem ix (hh:zS p):∀ (n:Nat) (j:Int),zZ p x n j=o->0<o->qg p o=1
 | 0,j,h,h0=>by grind[zZ]
 | n+1,j,h,h0=>by
  simp only [zZ] at h
  split at h
  .omega
  .split at h
   .omega
   .rename_i q hq
    split at h
    .exact ix hh n _ h h0
    .rename_i hk1
     split at h
     .omega
     .split at h
      .grind[qg]
      .exact ix hh n _ h h0
theorem Qa (hq:p[c]?=some q) (hx:x∈q.us) (ho:q7 p c x=o) (h0:0<o) (hob:o<b) (hi:qi p c b=true):x∈qd p b:=by
 have hbc:=ym hi;have hcl:=(gS hq).1;simp only [qd,mem_sorted,jb,jX];refine⟨⟨c - b,qA,?_⟩,(mem_sorted.1 hx).2⟩
 grind[aT,uZ]
theorem Qv (hk:qg p o=1) (hq:p[c]?=some q) (hx:x∈q.us) (ho:q7 p c x=o) (hc:o<c):x∈qF p o:=by
 have hcl:=(gS hq).1;simp only [qF,hk,if_true,mem_sorted,jn,jX];refine⟨⟨c - (o+1),qA,?_⟩,(mem_sorted.1 hx).2⟩
 grind[bp,kg]
theorem K6 (h:x∈qF p o) (hk:p[o]?=some k):qa o k x=true/\x∉k.dc 9/\k.kind=1:=by
 unfold qF at h
 split at h
 .rename_i h1;simp only [mem_sorted,jn,jX] at h
  grind[bp,kg,iw,qg]
 grind
theorem mj (h:x∈qd p b):0<b:=by
 simp only [qd,mem_sorted,jb,jX] at h
 grind[aT,uZ]
theorem dE (hh:zS p) (hk:p[b]?=some k) (hx:x∈qd p b):∃ (o c:Nat) (q:Za),0<o/\o<b/\outer p b x=o/\qi p b o=true/\p[c]?=some q/\x∈q.us/\q7 p c x=o/\qi p c b=true:=by
 have hb0:=mj hx;simp only [qd,mem_sorted,jb,jX] at hx;obtain⟨⟨i,hi,hx⟩,_⟩:=hx;unfold aT at hx
 cases hq:p[b+i]? with
 | none=>simp_all
 | some q =>
  rw [hq] at hx;simp only at hx
  split at hx
  case isFalse=>simp at hx
  rename_i hin;obtain⟨hus,hf⟩:=xB.1 hx;simp only [uZ,ba,decide_eq_true_eq] at hf;obtain⟨o,hO⟩:∃ o:Nat,q7 p (b+i) x=o:=⟨(q7 p (b+i) x).toNat,qA⟩;rw [hO] at hf
  have key:outer p b x=o:=by
   have hO':=hO;simp only [q7,hq] at hO'
   split at hO'
   .omega
   .split at hO'
    .omega
    .by_cases e:i=0
     .simp_all
     .rw [jG hh hq] at hO';obtain⟨g1,g2,g3⟩:=hh (b+i) q hq;have g4:=g3 qA;obtain⟨m,hm⟩:∃ m:Nat,q.parent=m:=⟨q.parent.toNat,qA⟩;have hs:=zr hh (b:=(b:Int)) qA hq qA
      grind[Fe]
  grind[bS]
theorem EC (hh:zS p) (hk:p[b]?=some k) (hx:x∈qd p b) {o:Nat} (ho:outer p b x=o):x∈qF p o:=by
 obtain⟨o',c,q,h0,hob,e,hi,hq,hu,hw,hc⟩:=dE hh hk hx;obtain rfl:o=o':=qA
 have hk1:qg p o=1:=by
  rw [jG hh hk] at e
  grind[ix]
 have:=ym hc
 grind[Qv]
theorem Bj (hh:zS p) (hk:p[b]?=some k) (hx:x∈qd p b) {o:Nat} (ho:outer p b x=o) :
  ac p b<b/\(p[ac p b]?).isSome/\0<o/\qi p (ac p b) o=true/\((o=ac p b/\x∈qF p (ac p b))\/(o<ac p b/\x∉qF p (ac p b)/\x∈qd p (ac p b)/\outer p (ac p b) x=o)):=by
 have hcl:=EC hh hk hx ho;obtain⟨o',c,q,h0,hob,e,hi,hq,hu,hw,hc⟩:=dE hh hk hx;obtain rfl:o=o':=qA;have Zs:=(gS hk).1;have hcl':=(gS hq).1;obtain⟨g1,g2,g3⟩:=hh b k hk;have g4:=g3 qA;obtain⟨P,hP⟩:∃ P:Nat,k.parent=P:=⟨k.parent.toNat,qA⟩;have hpa:ac p b=P:=by grind[ac]
 rw [hpa];obtain⟨kp,hkp⟩:∃ kp,p[P]?=some kp:=⟨_,gE qA⟩;have hs:=zr hh (b:=(o:Int)) qA hk qA;rw [hi,hP] at hs;have hge:=ym hs.symm;refine⟨qA,by simp [hkp],h0,hs.symm,?_⟩;by_cases eo:o=P
 .simp_all
 have hbp:qi p b P=true:=by
  grind[zr,zf]
 have hcp:=Dv hh c hcl' hc hbp;refine .inr ⟨qA,λhm=>?_,Qa hq hu hw h0 qA hcp,?_⟩
 .obtain⟨l1,l2,l3⟩:=K6 hm hkp
  grind[jG,zq]
 .rw [jG hh hk,hP,zq hh hkp qA] at e
  grind[jG]
end
def b8 (p:Z0) (m m':Zb):Prop:=∃ N,∀ k,j7 p (N+k) m=j7 p k m'
theorem b8.refl {p:Z0} (m:Zb):b8 p m m:=⟨0,λk=>qB⟩
theorem b8.trans {p:Z0} {a b c:Zb} (h:b8 p a b) (h':b8 p b c):b8 p a c:=by
 obtain⟨N,h⟩:=h;obtain⟨M,h'⟩:=h';exact⟨N+M,λk=>qj⟩
theorem b8.one {p:Z0} {m:Zb} (h:¬ m.ended):b8 p m (uS p m):=⟨1,λk=>by grind[j7]⟩
theorem rt {m:Zb} {fs:List Z8} {f:Z8} (hf:m.ZW=fs++[f]) (he:m.en=0):¬ m.ended:=by simp_all[Zb.ended]
theorem qBM {p:Z0} {m:Zb} {fs:List Z8} {f:Z8} {o:Int×Int} (hf:m.ZW=fs++[f]) (ho:(vI p f.Z1)[f.pc]?=some o):uS p m=kM p m fs { f with pc:=f.pc+1 } o:=by
 grind[uS]
theorem step_end {p:Z0} {m:Zb} {fs:List Z8} {f:Z8} (hf:m.ZW=fs++[f]) (ho:(vI p f.Z1)[f.pc]?=none):uS p m=Bb p m fs f:=by
 grind[uS]
theorem Ld {p:Z0} {m:Zb} {fs:List Z8} {f:Z8} {o:Int×Int} (hf:m.ZW=fs++[f]) (he:m.en=0) (ho:(vI p f.Z1)[f.pc]?=some o):b8 p m (kM p m fs { f with pc:=f.pc+1 } o):=by
 rw [<- qBM hf ho]
 grind[b8.one,rt]
def mq (p:Z0) (ZX:List Act) (B:List Nat) (x:Int) (o a:Nat):Nat:=B.getD (uV ZX o a a) 0+(zI (qF p o) x).toNat
def cM (p:Z0) (ZX:List Act) (B:List Nat) (b up:Nat):List Nat:=(qd p b).map λx=>mq p ZX B x (outer p b x).toNat up
def kw (p:Z0) (ZX:List Act) (B:List Nat) (a:Nat) (c:Act):List Nat:=(List.range (qF p c.Z1).length).map (B.getD a 0+·)++cM p ZX B c.Z1 c.up
structure qBS (p:Z0) (ZX:List Act) (B:List Nat) (a:Nat) (c:Act) (f:Z8):Prop where
 Z1:f.Z1=c.Z1
 cells:f.cells=kw p ZX B a c
 Z3:f.Z3=(qP p c.Z1).map λx=>uE c.vars x.toNat
 names:qg p c.Z1=2->f.names=c.vars
structure qAC (p:Z0) (w:Z5) (m:Zb) (B:List Nat):Prop where
 en:m.en=w.en
 out:m.out=w.out
 tr:m.trace=w.trace
 left:m.left=w.left
 Zg:m.globals=w.globals
 cls:m.ZV=w.ZV
 ZZ:m.ZZ=w.ZZ.map λg=>(g.1,cM p w.ZX B g.1 g.2)
 made:m.made=w.ZX.length
 qBy:B.length=w.ZX.length
 top:∀ (a:Nat) c,w.ZX[a]?=some c->B.getD a 0+(qF p c.Z1).length<=m.cells.length
 dis:∀ (a a':Nat) c,a<a'->a'<w.ZX.length->w.ZX[a]?=some c->B.getD a 0+(qF p c.Z1).length<=B.getD a' 0
 val:∀ (a j:Nat) c x,w.ZX[a]?=some c->(qF p c.Z1)[j]?=some x->m.cells[B.getD a 0+j]?=some (uE c.vars x.toNat)
 frl:m.ZW.length=w.stack.length
 frs:∀ (i a:Nat) c f,w.stack[i]?=some a->w.ZX[a]?=some c->m.ZW[i]?=some f->qBS p w.ZX B a c f
 stk:w.stack.Pairwise (·<·)
 fk:∀ g∈w.ZZ,qg p g.1=1
section
variable {p:Z0} {w:Z5} {m:Zb} {B:List Nat} {a b o:Nat} {c:Act} {k:Za} {f:Z8} {x:Int} {fs:List Z8}
theorem Ng:(qF p b).Pairwise (·<·):=by
 unfold qF
 split
 .exact dg _
 simp
theorem ra {g:Nat->Bool}:∀ n:Nat,(zB g n).Pairwise (·<·)
 | 0=>.nil
 | n+1=>by
  simp only [zB]
  split
  .refine List.pairwise_append.2 ⟨ra n,qB,λu hu v hv=>?_⟩
   grind[kE]
  .exact ra n
theorem N0:(qP p b).Pairwise (·<·):=by
 unfold qP
 split<;>simp_all[ra]
theorem Pw {l:List Int} (h:l.Pairwise (·<·)):l.Nodup:=h.imp λh=>qA
theorem Vm {l:List Int} (h:l.Pairwise (·<·)) {i j:Nat} (hi:l[i]?=some x) (hj:l[j]?=some x):i=j :=
 (List.getElem?_inj (gS hi).1 (Pw h)).1 (hi.trans hj.symm)
theorem iM (h:x∈qF p b):0<=x/\x<=7:=by
 grind[qF,mem_sorted]
theorem sp (h:x∈qF p b):qg p b=1:=by
 grind[qF]
theorem ng (h:x∈qP p b):0<=x/\x<=7:=by
 grind[qP,kE]
theorem ag (h:x∈qP p b):x∉qF p b:=by
 grind[qP,kE,vn]
theorem Lo {l:List Zt} {i:Nat} {s:Zt} (h:l[i]?=some s):uE l i=s:=by simp [uE,h]
theorem gu {l:List Zt} {i j:Nat} {s:Zt} (hi:i<l.length):uE (l.set i s) j=if j=i then s else uE l j:=by
 grind[uE]
theorem I6 {l:List Nat} {i v d:Nat} (h:l[i]?=some v):l.getD i d=v:=qH
def C6 (l l':List Act):Prop:=∀ i:Nat,(l[i]?).map (λc=>(c.Z1,c.up))=(l'[i]?).map (λc=>(c.Z1,c.up))
theorem AP {l l':List Act} (h:C6 l l'):∀ n a:Nat,uV l o n a=uV l' o n a
 | 0,_=>rfl
 | n+1,a=>by
  have ha:=h a;simp only [uV]
  cases h1:l[a]? with
  | none =>
   grind
  | some d =>
   cases h2:l'[a]? with
   | none=>simp_all
   | some e =>
    rw [h1,h2] at ha;simp only [kv,oY,Kj] at ha;simp only [ha.1,ha.2,AP h n]
theorem iN {l l':List Act} (h:C6 l l') {up:Nat}:cM p l B b up=cM p l' B b up:=by
 grind[cM,mq,AP]
theorem C6.modify {l:List Act} {i:Nat} {g:List Zt->List Zt}:C6 l (l.modify i λa=>{ a with vars:=g a.vars }):=by
 intro j
 grind
theorem qBS.same {l l':List Act} {c':Act} (h:qBS p l B a c f) (hs:C6 l l') (h1:c'.Z1=c.Z1) (h2:c'.up=c.up) (h3:f.Z3=(qP p c.Z1).map λx=>uE c'.vars x.toNat) (h4:qg p c.Z1=2->f.names=c'.vars):qBS p l' B a c' f:=by
 refine⟨by grind[Z1],?_,qH,qH⟩;rw [h.cells,kw,kw,h1,h2,iN hs]
theorem dC (hp:Z7 p) (hk:p[b]?=some k):k.kind=0\/k.kind=1\/k.kind=2:=by
 have h:=hp.head b k hk
 grind
theorem BC (hF:qBS p w.ZX B a c f) {i:Nat} (hi:i<(qF p c.Z1).length):f.cells.getD i 0=B.getD a 0+i:=by
 apply I6;rw [hF.cells,kw,uW qH];simp [hi]
theorem lO (hF:qBS p w.ZX B a c f) {i:Nat} (hi:(qd p c.Z1)[i]?=some x):f.cells.getD ((qF p c.Z1).length+i) 0=mq p w.ZX B x (outer p c.Z1 x).toNat c.up:=by
 apply I6;rw [hF.cells,kw,b7 qB];simp [cM,hi]
theorem NS (hh:zS p) (hW:Zy p w) (hc:w.ZX[a]?=some c) (hk:p[c.Z1]?=some k) (hx:x∈qd p c.Z1):∃ (o d:Nat) (e:Act) (j:Nat),0<o/\outer p c.Z1 x=o/\qi p c.Z1 o=true/\o≠c.Z1/\d=uV w.ZX o a a/\w.ZX[d]?=some e/\e.Z1=o/\x∈qF p o/\(qF p o)[j]?=some x/\mq p w.ZX B x o c.up=B.getD d 0+j:=by
 obtain⟨o,c',q,h0,hob,hou,hi,_,_,_,_⟩:=dE hh hk hx;have hcl:=EC hh hk hx hou;have hb:=jq hc;have hal:=(gS hc).1;have hi':qi p (w.Z1 a) o=true:=qH;obtain⟨e,he,heb⟩:=pb hh hW h0 a a (qf _) hal hi'
 simp_all<;>grind[yC,mq,eD]
theorem NK (hp:Z7 p) (hW:Zy p w) (hR:qAC p w m B) (hc:w.ZX[a]?=some c) (hF:qBS p w.ZX B a c f) (hk:p[c.Z1]?=some k) (hu:x∈k.us) {v:Int} (hv:0<=v/\v<=2) :
  ft m f (qx p c.Z1 x v)=w.get (w.loc p a x) x/\fH p f (qx p c.Z1 x v)=qAG p c.Z1 (q7 p c.Z1 x):=by
 have hx:0<=x/\x<=7:=by
  grind[Za.us,mem_sorted]
 have hb:=jq hc;have hka:qg p c.Z1=k.kind:=bY;rcases nZ (w:=v) hp hk hu with⟨hs,e⟩|⟨hs,e⟩|⟨hs,i,e,hi,hil⟩|⟨hs,i,e,hi,hil⟩|⟨hs,i,e,hi,hil⟩
 .have ho:q7 p c.Z1 x<0:=by
   grind[jB]
  refine⟨?_,?_⟩
  .rw [e,ft,if_neg qA,if_neg qA,if_pos qA,Z5.loc,hb,if_pos ho,Z5.get,Z5.vars,hR.Zg]
   rfl
  grind[fH,qAG]
 all_goals
  have ho:¬ q7 p c.Z1 x<0:=λh=>by grind[jB]
 .have hob:q7 p c.Z1 x=c.Z1/\qg p c.Z1=2:=by
   grind[jB]
  refine⟨?_,?_⟩
  .rw [e,ft,if_neg qA,if_neg qA,if_neg qA,Z5.loc,hb,if_neg ho,hob.1,b6 c.Z1,yD hc rfl,Z5.get,Z5.vars,hc,hF.names hob.2]
   rfl
  grind[fH,qAG]
 .grind[jB,ft,Z5.loc,yD,Z5.get,Z5.vars,qBS.Z3,uE,Int.toNat,fH,qAG]
 .have hob:q7 p c.Z1 x=c.Z1/\¬ qg p c.Z1=2:=by
   grind[jB]
  rw [uW hi] at hil;refine⟨?_,?_⟩
  .rw [e,ft,if_neg qA,if_pos qA,Z5.loc,hb,if_neg ho,hob.1,b6 c.Z1,yD hc rfl,Z5.get,Z5.vars,hc,b6,BC hF hi,Lo (hR.val a i c x hc hil)]
   rfl
  grind[fH,qBS.Z1,qAG]
 .rw [b7 qA,Nat.add_sub_cancel_left] at hil;obtain⟨hfx,hcx⟩:=A9 hp hk hu hs
  have hob:q7 p c.Z1 x≠c.Z1:=by
   grind[jB]
  obtain⟨o,d,q,j,h0,hou,hi',hne,hd,hq,hqb,hcl,hj,hcn⟩:=NS (B:=B) hp.Zc hW hc hk hfx
  have hoo:q7 p c.Z1 x=o:=by
   grind[q7]
  refine⟨?_,?_⟩
  .rw [e,ft,if_neg qA,if_pos qA,Z5.loc,hb,if_neg ho,hoo,b6 o,<- hd,Z5.get,Z5.vars,hq,b6,lO hF hil,hou,b6 o,hcn,Lo (hR.val d j q x hq qH)]
   rfl
  grind[fH,qBS.Z1,qAG]
end
section
variable {p:Z0} {w:Z5} {m:Zb} {B:List Nat} {a b o d:Nat} {c e:Act} {k:Za} {f:Z8} {x:Int} {fs:List Z8} {s:Zt}
theorem qBS.stk {l:List Act} {g:Z8} (h:qBS p l B a c f) (h1:g.Z1=f.Z1) (h2:g.cells=f.cells) (h3:g.Z3=f.Z3) (h4:g.names=f.names):qBS p l B a c g :=
 ⟨h1.trans h.Z1,h2.trans h.cells,h3.trans h.Z3,λe=>h4.trans (h.names e)⟩
theorem qAC.qAj {st:List Nat} (h:qAC p w (m.top fs f) B) (hs:w.stack=st++[a]) (hc:w.ZX[a]?=some c):st.length=fs.length/\qBS p w.ZX B a c f:=by
 have hl:st.length=fs.length:=by
  have:=h.frl
  grind[Zb.top]
 exact⟨hl,h.frs st.length a c f (by simp [hs]) hc (by simp [Zb.top,hl])⟩
theorem qAC.qBt {st:List Nat} {g:Z8} (h:qAC p w (m.top fs f) B) (h1:g.Z1=f.Z1) (h2:g.cells=f.cells) (h3:g.Z3=f.Z3) (h4:g.names=f.names):qAC p w (m.top fs g) B:=by
 refine⟨h.en,h.out,h.tr,h.left,h.Zg,h.cls,h.ZZ,h.made,h.qBy,h.top,h.dis,h.val,?_,λi a c q hi hc hq=>?_,h.stk,h.fk⟩
 .have:=h.frl
  grind[Zb.top]
 .simp only [Zb.top] at hq;rcases fF i fs.length with e|e
  .rw [uW e] at hq;exact h.frs i a c q hi hc nr
  .rw [b7 e] at hq
   have:i - fs.length=0:=by
    grind
   rw [this] at hq;simp only [iU,oY] at hq;subst hq;exact (h.frs i a c f hi hc nr).stk h1 h2 h3 h4
theorem qAC.qC8 {E:Int} {g:Z8} (h:qAC p w (m.top fs f) B) (h1:g.Z1=f.Z1) (h2:g.cells=f.cells) (h3:g.Z3=f.Z3) (h4:g.names=f.names):qAC p { w with en:=E } (m.stop fs g E) B:=by
 have h:=h.qBt (st:=[]) h1 h2 h3 h4;exact⟨rfl,h.out,h.tr,h.left,h.Zg,h.cls,h.ZZ,h.made,h.qBy,h.top,h.dis,h.val,h.frl,h.frs,h.stk,h.fk⟩
theorem cC {l:List Act} {g:List Zt->List Zt} {i:Nat} (h:(l.modify d λa=>{ a with vars:=g a.vars })[i]?=some c):∃ e,l[i]?=some e/\c.Z1=e.Z1/\c.up=e.up/\c.vars=if d=i then g e.vars else e.vars:=by
 grind
theorem Hu:w.set (some d) x s={ w with ZX:=w.ZX.modify d λa=>{ a with vars:=a.vars.set x.toNat s } }:=rfl
theorem KS {vars:List Zt} (hx:x∈qF p b) (hv:vars.length=8):((qP p b).map λy=>uE (vars.set x.toNat s) y.toNat)=(qP p b).map λy=>uE vars y.toNat:=by
 refine mz λy hy=>?_;have h1:=iM hx;have h2:=ng hy
 grind[ag,gu]
theorem Aj (hW:Zy p w) (hR:qAC p w m B) (hd:w.ZX[d]?=some e) (hx:x∈qF p e.Z1) {j:Nat} (hj:(qF p e.Z1)[j]?=some x):qAC p (w.set (some d) x s) { m with cells:=m.cells.set (B.getD d 0+j) s } B:=by
 have hsm:C6 w.ZX (w.ZX.modify d λa=>{ a with vars:=a.vars.set x.toNat s }):=C6.modify (g:=λv=>v.set x.toNat s);have hx7:=iM hx;have hev:=(hW.vars d e hd).1;have hjl:=(gS hj).1;have hdl:=(gS hd).1;rw [Hu];refine⟨hR.en,hR.out,hR.tr,hR.left,hR.Zg,hR.cls,?_,by simp [hR.made],by simp [hR.qBy],λa q hq=>?_,λa a' q h1 h2 hq=>?_,λa i q y hq hy=>?_,hR.frl,λi a q f hi hq hf=>?_,hR.stk,hR.fk⟩
 .grind[qAC.ZZ,iN]
 .obtain⟨q',h1,h2,_,_⟩:=cC (g:=λv=>v.set x.toNat s) hq;rw [h2]
  simpa using hR.top a q' h1
 .obtain⟨q',h3,h4,_,_⟩:=cC (g:=λv=>v.set x.toNat s) hq;rw [h4];exact hR.dis a a' q' h1 qH h3
 .obtain⟨q',h3,h4,_,h5⟩:=cC (g:=λv=>v.set x.toNat s) hq;rw [h4] at hy;have hyl:=(gS hy).1;have hy7:=iM (gM hy);have hval:=hR.val a i q' y h3 hy;have htop:=hR.top d e hd;by_cases ed:d=a
  .grind[gu,Vm,Ng]
  .rw [h5,if_neg ed,List.getElem?_set_ne ?_,hval];have hal:=(gS h3).1;rcases fF d a with hlt|hge
   .have:=hR.dis d a e hlt hal hd;omega
   .have:=hR.dis a d q' qA hdl h3;omega
 .obtain⟨q',h3,h4,h4',h5⟩:=cC (g:=λv=>v.set x.toNat s) hq;have hF:=hR.frs i a q' f hi h3 hf;refine hF.same hsm h4 h4' ?_ λhk2=>?_
  .rw [h5];by_cases ed:d=a
   .subst ed;rw [hd] at h3;obtain rfl:=sI h3;rw [if_pos rfl,KS hx hev];exact hF.Z3
   grind[qBS.Z3]
  .rw [h5];by_cases ed:d=a
   .grind[sp]
   .rw [if_neg ed];exact hF.names hk2
theorem EH {vars:List Zt} {i:Nat} (hi:(qP p b)[i]?=some x) (hv:vars.length=8):((qP p b).map λy=>uE vars y.toNat).set i s=(qP p b).map λy=>uE (vars.set x.toNat s) y.toNat:=by
 have hx:=ng (gM hi);have hil:=(gS hi).1;apply wK;intro j;rw [eV,kx,kx];by_cases ej:i=j
 .grind[gu]
 .rw [if_neg ej]
  cases hy:(qP p b)[j]? with
  | none=>rfl
  | some y =>
   have hy7:=ng (gM hy)
   grind[Vm,N0,gu]
theorem FU {st:List Nat} {g:Z8} (hW:Zy p w) (hR:qAC p w (m.top fs f) B) (hs:w.stack=st++[a]) (hc:w.ZX[a]?=some c) (hx:0<=x/\x<=7) (hnc:x∉qF p c.Z1) (h1:g.Z1=f.Z1) (h2:g.cells=f.cells) (h3:g.Z3=(qP p c.Z1).map λy=>uE (c.vars.set x.toNat s) y.toNat) (h4:qg p c.Z1=2->g.names=c.vars.set x.toNat s) :
  qAC p (w.set (some a) x s) (m.top fs g) B:=by
 have hsm:C6 w.ZX (w.ZX.modify a λa=>{ a with vars:=a.vars.set x.toNat s }):=C6.modify (g:=λv=>v.set x.toNat s);have hev:=(hW.vars a c hc).1;obtain⟨hl,hF⟩:=hR.qAj hs hc;rw [Hu];refine⟨hR.en,hR.out,hR.tr,hR.left,hR.Zg,hR.cls,?_,by have:=hR.made;grind[Zb.top],by simp [hR.qBy],λa' q hq=>?_,λa' a'' q e1 e2 hq=>?_,λa' i q y hq hy=>?_,?_,λi a' q f' hi hq hf=>?_,hR.stk,hR.fk⟩
 .have:=hR.ZZ
  grind[Zb.top,iN]
 .obtain⟨q',e1,e2,_,_⟩:=cC (g:=λv=>v.set x.toNat s) hq;rw [e2];exact hR.top a' q' e1
 .obtain⟨q',e3,e4,_,_⟩:=cC (g:=λv=>v.set x.toNat s) hq;rw [e4];exact hR.dis a' a'' q' e1 qH e3
 .obtain⟨q',e3,e4,_,e5⟩:=cC (g:=λv=>v.set x.toNat s) hq;rw [e4] at hy;have hy7:=iM (gM hy);have hval:=hR.val a' i q' y e3 hy;by_cases ed:a=a'
  .subst ed;rw [hc] at e3;obtain rfl:=sI e3;have hyx:y.toNat≠x.toNat:=λe'=>hnc qj;rw [e5,if_pos rfl,gu qA,if_neg hyx];exact hval
  .rw [e5,if_neg ed];exact hval
 .grind[Zb.top]
 .obtain⟨q',e3,e4,e4',e5⟩:=cC (g:=λv=>v.set x.toNat s) hq;simp only [Zb.top] at hf;have hpw:=hR.stk;have hil:i<w.stack.length:=(gS hi).1;rw [hs,am,dU] at hil;by_cases ei:i=fs.length
  .subst ei;rw [b7 (qf _),Ej] at hf;simp only [iU,oY] at hf;subst hf;rw [hs,b7 qA,hl,Ej] at hi;simp only [iU,oY] at hi;subst hi;rw [hc] at e3;obtain rfl:=sI e3;refine⟨by grind[qBS.Z1],?_,qH,λhk2=>qH⟩;rw [h2,hF.cells,kw,kw,e4,e4',iN hsm]
  .have hilt:i<fs.length:=qA;rw [uW hilt] at hf
   have hne:¬ a=a':=by
    grind
   have hF':=hR.frs i a' q' f' hi e3 nr;exact hF'.same hsm e4 e4' (by grind[qBS.Z3]) λhk2=>by rw [e5,if_neg hne];exact hF'.names hk2
theorem Pb (hR:qAC p w m B):qAC p (w.set none x s) { m with globals:=m.globals.set x.toNat s } B :=
 ⟨hR.en,hR.out,hR.tr,hR.left,by simp only [Z5.set,hR.Zg],hR.cls,hR.ZZ,hR.made,hR.qBy,hR.top,hR.dis,hR.val,hR.frl,hR.frs,hR.stk,hR.fk⟩
theorem Lr {st:List Nat} {g:Z8} (hp:Z7 p) (hW:Zy p w) (hR:qAC p w (m.top fs f) B) (hs:w.stack=st++[a]) (hc:w.ZX[a]?=some c) (hk:p[c.Z1]?=some k) (hu:x∈k.us) {v:Int} (hv:0<=v/\v<=2) (h1:g.Z1=f.Z1) (h2:g.cells=f.cells) (h3:g.Z3=f.Z3) (h4:g.names=f.names) :
  qAC p (w.set (w.loc p a x) x s) (qAD m fs g (qx p c.Z1 x v) s) B/\∃ g',(qAD m fs g (qx p c.Z1 x v) s).ZW=fs++[g']/\g'.Z1=g.Z1/\g'.pc=g.pc/\g'.stack=g.stack:=by
 have hR:=hR.qBt (st:=st) h1 h2 h3 h4;obtain⟨hl,hF⟩:=hR.qAj hs hc
 have hx:0<=x/\x<=7:=by
  grind[Za.us,mem_sorted]
 have hb:=jq hc;have hev:=(hW.vars a c hc).1;have hka:qg p c.Z1=k.kind:=bY;rcases nZ (w:=v) hp hk hu with⟨hs',e⟩|⟨hs',e⟩|⟨hs',i,e,hi,hil⟩|⟨hs',i,e,hi,hil⟩|⟨hs',i,e,hi,hil⟩
 .have ho:q7 p c.Z1 x<0:=by
   grind[jB]
  rw [e,qAD,if_neg qA,if_neg qA,if_pos qA,Z5.loc,hb,if_pos ho];exact⟨Pb hR,g,rfl,rfl,rfl,rfl⟩
 all_goals
  have ho:¬ q7 p c.Z1 x<0:=λh=>by grind[jB]
 .have hob:q7 p c.Z1 x=c.Z1/\qg p c.Z1=2:=by
   grind[jB]
  rw [e,qAD,if_neg qA,if_neg qA,if_neg qA,Z5.loc,hb,if_neg ho,hob.1,b6 c.Z1,yD hc rfl];have hnc:x∉qF p c.Z1:=λh=>by grind[sp]
  have hnf:qP p c.Z1=[]:=by grind[qP]
  refine⟨FU hW hR hs hc hx hnc rfl rfl ?_ λhk2=>?_,_,rfl,rfl,rfl,rfl⟩
  .grind[qBS.Z3]
  .simp only [hF.names hk2]
 .have hob:q7 p c.Z1 x=c.Z1/\¬ qg p c.Z1=2:=by
   grind[jB]
  rw [e,qAD,if_pos qA,Z5.loc,hb,if_neg ho,hob.1,b6 c.Z1,yD hc rfl];have hnc:x∉qF p c.Z1:=ag (gM hil);refine⟨FU hW hR hs hc hx hnc rfl rfl ?_ λhk2=>absurd hk2 hob.2,_,rfl,rfl,rfl,rfl⟩;simp only [hF.Z3,b6]
  grind[EH]
 .have hob:q7 p c.Z1 x=c.Z1:=by
   grind[jB]
  rw [uW hi] at hil;rw [e,qAD,if_neg qA,if_pos qA,Z5.loc,hb,if_neg ho,hob,b6 c.Z1,yD hc rfl];simp only [b6];rw [BC hF hi];exact⟨Aj hW hR hc (gM hil) hil,g,rfl,rfl,rfl,rfl⟩
 .rw [b7 qA,Nat.add_sub_cancel_left] at hil;obtain⟨hfx,hcx⟩:=A9 hp hk hu hs'
  have hob:q7 p c.Z1 x≠c.Z1:=by
   grind[jB]
  obtain⟨o,d,q,j,h0,hou,hi',hne,hd,hq,hqb,hcl,hj,hcn⟩:=NS (B:=B) hp.Zc hW hc hk hfx
  have hoo:q7 p c.Z1 x=o:=by
   grind[q7]
  rw [e,qAD,if_neg qA,if_pos qA,Z5.loc,hb,if_neg ho,hoo,b6 o,<- hd];simp only [b6];rw [lO hF hil,hou,b6 o,hcn];exact⟨Aj hW hR hq qH qH,g,rfl,rfl,rfl,rfl⟩
end
section
variable {p:Z0} {w:Z5} {m:Zb} {B:List Nat} {a b o d up:Nat} {c e:Act} {k:Za} {f:Z8} {x:Int} {fs:List Z8} {vs:List Zd} {cs:List Nat}
theorem EM {z:Act} (hh:zS p) (hW:Zy p w) (h0:0<o):∀ n a:Nat,a<w.ZX.length->qi p (w.Z1 a) o=true->uV (w.ZX++[z]) o n a=uV w.ZX o n a/\uV w.ZX o n a<w.ZX.length
 | 0,a,hl,_=>⟨rfl,hl⟩
 | n+1,a,hl,hi=>by
  obtain⟨c,hc⟩:=gX hl;have hc':(w.ZX++[z])[a]?=some c:=qj;simp only [uV,hc,hc'];by_cases e:c.Z1=o
  .simp_all
  .simp only [e,if_false];obtain⟨h1,h2,h3⟩:=ui hh hW hc e h0 hi;exact EM hh hW h0 n c.up qA h3
theorem mi {l:List Nat} {i n:Nat} (h:i<l.length):(l++[n]).getD i 0=l.getD i 0:=by
 grind
theorem NM {l:List Nat} {n:Nat}:(l++[n]).getD l.length 0=n:=qB
theorem xt (hm:jZ p w.ZX b up):ac p b=w.Z1 up/\up<w.ZX.length:=by
 obtain⟨c,k,h1,h2,h3,_⟩:=hm
 grind[jq,ac]
theorem sw {z:Act} {n:Nat} (hh:zS p) (hW:Zy p w) (hB:B.length=w.ZX.length) (hm:jZ p w.ZX b up):cM p (w.ZX++[z]) (B++[n]) b up=cM p w.ZX B b up:=by
 obtain⟨hpa,hul⟩:=xt hm;obtain⟨c,k,_,hk,_,_⟩:=hm;refine mz λx hx=>?_;obtain⟨o,_,_,_,_,ho,_⟩:=dE hh hk hx;obtain⟨_,_,h0,hi,_⟩:=Bj hh hk hx ho
 grind[EM,mq]
theorem AS {ZX:List Act}:cM p ZX B 0 up=[]:=by
 have:qd p 0=[]:=by
  rw [List.eq_nil_iff_forall_not_mem];intro x hx;exact absurd (mj hx) qO
 grind[cM]
theorem Nl (hh:zS p) (hW:Zy p w) (hc:w.ZX[a]?=some c) (hF:qBS p w.ZX B a c f) (hm:jZ p w.ZX b a):uk p f b=cM p w.ZX B b a:=by
 obtain⟨hpa,hul⟩:=xt hm;obtain⟨c',k,_,hk,_,_⟩:=hm;have hb:=jq hc;rw [hb] at hpa;simp only [uk,zt,xA,cM];refine mz λx hx=>?_;obtain⟨o,_,_,_,_,ho,_⟩:=dE hh hk hx;obtain⟨_,hks,h0,hi,hcase⟩:=Bj hh hk hx ho;rw [ho,b6];simp only [Function.comp];rw [hpa] at hi hcase hks ⊢;rcases hcase with⟨e1,e2⟩|⟨e1,e2,e3,e4⟩
 .grind[yC,aE,BC,mq,yD]
 .obtain⟨j,hj1,hj2,hj3⟩:=yC e3;rw [aE,if_neg e2,hj1];have:(((qF p c.Z1).length:Int)+(j:Int)).toNat=(qF p c.Z1).length+j:=qA;rw [this,lO hF hj3,e4,b6,mq,mq,eD hh hW h0 hc qA qH]
theorem Ht {n i:Nat}:uE (List.replicate n none) i=none:=by
 grind[uE]
theorem HK (hp:Z7 p) (hW:Zy p w) (hR:qAC p w m B) (hm:jZ p w.ZX b up) (hcs:cs=cM p w.ZX B b up) {pc:Nat} {st:List Zd} {D:Nat} :
  qAC p { w with ZX:=w.ZX++[⟨b,up,q9⟩],stack:=w.stack++[w.ZX.length] }
   { m with cells:=m.cells++List.replicate (qF p b).length none,made:=m.made+1,deep:=D,ZW:=m.ZW++[⟨b,pc,List.replicate (qP p b).length none,((List.range (qF p b).length).map (m.cells.length+·))++cs,q9,st⟩] } (B++[m.cells.length]):=by
 have hh:=hp.Zc;have hB:=hR.qBy
 have hold:∀ (i:Nat) c,(w.ZX++[⟨b,up,q9⟩])[i]?=some c->(i<w.ZX.length/\w.ZX[i]?=some c)\/(i=w.ZX.length/\c=⟨b,up,q9⟩):=by
  grind
 have hcap:∀ (i:Nat) c,w.ZX[i]?=some c->cM p (w.ZX++[⟨b,up,q9⟩]) (B++[m.cells.length]) c.Z1 c.up=cM p w.ZX B c.Z1 c.up:=by
  intro i c hc;rcases dV i with e|e
  .grind[Zy.a0,AS]
  .exact sw hh hW hB (hW.up i c hc e).2
 refine⟨hR.en,hR.out,hR.tr,hR.left,hR.Zg,hR.cls,?_,by simp [hR.made],by simp [hB],λi c hc=>?_,λi j c h1 h2 hc=>?_,λi j c y hc hy=>?_,by simp [hR.frl],λi q c g hi hc hg=>?_,?_,hR.fk⟩
 .simp only [hR.ZZ];refine mz λg hg=>?_;obtain⟨i,hi⟩:=eW hg;rw [sw hh hW hB (hW.ZZ i g hi)]
 .rcases hold i c hc with⟨h1,h2⟩|⟨h1,h2⟩
  .rw [mi qA];have:=hR.top i c h2
   grind
  simp_all
 .rw [am,dU] at h2;rcases hold i c hc with⟨h3,h4⟩|⟨h3,h4⟩
  .rw [mi qA];rcases fF j w.ZX.length with h5|h5
   .rw [mi qA];exact hR.dis i j c h1 h5 h4
   .obtain rfl:j=w.ZX.length:=qA;rw [<- hB,NM];exact hR.top i c h4
  .omega
 .rcases hold i c hc with⟨h3,h4⟩|⟨h3,h4⟩
  .have ht:=hR.top i c h4;have hjl:=(gS hy).1;simp only;rw [mi qA,uW qA];exact hR.val i j c y h4 hy
  grind[Ht]
 .have hfl:=hR.frl;have hil:=(gS hi).1;rw [am,dU] at hil;rcases fF i w.stack.length with h1|h1
  .simp only at hi hg;rw [uW h1] at hi;rw [uW qA] at hg;have hql:=hW.stk q (gM hi);rcases hold q c hc with⟨h3,h4⟩|⟨h3,h4⟩
   .have hF:=hR.frs i q c g hi h4 hg;refine⟨hF.Z1,?_,hF.Z3,hF.names⟩;rw [hF.cells,kw,kw,hcap q c h4,mi qA]
   .omega
  .obtain rfl:i=w.stack.length:=qA;simp only at hi hg;rw [b7 (qf _),Ej] at hi;rw [b7 qA,hfl,Ej] at hg;simp only [iU,oY] at hi hg;subst hi hg;rcases hold _ c hc with⟨h3,_⟩|⟨_,h4⟩
   .omega
   .subst h4;refine⟨rfl,?_,?_,λ_=>rfl⟩
    .grind[kw,sw]
    .apply wK
     grind[Ht]
 .refine List.pairwise_append.2 ⟨hR.stk,qB,λu hu v hv=>?_⟩;simp only [w6] at hv;subst hv;exact hW.stk u hu
theorem HL (h:(zC p b).params=[]):qn p w b up vs={ w with ZX:=w.ZX++[⟨b,up,q9⟩],stack:=w.stack++[w.ZX.length] }:=by
 unfold zC at h;unfold qn
 cases hk:p[b]?<;>simp_all[wD]
theorem rz {z:Act} {g:Act->Act}:∀ l:List Act,(l++[z]).modify l.length g=l++[g z]
 | []=>rfl
 | a::l=>by simp [rz l]
theorem OZ (hp:Zm p) (hW:Zy p w) (hR:qAC p w m B) (hm:jZ p w.ZX b up) (hcs:cs=cM p w.ZX B b up) (hv:vs.length=cp p b) (hvo:∀ v∈vs,VOk w.ZZ.length w.ZV.length v) (hr:Room 1 w) :
  qAC p (qn p w b up vs) (z8 p m b cs vs) (B++[m.cells.length])/\∃ f',(z8 p m b cs vs).ZW=m.ZW++[f']/\f'.Z1=b/\f'.pc=0/\f'.stack=[]:=by
 have hE:=HK hp.sh hW hR hm hcs (pc:=0) (st:=[]) (D:=max m.deep (m.ZW.length+1));have hm0:=hm;obtain⟨_,k,_,hk,_,hb0⟩:=hm;have hpar:(zC p b).params=k.params:=em;have hvl:vs.length=k.params.length:=by grind[cp]
 have hhd:=hp.sh.head b k hk;unfold vG at hhd;rw [if_neg qA] at hhd
 have hpl:k.params.length<=1/\(k.params.length=1->k.kind=1):=by
  omega
 have hcase:(k.params=[]/\vs=[])\/∃ x v,k.params=[x]/\vs=[v]:=by
  grind[E9]
 unfold z8;rcases hcase with⟨hps,rfl⟩|⟨x,v,hps,rfl⟩
 .grind[HL]
 .rw [hpar,hps];simp only;have hkm:=gM hk;have hxp:x∈k.params:=by simp [hps]
  have hx:=(hp.sh.names k hkm).params x hxp;have how:=hp.pm b k hk x hxp;have hk1:k.kind=1:=hpl.2 (by simp [hps]);have hka:qg p b=1:=eQ
  have hbw:qn p w b up [v]=({ w with ZX:=w.ZX++[⟨b,up,q9⟩],stack:=w.stack++[w.ZX.length] }:Z5).set (some w.ZX.length) x (some v):=by
   simp_all[qn,wD,Z5.set,rz]
  rw [hbw]
  have hW2:Zy p ({ w with ZX:=w.ZX++[⟨b,up,q9⟩],stack:=w.stack++[w.ZX.length] }:Z5):=by
   have:=HM (i:=0) hW hm0 hvo hr
   simp_all[wi,wD]
  have hB:=hR.qBy;have hc2:({ w with ZX:=w.ZX++[⟨b,up,q9⟩],stack:=w.stack++[w.ZX.length] }:Z5).ZX[w.ZX.length]?=some ⟨b,up,q9⟩:=qB;by_cases hf:x∈qP p b
  .rw [if_pos hf];obtain⟨i,hi1,hi2,hi3⟩:=yC hf;have hT:=qAC.qAj (m:={ m with cells:=m.cells++List.replicate (qF p b).length none,made:=m.made+1,deep:=max m.deep (m.ZW.length+1) }) (fs:=m.ZW) hE rfl hc2;refine⟨FU (m:={ m with cells:=m.cells++List.replicate (qF p b).length none,made:=m.made+1,deep:=max m.deep (m.ZW.length+1) }) (fs:=m.ZW) hW2 hE rfl hc2 hx (ag hf) (g:=⟨b,0,(List.replicate (qP p b).length none).set (zI (qP p b) x).toNat (some v),_,q9,[]⟩) rfl rfl ?_ (λh2=>?_),_,rfl,rfl,rfl,rfl⟩
   .have h3:=hT.2.Z3
    simp_all[EH]
   simp_all
  .rw [if_neg hf]
   have hcl:x∈qF p b:=by
    apply Classical.byContradiction;intro hno
    simp_all[Aa,Zm.sh,jB]
   obtain⟨j,hj1,hj2,hj3⟩:=yC hcl;have hS:=Aj (s:=some v) hW2 hE hc2 hcl hj3
   grind
end
end Go.Hm
end
