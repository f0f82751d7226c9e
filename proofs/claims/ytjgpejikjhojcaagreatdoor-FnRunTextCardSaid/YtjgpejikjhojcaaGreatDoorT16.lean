import Derived.Test.YtjgpejikjhojcaaGreatDoorT15
import Derived.Lib.Split
import Derived.Lib.ItoaNum
import Derived.Shelf.Strings.Builder1
set_option linter.unusedSimpArgs false
set_option linter.unusedVariables false
set_option maxRecDepth 100000
set_option maxHeartbeats 4000000

section
namespace Go.Hm
open Go Go.RowKit
abbrev q9:=List UInt8
def dg (n:Nat):UInt8:=UInt8.ofNat (48+n)
def ym (n:Nat):q9:=if n<10 then [dg n] else ym (n / 10)++[dg (n % 10)]
def jT (n:Int):q9:=if n<0 then 45::ym n.natAbs else ym n.natAbs
theorem gh {n:Nat} (h:n<10):(dg n).toNat=48+n:=by
 grind[dg,UInt8.toNat_ofNat']
theorem Ez {n:Nat} (h:n<10):ym n=[dg n]:=by grind[ym]
theorem Bs {n:Nat} (h:10<=n) (h':n<100):ym n=[dg (n / 10),dg (n % 10)]:=by
 grind[ym]
theorem Ey:∀ (n:Nat),∀ c∈ym n,48<=c.toNat/\c.toNat<=57
 | n=>by
  intro c hc;rw [ym] at hc
  split at hc
  .grind[gh]
  .rw [jo,yj] at hc;rcases hc with hc|rfl
   .exact Ey (n / 10) c hc
   grind[gh]
def zI (c:UInt8):q9->List q9
 | []=>[[]]
 | x::l=>if x=c then []::zI c l else match zI c l with
  | w::ws=>(x::w)::ws
  | []=>[[x]]
section
variable {c:UInt8} {l m w:q9} {ls ws:List q9}
theorem iJ:zI c l≠[]:=by
 cases l<;>grind[zI]
theorem CV (h:c∉l):zI c l=[l]:=by
 induction l<;>grind[zI]
theorem CU (h:c∉l):zI c (l++c::m)=l::zI c m:=by
 induction l<;>grind[zI]
def aO (c:UInt8):List q9->q9
 | []=>[]
 | [w]=>w
 | w::w'::ws=>w++c::aO c (w'::ws)
theorem B5:∀ {l:q9},aO c (zI c l)=l
 | []=>rfl
 | x::l=>by
  have ih:=B5 (l:=l);rw [zI]
  split
  .rename_i h
   cases e:zI c l<;>grind[iJ,aO]
  .cases e:zI c l with
   | nil=>grind[iJ]
   | cons w ws =>
    rw [e] at ih
    cases ws<;>grind[aO]
theorem Ma:∀ {ls:List q9},ls≠[]->(∀ w∈ls,c∉w)->zI c (aO c ls)=ls
 | [],h,_=>absurd rfl h
 | [w],_,h=>CV (h w (tN ..))
 | w::v::vs,_,h=>by
  rw [aO,CU (h w (tN ..)),Ma qB λx hx=>h x (aB _ hx)]
def jO (c:UInt8) (ls:List q9):q9:=ls.flatMap (·++[c])
theorem Ed:jO c (w::ls)=w++c::jO c ls:=xB
theorem Ju:jO c ls=aO c (ls++[[]]):=by
 induction ls with
 | nil=>rfl
 | cons w ls ih =>
  rw [Ed,ih]
  cases ls with
  | nil=>rfl
  | cons v vs=>rfl
theorem Mb (h:∀ w∈ls,c∉w):zI c (jO c ls)=ls++[[]]:=by
 rw [Ju,Ma qB]
 grind
theorem Sx (h:(zI c l).getLast?=some []):l=jO c (zI c l).dropLast:=by
 grind[Ju,List.getLast?_eq_some_iff,B5]
theorem Sw (h:∀ w∈ls,c∉w):(jO c ls).count c=ls.length:=by
 induction ls with
 | nil=>rfl
 | cons w ls ih =>
  simp_all<;>grind[Ed]
end
def gj (c:UInt8):Bool:=decide (48<=c.toNat)&&decide (c.toNat<=57)
def jL:q9->Option Nat
 | [a]=>if gj a=true then some (a.toNat - 48) else none
 | [a,b]=>if gj a=true/\gj b=true/\a≠48 then some (10 * (a.toNat - 48)+(b.toNat - 48)) else none
 | _=>none
theorem J0 {n:Nat} (h:n<10):gj (dg n)=true:=by
 grind[gj,gh]
theorem EN {c:UInt8} (h:gj c=true):c=dg (c.toNat - 48):=by
 grind[gj,UInt8.toNat_inj,gh]
theorem Y6 {n:Nat} (h:n<=99):jL (ym n)=some n:=by
 by_cases h1:n<10
 .grind[jL,J0,gh,ym]
 .have h2:n / 10<10:=qA;have h3:n % 10<10:=qA;rw [Bs qA qA]
  have h4:dg (n / 10)≠48:=by
   intro e;have:=congrArg UInt8.toNat e
   grind[gh]
  grind[jL,J0,gh]
theorem FA {s:q9} {n:Nat} (h:jL s=some n):n<=99/\s=ym n:=by
 unfold jL at h
 split at h
 .grind[EN,gj,ym]
 .rename_i a b
  split at h
  .rename_i hab;obtain⟨ha,hb,h0⟩:=hab;have hda:=EN ha;have hdb:=EN hb;simp only [gj,jh,decide_eq_true_eq] at ha hb;have hn:a.toNat≠48:=λe=>h0 (UInt8.toNat_inj.1 (by rw [e];rfl))
   grind[Bs]
  .cases h
 .cases h
theorem CQ {s:q9} {n:Nat}:jL s=some n↔n<=99/\s=ym n:=⟨FA,λ⟨h,e⟩=>e ▸ Y6 h⟩
def wn:q9:=[105,110]
def wm:q9:=[102,117,110]
def bT:q9:=[99,108,97,115,115]
def yM:List q9:=[[110,117,109],[99,111,112,121],[97,100,100],[100,101,102],bT,[99,97,108,108],[103,101,116],[112,114,105,110,116],[114,101,116,117,114,110],[103,108,111,98,97,108],[110,111,110,108,111,99,97,108],[100,101,108]]
def dT (s:qP):List Int :=
 if s.kind=0\/s.kind=1\/s.kind=3\/s.kind=4 then [s.to,s.a]
 else if s.kind=2\/s.kind=6 then [s.to,s.a,s.b]
 else if s.kind=5 then (if s.b=-1 then [s.to,s.a] else [s.to,s.a,s.b])
 else if s.kind=7\/s.kind=8 then [s.a] else [s.to]
def vw (w:q9) (ns:List Int):q9:=w++ns.flatMap λn=>32::jT n
def bR (s:qP):q9:=vw (yM.getD s.kind.toNat []) (dT s)
def wl (k:qT):q9:=if k.kind=2 then vw wn [k.parent]++32::bT else vw (vw wn [k.parent]++32::wm) k.params
def gQ (b:Nat) (k:qT):List q9:=(if b=0 then [] else [wl k])++k.body.map bR
def gi (p:qC):List q9:=(p.mapIdx gQ).flatten
def o9 (p:qC):q9:=jO 10 (gi p)
def yp (ws:List q9):Option (List Nat):=ws.mapM jL
def wK (w:q9):Option Nat:=yM.findIdx? (·==w)
def ap (kind:Nat) (ns:List Nat):Option qP :=
 match ns with
 | [x]=>if kind=7\/kind=8 then some ⟨kind,0,x,0⟩ else if 9<=kind then some ⟨kind,x,0,0⟩ else none
 | [x,y]=>if kind<7/\kind≠2/\kind≠6 then some ⟨kind,x,y,if kind=5 then -1 else 0⟩ else none
 | [x,y,z]=>if kind=2\/kind=6\/kind=5 then some ⟨kind,x,y,z⟩ else none
 | _=>none
def dY (line:q9):Option qP:=match zI 32 line with
 | w::ws=>match wK w,yp ws with
  | some k,some ns=>ap k ns
  | _,_=>none
 | []=>none
def cA (line:q9):Option qT:=match zI 32 line with
 | i::n::f::ws=>if i=wn then match jL n with
   | some q=>if f=bT/\ws=[] then some ⟨2,q,[],[]⟩ else if f=wm then (yp ws).map λns=>⟨1,q,ns.map λ(n:Nat)=>(n:Int),[]⟩ else none
   | none=>none
  else none
 | _=>none
def iB (p:qC) (s:qP):qC:=p.modify (p.length - 1) λk=>{ k with body:=k.body++[s] }
def wT (p:qC) (line:q9):Option qC:=match cA line with
 | some k=>some (p++[k])
 | none=>(dY line).map (iB p)
def uN (ls:List q9) (p:qC):Option qC:=match ls with
 | []=>some p
 | l::ls=>match wT p l with
  | some q=>uN ls q
  | none=>none
def uO:qC:=[⟨0,-1,[],[]⟩]
def ku (s:q9):Option qC:=match uN (zI 10 s).dropLast uO with
 | some p=>if (zI 10 s).getLast?=some []/\ye p=true then some p else none
 | none=>none
section
variable {s:qP} {k:qT} {p q:qC} {l w:q9} {ns:List Int} {ks:List Nat} {ls ws:List q9} {i n:Nat}
theorem sS:jT (n:Int)=ym n:=by
 grind[jT]
theorem Ga (w:q9) (ns:List Int):vw w ns=aO 32 (w::ns.map jT):=by
 unfold vw
 induction ns generalizing w<;>grind[aO]
theorem E6 (h:ls≠[]):aO 32 (ls++[w])=aO 32 ls++32::w:=by
 induction ls with
 | nil=>simp_all
 | cons v vs ih =>
  cases vs<;>grind[aO]
theorem SG (h:ls≠[]):vw (aO 32 ls) ns=aO 32 (ls++ns.map jT):=by
 induction ns generalizing ls with
 | nil=>simp [vw]
 | cons n ns ih =>
  have:=ih (ls:=ls++[jT n]) qB
  grind[E6,vw]
theorem ML:wl k=aO 32 (wn::jT k.parent::(if k.kind=2 then [bT] else wm::k.params.map jT)):=by
 unfold wl
 split
 .rename_i h;rw [Ga,<- E6 qB]
  rfl
 .rename_i h
  have e:vw wn [k.parent]++32::wm=aO 32 [wn,jT k.parent,wm]:=by
   rw [Ga,<- E6 qB]
   rfl
  grind[SG]
def b6 (ns:List Int):Prop:=∀ n∈ns,0<=n/\n<=99
theorem Ek (h:yp ws=some ks):ws=(ks.map λ(n:Nat)=>(n:Int)).map jT/\b6 (ks.map λ(n:Nat)=>(n:Int)):=by
 unfold yp at h
 induction ws generalizing ks with
 | nil =>
  grind[b6]
 | cons w ws ih =>
  simp only [List.mapM_cons] at h
  cases h1:jL w with
  | none=>simp_all
  | some n =>
   cases h2:ws.mapM jL with
   | none=>simp_all
   | some ms =>
    rw [h1,h2] at h;obtain rfl:=sI h;obtain⟨e1,e2⟩:=FA h1;obtain⟨f1,f2⟩:=ih h2;refine⟨?_,?_⟩
    .grind[sS]
    .intro x hx;simp only [cR,vB] at hx;rcases hx with rfl|hx
     .omega
     .exact f2 x hx
theorem SO:∀ i,i<12->wK (yM.getD i [])=some i:=qc
theorem J7 {w:q9} (h:wK w=some i):i<12/\w=yM.getD i []:=by
 unfold wK at h;obtain⟨h1,h2,_⟩:=pW.1 h;refine⟨h1,?_⟩
 simp_all
structure vG (s:qP):Prop where
 kind:0<=s.kind/\s.kind<=11
 K5:b6 (dT s)
 to:s.kind=7\/s.kind=8->s.to=0/\s.b=0
 b:s.kind=0\/s.kind=1\/s.kind=3\/s.kind=4->s.b=0
 a:9<=s.kind->s.a=0/\s.b=0
end
section
variable {s:qP} {k:qT} {p q:qC} {l w:q9} {ns:List Int} {ls ws rest:List q9} {i n:Nat} {body:List qP} {ks:List qT}
structure pT (k:qT):Prop where
 kind:k.kind=1\/k.kind=2
 parent:0<=k.parent/\k.parent<=99
 params:b6 k.params
 cls:k.kind=2->k.params=[]
theorem Wk (h:dY l=some s):bR s=l/\vG s:=by
 unfold dY at h
 split at h
 .rename_i w ws e
  split at h
  .rename_i K ms hK hm;obtain⟨h1,h2⟩:=J7 hK;obtain⟨e1,e2⟩:=Ek hm;have hl:l=aO 32 (w::ws):=by grind[B5]
   have key:dT s=ms.map (λ(n:Nat)=>(n:Int))/\s.kind=K/\(s.kind=7\/s.kind=8->s.to=0/\s.b=0)/\(s.kind=0\/s.kind=1\/s.kind=3\/s.kind=4->s.b=0)/\(9<=s.kind->s.a=0/\s.b=0):=by
    rcases (by omega:K=0\/K=1\/K=2\/K=3\/K=4\/K=5\/K=6\/K=7\/K=8\/K=9\/K=10\/K=11) with rfl|rfl|rfl|rfl|rfl|rfl|rfl|rfl|rfl|rfl|rfl|rfl
    all_goals
     rcases ms with _|⟨x,_|⟨y,_|⟨z,_|⟨u,ms⟩⟩⟩⟩
     all_goals simp [ap] at h
     all_goals subst h
     all_goals simp [dT]
    all_goals omega
   obtain⟨k1,k2,k3,k4,k5⟩:=key;refine⟨?_,⟨qA,qL,k3,k4,k5⟩⟩
   grind[bR,Ga]
  .cases h
 .cases h
theorem L4 (h:cA l=some k):wl k=l/\pT k/\k.body=[]:=by
 unfold cA at h
 split at h
 .rename_i i n f ws e;have hl:l=aO 32 (i::n::f::ws):=by grind[B5]
  split at h
  .rename_i hi;subst hi
   split at h
   .rename_i q hq;obtain⟨q1,q2⟩:=FA hq
    split at h
    .rename_i hf;obtain⟨rfl,rfl⟩:=hf;obtain rfl:=sI h;refine⟨?_,⟨.inr rfl,qn,by simp [b6],λ_=>rfl⟩,rfl⟩
     grind[ML,sS]
    .split at h
     .rename_i hf;subst hf;obtain⟨ms,hm,rfl⟩:=zg.1 h;obtain⟨e1,e2⟩:=Ek hm;refine⟨?_,⟨.inl rfl,qn,e2,λe=>fO⟩,rfl⟩
      grind[ML,sS]
     .cases h
   .cases h
  .cases h
 .cases h
end
section
variable {s:qP} {k k0:qT} {p q P:qC} {l t:q9} {ls rest:List q9} {i n:Nat} {body:List qP} {ks:List qT}
def ov (ks:List qT):List q9:=ks.flatMap λk=>wl k::k.body.map bR
theorem KI {j:Nat} (h:0<j):∀ {ks:List qT},(ks.mapIdx λi k=>gQ (i+j) k).flatten=ov ks
 | []=>rfl
 | k::ks=>by
  have ih:=KI (j:=j+1) qA (ks:=ks)
  grind[ov,gQ]
theorem ET:gi (k0::ks)=k0.body.map bR++ov ks:=by
 simp_all[gi,KI,gQ]
theorem KQ:ov (ks++[k])=ov ks++(wl k::k.body.map bR):=by simp [ov]
theorem LB:iB (P++[k]) s=P++[{ k with body:=k.body++[s] }]:=by
 unfold iB;apply vl
 grind
structure ew (p:qC):Prop where
 head:∃ b ks,p=⟨0,-1,[],b⟩::ks
 jR:∀ (i:Nat) k,p[i]?=some k->0<i->pT k
 cx:∀ k∈p,∀ s∈k.body,vG s
theorem Kt:∀ {ls:List q9} {p:qC},ew p->uN ls p=some q->gi q=gi p++ls/\ew q
 | [],p,hp,h=>by
  grind[uN]
 | l::ls,p,hp,h=>by
  rw [uN] at h
  cases ha:wT p l with
  | none=>simp_all
  | some r =>
   rw [ha] at h;simp only at h;obtain⟨b,ks,e0⟩:=hp.head
   have key:gi r=gi p++[l]/\ew r:=by
    unfold wT at ha
    cases hh:cA l with
    | some k =>
     rw [hh] at ha;obtain rfl:=sI ha;obtain⟨e1,e2,e3⟩:=L4 hh;refine⟨?_,⟨⟨b,ks++[k],qp⟩,λi g hg hi=>?_,λg hg s hs=>?_⟩⟩
     .grind[ET,KQ]
     .rcases aC i p.length with hlt|hge
      .rw [vn hlt] at hg;exact hp.jR i g hg hi
      grind
     .rcases jo.1 hg with hg|hg
      .exact hp.cx g hg s hs
      simp_all
    | none =>
     rw [hh] at ha;simp only at ha;obtain⟨s,hs,rfl⟩:=zg.1 ha;obtain⟨e1,e2⟩:=Wk hs;rcases List.eq_nil_or_concat ks with rfl|⟨ks',k,rfl⟩
     .have e5:iB p s=[⟨0,-1,[],b++[s]⟩]:=by
       rw [e0];exact LB (P:=[]) (k:=⟨0,-1,[],b⟩)
      rw [e5];refine⟨?_,⟨⟨b++[s],[],rfl⟩,λi g hg hi=>?_,λg hg s' hs'=>?_⟩⟩
      .grind[ET,ov]
      .grind
      .rw [yj] at hg;subst hg;rcases jo.1 hs' with h1|h1
       .exact hp.cx ⟨0,-1,[],b⟩ qL s' h1
       simp_all
     .have e5:iB p s=⟨0,-1,[],b⟩::(ks'++[{ k with body:=k.body++[s] }]):=by
       grind[LB]
      rw [List.concat_eq_append] at e0;rw [e5];have hkm:k∈p:=qL;refine⟨?_,⟨⟨b,_,rfl⟩,λi g hg hi=>?_,λg hg s' hs'=>?_⟩⟩
      .grind[ET,KQ,wl]
      .obtain⟨j,rfl⟩:∃ j,i=j+1:=⟨i - 1,qA⟩;rw [gL] at hg;have hp':=hp.jR (j+1);rw [e0] at hp';simp only [gL] at hp';rcases aC j ks'.length with hlt|hge
       .grind
       .rw [kD hge] at hg hp'
        have h0:j - ks'.length=0:=by
         grind
        rw [h0] at hg hp';obtain rfl:=sI hg;have:=hp' k rfl qA;exact⟨this.kind,this.parent,this.params,this.cls⟩
      .rcases vB.1 hg with rfl|hg
       .exact hp.cx ⟨0,-1,[],b⟩ qL s' hs'
       .rcases jo.1 hg with hg|hg
        .exact hp.cx g qL s' hs'
        .rw [yj] at hg;subst hg;rcases jo.1 hs' with h1|h1
         .exact hp.cx k hkm s' h1
         simp_all
   obtain⟨k1,k2⟩:=key;obtain⟨f1,f2⟩:=Kt k2 h
   simp_all
theorem η:ew uO:=⟨⟨[],[],rfl⟩,λi k hk hi=>by
  grind[uO],λk hk s hs=>by
  grind[uO]⟩
theorem Ge (h:ku t=some p):o9 p=t/\ye p=true/\ew p:=by
 unfold ku at h
 split at h
 .rename_i q hq
  split at h
  .rename_i hc;obtain rfl:=sI h;obtain⟨e1,e2⟩:=Kt η hq;refine⟨?_,hc.2,e2⟩;unfold o9;rw [e1];exact (Sx hc.1).symm
  .cases h
 .cases h
end
section
variable {s:qP} {k:qT} {p q:qC} {l t w:q9} {ls ws vs:List q9} {i n K:Nat}
theorem vG.of (hp:z6 p) (hk:p[i]?=some k) (hs:s∈k.body):vG s:=by
 have h:=hp.an i k hk s hs;have hkd:=zW.kind h;have hl:=hp.len;obtain⟨kd,to,a,b⟩:=s;obtain⟨K,rfl⟩:∃ K:Nat,kd=K:=⟨kd.toNat,qp⟩;simp only at hkd;by_cases e:b=-1
 all_goals
  rcases (by omega:K=0\/K=1\/K=2\/K=3\/K=4\/K=5\/K=6\/K=7\/K=8\/K=9\/K=10\/K=11) with rfl|rfl|rfl|rfl|rfl|rfl|rfl|rfl|rfl|rfl|rfl|rfl
  all_goals simp [zW,qP.reads,ac,e] at h
  all_goals refine⟨qB,λx hx=>?_,λ_=>?_,λ_=>?_,λ_=>?_⟩
  all_goals try simp [dT,e] at hx
  all_goals first|(simp_all;done)|(simp at *;omega)
theorem ew.of (hp:zq p):ew p:=by
 have hs:=hp.sh;have hl:=hs.len;refine⟨?_,λi k hk hi=>?_,λk hk s hs'=>?_⟩
 .cases p with
  | nil=>simp at hl
  | cons k0 ks =>
   have h0:=hs.head 0 k0 rfl;simp only [uU,if_true] at h0;obtain⟨kd,par,ps,bd⟩:=k0
   simp_all
 .have h0:=hs.head i k hk;have hil:=(gS hk).1;unfold uU at h0;rw [if_neg qA] at h0;obtain⟨h1,h2,h3,h4,h5⟩:=h0;refine⟨qA,qA,λx hx=>?_,λe=>?_⟩
  .have:=(hs.names k (gM hk)).params x hx;omega
  simp_all
 grind[kB,vG.of]
def um:List q9->Option (Nat×List q9)
 | w::ws=>(jL w).map λn=>(n,ws)
 | []=>none
def bz (ws:List q9):Option (qT×List q9):=match um ws with
 | some (q,f::ws)=>if f=wm then (match ws with
   | []=>some (⟨1,q,[],[]⟩,[])
   | x::ws=>(jL x).map λ(n:Nat)=>(⟨1,q,[(n:Int)],[]⟩,ws))
  else if f=bT then some (⟨2,q,[],[]⟩,ws) else none
 | _=>none
def bP (w:q9) (ws:List q9):Option (qP×List q9):=match wK w with
 | none=>none
 | some K=>match um ws with
  | none=>none
  | some (x,ws) =>
   if K=7\/K=8 then some (⟨K,0,x,0⟩,ws)
   else if K=0\/K=1\/K=3\/K=4 then (um ws).map λ(y,ws)=>(⟨K,x,y,0⟩,ws)
   else if K=2\/K=6 then (match um ws with
    | some (y,ws)=>(um ws).map λ(z,ws)=>(⟨K,x,y,z⟩,ws)
    | none=>none)
   else if K=5 then (match um ws with
    | some (y,[])=>some (⟨K,x,y,-1⟩,[])
    | some (y,ws)=>(um ws).map λ(z,ws)=>(⟨K,x,y,z⟩,ws)
    | none=>none)
   else some (⟨K,x,0,0⟩,ws)
def aQ (p:qC) (line:q9):Option qC:=match zI 32 line with
 | w::ws=>if w=wn then (match bz ws with
   | some (k,[])=>some (p++[k])
   | _=>none)
  else match bP w ws with
   | some (s,[])=>some (iB p s)
   | _=>none
 | []=>none
def kV (ls:List q9) (p:qC):Option qC:=match ls with
 | []=>some p
 | l::ls=>match aQ p l with
  | some q=>kV ls q
  | none=>none
theorem iC {w:q9} {ws:List q9}:yp (w::ws)=match jL w,yp ws with|some n,some ns=>some (n::ns)|_,_=>none:=by
 unfold yp
 split<;>simp_all
theorem xt:yp []=some []:=rfl
theorem WW (hK:K<12):(match bP (yM.getD K []) ws with|some (s,[])=>some s|_=>none)=match yp ws with|some ns=>ap K ns|none=>none:=by
 unfold bP;rw [SO K hK];rcases ws with _|⟨a,_|⟨b,_|⟨c,_|⟨d,ws⟩⟩⟩⟩
 .constructor<;>grind
 .cases ha:jL a <;> simp only [iC,xt,ha,um,uX,Option.map_none]
  grind[ap]
 .cases ha:jL a <;> cases hb:jL b <;> simp only [iC,xt,ha,hb,um,uX,Option.map_none]<;>grind[ap]
 .cases ha:jL a <;> cases hb:jL b <;> cases hc:jL c <;> simp only [iC,xt,ha,hb,hc,um,uX,Option.map_none]<;>grind[ap]
 .have hn:∀ ns,yp (a::b::c::d::ws)=some ns->ap K ns=none:=by
   grind[ap,iC]
  have hr:(match yp (a::b::c::d::ws) with|some ns=>ap K ns|none=>none)=none:=by
   grind
  rw [hr]
  cases ha:jL a <;> cases hb:jL b <;> cases hc:jL c <;> simp only [ha,hb,hc,um,uX,Option.map_none]<;>grind
end
section
variable {s:qP} {k:qT} {p q:qC} {l t w:q9} {ls ws vs:List q9} {i n K:Nat}
theorem SP:wK wn=none:=qc
theorem WX (hw:wK w≠none) (e:zI 32 l=w::ws):(match bP w ws with|some (s,[])=>some s|_=>none)=dY l:=by
 obtain⟨K,hK⟩:=cS.1 hw;obtain⟨h1,h2⟩:=J7 hK;rw [h2];refine (WW h1).trans ?_
 grind[dY]
theorem Wj (hw:wK w=none) (e:zI 32 l=w::ws):dY l=none:=by
 grind[dY]
theorem WY (hw:wK w=none):bP w ws=none:=by
 grind[bP]
theorem Wb (hw:w≠wn) (e:zI 32 l=w::ws):cA l=none:=by
 grind[cA]
theorem R9 (e:zI 32 l=wn::ws):cA l=(match bz ws with|some (k,[])=>some k|_=>none)\/((match bz ws with|some (k,[])=>some k|_=>none)=none/\∃ k,cA l=some k/\2<=k.params.length):=by
 unfold cA bz;rw [e];rcases ws with _|⟨a,_|⟨b,ws⟩⟩
 .left;rfl
 .simp_all[um]
 .cases ha:jL a with
  | none=>grind[um]
  | some x =>
   simp only [um,ha,if_true,uX];by_cases h1:b=wm
   .subst h1;have hne:¬ wm=bT:=qc;simp only [hne,false_and,if_false,if_true];rcases ws with _|⟨c,_|⟨d,ws⟩⟩
    .grind[xt]
    .left
     cases hc:jL c <;> simp [iC,xt,hc]
    .cases hr:yp (c::d::ws) with
     | none =>
      simp
     | some ns =>
      right;have hlen:ns.length=(c::d::ws).length:=by rw [(Ek hr).1];simp
      simp_all
   grind
theorem Su:aQ p l=wT p l\/(aQ p l=none/\∃ k,wT p l=some (p++[k])/\2<=k.params.length):=by
 grind[iJ,aQ,wT,Wj,SP,R9,Wb,wK,WY,WX]
def nu (p:qC):Prop:=∃ k∈p,2<=k.params.length
theorem qAJ (h:nu p):nu (iB p s):=by
 obtain⟨k,hk,h2⟩:=h;obtain⟨i,hi⟩:=kB hk;unfold iB
 have:(p.modify (p.length - 1) λk=>{ k with body:=k.body++[s] })[i]?=some (if p.length - 1=i then { k with body:=k.body++[s] } else k):=by
  grind
 refine⟨_,gM this,?_⟩
 grind
theorem NQ:∀ {ls:List q9} {p:qC},nu p->uN ls p=some q->nu q
 | [],p,hp,h=>by
  grind[uN]
 | l::ls,p,hp,h=>by
  rw [uN] at h
  cases ha:wT p l with
  | none=>simp_all
  | some r =>
   rw [ha] at h;refine NQ (ls:=ls) (p:=r) ?_ h
   grind[wT,zg,qAJ,nu]
theorem qAI (h:nu p):ye p=false:=by
 cases e:ye p with
 | false=>rfl
 | true =>
  exfalso;simp only [ye,jh] at e;obtain⟨h1,h2,h3,h4,_⟩:=AF e.1;obtain⟨k,hk,hl⟩:=h;obtain⟨i,hi⟩:=kB hk;have:=(Aa hi (yS.1 h4 i (gN.2 (gS hi).1))).1
  grind
theorem Kp:∀ {ls:List q9} {p:qC},kV ls p=uN ls p\/(kV ls p=none/\∀ q,uN ls p=some q->nu q)
 | [],p=>.inl rfl
 | l::ls,p=>by
  rw [kV,uN];rcases Su (p:=p) (l:=l) with h|⟨h,k,h2,h3⟩
  .rw [h]
   cases wT p l with
   | none=>simp
   | some r=>exact Kp (ls:=ls) (p:=r)
  .rw [h,h2];exact .inr ⟨rfl,λq hq=>NQ ⟨k,qB,h3⟩ hq⟩
def FP (s:q9):Option qC:=if (zI 10 s).getLast?=some [] then match kV (zI 10 s).dropLast uO with
 | some p=>if ye p=true then some p else none
 | none=>none else none
theorem Uk:FP t=ku t:=by
 grind[FP,ku,Kp,qAI]
end
end Go.Hm
end
section

end
section
namespace Go.Hm
open Go Go.RowKit
def kj:List q9:=[[100,111,110,101],[102,117,101,108],[117,110,98,111,117,110,100],[102,114,101,101],[110,97,109,101],[116,121,112,101],[97,114,103,115],[97,116,116,114]]
def iN:q9:=[119,114,111,110,103]
def cB (p:qC) (f:Nat):List q9:=(vt p f).out.map jT++[kj.getD (vt p f).en.toNat []]
def s6 (s:q9) (f:Int):q9:=if 0<=f/\f<=150 then match ku s with
 | some p=>jO 10 (cB p f.toNat)
 | none=>jO 10 [iN] else []
section
variable {p:qC} {n f:Nat} {s t l w:q9} {ls:List q9} {i:Int}
theorem Tv:(10:UInt8)∉jT i:=by
 have key:∀ m:Nat,(10:UInt8)∉ym m:=λm h=>absurd (Ey m 10 h).1 qc
 grind[jT]
theorem QK:∀ i,i<8->(10:UInt8)∉kj.getD i []:=qc
theorem QL:∀ i,i<8->kj.getD i []≠iN:=qc
theorem Lf (h:0<=(vt p f).en/\(vt p f).en<=7):∀ w∈cB p f,(10:UInt8)∉w:=by
 grind[Tv,QK,cB]
theorem XF (h:0<=(vt p f).en/\(vt p f).en<=7):(jO 10 (cB p f)).count 10=(vt p f).out.length+1:=by
 grind[Sw,Lf,cB]
theorem XG (h:0<=(vt p f).en/\(vt p f).en<=7):jO 10 (cB p f)≠jO 10 [iN]:=by
 intro e;have h1:=Mb (Lf h);rw [e,Mb (by decide:∀ w∈[iN],(10:UInt8)∉w)] at h1;have h2:[iN]=cB p f:=List.append_cancel_right h1;have h3:(cB p f).getLast?=some iN:=qp;unfold cB at h3;rw [List.getLast?_concat] at h3
 grind[QL]
theorem Sv {a b:List q9}:jO 10 (a++b)=jO 10 a++jO 10 b:=xB
end
abbrev bt (l:q9):ByteArray:=⟨l.toArray⟩
abbrev tx (l:q9):AV:=.sc (.string (bt l))
section
variable {a b l:q9} {i j:Nat}
@[simp] theorem bt_size:(bt l).size=l.length:=by simp [ByteArray.size]
@[simp] theorem bt_app:bt a++bt b=bt (a++b):=by
 apply ByteArray.ext;simp [ByteArray.data_append]
@[simp] theorem bt_extract:(bt l).extract i j=bt ((l.drop i).take (j - i)):=by
 apply ByteArray.ext;simp [ByteArray.data_extract]
end
section
variable {c:UInt8} {l m:q9} {n:Nat}
theorem K3:∀ n:Nat,ym n=Lib.decDigits n
 | n=>by
  rw [ym,Lib.decDigits]
  split
  .rfl
  .rw [K3 (n / 10)]
   rfl
theorem Tu {n:Int}:jT n=Lib.itoa n:=by
 grind[jT,Lib.itoa,K3]
theorem JV (h:c∉l):Lib.index l [c]=-1:=by
 rw [Lib.index_one]
 induction l<;>grind[Lib.indexByte]
theorem JU (h:c∉l):Lib.index (l++c::m) [c]=l.length:=by
 rw [Lib.index_one]
 induction l<;>grind[Lib.indexByte]
theorem M8:∀ (n:Nat) (l:q9),l.length<=n->Lib.splitK [c] 0 (Lib.count l [c]) l=zI c l
 | n,l,hn=>by
  by_cases h:c∈l
  .obtain⟨a,b,rfl,ha⟩:=List.eq_append_cons_of_mem h;have hi:=JU (m:=b) ha;rw [Lib.count_hit qB hi,Nat.add_comm 1,Lib.splitK,if_neg qL,hi,CU ha];have e1:((a.length:Int)).toNat=a.length:=qA
   have e2:(a++c::b).drop (a.length+[c].length)=b:=by
    simp
   simp only [e1,dj];rw [e2]
   congr 1
   .simp
   .match n,hn with
    | 0,hn=>simp at hn
    | n+1,hn=>exact M8 n b qp
  .rw [Lib.count_miss (JV h),CV h]
   rfl
theorem Yo:Lib.splitB (bt [c]) 0 (Lib.countB (bt l) (bt [c])) (bt l)=(zI c l).map bt:=by
 have h:=Lib.splitB_data (bt [c]) 0 (Lib.countB (bt l) (bt [c])) (bt l);have h2:Lib.splitK [c] 0 (Lib.count l [c]) l=zI c l:=M8 l.length l (qX _);have h3:(Lib.splitB (bt [c]) 0 (Lib.countB (bt l) (bt [c])) (bt l)).map (λx=>x.data.toList)=zI c l:=h.trans h2;rw [<- h3,ie]
 simp_all[fE]
theorem Yp:Lib.countB (bt l) (bt [c])+1=(zI c l).length:=by
 have key:∀ (n:Nat) (l:q9),l.length<=n->Lib.count l [c]+1=(zI c l).length:=by
  intro n
  induction n with
  | zero =>
   intro l hn;obtain rfl:=aX (Nat.le_zero.1 hn)
   rfl
  | succ n ih =>
   intro l hn;by_cases h:c∈l
   .obtain⟨a,b,rfl,ha⟩:=List.eq_append_cons_of_mem h;have hi:=JU (m:=b) ha
    have e2:(a++c::b).drop (a.length+[c].length)=b:=by
     simp
    rw [Lib.count_hit qB hi,e2,CU ha,cQ,<- ih b qp];omega
   grind[Lib.count_miss,JV,CV]
 exact key l.length l (qX _)
end
def ue (ws:List q9):List (List AV):=ws.map λw=>[tx w]
section
variable {ws:List q9} {i n:Nat} {f:Nm->Option Nm}
@[simp] theorem xrows_len:(ue ws).length=ws.length:=fQ
@[simp] theorem qA6:(ue ws)[i]?=(ws[i]?).map λw=>[tx w]:=fQ
@[simp] theorem xrows_getE {h:i<(ue ws).length}:(ue ws)[i]=[tx (ws[i]' tp)]:=fQ
@[simp] theorem xrows_tr:(ue ws).map (λr=>r.map (AV.tr f))=ue ws:=fQ
@[simp] theorem xrows_take:(ue ws).take n=ue (ws.take n):=fQ
@[simp] theorem xrows_drop:(ue ws).drop n=ue (ws.drop n):=fQ
theorem NY:∀ r∈ue ws,r.length=1:=fQ
@[simp] theorem xrows_nil:ue []=[]:=rfl
abbrev uT (ws:List q9):AV:=.sl 1 (ue ws)
end
theorem RN {g:Gh} {w:World} {i:Nat} {v:Value} (h:RV g w (.pointer (some ⟨i,0,none⟩)) (.el [.sc v] 0)):w.cell? ⟨i,0,none⟩=some v:=by
 generalize hp:Value.pointer (some ⟨i,0,none⟩)=p at h
 cases h with
 | el b o off row f hC hcell ho hr =>
  have hb:b=i/\o=0:=by
   simp_all
  obtain⟨rfl,rfl⟩:=hb;have h1:=hcell 0 qB;have h2:=(hr 0 (.sc v) rfl).zi;rw [h1,h2]
theorem Zb {P:Program} {gl:Nat->Option (List AV)} {f:FuncId} {az:List AV} {vs:List Value} {ws:List q9} {T:TypeId} (hc:iR P f) (has:az=vs.map .sc)
  (h:∀ (w:World),(∀ i v,gl i=some [.sc v]->w.cell? ⟨i,0,none⟩=some v)->Calls P f vs.toArray w λe w'=>e=.returned (.slice (some ⟨w.heap.size,0,none⟩) ws.length ws.length)/\w'=w.alloc (.cells (ws.map λx=>Value.string (bt x)).toArray T)) :
  qM P gl f az (λ_ y _=>y=uT ws):=by
 subst has;refine⟨hc,λroot C w g args _ _ _ hinv hgl hsz hargs=>?_⟩
 have ha:args=vs.toArray:=by
  apply Array.ext
  .simp_all
  .intro j h1 h2;have h3:j<vs.length:=qA;have:=(hargs j args[j] (.sc vs[j]) (ib h1) jj).zi
   simp_all
 subst ha;refine (h w λi v e=>RN (hgl i _ e).1.1).mono λe w' he=>?_;obtain⟨rfl,rfl⟩:=he;have hold:∀ b,b<w.heap.size->(w.alloc (.cells (ws.map λx=>Value.string (bt x)).toArray T)).heap[b]?=w.heap[b]?:=λb hb=>gP _ hb
 have hnew:(w.alloc (.cells (ws.map λx=>Value.string (bt x)).toArray T)).heap[w.heap.size]?=some (.cells (ws.map λx=>Value.string (bt x)).toArray T):=by
  exact heap_alloc_new w _
 have hsz':(w.alloc (.cells (ws.map λx=>Value.string (bt x)).toArray T)).heap.size=w.heap.size+1:=qB;refine⟨λb=>C b\/b=w.heap.size,g.more (λb=>C b\/b=w.heap.size),jv,uT ws,⟨λb hb=>.inl hb,λb hb=>?_,⟨rfl,rfl,rfl,?_,λb hb _=>hold b hb,rfl,λb hb=>?_,λ_ _ e=>vQ,λ_ _ _ e=>vQ,λ_ _ _ _ _ e=>vQ⟩,λ_ e=>absurd rfl e,λ_ _ _=>⟨rfl,rfl⟩,λ_ _ _ _=>⟨rfl,rfl⟩⟩,?_,rfl⟩
 .grind
 .simp
 .rw [hsz'];rcases hb with hb|rfl
  .have:=hinv.u0 b hb;omega
  .omega
 .refine .cw w.heap.size 0 ws.length ws.length 1 (ue ws) (λi _=>Value.string (bt (ws.getD i []))) (.inr rfl) qB (qX _) NY ?_ ?_ ?_
  .simp_all
  .intro i j _ _
   rfl
  .intro i row hrow j a ha;rw [qA6] at hrow;obtain⟨x,hx,rfl⟩:=zg.1 hrow
   match j,ha with
   | 0,ha =>
    obtain rfl:=sI ha;simp only [bC,hx,Option.getD_some];exact .sc _
end Go.Hm
end
section
namespace Go.Hm
open Go Go.RowKit Go.Proofs Go.Shelf
section
variable {P:Program} {w:World}
theorem Ue {base:Nat} {e:TypeId} {v:Value} {n:Nat} {xs:List Value} (h:w.ownsRow base e 1 v n xs):w.ownsRow 0 e 1 v n xs:=by
 refine⟨h.1,?_⟩;rcases h.2 with h|⟨g,cap,cur,a1,_,a3⟩<;>grind
theorem XJ (w:World) (t u ty e:TypeId) (i:TypeInfo) (ht:P.underlying t=some (.slice e)) (hu:P.underlying u=some .string) (hi:P.info? e=some i) (hz:i.zero=some (.int .u8 0))
  (hsize:i.size=1) (hby:i.bytes=1) (v:Value) (n:Nat) (xs:List Value) (hown:w.ownsRow 0 e 1 v n xs) (s:ByteArray) (h63:n+s.size<=maxLen) (hbytes:n+s.size<=140737488355328) :
  ∃ v' w',(Builtin.append_ #[t,u] ty #[v,.string s]).run P w=.ok v' w'/\w'.ownsRow 0 e 1 v' (n+s.size) (xs++Lib.strCells s)/\w.grownBy w' v.ownBlock/\(v'.ownBlock=v.ownBlock\/∃ g,v'.ownBlock=some g/\w.heap.size<=g):=by
 have hxl:xs.length=n:=by simpa using hown.1
 rcases hown.2 with⟨rfl,rfl⟩|⟨g,cap,cur,rfl,hbg,hg,hnc,hcm,hcs,htake⟩
 .have hx:xs=[]:=aX hxl;subst hx;obtain⟨v',w',h1,h2,h3,h4⟩:=Lib.run_append_own_string (P:=P) w w.heap.size t u ty e i ht hu hi hz hsize hby (.slice none 0 0) 0 [] (World.ownsRow_nil w _ e 1) s h63 hbytes (qX _);refine⟨v',w',h1,Ue h2,h3,?_⟩;rcases h2.2 with⟨rfl,_⟩|⟨g,cap,cur,rfl,hbg,_⟩
  .simp
  .exact .inr ⟨g,rfl,hbg⟩
 .obtain⟨v',w',h1,h2,h3,h4⟩:=Lib.run_append_own_string (P:=P) w 0 t u ty e i ht hu hi hz hsize hby _ n xs hown s h63 hbytes (Nat.zero_le _);refine⟨v',w',h1,h2,h3,?_⟩;by_cases hroom:n+s.size<=cap
  .have hcs1:n+s.size<=cur.size:=by
    omega
   have hr:=Lib.run_append_room_string (P:=P) w t u ty e i ht hu hi hsize g n cap cur hg s hroom hcs1;rw [hr] at h1
   injection h1 with e1 e2
   exact .inl (by rw [<- e1];rfl)
  .have holds:∀ j u,xs[j]?=some u->w.cell? ((⟨g,0,none⟩:Addr).add j)=some u:=hown.cells (g:=g) rfl;have hr:=Lib.run_append_grow_string (P:=P) w t u ty e i (.int .u8 0) ht hu hi hz ⟨g,0,none⟩ n cap xs qL holds s qA qA (by rw [hby];exact growslice_fits qA qA);rw [hr] at h1
   injection h1 with e1 e2
   exact .inr ⟨w.heap.size,by rw [<- e1];rfl,qX _⟩
theorem qAO {ops:Array Oper} {rest:List Oper} {o:Oper} {a:Go.Act} {Q:Exit->Go.Act->World->Prop} (hgd:o.guard=none) (sl x:Operand) (t u:TypeId)
  (ho:o.op=.call { callee:=.builtin .append,args:=#[sl,x],argTypes:=#[t,u] })
  (e:TypeId) (i:TypeInfo) (ht:P.underlying t=some (.slice e)) (hu:P.underlying u=some .string) (hi:P.info? e=some i) (hz:i.zero=some (.int .u8 0))
  (hsize:i.size=1) (hby:i.bytes=1)
  (v:Value) (n:Nat) (xs:List Value) (hs:a.eval sl=v) (hown:w.ownsRow 0 e 1 v n xs) (s:ByteArray) (hx:a.eval x=.string s)
  (h63:n+s.size<=maxLen) (hbytes:n+s.size<=140737488355328)
  (h:∀ v' w',w'.ownsRow 0 e 1 v' (n+s.size) (xs++Lib.strCells s)->w.grownBy w' v.ownBlock->(v'.ownBlock=v.ownBlock\/∃ g,v'.ownBlock=some g/\w.heap.size<=g)->wpList P ops Q rest (a.put o.dst v') w'):wpList P ops Q (o::rest) a w:=by
 refine wpList_plain hgd λK hK=>?_;obtain⟨v',w',hr,h2,h3,h4⟩:=XJ (P:=P) w t u o.type e i ht hu hi hz hsize hby v n xs hown s h63 hbytes;unfold Oper.wp execOp;simp only [ho,resolve,invoke,builtin,Sem.run_bind,Sem.run_pure,Result.andThen_ok,List.map_toArray,cR,List.map_nil,hs,hx,hr];exact hK _ _ (h v' w' h2 h3 h4)
end
section
variable {P:Program} {ρ:Ren}
structure Cu (P:Program) (ρ:Ren) (w w':World) (b:Nat) (v:Value) (bs:List Value) (s:ByteArray) (v':Value):Prop where
 top:w'.heap[b]?=some (.cells #[.pointer (some ⟨b,0,none⟩),v'] (ρ.t 72) (0,0))
 own:w'.ownsRow 0 (ρ.t 5) 1 v' (bs.length+s.size) (bs++Lib.strCells s)
 ne:v'.ownBlock≠some b
 qD:v'.ownBlock=v.ownBlock\/∃ g,v'.ownBlock=some g/\w.heap.size<=g
 os:w'.os=w.os
 tape:w'.tape=w.tape
 output:w'.output=w.output
 size:w.heap.size<=w'.heap.size
 a8:∀ k,k<w.heap.size->k≠b->v.ownBlock≠some k->w'.heap[k]?=w.heap[k]?
set_option maxHeartbeats 2000000 in
set_option maxRecDepth 100000 in
theorem qAT (L:Lays.n166 P ρ) (X:Builder.Extra P ρ) (b:Nat) (p v:Value) (bs:List Value) (s:ByteArray) (w:World) (hbk0:w.heap[b]?=some (.cells #[p,v] (ρ.t 72) (0,0)))
  (hp:p=.pointer none\/p=.pointer (some ⟨b,0,none⟩)) (hown0:w.ownsRow 0 (ρ.t 5) 1 v bs.length bs) (hne0:v.ownBlock≠some b) (hlen:bs.length+s.size<=140737488355328) :
  Calls P (ρ.f 166) #[.pointer (some ⟨b,0,none⟩),.string s] w λe w'=>e=.returned (.tuple #[.int .i64 s.size,.nilIface])/\∃ v',Cu P ρ w w' b v bs s v':=by
 obtain⟨i0,hi,hz0,hz1,hz2⟩:=info_parts X.infoByte;have mixed:=L.mixed;have t72:=L.t72;have a72:=L.a72;have z72:=L.z72;have v72:=L.v72;have u72:=run_underlying L.t72;have t70:=L.t70;have a70:=L.a70;have z70:=L.z70;have v70:=L.v70;have u70:=run_underlying L.t70;have t37:=L.t37;have a37:=L.a37;have z37:=L.z37;have v37:=L.v37;have u37:=run_underlying L.t37;have t3:=L.t3;have a3:=L.a3;have z3:=L.z3;have v3:=L.v3;have u3:=run_underlying L.t3;have t9:=L.t9;have a9:=L.a9;have z9:=L.z9;have v9:=L.v9;have u9:=run_underlying L.t9;have t4:=L.t4;have a4:=L.a4;have z4:=L.z4;have v4:=L.v4;have u4:=run_underlying L.t4;have t164:=L.t164;have a164:=L.a164;have z164:=L.z164;have v164:=L.v164;have u164:=run_underlying L.t164;have t5:=X.t5;have a5:=X.a5;have z5:=X.z5;have v5:=X.v5;have u5:=run_underlying X.t5;have e240:∀ args w,(callFunc (ρ.f 240) args).run P w=.ok (.enter (ρ.f 240) args) w:=enters_of L.f240 qY rfl
 have hlt0:b<w.heap.size:=by
  grind
 have hcc:Calls P (ρ.f 240) #[.pointer (some ⟨b,0,none⟩)] w λe w1=>e=.returned (.tuple #[])/\w1.heap[b]?=some (.cells #[.pointer (some ⟨b,0,none⟩),v] (ρ.t 72) (0,0))/\w1.os=w.os/\w1.tape=w.tape/\w1.output=w.output/\w1.heap.size=w.heap.size/\∀ k,k≠b->w1.heap[k]?=w.heap[k]?:=by
  have hB:Lib.BuilderAt (ρ.t 72) (ρ.t 5) 0 b p bs w:=⟨Nat.zero_le _,v,hbk0,hown0,hne0⟩;rcases hp with rfl|rfl
  .refine (Any.Builder_copyCheck_fresh { L with } X.toX72 b w hB.cell0 hB.shape hB.frozen0).mono ?_
   grind[World.setCell]
  .refine (Any.Builder_copyCheck_used { L with } X.toX72 b w hB.cell0).mono ?_
   simp_all
 go_enter L.f166,Body.n166_ntmps ρ
 go_wp2_with (go_at_fn (ρ.f 240);refine hcc.mono ?_)
 rintro e w1 ⟨rfl,hbk,o1,o2,o3,o4,o5⟩
 have hown:w1.ownsRow 0 (ρ.t 5) 1 v bs.length bs:=by
  refine⟨hown0.1,?_⟩;rcases hown0.2 with h|⟨g,cap,cur,rfl,a2,a3,a4⟩<;>grind
 have c0:w1.cell? ⟨b,0,none⟩=some (.pointer (some ⟨b,0,none⟩)):=by rw [Lib.cell_of_heap hbk];rfl
 have c1:w1.cell? ⟨b,1,none⟩=some v:=by rw [Lib.cell_of_heap hbk];rfl
 go_wp2_with (at_builtin;refine qAO rfl _ _ (ρ.t 37) (ρ.t 9) rfl (ρ.t 5) i0 L.t37 L.t9 hi hz0 hz1 hz2 _ _ _ rfl hown s rfl ?c3 ?c4 ?_)
 case c3=>grind[maxLen]
 case c4=>omega
 intro v' w2 hown' hgrow hfr;have hlt:b<w1.heap.size:=qA
 have hb2:w2.heap[b]?=some (.cells #[.pointer (some ⟨b,0,none⟩),v] (ρ.t 72) (0,0)):=by
  rw [hgrow.block b hlt (λe=>hne0 e.symm)];exact hbk
 have d0:w2.cell? ⟨b,0,none⟩=some (.pointer (some ⟨b,0,none⟩)):=by rw [Lib.cell_of_heap hb2];rfl
 have d1:w2.cell? ⟨b,1,none⟩=some v:=by rw [Lib.cell_of_heap hb2];rfl
 have f1:w2.frozen? ⟨b,1,none⟩=false:=Lib.frozen_of_heap hb2 1
 obtain⟨ao,n',cap,rfl⟩:∃ ao n' cap,v'=.slice ao n' cap:=by
  rcases hown'.2 with⟨hv,_⟩|⟨g,cap,cur,hv,_⟩<;>grind
 go_wp2
 go_ret2
 have hne:=Lib.ownBlock_ne hown' hb2 X.neB5;have yG:∀ k,k≠b->(w2.setCell ⟨b,1,none⟩ (.slice ao n' cap)).heap[k]?=w2.heap[k]?:=λk hk=>Below.heap_setCell _ _ _ _ (λe=>hk (by simp [e]));refine⟨rfl,_,?_,?_,hne,?_,?_,?_,?_,?_,?_⟩
 .grind[World.setCell]
 .exact hown'.kept (row:=some b) ⟨rfl,rfl,rfl,qB,λk _ hk=>yG k (λe=>hk (by simp [e]))⟩ (Or.inr hne)
 .exact hfr
 .exact hgrow.os.trans o1
 .exact hgrow.tape.trans o2
 .exact hgrow.output.trans o3
 .have:=hgrow.size
  simp_all
 .intro k hk hkb hkv;rw [yG k hkb,hgrow.block k qA (λe=>hkv e.symm),o5 k hkb]
end
def ba (l:q9):List Value:=l.map λc=>Value.int .u8 c.toNat
def bF (l:q9):List (List AV):=l.map λc=>[.sc (.int .u8 c.toNat)]
def mL (V:Nm) (T e:TypeId) (a:AV) (l:q9):Nm->Option AO:=λn=>if n=V then some (.vv T 2 true [[a,.hs (.c V 0 1) 1 0 l.length]]) else if n=.c V 0 1 then some (.vv e 1 false (bF l)) else none
section
variable {V:Nm} {T e:TypeId} {a:AV} {l s:q9} {g:Gh} {w:World}
@[simp] theorem bcells_len:(ba l).length=l.length:=by simp [ba]
@[simp] theorem byrows_len:(bF l).length=l.length:=by simp [bF]
theorem BG {i j:Nat}:Nm.c V i j≠V:=Nm.mz (Nm.uH V)
@[simp] theorem H6:mL V T e a l V=some (.vv T 2 true [[a,.hs (.c V 0 1) 1 0 l.length]]):=by simp [mL]
@[simp] theorem Oq:mL V T e a l (.c V 0 1)=some (.vv e 1 false (bF l)):=by simp [mL,BG]
theorem Ot {n:Nm} (h:mL V T e a l n≠none):n=V\/n=.c V 0 1:=by
 grind[mL]
def ax (H:Nm->Option AO) (V:Nm) (T e:TypeId) (l:q9):Prop :=
 (l=[]/\H V=some (.vv T 2 true [[.sc (.pointer none),.sc (.slice none 0 0)]])) \/
 (l≠[]/\H V=some (.vv T 2 true [[.pt V 0,.hs (.c V 0 1) 1 0 l.length]])/\H (.c V 0 1)=some (.vv e 1 false (bF l)))
theorem Uf {v:Value} (hv:RV g w v (.hs (.c V 0 1) 1 0 l.length)) (ho:jU g w (.c V 0 1) (.vv e 1 false (bF l))):w.ownsRow 0 e 1 v l.length (ba l)/\v.ownBlock=g.φ (.c V 0 1):=by
 generalize hn:l.length=len at hv;refine⟨⟨by simp [hn],?_⟩,?_⟩
 .cases hv with
  | cZ _ _ hk=>simp
  | a7 _ _ _ _ b cap ad hk h1 h2 h3 =>
   right;subst hn;simp only [jU,hk] at ho;obtain⟨⟨cur,c1,c2,c3,c4,c5,c6,c7⟩,_,c8⟩:=ho;have hc8:=c8 trivial;have hcap:cap=g.κ (.c V 0 1):=qA;have had:=h3 qA;rw [Nat.zero_mul] at had;refine⟨b,cap,cur,by rw [had],Nat.zero_le _,c1,h1,qA,qA,?_⟩;apply vl;intro i;rw [tK,Nat.mul_one];by_cases hi:i<l.length
   .rw [if_pos hi];have h4:=(c7 i [.sc (.int .u8 l[i].toNat)] (by simp [bF,hi]) 0 _ rfl).zi;have hlt:i<cur.size:=qA
    simp_all[ba]
   grind[ba]
 .cases hv with
  | cZ _ _ hk=>rw [hk];rfl
  | a7 _ _ _ _ b cap ad hk h1 h2 h3 =>
   simp only [jU,hk] at ho;have hc8:=ho.2.2 trivial;have had:=h3 qA;rw [hk,had]
   rfl
theorem Ug {v:Value} {b:Nat} (hk:v.ownBlock=g.φ (.c V 0 1)) (hcap:∀ ad n cap,v=.slice ad n cap->g.κ (.c V 0 1)=cap) (h:w.ownsRow 0 e 1 v l.length (ba l)) (h0:0<l.length) :
  RV g w v (.hs (.c V 0 1) 1 0 l.length)/\jU g w (.c V 0 1) (.vv e 1 false (bF l)):=by
 rcases h.2 with⟨rfl,hl⟩|⟨b,cap,cur,rfl,_,c1,c2,c3,c4,c5⟩
 .omega
 .have hk':g.φ (.c V 0 1)=some b:=hk.symm;have hκ:=hcap _ _ _ rfl
  have get:∀ i (hi:i<l.length),cur.getD (i * 1+0) undef=Value.int .u8 l[i].toNat:=by
   intro i hi;have h1:(cur.toList.take (l.length * 1))[i]?=(ba l)[i]?:=by rw [c5]
   rw [tK,Nat.mul_one,if_pos hi] at h1;have hlt:i<cur.size:=qA
   simp_all[ba]
  refine⟨.a7 _ _ _ _ b cap _ hk' c2 qA (λ_=>qB),?_⟩;simp only [jU,hk'];refine⟨⟨cur,c1,qA,qA,qn,by simp [bF],?_,?_⟩,λe=>vQ,λ_=>qA⟩
  .intro j hj;have hj':j<l.length:=qL;have:=get j hj';simp only [Nat.mul_one,dj] at this;rw [this]
   rfl
  .intro i row hrow j x hx;simp only [bF,jg] at hrow;obtain⟨c,hc,rfl⟩:=zg.1 hrow;obtain⟨hi,hE⟩:=gS hc
   match j,hx with
   | 0,hx =>
    obtain rfl:=sI hx;rw [get i hi,hE];exact .sc _
end
def NI:Value->Nat
 | .slice _ _ c=>c
 | _=>0
section
variable {P:Program} {ρ:Ren}
theorem H9 {H:Nm->Option AO} {V:Nm} {T e:TypeId} {l:q9} {g:Gh} {w:World} {b:Nat} (hH:ax H V T e l) (hobj:∀ n o,H n=some o->jU g w n o) (hk:g.φ V=some b) :
  ∃ p v,w.heap[b]?=some (.cells #[p,v] T (0,0))/\(p=.pointer none\/p=.pointer (some ⟨b,0,none⟩))/\w.ownsRow 0 e 1 v l.length (ba l)/\(∀ x,v.ownBlock=some x->∃ o,H (.c V 0 1)=some o/\g.φ (.c V 0 1)=some x)/\H V≠none/\g.κ V=1:=by
 have two:∀ (cur:Array Value),cur.size=1 * 2->∃ p v,cur=#[p,v]:=by
  intro cur c2;rcases cur with⟨_|⟨a0,_|⟨a1,_|⟨a2,tl⟩⟩⟩⟩<;>grind
 rcases hH with⟨rfl,hHV⟩|⟨_,hHV,hHB⟩
 .have h0:=hobj V _ hHV;simp only [jU,hk] at h0;obtain⟨⟨cur,c1,c2,c3,c4,c5,c6,c7⟩,c8,_⟩:=h0;have hκ:g.κ V=1:=c8 trivial;rw [hκ] at c2;obtain⟨p,v,rfl⟩:=two cur c2;have hp:p=.pointer none:=(c7 0 _ rfl 0 _ rfl).zi;have hv:v=.slice none 0 0:=(c7 0 _ rfl 1 _ rfl).zi;subst hp hv;exact⟨_,_,c1,.inl rfl,World.ownsRow_nil w 0 e 1,λx hx=>(by cases hx),qL,hκ⟩
 .have h0:=hobj V _ hHV;have h1:=hobj (.c V 0 1) _ hHB;simp only [jU,hk] at h0;obtain⟨⟨cur,c1,c2,c3,c4,c5,c6,c7⟩,c8,_⟩:=h0;have hκ:g.κ V=1:=c8 trivial;rw [hκ] at c2;obtain⟨p,v,rfl⟩:=two cur c2;have hp:RV g w p (.pt V 0):=c7 0 _ rfl 0 _ rfl;have hv:RV g w v (.hs (.c V 0 1) 1 0 l.length):=c7 0 _ rfl 1 _ rfl;obtain⟨ho,hob⟩:=Uf hv h1
  have hpp:p=.pointer (some ⟨b,0,none⟩):=by
   cases hp<;>grind
  grind
set_option maxHeartbeats 1000000 in
theorem qAS (L:Lays.n166 P ρ) (X:Builder.Extra P ρ) (gl:Nat->Option (List AV)) (V:Nm) (l s:q9) (hs:s≠[]) (hlen:l.length+s.length<=140737488355328)
  (H:Nm->Option AO) (hH:ax H V (ρ.t 72) (ρ.t 5) l) :
  qV P gl (ρ.f 166) (Nm.under V) [.pt V 0,tx s] H (λ_ y H'=>y=.zT [.sc (.int .i64 s.length),.sc .nilIface]/\ax H' V (ρ.t 72) (ρ.t 5) (l++s)) qy:=by
 have hspos:0<s.length:=List.length_pos_iff.2 hs;refine⟨⟨_,L.f166,qY,qY⟩,λroot C w g args hr hru hHD hinv hgl hsz hargs=>?_⟩
 obtain⟨a0,a1,rfl⟩:∃ a0 a1,args=#[a0,a1]:=by
  rcases args with⟨_|⟨a0,_|⟨a1,_|⟨a2,tl⟩⟩⟩⟩<;>grind
 have r0:=hargs 0 a0 (.pt V 0) rfl rfl;have r1:=(hargs 1 a1 (tx s) rfl rfl).zi;subst r1
 cases r0 with
 | pt _ _ b hk =>
 obtain⟨p,v,c1,hpp,ho,hob,hVn,hκ⟩:=H9 hH hinv.obj hk
 have hne:v.ownBlock≠some b:=by
  intro e;obtain⟨o',e1,e2⟩:=hob b e;obtain⟨o,e3⟩:=cS.1 hVn;exact BG (hinv.inj _ _ _ _ b e1 e3 e2 hk)
 refine (qAT L X b p v (ba l) (bt s) w c1 hpp qL hne qL).mono λe w' he=>?_;obtain⟨rfl,v',hW⟩:=he
 have hown:w'.ownsRow 0 (ρ.t 5) 1 v' (l++s).length (ba (l++s)):=by
  have:=hW.own
  simp_all[Lib.strCells,ba]
 have hlive:∀ x,v'.ownBlock=some x->(¬ C x/\(w.heap.size<=x\/vS g H x)/\x<w'.heap.size):=by
  intro x hx
  have hlt:x<w'.heap.size:=by
   rcases hown.2 with⟨rfl,_⟩|⟨y,cap,cur,rfl,_,d1,_⟩
   .cases hx
   .obtain rfl:y=x:=sI hx
    grind
  rcases hW.qD with hb|⟨y,hy,hb⟩
  .obtain⟨o',e1,e2⟩:=hob x (hb.symm.trans hx);obtain⟨x1,x2,_⟩:=hinv.qD _ _ x e1 e2
   simp_all
  .rw [hx] at hy;obtain rfl:=sI hy;exact⟨λhc=>by have:=hinv.u0 _ hc;omega,.inl hb,hlt⟩
 let g':Gh:={ C:=C,φ:=λn=>if n=.c V 0 1 then v'.ownBlock else g.φ n,κ:=λn=>if n=.c V 0 1 then NI v' else g.κ n }
 have hφ:∀ n,n≠.c V 0 1->g'.φ n=g.φ n/\g'.κ n=g.κ n:=λn h=>by
  grind
 have hV:g'.φ V=some b:=by
  grind[BG]
 have hVκ:g'.κ V=1:=by
  grind[BG]
 have hB:g'.φ (.c V 0 1)=v'.ownBlock:=if_pos rfl;have hBκ:g'.κ (.c V 0 1)=NI v':=if_pos rfl;obtain⟨q1,q2⟩:=Ug (V:=V) (e:=ρ.t 5) (l:=l++s) (g:=g') (w:=w') (v:=v') (b:=b) hB.symm (λad n cap e=>by rw [hBκ,e];rfl) hown qn;have hdom:∀ n,mL V (ρ.t 72) (ρ.t 5) (.pt V 0) (l++s) n≠none->n=V\/n=.c V 0 1:=λn=>Ot;refine⟨C,g',mL V (ρ.t 72) (ρ.t 5) (.pt V 0) (l++s),.zT [.sc (.int .i64 s.length),.sc .nilIface],⟨λ_ h=>h,λ_ h=>.inl h,⟨hW.os,hW.tape,hW.output,hW.size,?_,rfl,?_,?_,?_,?_⟩,?_,?_,?_⟩,?_,rfl,.inr ⟨by simp [hs],H6,Oq⟩⟩
 .intro k hk2 hno
  refine hW.a8 k hk2 (λe=>hno ⟨V,hVn,qL⟩) (λe=>by
   obtain⟨o',e1,e2⟩:=hob _ e;exact hno ⟨.c V 0 1,qL,e2⟩)
 .intro x hx;exact uW (hinv.u0 x hx) hW.size
 .intro n o e;have hn:=hdom n qp;rcases hn with rfl|rfl
  .rw [H6] at e;obtain rfl:=sI e;simp only [jU,hV];refine⟨⟨_,hW.top,qL,by rw [hVκ];decide,qL,qB,?_,?_⟩,λ_=>qA,λe=>vQ⟩
   .intro j hj;simp only [b8,pV] at hj
    match j,hj with
    | 0,_=>rfl
    | 1,_ =>
     show v'.oneCell'=true
     rcases hown.2 with⟨rfl,_⟩|⟨y,cap,cur,rfl,_⟩ <;> rfl
   .intro i row hrow j x hx
    match i,hrow with
    | 0,hrow =>
     obtain rfl:=sI hrow
     match j,hx with
     | 0,hx =>
      obtain rfl:=sI hx;exact .pt _ _ b hV
     | 1,hx =>
      simp_all
  simp_all
 .intro n o x e hx;rcases hdom n qp with rfl|rfl
  .rw [hV] at hx;obtain rfl:=sI hx;obtain⟨o,e3⟩:=cS.1 hVn;obtain⟨x1,x2,x3⟩:=hinv.qD _ _ b e3 hk
   grind[uW,Cu.size]
  simp_all
 .grind[Cu.ne]
 .grind[Nm.under]
 .grind[Nm.under]
 .simp_all
 .exact .zT [_,_] _ rfl λj v x hv hx=>by
   match j,hv,hx with
   | 0,hv,hx=>simp at hv hx;subst hv;subst hx;exact .sc _
   | 1,hv,hx=>simp at hv hx;subst hv;subst hx;exact .sc _
end
end Go.Hm
end
