import Derived.Test.YtjgpejikjhojcaaGreatDoorR14
import Derived.Lib.Split
import Derived.Lib.ItoaNum
import Derived.Shelf.Strings.Builder1
import Derived.Shelf.Strconv.Itoa3
import Derived.Shelf.Strings.Split
import Derived.WalkSmall
set_option linter.unusedSimpArgs false
set_option linter.unusedVariables false
set_option maxRecDepth 100000
set_option maxHeartbeats 4000000

section
namespace Go.Hm
open Go Go.RowKit
section
variable {s:q8} {k:qX} {p q:qC} {l w:qU} {ns:List Int} {ls ws rest:List qU} {i n:Nat} {body:List q8} {ks:List qX}
structure H0 (k:qX):Prop where
 kind:k.kind=1\/k.kind=2
 parent:0<=k.parent/\k.parent<=99
 params:ta k.params
 cls:k.kind=2->k.params=[]
theorem Xg (h:df l=some s):tF s=l/\H5 s:=by
 unfold df at h
 split at h
 .rename_i w ws e
  split at h
  .rename_i K ms hK hm;obtain⟨h1,h2⟩:=KE hK;obtain⟨e1,e2⟩:=FK hm;have hl:l=bB 32 (w::ws):=by grind[Bz]
   have key:CR s=ms.map (λ(n:Nat)=>(n:Int))/\s.kind=K/\(s.kind=7\/s.kind=8->s.to=0/\s.b=0)/\(s.kind=0\/s.kind=1\/s.kind=3\/s.kind=4->s.b=0)/\(9<=s.kind->s.a=0/\s.b=0):=by
    rcases (by omega:K=0\/K=1\/K=2\/K=3\/K=4\/K=5\/K=6\/K=7\/K=8\/K=9\/K=10\/K=11) with rfl|rfl|rfl|rfl|rfl|rfl|rfl|rfl|rfl|rfl|rfl|rfl
    all_goals
     rcases ms with _|⟨x,_|⟨y,_|⟨z,_|⟨u,ms⟩⟩⟩⟩
     all_goals simp [ac] at h
     all_goals subst h
     all_goals simp [CR]
    all_goals omega
   obtain⟨k1,k2,k3,k4,k5⟩:=key;refine⟨?_,⟨qA,qP,k3,k4,k5⟩⟩
   grind[tF,Gp]
  .cases h
 .cases h
theorem MD (h:bq l=some k):ng k=l/\H0 k/\k.body=[]:=by
 unfold bq at h
 split at h
 .rename_i i n f ws e;have hl:l=bB 32 (i::n::f::ws):=by grind[Bz]
  split at h
  .rename_i hi;subst hi
   split at h
   .rename_i q hq;obtain⟨q1,q2⟩:=FW hq
    split at h
    .rename_i hf;obtain⟨rfl,rfl⟩:=hf;obtain rfl:=sI h;refine⟨?_,⟨.inr rfl,qu,by simp [ta],λ_=>rfl⟩,rfl⟩
     grind[Mh,AJ]
    .split at h
     .rename_i hf;subst hf;obtain⟨ms,hm,rfl⟩:=zu.1 h;obtain⟨e1,e2⟩:=FK hm;refine⟨?_,⟨.inl rfl,qu,e2,λe=>by simp at e⟩,rfl⟩
      grind[Mh,AJ]
     .cases h
   .cases h
  .cases h
 .cases h
end
section
variable {s:q8} {k k0:qX} {p q P:qC} {l t:qU} {ls rest:List qU} {i n:Nat} {body:List q8} {ks:List qX}
def pQ (ks:List qX):List qU:=ks.flatMap λk=>ng k::k.body.map tF
theorem Kf {j:Nat} (h:0<j):∀ {ks:List qX},(ks.mapIdx λi k=>BC (i+j) k).flatten=pQ ks
 | []=>rfl
 | k::ks=>by
  have ih:=Kf (j:=j+1) qA (ks:=ks)
  grind[pQ,BC]
theorem Eh:pH (k0::ks)=k0.body.map tF++pQ ks:=by
 simp_all[pH,Kf,BC]
theorem Km:pQ (ks++[k])=pQ ks++(ng k::k.body.map tF):=by simp [pQ]
theorem Ld:iK (P++[k]) s=P++[{ k with body:=k.body++[s] }]:=by
 unfold iK;apply y6
 grind
structure td (p:qC):Prop where
 head:∃ b ks,p=⟨0,-1,[],b⟩::ks
 jj:∀ (i:Nat) k,p[i]?=some k->0<i->H0 k
 Ai:∀ k∈p,∀ s∈k.body,H5 s
theorem L5:∀ {ls:List qU} {p:qC},td p->uL ls p=some q->pH q=pH p++ls/\td q
 | [],p,hp,h=>by
  grind[uL]
 | l::ls,p,hp,h=>by
  rw [uL] at h
  cases ha:wX p l with
  | none=>simp_all
  | some r =>
   rw [ha] at h;simp only at h;obtain⟨b,ks,e0⟩:=hp.head
   have key:pH r=pH p++[l]/\td r:=by
    unfold wX at ha
    cases hh:bq l with
    | some k =>
     rw [hh] at ha;obtain rfl:=sI ha;obtain⟨e1,e2,e3⟩:=MD hh;refine⟨?_,⟨⟨b,ks++[k],qw⟩,λi g hg hi=>?_,λg hg s hs=>?_⟩⟩
     .grind[Eh,Km]
     .rcases du i p.length with hlt|hge
      .rw [ub hlt] at hg;exact hp.jj i g hg hi
      grind
     .rcases y9.1 hg with hg|hg
      .exact hp.Ai g hg s hs
      simp_all
    | none =>
     rw [hh] at ha;simp only at ha;obtain⟨s,hs,rfl⟩:=zu.1 ha;obtain⟨e1,e2⟩:=Xg hs;rcases List.eq_nil_or_concat ks with rfl|⟨ks',k,rfl⟩
     .have e5:iK p s=[⟨0,-1,[],b++[s]⟩]:=by
       rw [e0];exact Ld (P:=[]) (k:=⟨0,-1,[],b⟩)
      rw [e5];refine⟨?_,⟨⟨b++[s],[],rfl⟩,λi g hg hi=>?_,λg hg s' hs'=>?_⟩⟩
      .grind[Eh,pQ]
      .grind
      .rw [vD] at hg;subst hg;rcases y9.1 hs' with h1|h1
       .exact hp.Ai ⟨0,-1,[],b⟩ qP s' h1
       simp_all
     .have e5:iK p s=⟨0,-1,[],b⟩::(ks'++[{ k with body:=k.body++[s] }]):=by
       grind[Ld]
      rw [List.concat_eq_append] at e0;rw [e5];have hkm:k∈p:=qP;refine⟨?_,⟨⟨b,_,rfl⟩,λi g hg hi=>?_,λg hg s' hs'=>?_⟩⟩
      .grind[Eh,Km,ng]
      .obtain⟨j,rfl⟩:∃ j,i=j+1:=⟨i - 1,qA⟩;rw [fI] at hg;have hp':=hp.jj (j+1);rw [e0] at hp';simp only [fI] at hp';rcases du j ks'.length with hlt|hge
       .grind
       .rw [cG hge] at hg hp'
        have h0:j - ks'.length=0:=by
         grind
        rw [h0] at hg hp';obtain rfl:=sI hg;have:=hp' k rfl qA;exact⟨this.kind,this.parent,this.params,this.cls⟩
      .rcases vQ.1 hg with rfl|hg
       .exact hp.Ai ⟨0,-1,[],b⟩ qP s' hs'
       .rcases y9.1 hg with hg|hg
        .exact hp.Ai g qP s' hs'
        .rw [vD] at hg;subst hg;rcases y9.1 hs' with h1|h1
         .exact hp.Ai k hkm s' h1
         simp_all
   obtain⟨k1,k2⟩:=key;obtain⟨f1,f2⟩:=L5 k2 h
   simp_all
theorem qAr:td uN:=⟨⟨[],[],rfl⟩,λi k hk hi=>by
  grind[uN],λk hk s hs=>by
  grind[uN]⟩
theorem Gs (h:vn t=some p):JW p=t/\jq p=true/\td p:=by
 unfold vn at h
 split at h
 .rename_i q hq
  split at h
  .rename_i hc;obtain rfl:=sI h;obtain⟨e1,e2⟩:=L5 qAr hq;refine⟨?_,hc.2,e2⟩;unfold JW;rw [e1];exact (TU hc.1).symm
  .cases h
 .cases h
end
section
variable {s:q8} {k:qX} {p q:qC} {l t w:qU} {ls ws vs:List qU} {i n K:Nat}
def uh:List qU->Option (Nat×List qU)
 | w::ws=>(zq w).map λn=>(n,ws)
 | []=>none
def bp (ws:List qU):Option (qX×List qU):=match uh ws with
 | some (q,f::ws)=>if f=bK then (match ws with
   | []=>some (⟨1,q,[],[]⟩,[])
   | x::ws=>(zq x).map λ(n:Nat)=>(⟨1,q,[(n:Int)],[]⟩,ws))
  else if f=dB then some (⟨2,q,[],[]⟩,ws) else none
 | _=>none
def bE (w:qU) (ws:List qU):Option (q8×List qU):=match wO w with
 | none=>none
 | some K=>match uh ws with
  | none=>none
  | some (x,ws) =>
   if K=7\/K=8 then some (⟨K,0,x,0⟩,ws)
   else if K=0\/K=1\/K=3\/K=4 then (uh ws).map λ(y,ws)=>(⟨K,x,y,0⟩,ws)
   else if K=2\/K=6 then (match uh ws with
    | some (y,ws)=>(uh ws).map λ(z,ws)=>(⟨K,x,y,z⟩,ws)
    | none=>none)
   else if K=5 then (match uh ws with
    | some (y,[])=>some (⟨K,x,y,-1⟩,[])
    | some (y,ws)=>(uh ws).map λ(z,ws)=>(⟨K,x,y,z⟩,ws)
    | none=>none)
   else some (⟨K,x,0,0⟩,ws)
def aG (p:qC) (line:qU):Option qC:=match zM 32 line with
 | w::ws=>if w=bu then (match bp ws with
   | some (k,[])=>some (p++[k])
   | _=>none)
  else match bE w ws with
   | some (s,[])=>some (iK p s)
   | _=>none
 | []=>none
def ka (ls:List qU) (p:qC):Option qC:=match ls with
 | []=>some p
 | l::ls=>match aG p l with
  | some q=>ka ls q
  | none=>none
theorem iL {w:qU} {ws:List qU}:vA (w::ws)=match zq w,vA ws with|some n,some ns=>some (n::ns)|_,_=>none:=by
 unfold vA
 split<;>simp_all
theorem AZ:vA []=some []:=rfl
theorem XU (hK:K<12):(match bE (vH.getD K []) ws with|some (s,[])=>some s|_=>none)=match vA ws with|some ns=>ac K ns|none=>none:=by
 unfold bE;rw [Sc K hK];rcases ws with _|⟨a,_|⟨b,_|⟨c,_|⟨d,ws⟩⟩⟩⟩
 .constructor<;>grind
 .cases ha:zq a <;> simp only [iL,AZ,ha,uh,u7,Option.map_none]
  grind[ac]
 .cases ha:zq a <;> cases hb:zq b <;> simp only [iL,AZ,ha,hb,uh,u7,Option.map_none]<;>grind[ac]
 .cases ha:zq a <;> cases hb:zq b <;> cases hc:zq c <;> simp only [iL,AZ,ha,hb,hc,uh,u7,Option.map_none]<;>grind[ac]
 .have hn:∀ ns,vA (a::b::c::d::ws)=some ns->ac K ns=none:=by
   grind[ac,iL]
  have hr:(match vA (a::b::c::d::ws) with|some ns=>ac K ns|none=>none)=none:=by
   grind
  rw [hr]
  cases ha:zq a <;> cases hb:zq b <;> cases hc:zq c <;> simp only [ha,hb,hc,uh,u7,Option.map_none]<;>grind
end
section
variable {s:q8} {k:qX} {p q:qC} {l t w:qU} {ls ws vs:List qU} {i n K:Nat}
theorem Sd:wO bu=none:=qe
theorem XV (hw:wO w≠none) (e:zM 32 l=w::ws):(match bE w ws with|some (s,[])=>some s|_=>none)=df l:=by
 obtain⟨K,hK⟩:=cH.1 hw;obtain⟨h1,h2⟩:=KE hK;rw [h2];refine (XU h1).trans ?_
 grind[df]
theorem Xf (hw:wO w=none) (e:zM 32 l=w::ws):df l=none:=by
 grind[df]
theorem XW (hw:wO w=none):bE w ws=none:=by
 grind[bE]
theorem X7 (hw:w≠bu) (e:zM 32 l=w::ws):bq l=none:=by
 grind[bq]
theorem Rx (e:zM 32 l=bu::ws):bq l=(match bp ws with|some (k,[])=>some k|_=>none)\/((match bp ws with|some (k,[])=>some k|_=>none)=none/\∃ k,bq l=some k/\2<=k.params.length):=by
 unfold bq bp;rw [e];rcases ws with _|⟨a,_|⟨b,ws⟩⟩
 .left;rfl
 .simp_all[uh]
 .cases ha:zq a with
  | none=>grind[uh]
  | some x =>
   simp only [uh,ha,if_true,u7];by_cases h1:b=bK
   .subst h1;have hne:¬ bK=dB:=qe;simp only [hne,false_and,if_false,if_true];rcases ws with _|⟨c,_|⟨d,ws⟩⟩
    .grind[AZ]
    .left
     cases hc:zq c <;> simp [iL,AZ,hc]
    .cases hr:vA (c::d::ws) with
     | none =>
      simp
     | some ns =>
      right;have hlen:ns.length=(c::d::ws).length:=by rw [(FK hr).1];simp
      simp_all
   grind
theorem TR:aG p l=wX p l\/(aG p l=none/\∃ k,wX p l=some (p++[k])/\2<=k.params.length):=by
 grind[eb,aG,wX,Xf,Sd,Rx,X7,wO,XW,XV]
def oM (p:qC):Prop:=∃ k∈p,2<=k.params.length
theorem qBW (h:oM p):oM (iK p s):=by
 obtain⟨k,hk,h2⟩:=h;obtain⟨i,hi⟩:=wj hk;unfold iK
 have:(p.modify (p.length - 1) λk=>{ k with body:=k.body++[s] })[i]?=some (if p.length - 1=i then { k with body:=k.body++[s] } else k):=by
  grind
 refine⟨_,gM this,?_⟩
 grind
theorem Nc:∀ {ls:List qU} {p:qC},oM p->uL ls p=some q->oM q
 | [],p,hp,h=>by
  grind[uL]
 | l::ls,p,hp,h=>by
  rw [uL] at h
  cases ha:wX p l with
  | none=>simp_all
  | some r =>
   rw [ha] at h;refine Nc (ls:=ls) (p:=r) ?_ h
   grind[wX,zu,qBW,oM]
theorem qBV (h:oM p):jq p=false:=by
 cases e:jq p with
 | false=>rfl
 | true =>
  exfalso;simp only [jq,ju] at e;obtain⟨h1,h2,h3,h4,_⟩:=Aa e.1;obtain⟨k,hk,hl⟩:=h;obtain⟨i,hi⟩:=wj hk;have:=(BD hi (y5.1 h4 i (gT.2 (gS hi).1))).1
  grind
theorem L1:∀ {ls:List qU} {p:qC},ka ls p=uL ls p\/(ka ls p=none/\∀ q,uL ls p=some q->oM q)
 | [],p=>.inl rfl
 | l::ls,p=>by
  rw [ka,uL];rcases TR (p:=p) (l:=l) with h|⟨h,k,h2,h3⟩
  .rw [h]
   cases wX p l with
   | none=>simp
   | some r=>exact L1 (ls:=ls) (p:=r)
  .rw [h,h2];exact .inr ⟨rfl,λq hq=>Nc ⟨k,qB,h3⟩ hq⟩
def F8 (s:qU):Option qC:=if (zM 10 s).getLast?=some [] then match ka (zM 10 s).dropLast uN with
 | some p=>if jq p=true then some p else none
 | none=>none else none
theorem Uw:F8 t=vn t:=by
 grind[F8,vn,L1,qBV]
end
end Go.Hm
end
section

end
section
namespace Go.Hm
open Go Go.RowKit
def aD:List qU:=[[100,111,110,101],[102,117,101,108],[117,110,98,111,117,110,100],[102,114,101,101],[110,97,109,101],[116,121,112,101],[97,114,103,115],[97,116,116,114]]
def gG:qU:=[119,114,111,110,103]
def dj:qU:=[119,104,97,116]
def nn:qU:=[111,119,110,101,114]
def Ga:qU:=[103,108,111,98,97,108]
def Gb:qU:=[110,111,110,101]
def bI:qU:=[98,108,111,99,107,115]
def bJ:qU:=[101,110,100]
def dC:qU:=[115,116,101,112,115]
def ef:qU:=[99,101,108,108,115]
def gF:qU:=[102,114,97,109,101,115]
def l0 (o:Int):qU:=if o=-1 then Ga else if o<0 then Gb else ug o
def aZ (p:qC) (b x:Nat):Int:=if b<p.length/\x<=7 then zI p b x else -2
noncomputable def un (p:qC) (line:qU):qU :=
 if line=bI then ug p.length else if line=bJ then aD.getD (uB p 150).en.toNat []
 else if line=dC then ug (150 - (uB p 150).left) else if line=ef then ug (yY p 150).cells.length
 else if line=gF then ug (yY p 150).made else dj
noncomputable def am (p:qC) (line:qU):qU:=match zM 32 line with
 | [o,a,b]=>if o=nn then (match zq a,zq b with
   | some x,some y=>l0 (aZ p x y)
   | _,_=>un p line) else un p line
 | _=>un p line
noncomputable def gn (s:qU) (lines:List qU):qU:=if lines.length<=20 then kI 10 (lines.map λl=>match vn s with
 | some p=>am p l
 | none=>gG) else []
section
variable {p:qC} {n f:Nat} {s t l w:qU} {ls:List qU} {i:Int}
noncomputable def rM (p:qC) (line:qU):qU :=
 if line=bI\/line=bJ\/line=dC\/line=ef\/line=gF then un p line
 else match zM 32 line with
  | [o,a,b]=>if o=nn then (match zq a,zq b with
    | some x,some y=>l0 (aZ p x y)
    | _,_=>dj) else dj
  | _=>dj
theorem Zm (h:(32:UInt8)∉l):zM 32 l=[l]:=Ag h
theorem Om:rM p l=am p l:=by
 unfold rM am
 split
 .rename_i h
  have:(32:UInt8)∉l:=by
   rcases h with rfl|rfl|rfl|rfl|rfl <;> decide
  rw [Zm this]
 grind[un]
end
abbrev bt (l:qU):ByteArray:=⟨l.toArray⟩
abbrev tx (l:qU):AV:=.sc (.string (bt l))
section
variable {a b l:qU} {i j:Nat}
@[simp] theorem bt_size:(bt l).size=l.length:=by simp [ByteArray.size]
@[simp] theorem bt_app:bt a++bt b=bt (a++b):=by
 apply ByteArray.ext;simp [ByteArray.data_append]
@[simp] theorem bt_extract:(bt l).extract i j=bt ((l.drop i).take (j - i)):=by
 apply ByteArray.ext;simp [ByteArray.data_extract]
end
section
variable {c:UInt8} {l m:qU} {n:Nat}
theorem LA:∀ n:Nat,yr n=Lib.decDigits n
 | n=>by
  rw [yr,Lib.decDigits]
  split
  .rfl
  .rw [LA (n / 10)]
   rfl
theorem UK {n:Int}:ug n=Lib.itoa n:=by
 grind[ug,Lib.itoa,LA]
theorem Jm (h:c∉l):Lib.index l [c]=-1:=by
 rw [Lib.index_one]
 induction l<;>grind[Lib.indexByte]
theorem Jl (h:c∉l):Lib.index (l++c::m) [c]=l.length:=by
 rw [Lib.index_one]
 induction l<;>grind[Lib.indexByte]
theorem My:∀ (n:Nat) (l:qU),l.length<=n->Lib.splitK [c] 0 (Lib.count l [c]) l=zM c l
 | n,l,hn=>by
  by_cases h:c∈l
  .obtain⟨a,b,rfl,ha⟩:=List.eq_append_cons_of_mem h;have hi:=Jl (m:=b) ha;rw [Lib.count_hit qB hi,Nat.add_comm 1,Lib.splitK,if_neg qP,hi,G1 ha];have e1:((a.length:Int)).toNat=a.length:=qA
   have e2:(a++c::b).drop (a.length+[c].length)=b:=by
    simp
   simp only [e1,dq];rw [e2]
   congr 1
   .simp
   .match n,hn with
    | 0,hn=>simp at hn
    | n+1,hn=>exact My n b qw
  .rw [Lib.count_miss (Jm h),Ag h]
   rfl
theorem Zi:Lib.splitB (bt [c]) 0 (Lib.countB (bt l) (bt [c])) (bt l)=(zM c l).map bt:=by
 have h:=Lib.splitB_data (bt [c]) 0 (Lib.countB (bt l) (bt [c])) (bt l);have h2:Lib.splitK [c] 0 (Lib.count l [c]) l=zM c l:=My l.length l (qa _);have h3:(Lib.splitB (bt [c]) 0 (Lib.countB (bt l) (bt [c])) (bt l)).map (λx=>x.data.toList)=zM c l:=h.trans h2;rw [<- h3,gU]
 simp_all[mH]
theorem Zj:Lib.countB (bt l) (bt [c])+1=(zM c l).length:=by
 have key:∀ (n:Nat) (l:qU),l.length<=n->Lib.count l [c]+1=(zM c l).length:=by
  intro n
  induction n with
  | zero =>
   intro l hn;obtain rfl:=ai (Nat.le_zero.1 hn)
   rfl
  | succ n ih =>
   intro l hn;by_cases h:c∈l
   .obtain⟨a,b,rfl,ha⟩:=List.eq_append_cons_of_mem h;have hi:=Jl (m:=b) ha
    have e2:(a++c::b).drop (a.length+[c].length)=b:=by
     simp
    rw [Lib.count_hit qB hi,e2,G1 ha,fG,<- ih b qw];omega
   grind[Lib.count_miss,Jm,Ag]
 exact key l.length l (qa _)
end
def uo (ws:List qU):List (List AV):=ws.map λw=>[tx w]
section
variable {ws:List qU} {i n:Nat} {f:Nm->Option Nm}
@[simp] theorem xrows_len:(uo ws).length=ws.length:=mY
@[simp] theorem Nk:(uo ws)[i]?=(ws[i]?).map λw=>[tx w]:=mY
@[simp] theorem xrows_getE {h:i<(uo ws).length}:(uo ws)[i]=[tx (ws[i]' lA)]:=mY
@[simp] theorem xrows_tr:(uo ws).map (λr=>r.map (AV.tr f))=uo ws:=mY
@[simp] theorem xrows_take:(uo ws).take n=uo (ws.take n):=mY
@[simp] theorem xrows_drop:(uo ws).drop n=uo (ws.drop n):=mY
theorem Nl:∀ r∈uo ws,r.length=1:=mY
@[simp] theorem xrows_nil:uo []=[]:=rfl
abbrev jd (ws:List qU):AV:=.sl 1 (uo ws)
end
theorem Rf {g:Gh} {w:World} {i:Nat} {v:Value} (h:RV g w (.pointer (some ⟨i,0,none⟩)) (.el [.sc v] 0)):w.cell? ⟨i,0,none⟩=some v:=by
 generalize hp:Value.pointer (some ⟨i,0,none⟩)=p at h
 cases h with
 | el b o off row f hC hcell ho hr =>
  have hb:b=i/\o=0:=by
   simp_all
  obtain⟨rfl,rfl⟩:=hb;have h1:=hcell 0 qB;have h2:=(hr 0 (.sc v) rfl).zy;rw [h1,h2]
theorem qAQ {P:Program} {gl:Nat->Option (List AV)} {f:FuncId} {az:List AV} {vs:List Value} {ws:List qU} {T:TypeId} (hc:ib P f) (has:az=vs.map .sc)
  (h:∀ (w:World),(∀ i v,gl i=some [.sc v]->w.cell? ⟨i,0,none⟩=some v)->Calls P f vs.toArray w λe w'=>e=.returned (.slice (some ⟨w.heap.size,0,none⟩) ws.length ws.length)/\w'=w.alloc (.cells (ws.map λx=>Value.string (bt x)).toArray T)) :
  qM P gl f az (λ_ y _=>y=jd ws):=by
 subst has;refine⟨hc,λroot C w g args _ _ _ hinv hgl hsz hargs=>?_⟩
 have ha:args=vs.toArray:=by
  apply Array.ext
  .simp_all
  .intro j h1 h2;have h3:j<vs.length:=qA;have:=(hargs j args[j] (.sc vs[j]) (io h1) uT).zy
   simp_all
 subst ha;refine (h w λi v e=>Rf (hgl i _ e).1.1).mono λe w' he=>?_;obtain⟨rfl,rfl⟩:=he;have hold:∀ b,b<w.heap.size->(w.alloc (.cells (ws.map λx=>Value.string (bt x)).toArray T)).heap[b]?=w.heap[b]?:=λb hb=>gY _ hb
 have hnew:(w.alloc (.cells (ws.map λx=>Value.string (bt x)).toArray T)).heap[w.heap.size]?=some (.cells (ws.map λx=>Value.string (bt x)).toArray T):=by
  exact heap_alloc_new w _
 have hsz':(w.alloc (.cells (ws.map λx=>Value.string (bt x)).toArray T)).heap.size=w.heap.size+1:=qB;refine⟨λb=>C b\/b=w.heap.size,g.more (λb=>C b\/b=w.heap.size),yP,jd ws,⟨λb hb=>.inl hb,λb hb=>?_,⟨rfl,rfl,rfl,?_,λb hb _=>hold b hb,rfl,λb hb=>?_,λ_ _ e=>vS,λ_ _ _ e=>vS,λ_ _ _ _ _ e=>vS⟩,λ_ e=>absurd rfl e,λ_ _ _=>⟨rfl,rfl⟩,λ_ _ _ _=>⟨rfl,rfl⟩⟩,?_,rfl⟩
 .grind
 .simp
 .rw [hsz'];rcases hb with hb|rfl
  .have:=hinv.uU b hb;omega
  .omega
 .refine .dA w.heap.size 0 ws.length ws.length 1 (uo ws) (λi _=>Value.string (bt (ws.getD i []))) (.inr rfl) qB (qa _) Nl ?_ ?_ ?_
  .simp_all
  .intro i j _ _
   rfl
  .intro i row hrow j a ha;rw [Nk] at hrow;obtain⟨x,hx,rfl⟩:=zu.1 hrow
   match j,ha with
   | 0,ha =>
    obtain rfl:=sI ha;simp only [bT,hx,Option.getD_some];exact .sc _
end Go.Hm
end
section
namespace Go.Hm
open Go Go.RowKit Go.Proofs Go.Shelf
section
variable {P:Program} {w:World}
theorem Ur {base:Nat} {e:TypeId} {v:Value} {n:Nat} {xs:List Value} (h:w.ownsRow base e 1 v n xs):w.ownsRow 0 e 1 v n xs:=by
 refine⟨h.1,?_⟩;rcases h.2 with h|⟨g,cap,cur,a1,_,a3⟩<;>grind
theorem YE (w:World) (t u ty e:TypeId) (i:TypeInfo) (ht:P.underlying t=some (.slice e)) (hu:P.underlying u=some .string) (hi:P.info? e=some i) (hz:i.zero=some (.int .u8 0))
  (hsize:i.size=1) (hby:i.bytes=1) (v:Value) (n:Nat) (xs:List Value) (hown:w.ownsRow 0 e 1 v n xs) (s:ByteArray) (h63:n+s.size<=maxLen) (hbytes:n+s.size<=140737488355328) :
  ∃ v' w',(Builtin.append_ #[t,u] ty #[v,.string s]).run P w=.ok v' w'/\w'.ownsRow 0 e 1 v' (n+s.size) (xs++Lib.strCells s)/\w.grownBy w' v.ownBlock/\(v'.ownBlock=v.ownBlock\/∃ g,v'.ownBlock=some g/\w.heap.size<=g):=by
 have hxl:xs.length=n:=by simpa using hown.1
 rcases hown.2 with⟨rfl,rfl⟩|⟨g,cap,cur,rfl,hbg,hg,hnc,hcm,hcs,htake⟩
 .have hx:xs=[]:=ai hxl;subst hx;obtain⟨v',w',h1,h2,h3,h4⟩:=Lib.run_append_own_string (P:=P) w w.heap.size t u ty e i ht hu hi hz hsize hby (.slice none 0 0) 0 [] (World.ownsRow_nil w _ e 1) s h63 hbytes (qa _);refine⟨v',w',h1,Ur h2,h3,?_⟩;rcases h2.2 with⟨rfl,_⟩|⟨g,cap,cur,rfl,hbg,_⟩
  .simp
  .exact .inr ⟨g,rfl,hbg⟩
 .obtain⟨v',w',h1,h2,h3,h4⟩:=Lib.run_append_own_string (P:=P) w 0 t u ty e i ht hu hi hz hsize hby _ n xs hown s h63 hbytes (Nat.zero_le _);refine⟨v',w',h1,h2,h3,?_⟩;by_cases hroom:n+s.size<=cap
  .have hcs1:n+s.size<=cur.size:=by
    omega
   have hr:=Lib.run_append_room_string (P:=P) w t u ty e i ht hu hi hsize g n cap cur hg s hroom hcs1;rw [hr] at h1
   injection h1 with e1 e2
   exact .inl (by rw [<- e1];rfl)
  .have holds:∀ j u,xs[j]?=some u->w.cell? ((⟨g,0,none⟩:Addr).add j)=some u:=hown.cells (g:=g) rfl;have hr:=Lib.run_append_grow_string (P:=P) w t u ty e i (.int .u8 0) ht hu hi hz ⟨g,0,none⟩ n cap xs qP holds s qA qA (by rw [hby];exact growslice_fits qA qA);rw [hr] at h1
   injection h1 with e1 e2
   exact .inr ⟨w.heap.size,by rw [<- e1];rfl,qa _⟩
theorem qBY {ops:Array Oper} {rest:List Oper} {o:Oper} {a:Go.Act} {Q:Exit->Go.Act->World->Prop} (hgd:o.guard=none) (sl x:Operand) (t u:TypeId)
  (ho:o.op=.call { callee:=.builtin .append,args:=#[sl,x],argTypes:=#[t,u] })
  (e:TypeId) (i:TypeInfo) (ht:P.underlying t=some (.slice e)) (hu:P.underlying u=some .string) (hi:P.info? e=some i) (hz:i.zero=some (.int .u8 0))
  (hsize:i.size=1) (hby:i.bytes=1)
  (v:Value) (n:Nat) (xs:List Value) (hs:a.eval sl=v) (hown:w.ownsRow 0 e 1 v n xs) (s:ByteArray) (hx:a.eval x=.string s)
  (h63:n+s.size<=maxLen) (hbytes:n+s.size<=140737488355328)
  (h:∀ v' w',w'.ownsRow 0 e 1 v' (n+s.size) (xs++Lib.strCells s)->w.grownBy w' v.ownBlock->(v'.ownBlock=v.ownBlock\/∃ g,v'.ownBlock=some g/\w.heap.size<=g)->wpList P ops Q rest (a.put o.dst v') w'):wpList P ops Q (o::rest) a w:=by
 refine wpList_plain hgd λK hK=>?_;obtain⟨v',w',hr,h2,h3,h4⟩:=YE (P:=P) w t u o.type e i ht hu hi hz hsize hby v n xs hown s h63 hbytes;unfold Oper.wp execOp;simp only [ho,resolve,invoke,builtin,Sem.run_bind,Sem.run_pure,Result.andThen_ok,List.map_toArray,al,oW,hs,hx,hr];exact hK _ _ (h v' w' h2 h3 h4)
end
section
variable {P:Program} {ρ:Ren}
structure DO (P:Program) (ρ:Ren) (w w':World) (b:Nat) (v:Value) (bs:List Value) (s:ByteArray) (v':Value):Prop where
 top:w'.heap[b]?=some (.cells #[.pointer (some ⟨b,0,none⟩),v'] (ρ.t 72) (0,0))
 own:w'.ownsRow 0 (ρ.t 5) 1 v' (bs.length+s.size) (bs++Lib.strCells s)
 ne:v'.ownBlock≠some b
 qG:v'.ownBlock=v.ownBlock\/∃ g,v'.ownBlock=some g/\w.heap.size<=g
 os:w'.os=w.os
 tape:w'.tape=w.tape
 output:w'.output=w.output
 size:w.heap.size<=w'.heap.size
 wN:∀ k,k<w.heap.size->k≠b->v.ownBlock≠some k->w'.heap[k]?=w.heap[k]?
set_option maxHeartbeats 2000000 in
set_option maxRecDepth 100000 in
theorem qB3 (L:Lays.n166 P ρ) (X:Builder.Extra P ρ) (b:Nat) (p v:Value) (bs:List Value) (s:ByteArray) (w:World) (hbk0:w.heap[b]?=some (.cells #[p,v] (ρ.t 72) (0,0)))
  (hp:p=.pointer none\/p=.pointer (some ⟨b,0,none⟩)) (hown0:w.ownsRow 0 (ρ.t 5) 1 v bs.length bs) (hne0:v.ownBlock≠some b) (hlen:bs.length+s.size<=140737488355328) :
  Calls P (ρ.f 166) #[.pointer (some ⟨b,0,none⟩),.string s] w λe w'=>e=.returned (.tuple #[.int .i64 s.size,.nilIface])/\∃ v',DO P ρ w w' b v bs s v':=by
 obtain⟨i0,hi,hz0,hz1,hz2⟩:=info_parts X.infoByte;have mixed:=L.mixed;have t72:=L.t72;have a72:=L.a72;have z72:=L.z72;have v72:=L.v72;have u72:=run_underlying L.t72;have t70:=L.t70;have a70:=L.a70;have z70:=L.z70;have v70:=L.v70;have u70:=run_underlying L.t70;have t37:=L.t37;have a37:=L.a37;have z37:=L.z37;have v37:=L.v37;have u37:=run_underlying L.t37;have t3:=L.t3;have a3:=L.a3;have z3:=L.z3;have v3:=L.v3;have u3:=run_underlying L.t3;have t9:=L.t9;have a9:=L.a9;have z9:=L.z9;have v9:=L.v9;have u9:=run_underlying L.t9;have t4:=L.t4;have a4:=L.a4;have z4:=L.z4;have v4:=L.v4;have u4:=run_underlying L.t4;have t164:=L.t164;have a164:=L.a164;have z164:=L.z164;have v164:=L.v164;have u164:=run_underlying L.t164;have t5:=X.t5;have a5:=X.a5;have z5:=X.z5;have v5:=X.v5;have u5:=run_underlying X.t5;have e240:∀ args w,(callFunc (ρ.f 240) args).run P w=.ok (.enter (ρ.f 240) args) w:=enters_of L.f240 qc rfl
 have hlt0:b<w.heap.size:=by
  grind
 have hcc:Calls P (ρ.f 240) #[.pointer (some ⟨b,0,none⟩)] w λe w1=>e=.returned (.tuple #[])/\w1.heap[b]?=some (.cells #[.pointer (some ⟨b,0,none⟩),v] (ρ.t 72) (0,0))/\w1.os=w.os/\w1.tape=w.tape/\w1.output=w.output/\w1.heap.size=w.heap.size/\∀ k,k≠b->w1.heap[k]?=w.heap[k]?:=by
  have hB:Lib.BuilderAt (ρ.t 72) (ρ.t 5) 0 b p bs w:=⟨Nat.zero_le _,v,hbk0,hown0,hne0⟩;rcases hp with rfl|rfl
  .refine (Any.Builder_copyCheck_fresh { L with } X.toX72 b w hB.cell0 hB.shape hB.frozen0).mono ?_
   grind[World.setCell]
  .refine (Any.Builder_copyCheck_used { L with } X.toX72 b w hB.cell0).mono ?_
   simp_all
 go_enter L.f166,Body.n166_ntmps ρ
 go_wp2_with (go_at_fn (ρ.f 240);refine hcc.mono ?_)
 rintro e w1 ⟨rfl,hbk,o1,o2,o3,o4,o5⟩
 have hown:w1.ownsRow 0 (ρ.t 5) 1 v bs.length bs:=by
  refine⟨hown0.1,?_⟩;rcases hown0.2 with h|⟨g,cap,cur,rfl,a2,a3,a4⟩<;>grind
 have c0:w1.cell? ⟨b,0,none⟩=some (.pointer (some ⟨b,0,none⟩)):=by rw [Lib.cell_of_heap hbk];rfl
 have c1:w1.cell? ⟨b,1,none⟩=some v:=by rw [Lib.cell_of_heap hbk];rfl
 go_wp2_with (at_builtin;refine qBY rfl _ _ (ρ.t 37) (ρ.t 9) rfl (ρ.t 5) i0 L.t37 L.t9 hi hz0 hz1 hz2 _ _ _ rfl hown s rfl ?c3 ?c4 ?_)
 case c3=>grind[maxLen]
 case c4=>omega
 intro v' w2 hown' hgrow hfr;have hlt:b<w1.heap.size:=qA
 have hb2:w2.heap[b]?=some (.cells #[.pointer (some ⟨b,0,none⟩),v] (ρ.t 72) (0,0)):=by
  rw [hgrow.block b hlt (λe=>hne0 e.symm)];exact hbk
 have d0:w2.cell? ⟨b,0,none⟩=some (.pointer (some ⟨b,0,none⟩)):=by rw [Lib.cell_of_heap hb2];rfl
 have d1:w2.cell? ⟨b,1,none⟩=some v:=by rw [Lib.cell_of_heap hb2];rfl
 have f1:w2.frozen? ⟨b,1,none⟩=false:=Lib.frozen_of_heap hb2 1
 obtain⟨ao,n',cap,rfl⟩:∃ ao n' cap,v'=.slice ao n' cap:=by
  rcases hown'.2 with⟨hv,_⟩|⟨g,cap,cur,hv,_⟩<;>grind
 go_wp2
 go_ret2
 have hne:=Lib.ownBlock_ne hown' hb2 X.neB5;have yX:∀ k,k≠b->(w2.setCell ⟨b,1,none⟩ (.slice ao n' cap)).heap[k]?=w2.heap[k]?:=λk hk=>Below.heap_setCell _ _ _ _ (λe=>hk (by simp [e]));refine⟨rfl,_,?_,?_,hne,?_,?_,?_,?_,?_,?_⟩
 .grind[World.setCell]
 .exact hown'.kept (row:=some b) ⟨rfl,rfl,rfl,qB,λk _ hk=>yX k (λe=>hk (by simp [e]))⟩ (Or.inr hne)
 .exact hfr
 .exact hgrow.os.trans o1
 .exact hgrow.tape.trans o2
 .exact hgrow.output.trans o3
 .have:=hgrow.size
  simp_all
 .intro k hk hkb hkv;rw [yX k hkb,hgrow.block k qA (λe=>hkv e.symm),o5 k hkb]
end
def bW (l:qU):List Value:=l.map λc=>Value.int .u8 c.toNat
def an (l:qU):List (List AV):=l.map λc=>[.sc (.int .u8 c.toNat)]
def mO (V:Nm) (T e:TypeId) (a:AV) (l:qU):Nm->Option AO:=λn=>if n=V then some (.vw T 2 true [[a,.hs (.c V 0 1) 1 0 l.length]]) else if n=.c V 0 1 then some (.vw e 1 false (an l)) else none
section
variable {V:Nm} {T e:TypeId} {a:AV} {l s:qU} {g:Gh} {w:World}
@[simp] theorem bcells_len:(bW l).length=l.length:=by simp [bW]
@[simp] theorem byrows_len:(an l).length=l.length:=by simp [an]
theorem Bf {i j:Nat}:Nm.c V i j≠V:=Nm.nN (Nm.kj V)
@[simp] theorem Hl:mO V T e a l V=some (.vw T 2 true [[a,.hs (.c V 0 1) 1 0 l.length]]):=by simp [mO]
@[simp] theorem PH:mO V T e a l (.c V 0 1)=some (.vw e 1 false (an l)):=by simp [mO,Bf]
theorem PI {n:Nm} (h:mO V T e a l n≠none):n=V\/n=.c V 0 1:=by
 grind[mO]
def bQ (H:Nm->Option AO) (V:Nm) (T e:TypeId) (l:qU):Prop :=
 (l=[]/\H V=some (.vw T 2 true [[.sc (.pointer none),.sc (.slice none 0 0)]])) \/
 (l≠[]/\H V=some (.vw T 2 true [[.pt V 0,.hs (.c V 0 1) 1 0 l.length]])/\H (.c V 0 1)=some (.vw e 1 false (an l)))
theorem Us {v:Value} (hv:RV g w v (.hs (.c V 0 1) 1 0 l.length)) (ho:j6 g w (.c V 0 1) (.vw e 1 false (an l))):w.ownsRow 0 e 1 v l.length (bW l)/\v.ownBlock=g.φ (.c V 0 1):=by
 generalize hn:l.length=len at hv;refine⟨⟨by simp [hn],?_⟩,?_⟩
 .cases hv with
  | cV _ _ hk=>simp
  | aV _ _ _ _ b cap ad hk h1 h2 h3 =>
   right;subst hn;simp only [j6,hk] at ho;obtain⟨⟨cur,c1,c2,c3,c4,c5,c6,c7⟩,_,c8⟩:=ho;have hc8:=c8 trivial;have hcap:cap=g.κ (.c V 0 1):=qA;have had:=h3 qA;rw [Nat.zero_mul] at had;refine⟨b,cap,cur,by rw [had],Nat.zero_le _,c1,h1,qA,qA,?_⟩;apply y6;intro i;rw [tg,Nat.mul_one];by_cases hi:i<l.length
   .rw [if_pos hi];have h4:=(c7 i [.sc (.int .u8 l[i].toNat)] (by simp [an,hi]) 0 _ rfl).zy;have hlt:i<cur.size:=qA
    simp_all[bW]
   grind[bW]
 .cases hv with
  | cV _ _ hk=>rw [hk];rfl
  | aV _ _ _ _ b cap ad hk h1 h2 h3 =>
   simp only [j6,hk] at ho;have hc8:=ho.2.2 trivial;have had:=h3 qA;rw [hk,had]
   rfl
theorem Ut {v:Value} {b:Nat} (hk:v.ownBlock=g.φ (.c V 0 1)) (hcap:∀ ad n cap,v=.slice ad n cap->g.κ (.c V 0 1)=cap) (h:w.ownsRow 0 e 1 v l.length (bW l)) (h0:0<l.length) :
  RV g w v (.hs (.c V 0 1) 1 0 l.length)/\j6 g w (.c V 0 1) (.vw e 1 false (an l)):=by
 rcases h.2 with⟨rfl,hl⟩|⟨b,cap,cur,rfl,_,c1,c2,c3,c4,c5⟩
 .omega
 .have hk':g.φ (.c V 0 1)=some b:=hk.symm;have hκ:=hcap _ _ _ rfl
  have get:∀ i (hi:i<l.length),cur.getD (i * 1+0) undef=Value.int .u8 l[i].toNat:=by
   intro i hi;have h1:(cur.toList.take (l.length * 1))[i]?=(bW l)[i]?:=by rw [c5]
   rw [tg,Nat.mul_one,if_pos hi] at h1;have hlt:i<cur.size:=qA
   simp_all[bW]
  refine⟨.aV _ _ _ _ b cap _ hk' c2 qA (λ_=>qB),?_⟩;simp only [j6,hk'];refine⟨⟨cur,c1,qA,qA,qu,by simp [an],?_,?_⟩,λe=>vS,λ_=>qA⟩
  .intro j hj;have hj':j<l.length:=qP;have:=get j hj';simp only [Nat.mul_one,dq] at this;rw [this]
   rfl
  .intro i row hrow j x hx;simp only [an,jZ] at hrow;obtain⟨c,hc,rfl⟩:=zu.1 hrow;obtain⟨hi,hE⟩:=gS hc
   match j,hx with
   | 0,hx =>
    obtain rfl:=sI hx;rw [get i hi,hE];exact .sc _
end
def N3:Value->Nat
 | .slice _ _ c=>c
 | _=>0
section
variable {P:Program} {ρ:Ren}
theorem Hp {H:Nm->Option AO} {V:Nm} {T e:TypeId} {l:qU} {g:Gh} {w:World} {b:Nat} (hH:bQ H V T e l) (hobj:∀ n o,H n=some o->j6 g w n o) (hk:g.φ V=some b) :
  ∃ p v,w.heap[b]?=some (.cells #[p,v] T (0,0))/\(p=.pointer none\/p=.pointer (some ⟨b,0,none⟩))/\w.ownsRow 0 e 1 v l.length (bW l)/\(∀ x,v.ownBlock=some x->∃ o,H (.c V 0 1)=some o/\g.φ (.c V 0 1)=some x)/\H V≠none/\g.κ V=1:=by
 have two:∀ (cur:Array Value),cur.size=1 * 2->∃ p v,cur=#[p,v]:=by
  intro cur c2;rcases cur with⟨_|⟨a0,_|⟨a1,_|⟨a2,tl⟩⟩⟩⟩<;>grind
 rcases hH with⟨rfl,hHV⟩|⟨_,hHV,hHB⟩
 .have h0:=hobj V _ hHV;simp only [j6,hk] at h0;obtain⟨⟨cur,c1,c2,c3,c4,c5,c6,c7⟩,c8,_⟩:=h0;have hκ:g.κ V=1:=c8 trivial;rw [hκ] at c2;obtain⟨p,v,rfl⟩:=two cur c2;have hp:p=.pointer none:=(c7 0 _ rfl 0 _ rfl).zy;have hv:v=.slice none 0 0:=(c7 0 _ rfl 1 _ rfl).zy;subst hp hv;exact⟨_,_,c1,.inl rfl,World.ownsRow_nil w 0 e 1,λx hx=>(by cases hx),qP,hκ⟩
 .have h0:=hobj V _ hHV;have h1:=hobj (.c V 0 1) _ hHB;simp only [j6,hk] at h0;obtain⟨⟨cur,c1,c2,c3,c4,c5,c6,c7⟩,c8,_⟩:=h0;have hκ:g.κ V=1:=c8 trivial;rw [hκ] at c2;obtain⟨p,v,rfl⟩:=two cur c2;have hp:RV g w p (.pt V 0):=c7 0 _ rfl 0 _ rfl;have hv:RV g w v (.hs (.c V 0 1) 1 0 l.length):=c7 0 _ rfl 1 _ rfl;obtain⟨ho,hob⟩:=Us hv h1
  have hpp:p=.pointer (some ⟨b,0,none⟩):=by
   cases hp<;>grind
  grind
set_option maxHeartbeats 1000000 in
theorem qB2 (L:Lays.n166 P ρ) (X:Builder.Extra P ρ) (gl:Nat->Option (List AV)) (V:Nm) (l s:qU) (hs:s≠[]) (hlen:l.length+s.length<=140737488355328)
  (H:Nm->Option AO) (hH:bQ H V (ρ.t 72) (ρ.t 5) l) :
  qZ P gl (ρ.f 166) (Nm.under V) [.pt V 0,tx s] H (λ_ y H'=>y=.zX [.sc (.int .i64 s.length),.sc .nilIface]/\bQ H' V (ρ.t 72) (ρ.t 5) (l++s)) zG:=by
 have hspos:0<s.length:=List.length_pos_iff.2 hs;refine⟨⟨_,L.f166,qc,qc⟩,λroot C w g args hr hru hHD hinv hgl hsz hargs=>?_⟩
 obtain⟨a0,a1,rfl⟩:∃ a0 a1,args=#[a0,a1]:=by
  rcases args with⟨_|⟨a0,_|⟨a1,_|⟨a2,tl⟩⟩⟩⟩<;>grind
 have r0:=hargs 0 a0 (.pt V 0) rfl rfl;have r1:=(hargs 1 a1 (tx s) rfl rfl).zy;subst r1
 cases r0 with
 | pt _ _ b hk =>
 obtain⟨p,v,c1,hpp,ho,hob,hVn,hκ⟩:=Hp hH hinv.obj hk
 have hne:v.ownBlock≠some b:=by
  intro e;obtain⟨o',e1,e2⟩:=hob b e;obtain⟨o,e3⟩:=cH.1 hVn;exact Bf (hinv.inj _ _ _ _ b e1 e3 e2 hk)
 refine (qB3 L X b p v (bW l) (bt s) w c1 hpp qP hne qP).mono λe w' he=>?_;obtain⟨rfl,v',hW⟩:=he
 have hown:w'.ownsRow 0 (ρ.t 5) 1 v' (l++s).length (bW (l++s)):=by
  have:=hW.own
  simp_all[Lib.strCells,bW]
 have hlive:∀ x,v'.ownBlock=some x->(¬ C x/\(w.heap.size<=x\/vW g H x)/\x<w'.heap.size):=by
  intro x hx
  have hlt:x<w'.heap.size:=by
   rcases hown.2 with⟨rfl,_⟩|⟨y,cap,cur,rfl,_,d1,_⟩
   .cases hx
   .obtain rfl:y=x:=sI hx
    grind
  rcases hW.qG with hb|⟨y,hy,hb⟩
  .obtain⟨o',e1,e2⟩:=hob x (hb.symm.trans hx);obtain⟨x1,x2,_⟩:=hinv.qG _ _ x e1 e2
   simp_all
  .rw [hx] at hy;obtain rfl:=sI hy;exact⟨λhc=>by have:=hinv.uU _ hc;omega,.inl hb,hlt⟩
 let g':Gh:={ C:=C,φ:=λn=>if n=.c V 0 1 then v'.ownBlock else g.φ n,κ:=λn=>if n=.c V 0 1 then N3 v' else g.κ n }
 have hφ:∀ n,n≠.c V 0 1->g'.φ n=g.φ n/\g'.κ n=g.κ n:=λn h=>by
  grind
 have hV:g'.φ V=some b:=by
  grind[Bf]
 have hVκ:g'.κ V=1:=by
  grind[Bf]
 have hB:g'.φ (.c V 0 1)=v'.ownBlock:=if_pos rfl;have hBκ:g'.κ (.c V 0 1)=N3 v':=if_pos rfl;obtain⟨q1,q2⟩:=Ut (V:=V) (e:=ρ.t 5) (l:=l++s) (g:=g') (w:=w') (v:=v') (b:=b) hB.symm (λad n cap e=>by rw [hBκ,e];rfl) hown qu;have hdom:∀ n,mO V (ρ.t 72) (ρ.t 5) (.pt V 0) (l++s) n≠none->n=V\/n=.c V 0 1:=λn=>PI;refine⟨C,g',mO V (ρ.t 72) (ρ.t 5) (.pt V 0) (l++s),.zX [.sc (.int .i64 s.length),.sc .nilIface],⟨λ_ h=>h,λ_ h=>.inl h,⟨hW.os,hW.tape,hW.output,hW.size,?_,rfl,?_,?_,?_,?_⟩,?_,?_,?_⟩,?_,rfl,.inr ⟨by simp [hs],Hl,PH⟩⟩
 .intro k hk2 hno
  refine hW.wN k hk2 (λe=>hno ⟨V,hVn,qP⟩) (λe=>by
   obtain⟨o',e1,e2⟩:=hob _ e;exact hno ⟨.c V 0 1,qP,e2⟩)
 .intro x hx;exact uQ (hinv.uU x hx) hW.size
 .intro n o e;have hn:=hdom n qw;rcases hn with rfl|rfl
  .rw [Hl] at e;obtain rfl:=sI e;simp only [j6,hV];refine⟨⟨_,hW.top,qP,by rw [hVκ];decide,qP,qB,?_,?_⟩,λ_=>qA,λe=>vS⟩
   .intro j hj;simp only [wm,rE] at hj
    match j,hj with
    | 0,_=>rfl
    | 1,_ =>
     show v'.oneCell'=true
     rcases hown.2 with⟨rfl,_⟩|⟨y,cap,cur,rfl,_⟩ <;> rfl
   .intro i row hrow j x hx
    match i,hrow with
    | 0,hrow =>
     obtain rfl:=sI hrow
     match j,hx with
     | 0,hx =>
      obtain rfl:=sI hx;exact .pt _ _ b hV
     | 1,hx =>
      simp_all
  simp_all
 .intro n o x e hx;rcases hdom n qw with rfl|rfl
  .rw [hV] at hx;obtain rfl:=sI hx;obtain⟨o,e3⟩:=cH.1 hVn;obtain⟨x1,x2,x3⟩:=hinv.qG _ _ b e3 hk
   grind[uQ,DO.size]
  simp_all
 .grind[DO.ne]
 .grind[Nm.under]
 .grind[Nm.under]
 .simp_all
 .exact .zX [_,_] _ rfl λj v x hv hx=>by
   match j,hv,hx with
   | 0,hv,hx=>simp at hv hx;subst hv;subst hx;exact .sc _
   | 1,hv,hx=>simp at hv hx;subst hv;subst hx;exact .sc _
end
structure HR (w w':World) (b:Nat):Prop where
 os:w'.os=w.os
 tape:w'.tape=w.tape
 output:w'.output=w.output
 size:w.heap.size<=w'.heap.size
 wN:∀ k,k<w.heap.size->k≠b->w'.heap[k]?=w.heap[k]?
theorem Sa {w:World} {b n:Nat}:HR w (w.drew.freeze ⟨b,0,none⟩ n) b:=by
 unfold World.freeze
 split
 .exact⟨rfl,rfl,rfl,qa _,λ_ _ _=>rfl⟩
 .refine⟨rfl,rfl,rfl,qB,λk _ hk=>?_⟩;simp only [Array.getElem?_modify];rw [if_neg (λe=>hk e.symm)]
  rfl
section
variable {P:Program} {ρ:Ren}
set_option maxHeartbeats 1000000 in
set_option maxRecDepth 100000 in
theorem τ (L:Lays.n169 P ρ) (X:Builder.Extra P ρ) (b:Nat) (p v:Value) (l:qU) (w:World) (hbk:w.heap[b]?=some (.cells #[p,v] (ρ.t 72) (0,0)))
  (hown:w.ownsRow 0 (ρ.t 5) 1 v l.length (bW l)) (h0:l≠[]) :
  Calls P (ρ.f 169) #[.pointer (some ⟨b,0,none⟩)] w λe w'=>e=.returned (.string (bt l))/\∃ g,v.ownBlock=some g/\HR w w' g:=by
 have hl0:l.length≠0:=qP
 obtain⟨g,cap,cur,rfl,hbg,hg,hnc,hcm,hcs,htake⟩:∃ g cap cur,v=.slice (some ⟨g,0,none⟩) l.length cap/\0<=g/\w.heap[g]?=some (.cells cur (ρ.t 5) (0,0))/\l.length<=cap/\cap<=maxLen/\cur.size=cap * 1/\cur.toList.take (l.length * 1)=bW l:=by
  rcases hown.2 with⟨_,hz⟩|⟨g,cap,cur,hv,r⟩<;>grind
 have c1:w.drew.cell? ⟨b,1,none⟩=some (.slice (some ⟨g,0,none⟩) l.length cap):=by
  have:w.drew.heap[b]?=some (.cells #[p,.slice (some ⟨g,0,none⟩) l.length cap] (ρ.t 72) (0,0)):=hbk;rw [Lib.cell_of_heap this];rfl
 have hSD:(Builtin.unsafeSliceData_ #[(ρ.t 37)] (ρ.t 127) #[.slice (some ⟨g,0,none⟩) l.length cap]).run P w.drew=.ok (.pointer (some ⟨g,0,none⟩)) w.drew :=
  Lib.run_unsafeSliceData_row _ _ _ _ _ _ qA
 have hUS:(Builtin.unsafeString_ #[(ρ.t 127),(ρ.t 3)] (ρ.t 9) #[.pointer (some ⟨g,0,none⟩),.int .i64 l.length]).run P w.drew=.ok (.string ⟨l.toArray⟩) (w.drew.freeze ⟨g,0,none⟩ l.length):=by
  refine Lib.run_unsafeString_row w.drew (ρ.t 127) (ρ.t 3) (ρ.t 9) (ρ.t 5) L.t127 X.cellsByte g cur.size (by have hg':w.drew.heap[g]?=some (.cells cur (ρ.t 5) (0,0)):=hg;grind[World.shape?]) l h0 qA rf ?_;intro j x hx;have:=hown.cells (g:=g) rfl j (.int .u8 x.toNat) (by simp [bW,hx]);exact this
 have mixed:=L.mixed;have t72:=L.t72;have a72:=L.a72;have z72:=L.z72;have v72:=L.v72;have u72:=run_underlying L.t72;have t70:=L.t70;have a70:=L.a70;have z70:=L.z70;have v70:=L.v70;have u70:=run_underlying L.t70;have t37:=L.t37;have a37:=L.a37;have z37:=L.z37;have v37:=L.v37;have u37:=run_underlying L.t37;have t127:=L.t127;have a127:=L.a127;have z127:=L.z127;have v127:=L.v127;have u127:=run_underlying L.t127;have t3:=L.t3;have a3:=L.a3;have z3:=L.z3;have v3:=L.v3;have u3:=run_underlying L.t3;have t9:=L.t9;have a9:=L.a9;have z9:=L.z9;have v9:=L.v9;have u9:=run_underlying L.t9;have t5:=X.t5;have a5:=X.a5;have z5:=X.z5;have v5:=X.v5;have u5:=run_underlying X.t5
 go_enter L.f169,Body.n169_ntmps ρ
 go_wp2
 go_region_o
 all_goals (go_wp2;go_ret;exact⟨rfl,g,rfl,Sa⟩)
set_option maxHeartbeats 1000000 in
theorem σ (L:Lays.n169 P ρ) (X:Builder.Extra P ρ) (gl:Nat->Option (List AV)) (V:Nm) (l:qU) (H:Nm->Option AO) (hH:bQ H V (ρ.t 72) (ρ.t 5) l) :
  qZ P gl (ρ.f 169) (Nm.under V) [.pt V 0] H (λ_ y H'=>y=tx l/\H'=yP) zG:=by
 refine⟨⟨_,L.f169,qc,qc⟩,λroot C w g args hr hru hHD hinv hgl hsz hargs=>?_⟩
 obtain⟨a0,rfl⟩:∃ a0,args=#[a0]:=by
  rcases args with⟨_|⟨a0,_|⟨a1,tl⟩⟩⟩<;>grind
 have r0:=hargs 0 a0 (.pt V 0) rfl rfl
 cases r0 with
 | pt _ _ b hk =>
 obtain⟨p,v,c1,hpp,ho,hob,hVn,hκ⟩:=Hp hH hinv.obj hk
 have fin:∀ w':World,w'.os=w.os->w'.tape=w.tape->w'.output=w.output->w.heap.size<=w'.heap.size->(∀ k,k<w.heap.size->v.ownBlock≠some k->w'.heap[k]?=w.heap[k]?) ->
   ∃ C' g' H' x,cA (vW g H) C w g (Nm.under V) root H H' C' g' w'/\RV g' w' (.string (bt l)) x/\x=tx l/\H'=yP:=by
  intro w' q1 q2 q3 q4 q5;refine⟨C,g,yP,tx l,⟨λ_ h=>h,λ_ h=>.inl h,⟨q1,q2,q3,q4,?_,hinv.hC,?_,λ_ _ e=>vS,λ_ _ _ e=>vS,λ_ _ _ _ _ e=>vS⟩,λ_ e=>absurd rfl e,λ_ _ _=>⟨rfl,rfl⟩,λ_ _ _ _=>⟨rfl,rfl⟩⟩,.sc _,rfl,rfl⟩
  .intro k hk2 hno;refine q5 k hk2 λe=>?_;obtain⟨o',e1,e2⟩:=hob _ e;exact hno ⟨.c V 0 1,qP,e2⟩
  .intro y hy;exact uQ (hinv.uU y hy) q4
 rcases hH with⟨rfl,hHV⟩|⟨h0,hHV,hHB⟩
 .have hv:v=.slice none 0 0:=by
   have o0:=hinv.obj V _ hHV;simp only [j6,hk] at o0;obtain⟨⟨cur,d1,d2,d3,d4,d5,d6,d7⟩,_⟩:=o0;rw [d1] at c1
   injection c1 with c1
   injection c1 with c1 _ _
   have:=(d7 0 _ rfl 1 _ rfl).zy
   simp_all
  subst hv;refine (Any.Builder_String_nil L X w.heap.size b p w c1).mono λe w' he=>?_;obtain⟨rfl,hb⟩:=he;exact fin w' hb.os hb.tape hb.output hb.size λk hk2 _=>hb.block k hk2
 .refine (τ L X b p v l w c1 ho h0).mono λe w' he=>?_;obtain⟨rfl,x,hx,hW⟩:=he;exact fin w' hW.os hW.tape hW.output hW.size λk hk2 hne=>hW.wN k hk2 λe=>hne qP
end
end Go.Hm
end
section
namespace Go.Hm
open Go Go.RowKit
section
variable {P:Program} {own:Nat->Prop} {C:Nat->Prop} {w0:World} {g:Gh} {st:St} {a:Go.Act} {w:World}
def D1 (T:TypeId) (d:Nat) (st:St):St :=
 ((st.kill (.s d)).zT (.s d) (.vw T 2 true [[.sc (.pointer none),.sc (.slice none 0 0)]])).put (some d) (.pt (.s d) 0)
theorem Oj {o:Oper} {T:TypeId} {d:Nat} (h:Rg P own C w0 g st a w) (ho:o.op=.alloc T) (hd:o.dst=some d) (hn:d<st.n) (hq:jx P T=some [.sc (.pointer none),.sc (.slice none 0 0)]) :
  aQ P o a w λa' w'=>kA P own C w0 g (D1 T d st) a' w':=by
 obtain⟨i,z,q1,q2,q3,q4,q5⟩:=HK hq
 have hz:z.cells=#[.pointer none,.slice none 0 0]:=by
  have h2:z.cells.toList=[.pointer none,.slice none 0 0]:=by
   rcases hl:z.cells.toList with _|⟨x,_|⟨y,_|⟨u,tl⟩⟩⟩ <;> rw [hl] at q4 <;> simp at q4
   simp_all
  grind
 refine .inl ⟨.pointer (some ⟨w.heap.size,0,none⟩),w.alloc (.cells z.cells T),?_,?_⟩
 .simp [execOp,ho,Instr.alloc,zeroValue,typeInfo,q1,q2,newVar,newRow]
 .rw [hd,hz]
  have hm:=h.made (.s d) (.vw T 2 true [[.sc (.pointer none),.sc (.slice none 0 0)]]) w.heap.size 1 (w.alloc (.cells #[.pointer none,.slice none 0 0] T)) [] (λp hp=>by cases hp) (λ_=>false) rfl rfl rfl qB (.inl (qa _)) qB (λb' _ hb'=>gY _ hb') (by
   simp only [j6,(kV (g:=g) (.s d) (some w.heap.size) 1).1,(kV (g:=g) (.s d) (some w.heap.size) 1).2];refine⟨⟨_,heap_alloc_new w _,qB,qe,qB,qB,?_,?_⟩,λ_=>rfl,λe=>vS⟩
   .intro j hj
    match j,hj with
    | 0,_=>rfl
    | 1,_=>rfl
   .intro i row hrow j x hx
    match i,hrow with
    | 0,hrow =>
     obtain rfl:=sI hrow
     match j,hx with
     | 0,hx=>obtain rfl:=sI hx;exact .sc _
     | 1,hx=>obtain rfl:=sI hx;exact .sc _)
  have ek:(st.nm (kl (.s d)) (λm=>if (λ_=>false:Nm->Bool) m then none else jw (.s d) st.hp m))=st.kill (.s d):=sB;rw [ek] at hm
  have hp:=hm.put (d:=some d) (v:=.pointer (some ⟨w.heap.size,0,none⟩)) (x:=.pt (.s d) 0) (λt et=>by
   obtain rfl:=sI et;exact hn) (.pt _ _ _ (kV _ _ _).1)
  exact⟨_,u6.fresh rfl,hp⟩
end
section
variable {X:Ctx} {st:St} {K:St->Prop} {E:AV->St->Prop} {ty:TypeId} {pos:String} {aft:Array Edge} {g:Option (Nat×Bool)} {d:Nat} {T:TypeId}
theorem Ng (hd:d<X.n:=by first|(simp;done)|fail) (hq:jx X.P T=some [.sc (.pointer none),.sc (.slice none 0 0)]) (h:K (D1 T d st)):qn X ⟨some d,.alloc T,ty,pos,aft,g⟩ K E st :=
 .ck (λ_ _ _ _ e' h=>Oj h rfl rfl (e' ▸ hd) hq) ⟨rfl,rfl⟩ h
end
end Go.Hm
end
section
namespace Go.Hm
open Go Go.RowKit Go.Proofs Go.Shelf
theorem Ow {g:Gh} {w:World} {args:Array Value} {vs:List Value} (hsz:args.size=(vs.map AV.sc).length) (h:∀ (j:Nat) v x,args[j]?=some v->(vs.map AV.sc)[j]?=some x->RV g w v x):args=vs.toArray:=by
 apply Array.ext
 .simp_all
 .intro j h1 h2;have h3:j<vs.length:=qA;have:=(h j args[j] (.sc vs[j]) (io h1) uT).zy
  simp_all
section
variable {P:Program} {ρ:Ren}
theorem Zl (L:Lays.n146 P ρ) (hi9:(P.info? (ρ.t 9)).map (λi=>(i.zero,i.size,i.bytes))=some (some (.string ByteArray.empty),1,16)) (gl:Nat->Option (List AV)) (m:Int) (hg:gl (ρ.g 1)=some [.sc (.int .i64 m)]) (l:qU) (c:UInt8) (hl:l.length<4294967281) :
  qM P gl (ρ.f 146) [tx l,tx [c]] (λ_ y _=>y=jd (zM c l)):=by
 refine qAQ (vs:=[.string (bt l),.string (bt [c])]) (T:=ρ.t 9) ⟨_,L.f146,qc,qc⟩ rfl λw hw=>?_;refine (Any.strings_Split L hi9 (bt l) (bt [c]) m w qP (hw _ _ hg) qB).mono λe w' he=>?_;obtain⟨rfl,rfl⟩:=he;rw [Zj,Zi,gU];exact⟨rfl,rfl⟩
end
end Go.Hm
end
section

end
