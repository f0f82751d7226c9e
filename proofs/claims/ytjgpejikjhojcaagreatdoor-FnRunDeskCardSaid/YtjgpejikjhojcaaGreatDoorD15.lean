import Derived.Test.YtjgpejikjhojcaaGreatDoorD14
import Derived.Lib.Split
import Derived.Lib.ItoaNum
import Derived.Shelf.Strings.Builder1
set_option linter.all false
set_option maxRecDepth 100000
set_option maxHeartbeats 4000000
open Option renaming some->Z,none->Y
open Bool renaming true->B,false->M
open List renaming length->O

section
namespace Go.Hm
open Go Go.RowKit
section
variable{s:qT}{k:qY}{p q:qC}{l w:qZ}{ns:List Int}{ls ws rest:List qZ}{i n:Nat}{body:List qT}{ks:List qY}
structure sX(k:qY):Prop where
 kind:k.kind=1\/k.kind=2
 parent:0<=k.parent/\k.parent<=99
 params:cV k.params
 cls:k.kind=2->k.params=[]
theorem Γ(h:fB l=Z s):cK s=l/\vb s:=by
 unfold fB at h
 split at h
 .rename_i w ws e
  split at h
  .rename_i K ms hK hm;obtain⟨h1,h2⟩:=MH hK;obtain⟨e1,e2⟩:=Gz hm;have hl:l=cH 32 (w::ws):=by grind[D6]
   have key:em s=ms.map (λ(n:Nat)=>(n:Int))/\s.kind=K/\(s.kind=7\/s.kind=8->s.to=0/\s.b=0)/\(s.kind=0\/s.kind=1\/s.kind=3\/s.kind=4->s.b=0)/\(9<=s.kind->s.a=0/\s.b=0):=by
    rcases(by omega:K=0\/K=1\/K=2\/K=3\/K=4\/K=5\/K=6\/K=7\/K=8\/K=9\/K=10\/K=11)with rfl|rfl|rfl|rfl|rfl|rfl|rfl|rfl|rfl|rfl|rfl|rfl
    all_goals
     rcases ms with _|⟨x,_|⟨y,_|⟨z,_|⟨u,ms⟩⟩⟩⟩
     all_goals simp[bf]at h
     all_goals subst h
     all_goals simp[em]
    all_goals omega
   obtain⟨k1,k2,k3,k4,k5⟩:=key;refine⟨?_,⟨qA,qQ,k3,k4,k5⟩⟩
   grind[cK,Ip]
  .cases h
 .cases h
theorem OI(h:dF l=Z k):aV k=l/\sX k/\k.body=[]:=by
 unfold dF at h
 split at h
 .rename_i i n f ws e;have hl:l=cH 32 (i::n::f::ws):=by grind[D6]
  split at h
  .rename_i hi;subst hi
   split at h
   .rename_i q hq;obtain⟨q1,q2⟩:=HL hq
    split at h
    .rename_i hf;obtain⟨rfl,rfl⟩:=hf;obtain rfl:=sI h;refine⟨?_,⟨.inr rfl,qp,by simp[cV],λ_=>rfl⟩,rfl⟩
     grind[Ol,xf]
    .split at h
     .rename_i hf;subst hf;obtain⟨ms,hm,rfl⟩:=zq.1 h;obtain⟨e1,e2⟩:=Gz hm;refine⟨?_,⟨.inl rfl,qp,e2,λe=>by simp at e⟩,rfl⟩
      grind[Ol,xf]
     .cases h
   .cases h
  .cases h
 .cases h
end
section
variable{s:qT}{k k0:qY}{p q P:qC}{l t:qZ}{ls rest:List qZ}{i n:Nat}{body:List qT}{ks:List qY}
def rx(ks:List qY):List qZ:=ks.flatMap λk=>aV k::k.body.map cK
theorem Mi{j:Nat}(h:0<j):∀{ks:List qY},(ks.mapIdx λi k=>lE (i+j) k).flatten=rx ks
 |[]=>rfl
 |k::ks=>by
  have ih:=Mi (j:=j+1) qA (ks:=ks)
  grind[rx,lE]
theorem G1:lN (k0::ks)=k0.body.map cK++rx ks:=by
 simp_all[lN,Mi,lE]
theorem Ms:rx (ks++[k])=rx ks++(aV k::k.body.map cK):=by simp[rx]
theorem Nf:lc (P++[k]) s=P++[{k with body:=k.body++[s]}]:=by
 unfold lc;apply yp
 grind
structure gY(p:qC):Prop where
 head:∃b ks,p=⟨0,-1,[],b⟩::ks
 jK:∀(i:Nat)k,p[i]?=Z k->0<i->sX k
 eM:∀k∈p,∀s∈k.body,vb s
theorem N7:∀{ls:List qZ}{p:qC},gY p->ue ls p=Z q->lN q=lN p++ls/\gY q
 |[],p,hp,h=>by
  grind[ue]
 |l::ls,p,hp,h=>by
  rw[ue]at h
  cases ha:aE p l with
  |none=>simp_all
  |some r=>
   rw[ha]at h;simp only at h;obtain⟨b,ks,e0⟩:=hp.head
   have key:lN r=lN p++[l]/\gY r:=by
    unfold aE at ha
    cases hh:dF l with
    |some k=>
     rw[hh]at ha;obtain rfl:=sI ha;obtain⟨e1,e2,e3⟩:=OI hh;refine⟨?_,⟨⟨b,ks++[k],qx⟩,λi g hg hi=>?_,λg hg s hs=>?_⟩⟩
     .grind[G1,Ms]
     .rcases dN i (O p)with hlt|hge
      .rw [ua hlt]at hg;exact hp.jK i g hg hi
      grind
     .rcases yI.1 hg with hg|hg
      .exact hp.eM g hg s hs
      simp_all
    |none=>
     rw[hh]at ha;simp only at ha;obtain⟨s,hs,rfl⟩:=zq.1 ha;obtain⟨e1,e2⟩:=Γ hs;rcases List.eq_nil_or_concat ks with rfl|⟨ks',k,rfl⟩
     .have e5:lc p s=[⟨0,-1,[],b++[s]⟩]:=by
       rw[e0];exact Nf (P:=[]) (k:=⟨0,-1,[],b⟩)
      rw[e5];refine⟨?_,⟨⟨b++[s],[],rfl⟩,λi g hg hi=>?_,λg hg s' hs'=>?_⟩⟩
      .grind[G1,rx]
      .grind
      .rw [vG]at hg;subst hg;rcases yI.1 hs' with h1|h1
       .exact hp.eM ⟨0,-1,[],b⟩ qQ s' h1
       simp_all
     .have e5:lc p s=⟨0,-1,[],b⟩::(ks'++[{k with body:=k.body++[s]}]):=by
       grind[Nf]
      rw[List.concat_eq_append]at e0;rw[e5];have hkm:k∈p:=qQ;refine⟨?_,⟨⟨b,_,rfl⟩,λi g hg hi=>?_,λg hg s' hs'=>?_⟩⟩
      .grind[G1,Ms,aV]
      .obtain⟨j,rfl⟩:∃j,i=j+1:=⟨i - 1,qA⟩;rw[gi]at hg;have hp':=hp.jK (j+1);rw[e0]at hp';simp only[gi]at hp';rcases dN j (O ks')with hlt|hge
       .grind
       .rw [bn hge]at hg hp'
        have h0:j-O ks'=0:=by
         grind
        rw[h0]at hg hp';obtain rfl:=sI hg;have:=hp' k rfl qA;exact⟨this.kind,this.parent,this.params,this.cls⟩
      .rcases vV.1 hg with rfl|hg
       .exact hp.eM ⟨0,-1,[],b⟩ qQ s' hs'
       .rcases yI.1 hg with hg|hg
        .exact hp.eM g qQ s' hs'
        .rw [vG]at hg;subst hg;rcases yI.1 hs' with h1|h1
         .exact hp.eM k hkm s' h1
         simp_all
   obtain⟨k1,k2⟩:=key;obtain⟨f1,f2⟩:=N7 k2 h
   simp_all
theorem qDa:gY ug:=⟨⟨[],[],rfl⟩,λi k hk hi=>by
  grind[ug],λk hk s hs=>by
  grind[ug]⟩
def CM(h:vo t=Z p):rl p=t/\j2 p=B/\gY p:=by
 unfold vo at h
 split at h
 .rename_i q hq
  split at h
  .rename_i hc;obtain rfl:=sI h;obtain⟨e1,e2⟩:=N7 qDa hq;refine⟨?_,hc.2,e2⟩;unfold rl;rw[e1];exact(Vk hc.1).symm
  .cases h
 .cases h
end
section
variable{s:qT}{k:qY}{p q:qC}{l t w:qZ}{ls ws vs:List qZ}{i n K:Nat}
theorem vb.of(hp:zw p)(hk:p[i]?=Z k)(hs:s∈k.body):vb s:=by
 have h:=hp.fD i k hk s hs;have hkd:=zp.kind h;have hl:=hp.len;obtain⟨kd,to,a,b⟩:=s;obtain⟨K,rfl⟩:∃K:Nat,kd=K:=⟨kd.toNat,qx⟩;simp only at hkd;by_cases e:b=-1
 all_goals
  rcases(by omega:K=0\/K=1\/K=2\/K=3\/K=4\/K=5\/K=6\/K=7\/K=8\/K=9\/K=10\/K=11)with rfl|rfl|rfl|rfl|rfl|rfl|rfl|rfl|rfl|rfl|rfl|rfl
  all_goals simp[zp,qT.reads,bW,e]at h
  all_goals refine⟨qB,λx hx=>?_,λ_=>?_,λ_=>?_,λ_=>?_⟩
  all_goals try simp[em,e]at hx
  all_goals first|(simp_all;done)|(simp at *;omega)
theorem gY.of(hp:zi p):gY p:=by
 have hs:=hp.sh;have hl:=hs.len;refine⟨?_,λi k hk hi=>?_,λk hk s hs'=>?_⟩
 .cases p with
  |nil=>simp at hl
  |cons k0 ks=>
   have h0:=hs.head 0 k0 rfl;simp only[ul,if_true]at h0;obtain⟨kd,par,ps,bd⟩:=k0
   simp_all
 .have h0:=hs.head i k hk;have hil:=(gS hk).1;unfold ul at h0;rw[if_neg qA]at h0;obtain⟨h1,h2,h3,h4,h5⟩:=h0;refine⟨qA,qA,λx hx=>?_,λe=>?_⟩
  .have:=(hs.names k (gM hk)).params x hx;omega
  simp_all
 grind[ko,vb.of]
def kI:List qZ->Option (Nat×List qZ)
 |w::ws=>(jC w).map λn=>(n,ws)
 |[]=>Y
def dE(ws:List qZ):Option (qY×List qZ):=match kI ws with
 |some (q,f::ws)=>if f=aW then(match ws with
  |[]=>Z (⟨1,q,[],[]⟩,[])
  |x::ws=>(jC x).map λ(n:Nat)=>(⟨1,q,[(n:Int)],[]⟩,ws))
  else if f=cM then Z (⟨2,q,[],[]⟩,ws)else Y
 |_=>Y
def cJ(w:qZ)(ws:List qZ):Option (qT×List qZ):=match ww w with
 |none=>Y
 |some K=>match kI ws with
  |none=>Y
  |some (x,ws)=>
   if K=7\/K=8 then Z (⟨K,0,x,0⟩,ws)
   else if K=0\/K=1\/K=3\/K=4 then(kI ws).map λ(y,ws)=>(⟨K,x,y,0⟩,ws)
   else if K=2\/K=6 then(match kI ws with
    |some (y,ws)=>(kI ws).map λ(z,ws)=>(⟨K,x,y,z⟩,ws)
    |none=>Y)
   else if K=5 then(match kI ws with
    |some (y,[])=>Z (⟨K,x,y,-1⟩,[])
    |some (y,ws)=>(kI ws).map λ(z,ws)=>(⟨K,x,y,z⟩,ws)
    |none=>Y)
   else Z (⟨K,x,0,0⟩,ws)
def ar(p:qC)(line:qZ):Option qC:=match zO 32 line with
 |w::ws=>if w=aX then(match dE ws with
  |some (k,[])=>Z (p++[k])
  |_=>Y)
  else match cJ w ws with
   |some (s,[])=>Z (lc p s)
   |_=>Y
 |[]=>Y
def wF(ls:List qZ)(p:qC):Option qC:=match ls with
 |[]=>Z p
 |l::ls=>match ar p l with
  |some q=>wF ls q
  |none=>Y
theorem ld{w:qZ}{ws:List qZ}:vT (w::ws)=match jC w,vT ws with|some n,Z ns=>Z (n::ns)|_,_=>Y:=by
 unfold vT
 split<;>simp_all
theorem Bi:vT []=Z []:=rfl
theorem Zu(hK:K<12):(match cJ (ye.getD K []) ws with|some (s,[])=>Z s|_=>Y)=match vT ws with|some ns=>bf K ns|none=>Y:=by
 unfold cJ;rw[VB K hK];rcases ws with _|⟨a,_|⟨b,_|⟨c,_|⟨d,ws⟩⟩⟩⟩
 .constructor<;>grind
 .cases ha:jC a<;>simp only[ld,Bi,ha,kI,kB,Option.map_none]
  grind[bf]
 .cases ha:jC a<;>cases hb:jC b<;>simp only[ld,Bi,ha,hb,kI,kB,Option.map_none]<;>grind[bf]
 .cases ha:jC a<;>cases hb:jC b<;>cases hc:jC c<;>simp only[ld,Bi,ha,hb,hc,kI,kB,Option.map_none]<;>grind[bf]
 .have hn:∀ns,vT (a::b::c::d::ws)=Z ns->bf K ns=Y:=by
   grind[bf,ld]
  have hr:(match vT (a::b::c::d::ws)with|some ns=>bf K ns|none=>Y)=Y:=by
   grind
  rw[hr]
  cases ha:jC a<;>cases hb:jC b<;>cases hc:jC c<;>simp only[ha,hb,hc,kI,kB,Option.map_none]<;>grind
end
section
variable{s:qT}{k:qY}{p q:qC}{l t w:qZ}{ls ws vs:List qZ}{i n K:Nat}
theorem VC:ww aX=Y:=qf
theorem Zv(hw:ww w≠Y)(e:zO 32 l=w::ws):(match cJ w ws with|some (s,[])=>Z s|_=>Y)=fB l:=by
 obtain⟨K,hK⟩:=dM.1 hw;obtain⟨h1,h2⟩:=MH hK;rw[h2];refine(Zu h1).trans ?_
 grind[fB]
theorem ω(hw:ww w=Y)(e:zO 32 l=w::ws):fB l=Y:=by
 grind[fB]
theorem Zw(hw:ww w=Y):cJ w ws=Y:=by
 grind[cJ]
theorem ξ(hw:w≠aX)(e:zO 32 l=w::ws):dF l=Y:=by
 grind[dF]
theorem UZ(e:zO 32 l=aX::ws):dF l=(match dE ws with|some (k,[])=>Z k|_=>Y)\/((match dE ws with|some (k,[])=>Z k|_=>Y)=Y/\∃k,dF l=Z k/\2<=O k.params):=by
 unfold dF dE;rw[e];rcases ws with _|⟨a,_|⟨b,ws⟩⟩
 .left;rfl
 .simp_all[kI]
 .cases ha:jC a with
  |none=>grind[kI]
  |some x=>
   simp only[kI,ha,if_true,kB];by_cases h1:b=aW
   .subst h1;have hne:¬aW=cM:=qf;simp only[hne,false_and,if_false,if_true];rcases ws with _|⟨c,_|⟨d,ws⟩⟩
    .grind[Bi]
    .left
     cases hc:jC c<;>simp[ld,Bi,hc]
    .cases hr:vT (c::d::ws)with
     |none=>
      simp
     |some ns=>
      right;have hlen:O ns=O (c::d::ws):=by rw[(Gz hr).1];simp
      simp_all
   grind
theorem Vh:ar p l=aE p l\/(ar p l=Y/\∃k,aE p l=Z (p++[k])/\2<=O k.params):=by
 grind[gB,ar,aE,ω,VC,UZ,ξ,ww,Zw,Zv]
def pp(p:qC):Prop:=∃k∈p,2<=O k.params
theorem qED(h:pp p):pp (lc p s):=by
 obtain⟨k,hk,h2⟩:=h;obtain⟨i,hi⟩:=ko hk;unfold lc
 have:(p.modify (O p-1) λk=>{k with body:=k.body++[s]})[i]?=Z (if O p-1=i then{k with body:=k.body++[s]}else k):=by
  grind
 refine⟨_,gM this,?_⟩
 grind
theorem Pq:∀{ls:List qZ}{p:qC},pp p->ue ls p=Z q->pp q
 |[],p,hp,h=>by
  grind[ue]
 |l::ls,p,hp,h=>by
  rw[ue]at h
  cases ha:aE p l with
  |none=>simp_all
  |some r=>
   rw[ha]at h;refine Pq (ls:=ls) (p:=r) ?_ h
   grind[aE,zq,qED,pp]
theorem qEC(h:pp p):j2 p=M:=by
 cases e:j2 p with
 |false=>rfl
 |true=>
  exfalso;simp only[j2,yF]at e;obtain⟨h1,h2,h3,h4,_⟩:=Bx e.1;obtain⟨k,hk,hl⟩:=h;obtain⟨i,hi⟩:=ko hk;have:=(C3 hi (yn.1 h4 i (ix.2 (gS hi).1))).1
  grind
theorem N3:∀{ls:List qZ}{p:qC},wF ls p=ue ls p\/(wF ls p=Y/\∀q,ue ls p=Z q->pp q)
 |[],p=>.inl rfl
 |l::ls,p=>by
  rw[wF,ue];rcases Vh (p:=p) (l:=l)with h|⟨h,k,h2,h3⟩
  .rw [h]
   cases aE p l with
   |none=>simp
   |some r=>exact N3 (ls:=ls) (p:=r)
  .rw [h,h2];exact .inr ⟨rfl,λq hq=>Pq ⟨k,qB,h3⟩ hq⟩
def HX(s:qZ):Option qC:=if(zO 10 s).getLast?=Z []then match wF (zO 10 s).dropLast ug with
 |some p=>if j2 p=B then Z p else Y
 |none=>Y else Y
theorem X6:HX t=vo t:=by
 grind[HX,vo,N3,qEC]
end
end Go.Hm
end
section

end
section
namespace Go.Hm
open Go Go.RowKit
def aN:List qZ:=[[100,111,110,101],[102,117,101,108],[117,110,98,111,117,110,100],[102,114,101,101],[110,97,109,101],[116,121,112,101],[97,114,103,115],[97,116,116,114]]
def gI:qZ:=[119,114,111,110,103]
def fF:qZ:=[119,104,97,116]
def pP:qZ:=[111,119,110,101,114]
def Ia:qZ:=[103,108,111,98,97,108]
def Ib:qZ:=[110,111,110,101]
def cL:qZ:=[98,108,111,99,107,115]
def cN:qZ:=[101,110,100]
def eN:qZ:=[115,116,101,112,115]
def gH:qZ:=[99,101,108,108,115]
def ic:qZ:=[102,114,97,109,101,115]
def iS(o:Int):qZ:=if o=-1 then Ia else if o<0 then Ib else vL o
def b8(p:qC)(b x:Nat):Int:=if b<O p/\x<=7 then zN p b x else -2
noncomputable def uj(p:qC)(line:qZ):qZ:=
 if line=cL then vL (O p)else if line=cN then aN.getD (v7 p 150).en.toNat []
 else if line=eN then vL (150-(v7 p 150).left)else if line=gH then vL (O (yj p 150).cells)
 else if line=ic then vL (yj p 150).made else fF
noncomputable def aH(p:qC)(line:qZ):qZ:=match zO 32 line with
 |[o,a,b]=>if o=pP then(match jC a,jC b with
  |some x,Z y=>iS (b8 p x y)
  |_,_=>uj p line)else uj p line
 |_=>uj p line
noncomputable def bR(s:qZ)(lines:List qZ):qZ:=if O lines<=20 then y5 10 (lines.map λl=>match vo s with
 |some p=>aH p l
 |none=>gI)else[]
section
variable{p:qC}{n f:Nat}{s t l w:qZ}{ls:List qZ}{i:Int}
theorem NG:(10:UInt8)∉vL i:=by
 have key:∀m:Nat,(10:UInt8)∉yx m:=λm h=>absurd (HI m 10 h).1 qf
 grind[vL]
def Sw:∀i,i<8->(10:UInt8)∉aN.getD i []:=qf
theorem XW:(10:UInt8)∉iS i:=by
 unfold iS
 split
 .decide
 .split
  .decide
  .exact NG
theorem qEE(h:0<=(v7 p 150).en/\(v7 p 150).en<=7):(10:UInt8)∉uj p l:=by
 unfold uj
 repeat' split
 all_goals first|exact NG|exact Sw _ qA|decide
theorem RD(h:0<=(v7 p 150).en/\(v7 p 150).en<=7):(10:UInt8)∉aH p l:=by
 grind[aH,XW,qEE]
theorem M7{a b:List qZ}:y5 10 (a++b)=y5 10 a++y5 10 b:=tX
theorem Sk{k:Nat}(h:O ls<=20):bR s (ls.take k) <+: bR s ls:=by
 grind[bR,s9,M7,List.prefix_append]
theorem Sj(h:O ls<=20)(hp:∀p,vo s=Z p->0<=(v7 p 150).en/\(v7 p 150).en<=7):(bR s ls).count 10=O ls:=by
 unfold bR;rw[if_pos h,Vj,rA];intro w hw;obtain⟨l,_,rfl⟩:=wi.1 hw
 split
 .grind[RD]
 .decide
noncomputable def sj(p:qC)(line:qZ):qZ:=
 if line=cL\/line=cN\/line=eN\/line=gH\/line=ic then uj p line
 else match zO 32 line with
  |[o,a,b]=>if o=pP then(match jC a,jC b with
   |some x,Z y=>iS (b8 p x y)
   |_,_=>fF)else fF
  |_=>fF
def qCG(h:(32:UInt8)∉l):zO 32 l=[l]:=CD h
theorem RA:sj p l=aH p l:=by
 unfold sj aH
 split
 .rename_i h
  have:(32:UInt8)∉l:=by
   rcases h with rfl|rfl|rfl|rfl|rfl<;>decide
  rw[qCG this]
 grind[uj]
end
abbrev bt(l:qZ):ByteArray:=⟨l.toArray⟩
abbrev tx(l:qZ):AV:=.sc (.string (bt l))
section
variable{a b l:qZ}{i j:Nat}
@[simp]theorem bt_size:(bt l).size=O l:=by simp[ByteArray.size]
@[simp]theorem bt_app:bt a++bt b=bt (a++b):=by
 apply ByteArray.ext;simp[ByteArray.data_append]
@[simp]theorem bt_extract:(bt l).extract i j=bt ((l.drop i).take (j-i)):=by
 apply ByteArray.ext;simp[ByteArray.data_extract]
end
section
variable{c:UInt8}{l m:qZ}{n:Nat}
theorem NH:∀n:Nat,yx n=Lib.decDigits n
 |n=>by
  rw[yx,Lib.decDigits]
  split
  .rfl
  .rw [NH (n/10)]
   rfl
theorem Wg{n:Int}:vL n=Lib.itoa n:=by
 grind[vL,Lib.itoa,NH]
theorem Lq(h:c∉l):Lib.index l [c]=-1:=by
 rw[Lib.index_one]
 induction l<;>grind[Lib.indexByte]
theorem Lp(h:c∉l):Lib.index (l++c::m) [c]=O l:=by
 rw[Lib.index_one]
 induction l<;>grind[Lib.indexByte]
def PH:∀(n:Nat)(l:qZ),O l<=n->Lib.splitK [c] 0 (Lib.count l [c]) l=zO c l
 |n,l,hn=>by
  by_cases h:c∈l
  .obtain⟨a,b,rfl,ha⟩:=List.eq_append_cons_of_mem h;have hi:=Lp (m:=b) ha;rw[Lib.count_hit qB hi,Nat.add_comm 1,Lib.splitK,if_neg qQ,hi,IZ ha];have e1:((O a:Int)).toNat=O a:=qA
   have e2:(a++c::b).drop (O a+O [c])=b:=by
    simp
   simp only[e1,fJ];rw[e2]
   congr 1
   .simp
   .match n,hn with
    |0,hn=>simp at hn
    |n+1,hn=>exact PH n b qx
  .rw [Lib.count_miss (Lq h),CD h]
   rfl
theorem qCC:Lib.splitB (bt [c]) 0 (Lib.countB (bt l) (bt [c])) (bt l)=(zO c l).map bt:=by
 have h:=Lib.splitB_data (bt [c]) 0 (Lib.countB (bt l) (bt [c])) (bt l);have h2:Lib.splitK [c] 0 (Lib.count l [c]) l=zO c l:=PH (O l) l (qb _);have h3:(Lib.splitB (bt [c]) 0 (Lib.countB (bt l) (bt [c])) (bt l)).map (λx=>x.data.toList)=zO c l:=h.trans h2;rw[<- h3,iy]
 simp_all[oD]
theorem qCD:Lib.countB (bt l) (bt [c])+1=O (zO c l):=by
 have key:∀(n:Nat)(l:qZ),O l<=n->Lib.count l [c]+1=O (zO c l):=by
  intro n
  induction n with
  |zero=>
   intro l hn;obtain rfl:=bN (Nat.le_zero.1 hn)
   rfl
  |succ n ih=>
   intro l hn;by_cases h:c∈l
   .obtain⟨a,b,rfl,ha⟩:=List.eq_append_cons_of_mem h;have hi:=Lp (m:=b) ha
    have e2:(a++c::b).drop (O a+O [c])=b:=by
     simp
    rw[Lib.count_hit qB hi,e2,IZ ha,fK,<- ih b qx];omega
   grind[Lib.count_miss,Lq,CD]
 exact key (O l) l (qb _)
end
def uJ(ws:List qZ):List (List AV):=ws.map λw=>[tx w]
section
variable{ws:List qZ}{i n:Nat}{f:Nm->Option Nm}
@[simp]theorem xrows_len:O (uJ ws)=O ws:=iC
@[simp]theorem qEZ:(uJ ws)[i]?=(ws[i]?).map λw=>[tx w]:=iC
@[simp]theorem xrows_getE{h:i<O (uJ ws)}:(uJ ws)[i]=[tx (ws[i]' mV)]:=iC
@[simp]theorem xrows_tr:(uJ ws).map (λr=>r.map (AV.tr f))=uJ ws:=iC
@[simp]theorem xrows_take:(uJ ws).take n=uJ (ws.take n):=iC
@[simp]theorem xrows_drop:(uJ ws).drop n=uJ (ws.drop n):=iC
def Iy:∀r∈uJ ws,O r=1:=iC
@[simp]theorem xrows_nil:uJ []=[]:=rfl
abbrev vD(ws:List qZ):AV:=.sl 1 (uJ ws)
end
theorem UJ{g:Gh}{w:World}{i:Nat}{v:Value}(h:RV g w (.pointer (Z ⟨i,0,Y⟩)) (.el [.sc v] 0)):w.cell? ⟨i,0,Y⟩=Z v:=by
 generalize hp:Value.pointer (Z ⟨i,0,Y⟩)=p at h
 cases h with
 |el b o off row f hC hcell ho hr=>
  have hb:b=i/\o=0:=by
   simp_all
  obtain⟨rfl,rfl⟩:=hb;have h1:=hcell 0 qB;have h2:=(hr 0 (.sc v) rfl).jF;rw[h1,h2]
theorem qCu{P:Program}{gl:Nat->Option (List AV)}{f:FuncId}{az:List AV}{vs:List Value}{ws:List qZ}{T:TypeId}(hc:ly P f)(has:az=vs.map .sc)
  (h:∀(w:World),(∀i v,gl i=Z [.sc v]->w.cell? ⟨i,0,Y⟩=Z v)->Calls P f vs.toArray w λe w'=>e=.returned (.slice (Z ⟨w.heap.size,0,Y⟩) (O ws) (O ws))/\w'=w.alloc (.cells (ws.map λx=>Value.string (bt x)).toArray T)):
  qL P gl f az (λ_ y _=>y=vD ws):=by
 subst has;refine⟨hc,λroot C w g args _ _ _ hinv hgl hsz hargs=>?_⟩
 have ha:args=vs.toArray:=by
  apply Array.ext
  .simp_all
  .intro j h1 h2;have h3:j<O vs:=qA;have:=(hargs j args[j] (.sc vs[j]) (mI h1) jr).jF
   simp_all
 subst ha;refine(h w λi v e=>UJ (hgl i _ e).1.1).mono λe w' he=>?_;obtain⟨rfl,rfl⟩:=he;have hold:∀b,b<w.heap.size->(w.alloc (.cells (ws.map λx=>Value.string (bt x)).toArray T)).heap[b]?=w.heap[b]?:=λb hb=>lC _ hb
 have hnew:(w.alloc (.cells (ws.map λx=>Value.string (bt x)).toArray T)).heap[w.heap.size]?=Z (.cells (ws.map λx=>Value.string (bt x)).toArray T):=by
  exact heap_alloc_new w _
 have hsz':(w.alloc (.cells (ws.map λx=>Value.string (bt x)).toArray T)).heap.size=w.heap.size+1:=qB;refine⟨λb=>C b\/b=w.heap.size,g.more (λb=>C b\/b=w.heap.size),y6,vD ws,⟨λb hb=>.inl hb,λb hb=>?_,⟨rfl,rfl,rfl,?_,λb hb _=>hold b hb,rfl,λb hb=>?_,λ_ _ e=>vi,λ_ _ _ e=>vi,λ_ _ _ _ _ e=>vi⟩,λ_ e=>absurd rfl e,λ_ _ _=>⟨rfl,rfl⟩,λ_ _ _ _=>⟨rfl,rfl⟩⟩,?_,rfl⟩
 .grind
 .simp
 .rw [hsz'];rcases hb with hb|rfl
  .have:=hinv.ur b hb;omega
  .omega
 .refine .eL w.heap.size 0 (O ws) (O ws) 1 (uJ ws) (λi _=>Value.string (bt (ws.getD i []))) (.inr rfl) qB (qb _) Iy ?_ ?_ ?_
  .simp_all
  .intro i j _ _
   rfl
  .intro i row hrow j a ha;rw[qEZ]at hrow;obtain⟨x,hx,rfl⟩:=zq.1 hrow
   match j,ha with
   |0,ha=>
    obtain rfl:=sI ha;simp only[bO,hx,Option.getD_some];exact .sc _
end Go.Hm
end
section
namespace Go.Hm
open Go Go.RowKit Go.Proofs Go.Shelf
variable{b n:Nat}{e:TypeId}{v:Value}{w:World}
section
variable{P:Program}{w:World}
theorem X1{base:Nat}{xs:List Value}(h:w.ownsRow base e 1 v n xs):w.ownsRow 0 e 1 v n xs:=by
 refine⟨h.1,?_⟩;rcases h.2 with h|⟨g,cap,cur,a1,_,a3⟩<;>grind
def qAR(w:World)(t u ty e:TypeId)(i:TypeInfo)(ht:P.underlying t=Z (.slice e))(hu:P.underlying u=Z .string)(hi:P.info? e=Z i)(hz:i.zero=Z (.int .u8 0))
  (hsize:i.size=1)(hby:i.bytes=1)(v:Value)(n:Nat)(xs:List Value)(hown:w.ownsRow 0 e 1 v n xs)(s:ByteArray)(h63:n+s.size<=maxLen)(hbytes:n+s.size<=140737488355328):
  ∃v' w',(Builtin.append_ #[t,u] ty #[v,.string s]).run P w=.ok v' w'/\w'.ownsRow 0 e 1 v' (n+s.size) (xs++Lib.strCells s)/\w.grownBy w' v.ownBlock/\(v'.ownBlock=v.ownBlock\/∃g,v'.ownBlock=Z g/\w.heap.size<=g):=by
 have hxl:O xs=n:=by simpa using hown.1
 rcases hown.2 with⟨rfl,rfl⟩|⟨g,cap,cur,rfl,hbg,hg,hnc,hcm,hcs,htake⟩
 .have hx:xs=[]:=bN hxl;subst hx;obtain⟨v',w',h1,h2,h3,h4⟩:=Lib.run_append_own_string (P:=P) w w.heap.size t u ty e i ht hu hi hz hsize hby (.slice Y 0 0) 0 [] (World.ownsRow_nil w _ e 1) s h63 hbytes (qb _);refine⟨v',w',h1,X1 h2,h3,?_⟩;rcases h2.2 with⟨rfl,_⟩|⟨g,cap,cur,rfl,hbg,_⟩
  .simp
  .exact .inr ⟨g,rfl,hbg⟩
 .obtain⟨v',w',h1,h2,h3,h4⟩:=Lib.run_append_own_string (P:=P) w 0 t u ty e i ht hu hi hz hsize hby _ n xs hown s h63 hbytes (Nat.zero_le _);refine⟨v',w',h1,h2,h3,?_⟩;by_cases hroom:n+s.size<=cap
  .have hcs1:n+s.size<=cur.size:=by
    omega
   have hr:=Lib.run_append_room_string (P:=P) w t u ty e i ht hu hi hsize g n cap cur hg s hroom hcs1;rw[hr]at h1
   injection h1 with e1 e2
   exact .inl (by rw[<- e1];rfl)
  .have holds:∀j u,xs[j]?=Z u->w.cell? ((⟨g,0,Y⟩:Addr).add j)=Z u:=hown.cells (g:=g) rfl;have hr:=Lib.run_append_grow_string (P:=P) w t u ty e i (.int .u8 0) ht hu hi hz ⟨g,0,Y⟩ n cap xs qQ holds s qA qA (by rw[hby];exact growslice_fits qA qA);rw[hr]at h1
   injection h1 with e1 e2
   exact .inr ⟨w.heap.size,by rw[<- e1];rfl,qb _⟩
def qEI{ops:Array Oper}{rest:List Oper}{o:Oper}{a:Go.Act}{Q:Exit->Go.Act->World->Prop}(hgd:o.guard=Y)(sl x:Operand)(t u:TypeId)
  (ho:o.op=.call {callee:=.builtin .append,args:=#[sl,x],argTypes:=#[t,u]})
  (e:TypeId)(i:TypeInfo)(ht:P.underlying t=Z (.slice e))(hu:P.underlying u=Z .string)(hi:P.info? e=Z i)(hz:i.zero=Z (.int .u8 0))
  (hsize:i.size=1)(hby:i.bytes=1)
  (v:Value)(n:Nat)(xs:List Value)(hs:a.eval sl=v)(hown:w.ownsRow 0 e 1 v n xs)(s:ByteArray)(hx:a.eval x=.string s)
  (h63:n+s.size<=maxLen)(hbytes:n+s.size<=140737488355328)
  (h:∀v' w',w'.ownsRow 0 e 1 v' (n+s.size) (xs++Lib.strCells s)->w.grownBy w' v.ownBlock->(v'.ownBlock=v.ownBlock\/∃g,v'.ownBlock=Z g/\w.heap.size<=g)->wpList P ops Q rest (a.put o.dst v') w'):wpList P ops Q (o::rest) a w:=by
 refine wpList_plain hgd λK hK=>?_;obtain⟨v',w',hr,h2,h3,h4⟩:=qAR (P:=P) w t u o.type e i ht hu hi hz hsize hby v n xs hown s h63 hbytes;unfold Oper.wp execOp;simp only[ho,resolve,invoke,builtin,Sem.run_bind,Sem.run_pure,Result.andThen_ok,List.map_toArray,cX,rE,hs,hx,hr];exact hK _ _ (h v' w' h2 h3 h4)
end
section
variable{P:Program}{ρ:Ren}
structure Ev(P:Program)(ρ:Ren)(w w':World)(b:Nat)(v:Value)(bs:List Value)(s:ByteArray)(v':Value):Prop where
 top:w'.heap[b]?=Z (.cells #[.pointer (Z ⟨b,0,Y⟩),v'] (ρ.t 72) (0,0))
 own:w'.ownsRow 0 (ρ.t 5) 1 v' (O bs+s.size) (bs++Lib.strCells s)
 ne:v'.ownBlock≠Z b
 qG:v'.ownBlock=v.ownBlock\/∃g,v'.ownBlock=Z g/\w.heap.size<=g
 os:w'.os=w.os
 tape:w'.tape=w.tape
 output:w'.output=w.output
 size:w.heap.size<=w'.heap.size
 wx:∀k,k<w.heap.size->k≠b->v.ownBlock≠Z k->w'.heap[k]?=w.heap[k]?
set_option maxHeartbeats 2000000 in
set_option maxRecDepth 100000 in
theorem qEN(L:Lays.n166 P ρ)(X:Builder.Extra P ρ)(b:Nat)(p v:Value)(bs:List Value)(s:ByteArray)(w:World)(hbk0:w.heap[b]?=Z (.cells #[p,v] (ρ.t 72) (0,0)))
  (hp:p=.pointer Y\/p=.pointer (Z ⟨b,0,Y⟩))(hown0:w.ownsRow 0 (ρ.t 5) 1 v (O bs) bs)(hne0:v.ownBlock≠Z b)(hlen:O bs+s.size<=140737488355328):
  Calls P (ρ.f 166) #[.pointer (Z ⟨b,0,Y⟩),.string s] w λe w'=>e=.returned (.tuple #[.int .i64 s.size,.nilIface])/\∃v',Ev P ρ w w' b v bs s v':=by
 obtain⟨i0,hi,hz0,hz1,hz2⟩:=info_parts X.infoByte;have mixed:=L.mixed;have t72:=L.t72;have a72:=L.a72;have z72:=L.z72;have v72:=L.v72;have u72:=run_underlying L.t72;have t70:=L.t70;have a70:=L.a70;have z70:=L.z70;have v70:=L.v70;have u70:=run_underlying L.t70;have t37:=L.t37;have a37:=L.a37;have z37:=L.z37;have v37:=L.v37;have u37:=run_underlying L.t37;have t3:=L.t3;have a3:=L.a3;have z3:=L.z3;have v3:=L.v3;have u3:=run_underlying L.t3;have t9:=L.t9;have a9:=L.a9;have z9:=L.z9;have v9:=L.v9;have u9:=run_underlying L.t9;have t4:=L.t4;have a4:=L.a4;have z4:=L.z4;have v4:=L.v4;have u4:=run_underlying L.t4;have t164:=L.t164;have a164:=L.a164;have z164:=L.z164;have v164:=L.v164;have u164:=run_underlying L.t164;have t5:=X.t5;have a5:=X.a5;have z5:=X.z5;have v5:=X.v5;have u5:=run_underlying X.t5;have e240:∀args w,(callFunc (ρ.f 240) args).run P w=.ok (.enter (ρ.f 240) args) w:=enters_of L.f240 qc rfl
 have hlt0:b<w.heap.size:=by
  grind
 have hcc:Calls P (ρ.f 240) #[.pointer (Z ⟨b,0,Y⟩)] w λe w1=>e=.returned (.tuple #[])/\w1.heap[b]?=Z (.cells #[.pointer (Z ⟨b,0,Y⟩),v] (ρ.t 72) (0,0))/\w1.os=w.os/\w1.tape=w.tape/\w1.output=w.output/\w1.heap.size=w.heap.size/\∀k,k≠b->w1.heap[k]?=w.heap[k]?:=by
  have hB:Lib.BuilderAt (ρ.t 72) (ρ.t 5) 0 b p bs w:=⟨Nat.zero_le _,v,hbk0,hown0,hne0⟩;rcases hp with rfl|rfl
  .refine (Any.Builder_copyCheck_fresh {L with} X.toX72 b w hB.cell0 hB.shape hB.frozen0).mono ?_
   grind[World.setCell]
  .refine (Any.Builder_copyCheck_used {L with} X.toX72 b w hB.cell0).mono ?_
   simp_all
 go_enter L.f166,Body.n166_ntmps ρ
 go_wp2_with (go_at_fn (ρ.f 240);refine hcc.mono ?_)
 rintro e w1 ⟨rfl,hbk,o1,o2,o3,o4,o5⟩
 have hown:w1.ownsRow 0 (ρ.t 5) 1 v (O bs) bs:=by
  refine⟨hown0.1,?_⟩;rcases hown0.2 with h|⟨g,cap,cur,rfl,a2,a3,a4⟩<;>grind
 have c0:w1.cell? ⟨b,0,Y⟩=Z (.pointer (Z ⟨b,0,Y⟩)):=by rw[Lib.cell_of_heap hbk];rfl
 have c1:w1.cell? ⟨b,1,Y⟩=Z v:=by rw[Lib.cell_of_heap hbk];rfl
 go_wp2_with (at_builtin;refine qEI rfl _ _ (ρ.t 37) (ρ.t 9) rfl (ρ.t 5) i0 L.t37 L.t9 hi hz0 hz1 hz2 _ _ _ rfl hown s rfl ?c3 ?c4 ?_)
 case c3=>grind[maxLen]
 case c4=>omega
 intro v' w2 hown' hgrow hfr;have hlt:b<w1.heap.size:=qA
 have hb2:w2.heap[b]?=Z (.cells #[.pointer (Z ⟨b,0,Y⟩),v] (ρ.t 72) (0,0)):=by
  rw[hgrow.block b hlt (λe=>hne0 e.symm)];exact hbk
 have d0:w2.cell? ⟨b,0,Y⟩=Z (.pointer (Z ⟨b,0,Y⟩)):=by rw[Lib.cell_of_heap hb2];rfl
 have d1:w2.cell? ⟨b,1,Y⟩=Z v:=by rw[Lib.cell_of_heap hb2];rfl
 have f1:w2.frozen? ⟨b,1,Y⟩=M:=Lib.frozen_of_heap hb2 1
 obtain⟨ao,n',cap,rfl⟩:∃ao n' cap,v'=.slice ao n' cap:=by
  rcases hown'.2 with⟨hv,_⟩|⟨g,cap,cur,hv,_⟩<;>grind
 go_wp2
 go_ret2
 have hne:=Lib.ownBlock_ne hown' hb2 X.neB5;have jz:∀k,k≠b->(w2.setCell ⟨b,1,Y⟩ (.slice ao n' cap)).heap[k]?=w2.heap[k]?:=λk hk=>Below.heap_setCell _ _ _ _ (λe=>hk (by simp[e]));refine⟨rfl,_,?_,?_,hne,?_,?_,?_,?_,?_,?_⟩
 .grind[World.setCell]
 .exact hown'.kept (row:=Z b) ⟨rfl,rfl,rfl,qB,λk _ hk=>jz k (λe=>hk (by simp[e]))⟩ (Or.inr hne)
 .exact hfr
 .exact hgrow.os.trans o1
 .exact hgrow.tape.trans o2
 .exact hgrow.output.trans o3
 .have:=hgrow.size
  simp_all
 .intro k hk hkb hkv;rw[jz k hkb,hgrow.block k qA (λe=>hkv e.symm),o5 k hkb]
end
def c9(l:qZ):List Value:=l.map λc=>Value.int .u8 c.toNat
def bo(l:qZ):List (List AV):=l.map λc=>[.sc (.int .u8 c.toNat)]
def oJ(V:Nm)(T e:TypeId)(a:AV)(l:qZ):Nm->Option AO:=λn=>if n=V then Z (.uP T 2 B [[a,.hs (.c V 0 1) 1 0 (O l)]])else if n=.c V 0 1 then Z (.uP e 1 M (bo l))else Y
section
variable{V:Nm}{T e:TypeId}{a:AV}{l s:qZ}{g:Gh}{w:World}
@[simp]theorem bcells_len:O (c9 l)=O l:=by simp[c9]
@[simp]theorem byrows_len:O (bo l)=O l:=by simp[bo]
theorem DH{i j:Nat}:Nm.c V i j≠V:=Nm.pC (Nm.uQ V)
@[simp]theorem Jk:oJ V T e a l V=Z (.uP T 2 B [[a,.hs (.c V 0 1) 1 0 (O l)]]):=by simp[oJ]
@[simp]theorem R3:oJ V T e a l (.c V 0 1)=Z (.uP e 1 M (bo l)):=by simp[oJ,DH]
theorem R4{n:Nm}(h:oJ V T e a l n≠Y):n=V\/n=.c V 0 1:=by
 grind[oJ]
def cT(H:Nm->Option AO)(V:Nm)(T e:TypeId)(l:qZ):Prop:=
 (l=[]/\H V=Z (.uP T 2 B [[.sc (.pointer Y),.sc (.slice Y 0 0)]])) \/
 (l≠[]/\H V=Z (.uP T 2 B [[.pt V 0,.hs (.c V 0 1) 1 0 (O l)]])/\H (.c V 0 1)=Z (.uP e 1 M (bo l)))
theorem X2(hv:RV g w v (.hs (.c V 0 1) 1 0 (O l)))(ho:jd g w (.c V 0 1) (.uP e 1 M (bo l))):w.ownsRow 0 e 1 v (O l) (c9 l)/\v.ownBlock=g.φ (.c V 0 1):=by
 generalize hn:O l=len at hv;refine⟨⟨by simp[hn],?_⟩,?_⟩
 .cases hv with
  |de _ _ hk=>simp
  |bT _ _ _ _ b cap ad hk h1 h2 h3=>
   right;subst hn;simp only[jd,hk]at ho;obtain⟨⟨cur,c1,c2,c3,c4,c5,c6,c7⟩,_,c8⟩:=ho;have hc8:=c8 trivial;have hcap:cap=g.κ (.c V 0 1):=qA;have had:=h3 qA;rw[Nat.zero_mul]at had;refine⟨b,cap,cur,by rw[had],Nat.zero_le _,c1,h1,qA,qA,?_⟩;apply yp;intro i;rw[AT,Nat.mul_one];by_cases hi:i<O l
   .rw [if_pos hi];have h4:=(c7 i [.sc (.int .u8 l[i].toNat)] (by simp[bo,hi]) 0 _ rfl).jF;have hlt:i<cur.size:=qA
    simp_all[c9]
   grind[c9]
 .cases hv with
  |de _ _ hk=>rw[hk];rfl
  |bT _ _ _ _ b cap ad hk h1 h2 h3=>
   simp only[jd,hk]at ho;have hc8:=ho.2.2 trivial;have had:=h3 qA;rw[hk,had]
   rfl
theorem X3(hk:v.ownBlock=g.φ (.c V 0 1))(hcap:∀ad n cap,v=.slice ad n cap->g.κ (.c V 0 1)=cap)(h:w.ownsRow 0 e 1 v (O l) (c9 l))(h0:0<O l):
  RV g w v (.hs (.c V 0 1) 1 0 (O l))/\jd g w (.c V 0 1) (.uP e 1 M (bo l)):=by
 rcases h.2 with⟨rfl,hl⟩|⟨b,cap,cur,rfl,_,c1,c2,c3,c4,c5⟩
 .omega
 .have hk':g.φ (.c V 0 1)=Z b:=hk.symm;have hκ:=hcap _ _ _ rfl
  have get:∀i(hi:i<O l),cur.getD (i*1+0) undef=Value.int .u8 l[i].toNat:=by
   intro i hi;have h1:(cur.toList.take (O l*1))[i]?=(c9 l)[i]?:=by rw[c5]
   rw[AT,Nat.mul_one,if_pos hi]at h1;have hlt:i<cur.size:=qA
   simp_all[c9]
  refine⟨.bT _ _ _ _ b cap _ hk' c2 qA (λ_=>qB),?_⟩;simp only[jd,hk'];refine⟨⟨cur,c1,qA,qA,qp,by simp[bo],?_,?_⟩,λe=>vi,λ_=>qA⟩
  .intro j hj;have hj':j<O l:=qQ;have:=get j hj';simp only[Nat.mul_one,fJ]at this;rw[this]
   rfl
  .intro i row hrow j x hx;simp only[bo,j3]at hrow;obtain⟨c,hc,rfl⟩:=zq.1 hrow;obtain⟨hi,hE⟩:=gS hc
   match j,hx with
   |0,hx=>
    obtain rfl:=sI hx;rw[get i hi,hE];exact .sc _
end
def Pg:Value->Nat
 |.slice _ _ c=>c
 |_=>0
section
variable{P:Program}{ρ:Ren}
theorem Jn{H:Nm->Option AO}{V:Nm}{T:TypeId}{l:qZ}{g:Gh}(hH:cT H V T e l)(hobj:∀n o,H n=Z o->jd g w n o)(hk:g.φ V=Z b):
  ∃p v,w.heap[b]?=Z (.cells #[p,v] T (0,0))/\(p=.pointer Y\/p=.pointer (Z ⟨b,0,Y⟩))/\w.ownsRow 0 e 1 v (O l) (c9 l)/\(∀x,v.ownBlock=Z x->∃o,H (.c V 0 1)=Z o/\g.φ (.c V 0 1)=Z x)/\H V≠Y/\g.κ V=1:=by
 have two:∀(cur:Array Value),cur.size=1*2->∃p v,cur=#[p,v]:=by
  intro cur c2;rcases cur with⟨_|⟨a0,_|⟨a1,_|⟨a2,tl⟩⟩⟩⟩<;>grind
 rcases hH with⟨rfl,hHV⟩|⟨_,hHV,hHB⟩
 .have h0:=hobj V _ hHV;simp only[jd,hk]at h0;obtain⟨⟨cur,c1,c2,c3,c4,c5,c6,c7⟩,c8,_⟩:=h0;have hκ:g.κ V=1:=c8 trivial;rw[hκ]at c2;obtain⟨p,v,rfl⟩:=two cur c2;have hp:p=.pointer Y:=(c7 0 _ rfl 0 _ rfl).jF;have hv:v=.slice Y 0 0:=(c7 0 _ rfl 1 _ rfl).jF;subst hp hv;exact⟨_,_,c1,.inl rfl,World.ownsRow_nil w 0 e 1,λx hx=>(by cases hx),qQ,hκ⟩
 .have h0:=hobj V _ hHV;have h1:=hobj (.c V 0 1) _ hHB;simp only[jd,hk]at h0;obtain⟨⟨cur,c1,c2,c3,c4,c5,c6,c7⟩,c8,_⟩:=h0;have hκ:g.κ V=1:=c8 trivial;rw[hκ]at c2;obtain⟨p,v,rfl⟩:=two cur c2;have hp:RV g w p (.pt V 0):=c7 0 _ rfl 0 _ rfl;have hv:RV g w v (.hs (.c V 0 1) 1 0 (O l)):=c7 0 _ rfl 1 _ rfl;obtain⟨ho,hob⟩:=X2 hv h1
  have hpp:p=.pointer (Z ⟨b,0,Y⟩):=by
   cases hp<;>grind
  grind
set_option maxHeartbeats 1000000 in
theorem qEM(L:Lays.n166 P ρ)(X:Builder.Extra P ρ)(gl:Nat->Option (List AV))(V:Nm)(l s:qZ)(hs:s≠[])(hlen:O l+O s<=140737488355328)
  (H:Nm->Option AO)(hH:cT H V (ρ.t 72) (ρ.t 5) l):
  qX P gl (ρ.f 166) (Nm.under V) [.pt V 0,tx s] H (λ_ y H'=>y=.zT [.sc (.int .i64 (O s)),.sc .nilIface]/\cT H' V (ρ.t 72) (ρ.t 5) (l++s)) qw:=by
 have hspos:0<O s:=List.length_pos_iff.2 hs;refine⟨⟨_,L.f166,qc,qc⟩,λroot C w g args hr hru hHD hinv hgl hsz hargs=>?_⟩
 obtain⟨a0,a1,rfl⟩:∃a0 a1,args=#[a0,a1]:=by
  rcases args with⟨_|⟨a0,_|⟨a1,_|⟨a2,tl⟩⟩⟩⟩<;>grind
 have r0:=hargs 0 a0 (.pt V 0) rfl rfl;have r1:=(hargs 1 a1 (tx s) rfl rfl).jF;subst r1
 cases r0 with
 |pt _ _ b hk=>
 obtain⟨p,v,c1,hpp,ho,hob,hVn,hκ⟩:=Jn hH hinv.obj hk
 have hne:v.ownBlock≠Z b:=by
  intro e;obtain⟨o',e1,e2⟩:=hob b e;obtain⟨o,e3⟩:=dM.1 hVn;exact DH (hinv.inj _ _ _ _ b e1 e3 e2 hk)
 refine(qEN L X b p v (c9 l) (bt s) w c1 hpp qQ hne qQ).mono λe w' he=>?_;obtain⟨rfl,v',hW⟩:=he
 have hown:w'.ownsRow 0 (ρ.t 5) 1 v' (O (l++s)) (c9 (l++s)):=by
  have:=hW.own
  simp_all[Lib.strCells,c9]
 have hlive:∀x,v'.ownBlock=Z x->(¬C x/\(w.heap.size<=x\/vn g H x)/\x<w'.heap.size):=by
  intro x hx
  have hlt:x<w'.heap.size:=by
   rcases hown.2 with⟨rfl,_⟩|⟨y,cap,cur,rfl,_,d1,_⟩
   .cases hx
   .obtain rfl:y=x:=sI hx
    grind
  rcases hW.qG with hb|⟨y,hy,hb⟩
  .obtain⟨o',e1,e2⟩:=hob x (hb.symm.trans hx);obtain⟨x1,x2,_⟩:=hinv.qG _ _ x e1 e2
   simp_all
  .rw [hx]at hy;obtain rfl:=sI hy;exact⟨λhc=>by have:=hinv.ur _ hc;omega,.inl hb,hlt⟩
 let g':Gh:={C:=C,φ:=λn=>if n=.c V 0 1 then v'.ownBlock else g.φ n,κ:=λn=>if n=.c V 0 1 then Pg v' else g.κ n}
 have hφ:∀n,n≠.c V 0 1->g'.φ n=g.φ n/\g'.κ n=g.κ n:=λn h=>by
  grind
 have hV:g'.φ V=Z b:=by
  grind[DH]
 have hVκ:g'.κ V=1:=by
  grind[DH]
 have hB:g'.φ (.c V 0 1)=v'.ownBlock:=if_pos rfl;have hBκ:g'.κ (.c V 0 1)=Pg v':=if_pos rfl;obtain⟨q1,q2⟩:=X3 (V:=V) (e:=ρ.t 5) (l:=l++s) (g:=g') (w:=w') (v:=v') hB.symm (λad n cap e=>by rw[hBκ,e];rfl) hown qp;have hdom:∀n,oJ V (ρ.t 72) (ρ.t 5) (.pt V 0) (l++s) n≠Y->n=V\/n=.c V 0 1:=λn=>R4;refine⟨C,g',oJ V (ρ.t 72) (ρ.t 5) (.pt V 0) (l++s),.zT [.sc (.int .i64 (O s)),.sc .nilIface],⟨λ_ h=>h,λ_ h=>.inl h,⟨hW.os,hW.tape,hW.output,hW.size,?_,rfl,?_,?_,?_,?_⟩,?_,?_,?_⟩,?_,rfl,.inr ⟨by simp[hs],Jk,R3⟩⟩
 .intro k hk2 hno
  refine hW.wx k hk2 (λe=>hno ⟨V,hVn,qQ⟩) (λe=>by
   obtain⟨o',e1,e2⟩:=hob _ e;exact hno ⟨.c V 0 1,qQ,e2⟩)
 .intro x hx;exact um (hinv.ur x hx) hW.size
 .intro n o e;have hn:=hdom n qx;rcases hn with rfl|rfl
  .rw [Jk]at e;obtain rfl:=sI e;simp only[jd,hV];refine⟨⟨_,hW.top,qQ,by rw[hVκ];decide,qQ,qB,?_,?_⟩,λ_=>qA,λe=>vi⟩
   .intro j hj;simp only[aG,s5]at hj
    match j,hj with
    |0,_=>rfl
    |1,_=>
     show v'.oneCell'=B
     rcases hown.2 with⟨rfl,_⟩|⟨y,cap,cur,rfl,_⟩<;>rfl
   .intro i row hrow j x hx
    match i,hrow with
    |0,hrow=>
     obtain rfl:=sI hrow
     match j,hx with
     |0,hx=>
      obtain rfl:=sI hx;exact .pt _ _ b hV
     |1,hx=>
      simp_all
  simp_all
 .intro n o x e hx;rcases hdom n qx with rfl|rfl
  .rw [hV]at hx;obtain rfl:=sI hx;obtain⟨o,e3⟩:=dM.1 hVn;obtain⟨x1,x2,x3⟩:=hinv.qG _ _ b e3 hk
   grind[um,Ev.size]
  simp_all
 .grind[Ev.ne]
 .grind[Nm.under]
 .grind[Nm.under]
 .simp_all
 .exact .zT [_,_] _ rfl λj v x hv hx=>by
   match j,hv,hx with
   |0,hv,hx=>simp at hv hx;subst hv;subst hx;exact .sc _
   |1,hv,hx=>simp at hv hx;subst hv;subst hx;exact .sc _
end
structure JS(w w':World)(b:Nat):Prop where
 os:w'.os=w.os
 tape:w'.tape=w.tape
 output:w'.output=w.output
 size:w.heap.size<=w'.heap.size
 wx:∀k,k<w.heap.size->k≠b->w'.heap[k]?=w.heap[k]?
def Uz:JS w (w.drew.freeze ⟨b,0,Y⟩ n) b:=by
 unfold World.freeze
 split
 .exact⟨rfl,rfl,rfl,qb _,λ_ _ _=>rfl⟩
 .refine⟨rfl,rfl,rfl,qB,λk _ hk=>?_⟩;simp only[Array.getElem?_modify];rw[if_neg (λe=>hk e.symm)]
  rfl
section
variable{P:Program}{ρ:Ren}
set_option maxHeartbeats 1000000 in
set_option maxRecDepth 100000 in
theorem qC5(L:Lays.n169 P ρ)(X:Builder.Extra P ρ)(b:Nat)(p v:Value)(l:qZ)(w:World)(hbk:w.heap[b]?=Z (.cells #[p,v] (ρ.t 72) (0,0)))
  (hown:w.ownsRow 0 (ρ.t 5) 1 v (O l) (c9 l))(h0:l≠[]):
  Calls P (ρ.f 169) #[.pointer (Z ⟨b,0,Y⟩)] w λe w'=>e=.returned (.string (bt l))/\∃g,v.ownBlock=Z g/\JS w w' g:=by
 have hl0:O l≠0:=qQ
 obtain⟨g,cap,cur,rfl,hbg,hg,hnc,hcm,hcs,htake⟩:∃g cap cur,v=.slice (Z ⟨g,0,Y⟩) (O l) cap/\0<=g/\w.heap[g]?=Z (.cells cur (ρ.t 5) (0,0))/\O l<=cap/\cap<=maxLen/\cur.size=cap * 1/\cur.toList.take (O l * 1)=c9 l:=by
  rcases hown.2 with⟨_,hz⟩|⟨g,cap,cur,hv,r⟩<;>grind
 have c1:w.drew.cell? ⟨b,1,Y⟩=Z (.slice (Z ⟨g,0,Y⟩) (O l) cap):=by
  have:w.drew.heap[b]?=Z (.cells #[p,.slice (Z ⟨g,0,Y⟩) (O l) cap] (ρ.t 72) (0,0)):=hbk;rw[Lib.cell_of_heap this];rfl
 have hSD:(Builtin.unsafeSliceData_ #[(ρ.t 37)] (ρ.t 127) #[.slice (Z ⟨g,0,Y⟩) (O l) cap]).run P w.drew=.ok (.pointer (Z ⟨g,0,Y⟩)) w.drew:=
  Lib.run_unsafeSliceData_row _ _ _ _ _ _ qA
 have hUS:(Builtin.unsafeString_ #[(ρ.t 127),(ρ.t 3)] (ρ.t 9) #[.pointer (Z ⟨g,0,Y⟩),.int .i64 (O l)]).run P w.drew=.ok (.string ⟨l.toArray⟩) (w.drew.freeze ⟨g,0,Y⟩ (O l)):=by
  refine Lib.run_unsafeString_row w.drew (ρ.t 127) (ρ.t 3) (ρ.t 9) (ρ.t 5) L.t127 X.cellsByte g cur.size (by have hg':w.drew.heap[g]?=Z (.cells cur (ρ.t 5) (0,0)):=hg;grind[World.shape?]) l h0 qA tQ ?_;intro j x hx;have:=hown.cells (g:=g) rfl j (.int .u8 x.toNat) (by simp[c9,hx]);exact this
 have mixed:=L.mixed;have t72:=L.t72;have a72:=L.a72;have z72:=L.z72;have v72:=L.v72;have u72:=run_underlying L.t72;have t70:=L.t70;have a70:=L.a70;have z70:=L.z70;have v70:=L.v70;have u70:=run_underlying L.t70;have t37:=L.t37;have a37:=L.a37;have z37:=L.z37;have v37:=L.v37;have u37:=run_underlying L.t37;have t127:=L.t127;have a127:=L.a127;have z127:=L.z127;have v127:=L.v127;have u127:=run_underlying L.t127;have t3:=L.t3;have a3:=L.a3;have z3:=L.z3;have v3:=L.v3;have u3:=run_underlying L.t3;have t9:=L.t9;have a9:=L.a9;have z9:=L.z9;have v9:=L.v9;have u9:=run_underlying L.t9;have t5:=X.t5;have a5:=X.a5;have z5:=X.z5;have v5:=X.v5;have u5:=run_underlying X.t5
 go_enter L.f169,Body.n169_ntmps ρ
 go_wp2
 go_region_o
 all_goals(go_wp2;go_ret;exact⟨rfl,g,rfl,Uz⟩)
set_option maxHeartbeats 1000000 in
theorem qC4(L:Lays.n169 P ρ)(X:Builder.Extra P ρ)(gl:Nat->Option (List AV))(V:Nm)(l:qZ)(H:Nm->Option AO)(hH:cT H V (ρ.t 72) (ρ.t 5) l):
  qX P gl (ρ.f 169) (Nm.under V) [.pt V 0] H (λ_ y H'=>y=tx l/\H'=y6) qw:=by
 refine⟨⟨_,L.f169,qc,qc⟩,λroot C w g args hr hru hHD hinv hgl hsz hargs=>?_⟩
 obtain⟨a0,rfl⟩:∃a0,args=#[a0]:=by
  rcases args with⟨_|⟨a0,_|⟨a1,tl⟩⟩⟩<;>grind
 have r0:=hargs 0 a0 (.pt V 0) rfl rfl
 cases r0 with
 |pt _ _ b hk=>
 obtain⟨p,v,c1,hpp,ho,hob,hVn,hκ⟩:=Jn hH hinv.obj hk
 have fin:∀w':World,w'.os=w.os->w'.tape=w.tape->w'.output=w.output->w.heap.size<=w'.heap.size->(∀k,k<w.heap.size->v.ownBlock≠Z k->w'.heap[k]?=w.heap[k]?) ->
   ∃C' g' H' x,dH (vn g H) C w g (Nm.under V) root H H' C' g' w'/\RV g' w' (.string (bt l)) x/\x=tx l/\H'=y6:=by
  intro w' q1 q2 q3 q4 q5;refine⟨C,g,y6,tx l,⟨λ_ h=>h,λ_ h=>.inl h,⟨q1,q2,q3,q4,?_,hinv.hC,?_,λ_ _ e=>vi,λ_ _ _ e=>vi,λ_ _ _ _ _ e=>vi⟩,λ_ e=>absurd rfl e,λ_ _ _=>⟨rfl,rfl⟩,λ_ _ _ _=>⟨rfl,rfl⟩⟩,.sc _,rfl,rfl⟩
  .intro k hk2 hno;refine q5 k hk2 λe=>?_;obtain⟨o',e1,e2⟩:=hob _ e;exact hno ⟨.c V 0 1,qQ,e2⟩
  .intro y hy;exact um (hinv.ur y hy) q4
 rcases hH with⟨rfl,hHV⟩|⟨h0,hHV,hHB⟩
 .have hv:v=.slice Y 0 0:=by
   have o0:=hinv.obj V _ hHV;simp only[jd,hk]at o0;obtain⟨⟨cur,d1,d2,d3,d4,d5,d6,d7⟩,_⟩:=o0;rw[d1]at c1
   injection c1 with c1
   injection c1 with c1 _ _
   have:=(d7 0 _ rfl 1 _ rfl).jF
   simp_all
  subst hv;refine(Any.Builder_String_nil L X w.heap.size b p w c1).mono λe w' he=>?_;obtain⟨rfl,hb⟩:=he;exact fin w' hb.os hb.tape hb.output hb.size λk hk2 _=>hb.block k hk2
 .refine (qC5 L X b p v l w c1 ho h0).mono λe w' he=>?_;obtain⟨rfl,x,hx,hW⟩:=he;exact fin w' hW.os hW.tape hW.output hW.size λk hk2 hne=>hW.wx k hk2 λe=>hne qQ
end
end Go.Hm
end
section
namespace Go.Hm
open Go Go.RowKit
section
variable{P:Program}{own:Nat->Prop}{C:Nat->Prop}{w0:World}{g:Gh}{st:St}{a:Go.Act}{w:World}
def FH(T:TypeId)(d:Nat)(st:St):St:=
 ((st.kill (.s d)).zW (.s d) (.uP T 2 B [[.sc (.pointer Y),.sc (.slice Y 0 0)]])).put (Z d) (.pt (.s d) 0)
theorem Qy{o:Oper}{T:TypeId}{d:Nat}(h:Rg P own C w0 g st a w)(ho:o.op=.alloc T)(hd:o.dst=Z d)(hn:d<st.n)(hq:yO P T=Z [.sc (.pointer Y),.sc (.slice Y 0 0)]):
  bK P o a w λa' w'=>kV P own C w0 g (FH T d st) a' w':=by
 obtain⟨i,z,q1,q2,q3,q4,q5⟩:=JL hq
 have hz:z.cells=#[.pointer Y,.slice Y 0 0]:=by
  have h2:z.cells.toList=[.pointer Y,.slice Y 0 0]:=by
   rcases hl:z.cells.toList with _|⟨x,_|⟨y,_|⟨u,tl⟩⟩⟩<;>rw[hl]at q4<;>simp at q4
   simp_all
  grind
 refine .inl ⟨.pointer (Z ⟨w.heap.size,0,Y⟩),w.alloc (.cells z.cells T),?_,?_⟩
 .simp [execOp,ho,Instr.alloc,zeroValue,typeInfo,q1,q2,newVar,newRow]
 .rw [hd,hz]
  have hm:=h.made (.s d) (.uP T 2 B [[.sc (.pointer Y),.sc (.slice Y 0 0)]]) w.heap.size 1 (w.alloc (.cells #[.pointer Y,.slice Y 0 0] T)) [] (λp hp=>by cases hp) (λ_=>M) rfl rfl rfl qB (.inl (qb _)) qB (λb' _ hb'=>lC _ hb') (by
   simp only[jd,(wA (g:=g) (.s d) (Z w.heap.size) 1).1,(wA (g:=g) (.s d) (Z w.heap.size) 1).2];refine⟨⟨_,heap_alloc_new w _,qB,qf,qB,qB,?_,?_⟩,λ_=>rfl,λe=>vi⟩
   .intro j hj
    match j,hj with
    |0,_=>rfl
    |1,_=>rfl
   .intro i row hrow j x hx
    match i,hrow with
    |0,hrow=>
     obtain rfl:=sI hrow
     match j,hx with
     |0,hx=>obtain rfl:=sI hx;exact .sc _
     |1,hx=>obtain rfl:=sI hx;exact .sc _)
  have ek:(st.nm (kl (.s d)) (λm=>if(λ_=>M:Nm->Bool) m then Y else jN (.s d) st.hp m))=st.kill (.s d):=tN;rw[ek]at hm
  have hp:=hm.put (d:=Z d) (v:=.pointer (Z ⟨w.heap.size,0,Y⟩)) (x:=.pt (.s d) 0) (λt et=>by
   obtain rfl:=sI et;exact hn) (.pt _ _ _ (wA _ _ _).1)
  exact⟨_,kA.fresh rfl,hp⟩
end
section
variable{X:Ctx}{st:St}{K:St->Prop}{E:AV->St->Prop}{ty:TypeId}{pos:String}{aft:Array Edge}{g:Option (Nat×Bool)}{d:Nat}{T:TypeId}
def Pt(hd:d<X.n:=by first|(simp;done)|fail)(hq:yO X.P T=Z [.sc (.pointer Y),.sc (.slice Y 0 0)])(h:K (FH T d st)):qe X ⟨Z d,.alloc T,ty,pos,aft,g⟩ K E st:=
 .du (λ_ _ _ _ e' h=>Qy h rfl rfl (e' ▸ hd) hq) ⟨rfl,rfl⟩ h
end
end Go.Hm
end
