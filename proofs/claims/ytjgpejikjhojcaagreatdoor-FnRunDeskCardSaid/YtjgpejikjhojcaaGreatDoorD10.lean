import Derived.Test.YtjgpejikjhojcaaGreatDoorD09
import Derived.ChangeVars
set_option linter.all false
set_option maxRecDepth 100000
set_option maxHeartbeats 4000000
open Option renaming some->Z,none->Y
open Bool renaming true->B,false->M
open List renaming length->O

section
namespace Go.Hm
open Go Go.RowKit
variable{G G':Prop}{b i z:Nat}{f:Nm->Option Nm}{hp:Nm->Option AO}{k:qY}{l:List (Int×Int)}{n:Nm}{p:qC}{s:qT}{w x:Int}
theorem pD{xs:List Int}(h:x∈xs):∃i:Nat,yz xs x=i/\i<O xs/\xs[i]?=Z x:=by
 have h0:=nD.2 h
 grind[yz,s8]
theorem XQ:∀(n:Nat)(j:Int),yU p x n j=b->∃k,p[b]?=Z k/\uW b k x=B/\x∉k.dc 9
 :=by intro x0;induction x0<;>grind[yU]
theorem HV{c:Nat}(h:zN p c x=b):∃k,p[b]?=Z k/\uW b k x=B/\x∉k.dc 9:=by
 grind[zN,outer,XQ]
theorem NZ(hk:p[b]?=Z k)(hl:uW b k x=B)(hd:x∉k.dc 9):zN p b x=b:=by
 grind[uW,zN]
theorem Dy{p:qC}{x:Int}(hh:ze p):∀(n:Nat)(j:Int),yU p x n j=-1\/yU p x n j<=j
 |0,_=>.inl rfl
 |n+1,j=>by
  simp only[yU]
  split
  .simp
  .split
   .simp
   .rename_i q hq;have h1:=(hh _ q hq).2.1;have ih:=Dy hh (x:=x) n q.parent;omega
theorem XY(hh:ze p)(hk:p[b]?=Z k)(h:zN p b x≠b):zN p b x<b:=by
 grind[zN,outer,Dy,ze]
theorem qC6:0<=jc p b x/\jc p b x<=4:=by
 grind[jc]
theorem qC8(h:jc p b x=3):x∈qa p b:=by
 grind[jc]
theorem PZ(hp:zw p)(hk:p[b]?=Z k)(hx:0<=x/\x<=7)(h:jc p b x=4):x∈zB p b:=by
 have hka:jk p b=k.kind:=iF;unfold jc at h
 split at h
 .omega
 .rename_i h1
  split at h
  .omega
  .rename_i h2
   split at h
   .omega
   .rename_i h3
    split at h
    .omega
    .rename_i h4;have ho:zN p b x=b:=qA
     have hb:0<b:=by
      grind[nA]
     obtain⟨k',hk',hl,_⟩:=HV ho;obtain rfl:k=k':=sI (hk.symm.trans hk');have hhd:=hp.head b k hk;unfold ul at hhd;rw[if_neg qA]at hhd;have hk1:jk p b=1:=qA;unfold zB;rw[if_pos hk1,BX];refine⟨x.toNat,qA,?_,qA⟩
     grind[kz]
theorem qC9(hp:zw p)(hk:p[b]?=Z k)(hu:x∈k.us)(h:jc p b x=1):x∈za p b/\x∉qa p b:=by
 have qv:=(gS hk).1
 have hx:0<=x/\x<=7:=by
  grind[qY.us,mem_sorted]
 unfold jc at h
 split at h
 .omega
 .rename_i h1
  split at h
  rotate_left
  .omega
  .rename_i h2
   have hpos:0<zN p b x:=by
    grind[nA]
   have hlt:=XY hp.jK hk h2;refine⟨?_,λhc=>h2 ?_⟩
   .unfold za wt;rw[mem_sorted,fp];refine⟨⟨0,qA,?_⟩,hx⟩
    grind[ct,wR,cF]
   .unfold qa at hc
    split at hc
    .unfold aj at hc
     grind[mem_sorted,fp,fX,bQ,HV,NZ]
    .cases hc
theorem W4(hp:zw p)(hk:p[b]?=Z k)(hu:x∈k.us):
  (jc p b x=0/\yM p b x w=(8+w,x))\/(jc p b x=2/\yM p b x w=(11+w,x)) \/
  (jc p b x=4/\∃i:Nat,yM p b x w=(2+w,(i:Int))/\i<O (zB p b)/\(zB p b)[i]?=Z x) \/
  (jc p b x=3/\∃i:Nat,yM p b x w=(5+w,(i:Int))/\i<O (qa p b)/\(qa p b++za p b)[i]?=Z x) \/
  (jc p b x=1/\∃i:Nat,yM p b x w=(5+w,((O (qa p b)+i:Nat):Int))/\i<O (za p b)/\(qa p b++za p b)[O (qa p b)+i]?=Z x):=by
 have hx:0<=x/\x<=7:=by
  grind[qY.us,mem_sorted]
 obtain⟨s0,s4⟩:=qC6 (p:=p) (b:=b) (x:=x);by_cases e0:jc p b x=0
 .grind[yM]
 by_cases e2:jc p b x=2
 .grind[yM]
 by_cases e4:jc p b x=4
 .simp_all[pD,PZ,yM]
 by_cases e3:jc p b x=3
 .grind[qC8,pD,yM,cn]
 have e1:jc p b x=1:=qA
 simp_all[qC9,pD,yM,cn,bn]
theorem HG(hw:0<=w):2<=(yM p b x w).1:=by
 grind[yM]
theorem Ω(hn:nr k)(hs:s∈k.body)(hx:x∈s.reads):x∈k.us:=by
 have h1:=hn.reads s hs x hx
 grind[qY.us,mem_sorted,qY.rd,aw,qT.reads]
theorem qDS(hn:nr k)(hs:s∈k.body)(h:s.eK\/s.kind=11):s.to∈k.us:=by
 have h1:=hn.zE s hs
 grind[qY.us,mem_sorted,qY.bd,oK]
theorem qDN(h:∀o∈l,0<o.1):vU l=0:=by
 grind[vU]
theorem PT:∀o∈kJ p b s++(vg s++vq p b s),0<o.1:=by
 intro o ho;simp only[yI]at ho;rcases ho with ho|ho|ho
 .simp only[kJ,wi]at ho;obtain⟨x,_,rfl⟩:=ho;have:=HG (p:=p) (b:=b) (x:=x) (w:=0) qf;omega
 .grind[vg]
 .unfold vq at ho
  split at ho
  .obtain rfl:=vG.1 ho;have:=HG (p:=p) (b:=b) (x:=s.to) (w:=2) qf;omega
  .split at ho
   .obtain rfl:=vG.1 ho;have:=HG (p:=p) (b:=b) (x:=s.to) (w:=1) qf;omega
   .cases ho
theorem qDM:vU (kj p b s)=1:=by
 have h:=qDN (PT (p:=p) (b:=b) (s:=s))
 grind[vU,kj]
def B4{y:Int}:uF l++[[iv x,iv y]]=uF (l++[(x,y)]):=lJ
structure vE where
 kind:Int
 params:List Int
 qt:List Int
 cells:List Int
 iK:List Int
 ops:List (Int×Int)
 deriving DecidableEq,Inhabited
def iQ:vE:=⟨0,[],[],[],[],[]⟩
@[simp]theorem noCode_kind:iQ.kind=0:=rfl
@[simp]theorem noCode_params:iQ.params=[]:=rfl
@[simp]theorem noCode_fasts:iQ.qt=[]:=rfl
@[simp]theorem noCode_cells:iQ.cells=[]:=rfl
@[simp]theorem noCode_frees:iQ.iK=[]:=rfl
@[simp]theorem noCode_ops:iQ.ops=[]:=rfl
def zQ(p:qC)(b:Nat):vE:=match p[b]? with|some k=>⟨k.kind,k.params,zB p b,qa p b,za p b,zS p b⟩|none=>iQ
def jo(p:qC)(n:Nat):List vE:=(List.range n).map (zQ p)
def Kn{n:Nat}:jo p (n+1)=jo p n++[zQ p n]:=by simp[jo,rC]
@[simp]theorem codesTo_len{n:Nat}:O (jo p n)=n:=by simp[jo]
@[simp]theorem codesTo_zero:jo p 0=[]:=rfl
abbrev vE.row(c:vE):List AV:=[iv c.kind,jO c.params,jO c.qt,jO c.cells,jO c.iK,B5 c.ops]
abbrev vE.av(c:vE):AV:=.agg c.row
def lU(cs:List vE):List (List AV):=cs.map vE.row
abbrev kS(cs:List vE):AV:=.sl 6 (lU cs)
def vE.own(n:Nm)(i:Nat)(c:vE):List AV:=
 [iv c.kind,.hs (.c n i 1) 1 0 (O c.params),.hs (.c n i 2) 1 0 (O c.qt),.hs (.c n i 3) 1 0 (O c.cells),.hs (.c n i 4) 1 0 (O c.iK),.hs (.c n i 5) 2 0 (O c.ops)]
@[simp]theorem vE.B7{c:vE}:c.own n i=[iv c.kind,.hs (.c n i 1) 1 0 (O c.params),.hs (.c n i 2) 1 0 (O c.qt),.hs (.c n i 3) 1 0 (O c.cells),.hs (.c n i 4) 1 0 (O c.iK),.hs (.c n i 5) 2 0 (O c.ops)]:=rfl
structure eV(hp:Nm->Option AO)(n:Nm)(i:Nat)(c:vE):Prop where
 params:hp (.c n i 1)=Z (.row 1 (qh c.params))
 qt:hp (.c n i 2)=Z (.row 1 (qh c.qt))
 cells:hp (.c n i 3)=Z (.row 1 (qh c.cells))
 iK:hp (.c n i 4)=Z (.row 1 (qh c.iK))
 ops:hp (.c n i 5)=Z (.row 2 (uF c.ops))
def wB(n:Nm)(cs:List vE):List (List AV):=cs.mapIdx λi c=>c.own n i
structure AP(hp:Nm->Option AO)(n:Nm)(cs:List vE):Prop where
 top:hp n=Z (.row 6 (wB n cs))
 each:∀(i:Nat)c,cs[i]?=Z c->eV hp n i c
section
variable{cs:List vE}{i a b d l:Nat}{n q k1:Nm}{c:vE}
@[simp]theorem kcrows_len:O (lU cs)=O cs:=by simp[lU]
@[simp]theorem Ux:(lU cs)[i]?=(cs[i]?).map vE.row:=by simp[lU]
@[simp]theorem kcrows_tr:(lU cs).map (λr=>r.map (AV.tr f))=lU cs:=by simp[lU]
@[simp]theorem kdRows_len:O (wB n cs)=O cs:=by simp[wB]
@[simp]theorem ME:(wB n cs)[i]?=(cs[i]?).map (λc=>c.own n i):=by simp[wB]
@[simp]theorem kdRows_nil:wB n []=[]:=rfl
@[simp]theorem kdRows_take:(wB n cs).take (O cs)=wB n cs:=jg qB
def MD:wB n (cs++[c])=wB n cs++[c.own n (O cs)]:=by simp[wB]
def xM{m:Nm}(h:∀i j,i<O cs->f (.c n i j)=Z (.c m i j)):(wB n cs).map (λr=>r.map (AV.tr f))=wB m cs:=by
 apply yp;intro i;simp only[j3,ME,Option.map_map]
 cases hx:cs[i]? with
 |none=>rfl
 |some x=>simp[vE.own,h i _ (gS hx).1]
@[simp]theorem kdRows_kl(h:Nm.under (.s d) n=M):(wB n cs).map (λr=>r.map (AV.tr (kl (.s d))))=wB n cs:=xM iE
@[simp]theorem kdRows_mv1(h:Nm.under (.s a) n=B):(wB n cs).map (λr=>r.map (AV.tr (mv (.s a) k1)))=wB (Nm.qy (.s a) k1 n) cs:=xM iE
@[simp]theorem kdRows_mvc:(wB n cs).map (λr=>r.map (AV.tr (uX n k1)))=wB k1 cs:=by
 refine xM λi j _=>?_;have:Nm.c n i j≠n:=Nm.pC (Nm.uQ n);simp[this]
@[simp]theorem kdRows_mv4{j:Nat}(hq:(q=n)=False)(hq':Nm.under (.c q a b) n=M)(hl:O cs<=l):(wB n cs).map (λr=>r.map (AV.tr (mv (.c q a b) (.c n l j))))=wB n cs:=by
 have h1:¬n=q:=λe=>by simp[e]at hq
 have h2:Nm.under (.c n l j) n=M:=by
  cases h:Nm.under (.c n l j) n with
  |false=>rfl
  |true=>exact absurd rfl (Nm.E8 h).2
 refine xM λi j hi=>?_;have h3:¬i=l:=qA;simp[h1,hq',h2,h3]
end
theorem KC{c:vE}(h:eV hp n i c):∀(j:Nat)a a',(c.own n i)[j]?=Z a->c.row[j]?=Z a'->Bw hp zl a a'
 |0,a,a',ha,ha'=>by obtain rfl:=sI ha;obtain rfl:=sI ha';exact .refl _
 |1,a,a',ha,ha'=>by obtain rfl:=sI ha;grind[ea,eV.params]
 |2,a,a',ha,ha'=>by obtain rfl:=sI ha;grind[ea,eV.qt]
 |3,a,a',ha,ha'=>by obtain rfl:=sI ha;grind[ea,eV.cells]
 |4,a,a',ha,ha'=>by obtain rfl:=sI ha;obtain rfl:=sI ha';exact ea h.iK rfl
 |5,a,a',ha,ha'=>by obtain rfl:=sI ha;obtain rfl:=sI ha';exact C7 h.ops rfl
 |j+6,a,a',ha,_=>qQ
def sr{c:vE}(h:eV hp n i c):Bw hp zl (.agg (c.own n i)) c.av:=.agg _ _ rfl (KC h)
def gt{len:Nat}{cs:List vE}(h:AP hp n cs)(hl:len=O cs):Bw hp zl (.hs n 6 0 len) (kS cs):=by
 subst hl;refine .hs n 6 0 (O cs) (wB n cs) (lU cs) rfl h.top qB qB (by simp[lU]) λi r r' hr hr' j a a' ha ha'=>?_;rw[gc,ME]at hr;rw[Ux]at hr';obtain⟨x,hx,rfl⟩:=zq.1 hr;rw[hx]at hr';obtain rfl:=sI hr';exact KC (h.each i x hx) j a a' ha ha'
theorem eV.vj{H':Nm->Option AO}{n:Nm}{i:Nat}{c:vE}(h:eV H' n i c):eV (vj H') n i c:=
 ⟨ap h.params qB,ap h.qt qB,ap h.cells qB,ap h.iK qB,ap h.ops qB⟩
theorem E5{o:Int×Int}(h:l[i]?=Z o):vU (l.take (i+1))=vU (l.take i)+(if o.1=0 then 1 else 0):=by
 grind[vd,vU]
def P8:vU l<=O l:=List.countP_le_length
def sA(hp:zw p):O (zS p b)<=60:=by
 unfold zS
 split
 .rename_i k hk;have h1:=FI (p:=p) (b:=b) k.body;have h2:=hp.body k (gM hk);omega
 .simp
section
variable{X:Ctx}{st:St}{K:St->Prop}{E:AV->St->Prop}{dst:Option Nat}{f f':FuncId}{args:Array Operand}{Ts:Array TypeId}{ty:TypeId}{pos:String}{aft:Array Edge}{g:Option (Nat×Bool)}{P:Program}{gl:Nat->Option (List AV)}{az:List AV}{R:Nm->AV->(Nm->Option AO)->Prop}
def zg(_hF:qL P gl f' az R)(_hf:f=f')(h:qe X ⟨dst,.call ⟨.value (.func f),args,Ts⟩,ty,pos,aft,g⟩ K E st):qe X ⟨dst,.call ⟨.value (.func f),args,Ts⟩,ty,pos,aft,g⟩ K E st:=h
end
def AV.Gg:AV->Bool
 |.hs _ _ _ _=>B
 |_=>M
@[simp]theorem isHs_hs{lo len:Nat}:(AV.hs n z lo len).Gg=B:=rfl
@[simp]theorem isHs_sc{v:Value}:(AV.sc v).Gg=M:=rfl
section
variable{X:Ctx}{st st':St}{K:St->Prop}{E:AV->St->Prop}{d:Nat}{ty:TypeId}{pos:String}{aft:Array Edge}{g:Option (Nat×Bool)}
def sQ{T F:TypeId}{s x:Operand}{len:Nat}{rows0 rows2:List (List AV)}(hd:d<X.n:=by first|(simp;done)|fail)(hT:yW X.P T=Z F:=by simp[fx];first|done|rfl)(hz:qi X.P F=z:=by simp[fx];first|done|rfl)(hs:ev st s=.hs n z 0 len:=by simp[fx];first|done|rfl|exact⟨rfl,rfl⟩|exact⟨rfl,rfl,rfl⟩)
  (hn:st.hp n=Z (.row z rows0):=by simp[fx];first|done|rfl)(hle:len<=O rows0:=by first|(simp[fx];done)|(simp[fx];omega)|omega)
  (hx:be st z (ev st x)=Z rows2:=by simp[fx];first|done|rfl)(hm:(rows2.any λr=>r.any AV.Gg)=B:=by first|(simp;done)|fail)(hlen:len+O rows2<=4294967296:=by first|(simp[fx];done)|(simp[fx];omega)|omega)
  (hq:Hm.canon (nG (.s d) len rows2) ((wO d z (len+O rows2) (Z n) (rows0.take len++rows2) st).uX n (.s d))=st':=by simp[fx];first|done|rfl|exact(vt _).symm)(h:K st'):
  qe X ⟨Z d,.call ⟨.builtin .append,#[s,x],#[T,T]⟩,ty,pos,aft,g⟩ K E st:=NL hd hT hz hs hn hle hx hlen hq h
end
section
variable{X:Ctx}{st:St}{K:St->Prop}{E:AV->St->Prop}{d:Nat}{ty:TypeId}{pos:String}{aft:Array Edge}{g:Option (Nat×Bool)}{f:Nat}{args:Array Operand}{Ts:Array TypeId}{az avs:List AV}
def uD{x:AV}(hd:d<X.n:=by first|(simp;done)|fail)(ha:args.toList.map (ev st)=avs:=by simp[fx];first|done|rfl|exact(vt _).symm)
  (hB:bJ st.hp zl avs az:=by
    first
    |((repeat'(first|exact .nil|refine .cons ?_ ?_|exact .refl _|exact ea ai ah|exact gu ai ah sy|exact C7 ai ah|exact Ca ai ah|exact C9 ⟨tK,λj k hj hk=>tP⟩ hh rfl|exact C8 ⟨tK,λj k hj hk=>tP⟩ hh hk|exact lF (lG ⟨FV,λj r hj=>Fz,λj r hj=>Fr⟩ rfl)|exact lF (lG ⟨FP,λj r hj=>GC,λj r hj=>GE⟩ rfl)|exact lF (lG ⟨Ff,λj r hj=>FX,λj r hj=>F7⟩ rfl)|exact sr ⟨GD,Fw,Fl,F8,FN⟩|exact sr ⟨Fm,F1,GA,FW,F9⟩|exact gt ⟨GB,λi c hc=>⟨Ft,FR,Fb,Fp,Fi⟩⟩ rfl|exact gt ⟨FT,λi c hc=>⟨F4,F5,FQ,Fa,Fk⟩⟩ rfl|exact gt ⟨Fv,λi c hc=>⟨GF,Fx,Fg,F0,Fe⟩⟩ rfl));done)
    |fail)
  (hF:qL X.P X.gl f az (λ_ y _=>y=x))(hc:x.jX=B:=by first|(simp[fx];done)|fail)(h:K ((st.kill (.s d)).put (Z d) x)):
  qe X ⟨Z d,.call ⟨.value (.func f),args,Ts⟩,ty,pos,aft,g⟩ K E st:=NM hd ha hB hF hc h
def kf{n:Nat}{rows:List (List AV)}(hd:d<X.n:=by first|(simp;done)|fail)(ha:args.toList.map (ev st)=avs:=by simp[fx];first|done|rfl|exact(vt _).symm)
  (hB:bJ st.hp zl avs az:=by
    first
    |((repeat'(first|exact .nil|refine .cons ?_ ?_|exact .refl _|exact ea ai ah|exact gu ai ah sy|exact C7 ai ah|exact Ca ai ah|exact C9 ⟨tK,λj k hj hk=>tP⟩ hh rfl|exact C8 ⟨tK,λj k hj hk=>tP⟩ hh hk|exact lF (lG ⟨FV,λj r hj=>Fz,λj r hj=>Fr⟩ rfl)|exact lF (lG ⟨FP,λj r hj=>GC,λj r hj=>GE⟩ rfl)|exact lF (lG ⟨Ff,λj r hj=>FX,λj r hj=>F7⟩ rfl)|exact sr ⟨GD,Fw,Fl,F8,FN⟩|exact sr ⟨Fm,F1,GA,FW,F9⟩|exact gt ⟨GB,λi c hc=>⟨Ft,FR,Fb,Fp,Fi⟩⟩ rfl|exact gt ⟨FT,λi c hc=>⟨F4,F5,FQ,Fa,Fk⟩⟩ rfl|exact gt ⟨Fv,λi c hc=>⟨GF,Fx,Fg,F0,Fe⟩⟩ rfl));done)
    |fail)
  (hF:qL X.P X.gl f az (λr y H'=>y=.hs r z 0 n/\H' r=Z (.row z rows)))(hc:rows.all (λr=>r.all AV.jX)=B:=by first|(simp;done)|fail)
  (h:K (((st.kill (.s d)).zW (.s d) (.row z rows)).put (Z d) (.hs (.s d) z 0 n))):qe X ⟨Z d,.call ⟨.value (.func f),args,Ts⟩,ty,pos,aft,g⟩ K E st:=NN hd ha hB hF hc h
def lZ{R:Nm->AV->(Nm->Option AO)->Prop}(hd:d<X.n:=by first|(simp;done)|fail)(ha:args.toList.map (ev st)=avs:=by simp[fx];first|done|rfl|exact(vt _).symm)
  (hB:bJ st.hp zl avs az:=by
    first
    |((repeat'(first|exact .nil|refine .cons ?_ ?_|exact .refl _|exact ea ai ah|exact gu ai ah sy|exact C7 ai ah|exact Ca ai ah|exact C9 ⟨tK,λj k hj hk=>tP⟩ hh rfl|exact C8 ⟨tK,λj k hj hk=>tP⟩ hh hk|exact lF (lG ⟨FV,λj r hj=>Fz,λj r hj=>Fr⟩ rfl)|exact lF (lG ⟨FP,λj r hj=>GC,λj r hj=>GE⟩ rfl)|exact lF (lG ⟨Ff,λj r hj=>FX,λj r hj=>F7⟩ rfl)|exact sr ⟨GD,Fw,Fl,F8,FN⟩|exact sr ⟨Fm,F1,GA,FW,F9⟩|exact gt ⟨GB,λi c hc=>⟨Ft,FR,Fb,Fp,Fi⟩⟩ rfl|exact gt ⟨FT,λi c hc=>⟨F4,F5,FQ,Fa,Fk⟩⟩ rfl|exact gt ⟨Fv,λi c hc=>⟨GF,Fx,Fg,F0,Fe⟩⟩ rfl));done)
    |fail)
  (hF:qL X.P X.gl f az R)(h:∀y H',R (.s d) y H'->y.jX=B/\K (((st.kill (.s d)).pq d (vj H')).put (Z d) y)):
  qe X ⟨Z d,.call ⟨.value (.func f),args,Ts⟩,ty,pos,aft,g⟩ K E st:=Wr hd ha hB hF h
end
structure jH(p:Prop):Prop where
 h:p
def qK(k:G')(h:jH G'->G:=by
 intro kk
 repeat'(first
  |refine wL ?_|refine bF ?_|refine aZ ?_|refine pS ?_|refine aY λK hK=>?_
  |((with_reducible refine uu hK ?_);clear hK K)|(with_reducible refine uu hK ?_)
  |(with_reducible first|refine wK ?_|refine cD ?_|refine cO ?_|refine cC ?_|refine bE ?_|refine bU ?_|refine fC ?_|refine cE qf ?_)
  |refine cQ ?_
  |refine bG ?_
  |(with_reducible refine kh ?_)
  |((with_reducible refine lP ?_);refine lw (h:=?_))
  |(with_reducible first|refine lQ ?_|refine mc ?_|refine nV (h:=?_)|refine nR (h:=?_)|refine nW (h:=?_)|refine a6 (h:=?_)|refine eQ (h:=?_)|refine gL (h:=?_)|refine gN (h:=?_)|refine bh (h:=?_)|refine sQ (h:=?_)|refine bH (h:=?_)|refine ii (h:=?_)|refine nS (h:=?_)|refine cR (h:=?_))
  |((with_reducible refine zg c1 rfl ?_);refine uD (hF:=c1) (h:=?_))
  |((with_reducible refine zg c2 rfl ?_);refine uD (hF:=c2) (h:=?_))
  |((with_reducible refine zg c3 rfl ?_);refine uD (hF:=c3) (h:=?_))
  |((with_reducible refine zg c4 rfl ?_);refine uD (hF:=c4) (h:=?_))
  |((with_reducible refine zg c5 rfl ?_);refine uD (hF:=c5) (h:=?_))
  |((with_reducible refine zg c6 rfl ?_);refine uD (hF:=c6) (h:=?_))
  |((with_reducible refine zg d1 rfl ?_);refine kf (hF:=d1) (h:=?_))
  |((with_reducible refine zg d2 rfl ?_);refine kf (hF:=d2) (h:=?_))
  |((with_reducible refine zg d3 rfl ?_);refine kf (hF:=d3) (h:=?_))
  |((with_reducible refine zg d4 rfl ?_);refine kf (hF:=d4) (h:=?_))
  |((with_reducible refine zg e1 rfl ?_);refine lZ (hF:=e1) (h:=?_))
  |((with_reducible refine zg e2 rfl ?_);refine lZ (hF:=e2) (h:=?_))
  |(with_reducible refine wc (h:=?_))
  |(with_reducible refine yr (λht=>?_) (λht=>?_))
  |refine bi (h1:=?_)|refine cS (h1:=?_)
  |((with_reducible refine bk hK ?_);clear hK K)|(with_reducible refine bk hK ?_)
  |((with_reducible refine wh ?_);first|refine ij (h:=?_)|refine ng (h:=?_)|refine na (h:=?_)|refine nh (h:=?_))
  |((with_reducible refine wh ?_);refine nZ (h1:=λht=>?_) (h2:=λht=>?_))
  |refine gZ rfl ?_|refine mE ?_ ?_|refine mF ?_ ?_ ?_|(with_reducible refine aI ?_ ?_)|exact gF|refine gO (h2:=?_)
  |fail)
 first|exact kk.h|(revert hK;revert K;exact kk.h)):G:=h ⟨k⟩
def zf(k:G')(h:jH G'->G:=by
 intro kk
 first
  |refine wL ?_|refine bF ?_|refine aZ ?_|refine pS ?_|refine aY λK hK=>?_
  |((with_reducible refine uu hK ?_);clear hK K)|(with_reducible refine uu hK ?_)
  |(with_reducible first|refine wK ?_|refine cD ?_|refine cO ?_|refine cC ?_|refine bE ?_|refine bU ?_|refine fC ?_|refine cE qf ?_)
  |refine cQ ?_
  |refine bG ?_
  |(with_reducible refine kh ?_)
  |((with_reducible refine lP ?_);refine lw (h:=?_))
  |(with_reducible first|refine lQ ?_|refine mc ?_|refine nV (h:=?_)|refine nR (h:=?_)|refine nW (h:=?_)|refine a6 (h:=?_)|refine eQ (h:=?_)|refine gL (h:=?_)|refine gN (h:=?_)|refine bh (h:=?_)|refine sQ (h:=?_)|refine bH (h:=?_)|refine ii (h:=?_)|refine nS (h:=?_)|refine cR (h:=?_))
  |(with_reducible refine wc (h:=?_))
  |refine bi (h1:=?_)|refine cS (h1:=?_)
 repeat'(first
  |refine wL ?_|refine bF ?_|refine aZ ?_|refine pS ?_|refine aY λK hK=>?_
  |((with_reducible refine uu hK ?_);clear hK K)|(with_reducible refine uu hK ?_)
  |(with_reducible first|refine wK ?_|refine cD ?_|refine cO ?_|refine cC ?_|refine bE ?_|refine bU ?_|refine fC ?_|refine cE qf ?_)
  |refine cQ ?_
  |refine bG ?_
  |(with_reducible refine kh ?_)
  |((with_reducible refine lP ?_);refine lw (h:=?_))
  |(with_reducible first|refine lQ ?_|refine mc ?_|refine nV (h:=?_)|refine nR (h:=?_)|refine nW (h:=?_)|refine a6 (h:=?_)|refine eQ (h:=?_)|refine gL (h:=?_)|refine gN (h:=?_)|refine bh (h:=?_)|refine sQ (h:=?_)|refine bH (h:=?_)|refine ii (h:=?_)|refine nS (h:=?_)|refine cR (h:=?_))
  |(with_reducible refine wc (h:=?_))
  |refine bi (h1:=?_)|refine cS (h1:=?_))
 first|exact kk.h|(revert hK;revert K;exact kk.h)):G:=h ⟨k⟩
def qH{A:Prop}(k:G')(x:A)(h:A->jH G'->G:=by
 intro fx kk;refine qK ?_;exact kk.h):G:=h x ⟨k⟩
def zC(k:G')(h:jH G'->G:=by
 intro kk K hK
 repeat'(first
  |refine wL ?_|refine bF ?_|refine aZ ?_|refine pS ?_|refine aY λK hK=>?_
  |((with_reducible refine uu hK ?_);clear hK K)|(with_reducible refine uu hK ?_)
  |(with_reducible first|refine wK ?_|refine cD ?_|refine cO ?_|refine cC ?_|refine bE ?_|refine bU ?_|refine fC ?_|refine cE qf ?_)
  |refine cQ ?_
  |refine bG ?_
  |(with_reducible refine kh ?_)
  |((with_reducible refine lP ?_);refine lw (h:=?_))
  |(with_reducible first|refine lQ ?_|refine mc ?_|refine nV (h:=?_)|refine nR (h:=?_)|refine nW (h:=?_)|refine a6 (h:=?_)|refine eQ (h:=?_)|refine gL (h:=?_)|refine gN (h:=?_)|refine bh (h:=?_)|refine sQ (h:=?_)|refine bH (h:=?_)|refine ii (h:=?_)|refine nS (h:=?_)|refine cR (h:=?_))
  |((with_reducible refine zg c1 rfl ?_);refine uD (hF:=c1) (h:=?_))
  |((with_reducible refine zg c2 rfl ?_);refine uD (hF:=c2) (h:=?_))
  |((with_reducible refine zg c3 rfl ?_);refine uD (hF:=c3) (h:=?_))
  |((with_reducible refine zg c4 rfl ?_);refine uD (hF:=c4) (h:=?_))
  |((with_reducible refine zg c5 rfl ?_);refine uD (hF:=c5) (h:=?_))
  |((with_reducible refine zg c6 rfl ?_);refine uD (hF:=c6) (h:=?_))
  |((with_reducible refine zg d1 rfl ?_);refine kf (hF:=d1) (h:=?_))
  |((with_reducible refine zg d2 rfl ?_);refine kf (hF:=d2) (h:=?_))
  |((with_reducible refine zg d3 rfl ?_);refine kf (hF:=d3) (h:=?_))
  |((with_reducible refine zg d4 rfl ?_);refine kf (hF:=d4) (h:=?_))
  |((with_reducible refine zg e1 rfl ?_);refine lZ (hF:=e1) (h:=?_))
  |((with_reducible refine zg e2 rfl ?_);refine lZ (hF:=e2) (h:=?_))
  |(with_reducible refine wc (h:=?_))
  |(with_reducible refine yr (λht=>?_) (λht=>?_))
  |refine bi (h1:=?_)|refine cS (h1:=?_)
  |((with_reducible refine bk hK ?_);clear hK K)|(with_reducible refine bk hK ?_)
  |((with_reducible refine wh ?_);first|refine ij (h:=?_)|refine ng (h:=?_)|refine na (h:=?_)|refine nh (h:=?_))
  |((with_reducible refine wh ?_);refine nZ (h1:=λht=>?_) (h2:=λht=>?_))
  |refine gZ rfl ?_|refine mE ?_ ?_|refine mF ?_ ?_ ?_|(with_reducible refine aI ?_ ?_)|exact gF|refine gO (h2:=?_)
  |fail)
 first|exact kk.h|(revert hK;revert K;exact kk.h)):G:=h ⟨k⟩
def MC{X:Ctx}{c:Code}{Q:Ex->St->Prop}(I:St->Prop)(k:∀st,I st->jJ X c Q st)(h:jH (∀st,I st->jJ X c Q st)->G:=by
 intro kk K hK
 repeat'(first
  |refine wL ?_|refine bF ?_|refine aZ ?_|refine pS ?_|refine aY λK hK=>?_
  |((with_reducible refine uu hK ?_);clear hK K)|(with_reducible refine uu hK ?_)
  |(with_reducible first|refine wK ?_|refine cD ?_|refine cO ?_|refine cC ?_|refine bE ?_|refine bU ?_|refine fC ?_|refine cE qf ?_)
  |refine cQ ?_
  |refine bG ?_
  |(with_reducible refine kh ?_)
  |((with_reducible refine lP ?_);refine lw (h:=?_))
  |(with_reducible first|refine lQ ?_|refine mc ?_|refine nV (h:=?_)|refine nR (h:=?_)|refine nW (h:=?_)|refine a6 (h:=?_)|refine eQ (h:=?_)|refine gL (h:=?_)|refine gN (h:=?_)|refine bh (h:=?_)|refine sQ (h:=?_)|refine bH (h:=?_)|refine ii (h:=?_)|refine nS (h:=?_)|refine cR (h:=?_))
  |((with_reducible refine zg c1 rfl ?_);refine uD (hF:=c1) (h:=?_))
  |((with_reducible refine zg c2 rfl ?_);refine uD (hF:=c2) (h:=?_))
  |((with_reducible refine zg c3 rfl ?_);refine uD (hF:=c3) (h:=?_))
  |((with_reducible refine zg c4 rfl ?_);refine uD (hF:=c4) (h:=?_))
  |((with_reducible refine zg c5 rfl ?_);refine uD (hF:=c5) (h:=?_))
  |((with_reducible refine zg c6 rfl ?_);refine uD (hF:=c6) (h:=?_))
  |((with_reducible refine zg d1 rfl ?_);refine kf (hF:=d1) (h:=?_))
  |((with_reducible refine zg d2 rfl ?_);refine kf (hF:=d2) (h:=?_))
  |((with_reducible refine zg d3 rfl ?_);refine kf (hF:=d3) (h:=?_))
  |((with_reducible refine zg d4 rfl ?_);refine kf (hF:=d4) (h:=?_))
  |((with_reducible refine zg e1 rfl ?_);refine lZ (hF:=e1) (h:=?_))
  |((with_reducible refine zg e2 rfl ?_);refine lZ (hF:=e2) (h:=?_))
  |(with_reducible refine wc (h:=?_))
  |(with_reducible refine yr (λht=>?_) (λht=>?_))
  |refine bi (h1:=?_)|refine cS (h1:=?_)
  |((with_reducible refine bk hK ?_);clear hK K)|(with_reducible refine bk hK ?_)
  |((with_reducible refine wh ?_);first|refine ij (h:=?_)|refine ng (h:=?_)|refine na (h:=?_)|refine nh (h:=?_))
  |((with_reducible refine wh ?_);refine nZ (h1:=λht=>?_) (h2:=λht=>?_))
  |refine gZ rfl ?_|refine mE ?_ ?_|refine mF ?_ ?_ ?_|(with_reducible refine aI ?_ ?_)|exact gF|refine gO (h2:=?_)
  |fail)
 all_goals exact kk.h _ (by simp[fx])):G:=h ⟨k⟩
end Go.Hm
end
section
namespace Go.Hm
open Go Go.RowKit Go.ChangeShapes Go.WideShapes Go.Deep
theorem qD9{H:Type}{enc:TypeId×Value->H}{P:Program}{w:World}{spare:Nat->Bool}{n m:String}{gs:List (DataW H)}{ps:List MemPlace}(h:DataW.TrodVars enc P w spare [n,m] gs ps):∃d e,gs=[d,e]:=by
 cases gs<;>grind[DataW.TrodVars,trodVars_one]
end Go.Hm
end
section
namespace Go.Hm
open Go Go.RowKit
abbrev q8:=Int×Int
abbrev qr:=Option q8
structure Act where
 qG:Nat
 up:Nat
 vars:List qr
structure qM where
 qJ:List Act
 stack:List Nat
 globals:List qr
 qI:List (Nat×Nat)
 qU:List (List qr)
 out:List Int
 trace:List (Nat×Nat)
 en:Int
 left:Nat
abbrev jZ:List qr:=List.replicate 8 Y
def shown(v:q8):Int:=if v.1=1 then v.2 else if v.1=2 then -2 else if v.1=3 then -3 else -1
def qM.qG(w:qM)(at':Nat):Nat:=match w.qJ[at']? with|some a=>a.qG|none=>0
def ak(qJ:List Act)(o:Nat):Nat->Nat->Nat
 |0,a=>a
 |n+1,a=>match qJ[a]? with|some c=>if c.qG=o then a else ak qJ o n c.up|none=>a
def qM.loc(p:qC)(w:qM)(at':Nat)(x:Int):Option Nat:=if zN p (w.qG at') x<0 then Y else Z (ak w.qJ (zN p (w.qG at') x).toNat at' at')
def qM.vars(w:qM):Option Nat->List qr
 |none=>w.globals
 |some i=>match w.qJ[i]? with|some a=>a.vars|none=>[]
def qM.get(w:qM)(l:Option Nat)(x:Int):qr:=match(w.vars l)[x.toNat]? with|some s=>s|none=>Y
def qM.set(w:qM)(l:Option Nat)(x:Int)(s:qr):qM:=match l with
 |none=>{w with globals:=w.globals.set x.toNat s}
 |some i=>{w with qJ:=w.qJ.modify i λa=>{a with vars:=a.vars.set x.toNat s}}
def yw(p:qC)(b:Nat)(o:Int):Int:=if o<0\/(o=b/\jk p b=2)then 4 else if o=b then 2 else 3
def j9(p:qC)(w:qM)(at':Nat)(x:Int):qM×q8:=
 match w.get (w.loc p at' x) x with
 |some v=>(w,v)
 |none=>
  if yw p (w.qG at') (zN p (w.qG at') x)=4 then
   match w.get Y x with
   |some v=>(w,v)
   |none=>if x=7 then(w,(1,70))else({w with en:=4},(0,0))
  else({w with en:=yw p (w.qG at') (zN p (w.qG at') x)},(0,0))
def z7(p:qC)(w:qM)(at':Nat):List Int->qM×List q8
 |[]=>(w,[])
 |x::l=>if w.en≠0 then(w,[])else
  ((z7 p (j9 p w at' x).1 at' l).1,(j9 p w at' x).2::(z7 p (j9 p w at' x).1 at' l).2)
def fE(p:qC)(w:qM)(at':Nat)(x:Int)(v:q8):qM:=w.set (w.loc p at' x) x (Z v)
def bD(p:qC)(w:qM)(at':Nat)(x:Int):qM:=match w.get (w.loc p at' x) x with
 |some _=>w.set (w.loc p at' x) x Y
 |none=>{w with en:=yw p (w.qG at') (zN p (w.qG at') x)}
def uf(w:qM)(a b:q8):qM×q8:=if a.1≠1\/b.1≠1 then({w with en:=5},(0,0))else(w,(1,(a.2+b.2).tmod 1000))
def kO(w:qM)(v:q8)(x:Int):qM×q8:=if v.1≠3 then({w with en:=5},(0,0))else
 match w.qU[v.2.toNat]? with
 |some c=>match c[x.toNat]? with
  |some (Z u)=>(w,u)
  |_=>({w with en:=7},(0,0))
 |none=>({w with en:=7},(0,0))
def dR(ps:List Int)(vs:List q8):List qr:=(ps.zip vs).foldl (λl q=>l.set q.1.toNat (Z q.2)) jZ
def ja(p:qC)(w:qM)(b up:Nat)(vs:List q8):qM:=
 {w with qJ:=w.qJ++[⟨b,up,dR (match p[b]? with|some k=>k.params|none=>[]) vs⟩],stack:=w.stack++[O w.qJ]}
def cA(w:qM):qM:=if w.en=0 then{w with stack:=w.stack.dropLast}else w
def uG(p:qC)(b:Nat):Nat:=match p[b]? with|some k=>O k.params|none=>0
section
variable(p:qC)(R:qM->Nat->qM×q8)
def jj(w:qM)(b up:Nat)(vs:List q8):qM×q8:=(cA (R (ja p w b up vs) (O w.qJ)).1,(R (ja p w b up vs) (O w.qJ)).2)
def ub(w:qM)(f:q8)(vs:List q8):qM×q8:=if f.1≠2 then({w with en:=5},(0,0))else
 match w.qI[f.2.toNat]? with
 |some g=>if uG p g.1≠O vs then({w with en:=6},(0,0))else jj p R w g.1 g.2 vs
 |none=>(w,(0,0))
def co(w:qM)(b at':Nat):qM×q8:=
 if(jj p R w b at' []).1.en≠0 then((jj p R w b at' []).1,(0,0))else
 ({ (jj p R w b at' []).1 with qU:=(jj p R w b at' []).1.qU++[(jj p R w b at' []).1.vars (Z (O w.qJ))]},(3,(O (jj p R w b at' []).1.qU:Int)))
def yY(w:qM)(at':Nat)(s:qT)(vs:List q8):qM×q8:=
 if s.kind=0 then(w,(1,s.a))else if s.kind=2 then uf w (vs.getD 0 (0,0)) (vs.getD 1 (0,0))
 else if s.kind=3 then({w with qI:=w.qI++[(s.a.toNat,at')]},(2,(O w.qI:Int)))
 else if s.kind=4 then co p R w s.a.toNat at' else if s.kind=5 then ub p R w (vs.getD 0 (0,0)) vs.tail
 else if s.kind=6 then kO w (vs.getD 0 (0,0)) s.b else(w,vs.getD 0 (0,0))
def vf(w:qM)(at':Nat)(s:qT):qM×q8:=
 if(z7 p w at' s.reads).1.en≠0 then((z7 p w at' s.reads).1,(0,0))else yY p R (z7 p w at' s.reads).1 at' s (z7 p w at' s.reads).2
def uZ(w:qM)(at':Nat)(s:qT):qM:=
 if s.kind=9\/s.kind=10 then w else if s.kind=11 then bD p w at' s.to else
 if(vf p R w at' s).1.en≠0 then(vf p R w at' s).1
 else if s.kind=7 then{ (vf p R w at' s).1 with out:=(vf p R w at' s).1.out++[shown (vf p R w at' s).2]}
 else fE p (vf p R w at' s).1 at' s.to (vf p R w at' s).2
def zZ(w:qM)(at' i:Nat):qM:={w with left:=w.left - 1,trace:=w.trace++[(w.qG at',i)]}
def ve(at':Nat):qM->Nat->List qT->qM×q8
 |w,_,[]=>(w,(0,0))
 |w,i,s::l=>
  if w.left=0 then({w with en:=1},(0,0))else
  if s.kind=8 then j9 p (zZ w at' i) at' s.a else
  if(uZ p R (zZ w at' i) at' s).en≠0 then(uZ p R (zZ w at' i) at' s,(0,0))else ve at' (uZ p R (zZ w at' i) at' s) (i+1) l
end
def qm(p:qC):Nat->qM->Nat->qM×q8
 |0,w,_=>(w,(0,0))
 |n+1,w,at'=>ve p (qm p n) at' w 0 (match p[w.qG at']? with|some k=>k.body|none=>[])
def jb(fuel:Nat):qM:=⟨[⟨0,0,jZ⟩],[0],jZ,[],[],[],[],0,fuel⟩
def v7(p:qC)(fuel:Nat):qM:=(qm p 151 (jb fuel) 0).1
def pM(l:List qr):List Int:=l.map λs=>match s with|some v=>shown v|none=>-9
end Go.Hm
end
