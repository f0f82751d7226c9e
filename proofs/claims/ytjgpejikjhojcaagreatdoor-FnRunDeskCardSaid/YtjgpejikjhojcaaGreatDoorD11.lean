import Derived.Test.YtjgpejikjhojcaaGreatDoorD10
set_option linter.all false
set_option maxRecDepth 100000
set_option maxHeartbeats 4000000
open Option renaming some->Z,none->Y
open Bool renaming true->B,false->M
open List renaming length->O

section
namespace Go.Hm
open Go Go.RowKit
variable{R:qM->Nat->qM×q8}{T:TypeId}{a b fuel i k' n nc nf o up:Nat}{c:Act}{hp:Nm->Option AO}{k:qY}{l:Option Nat}{p:qC}{s:qr}{st':St}{v:q8}{vs:List q8}{w w':qM}{x:Int}
structure zh(nf nc:Nat)(v:q8):Prop where
 num:0<=v.2/\v.2<=1000
 fn:v.1=2->v.2<nf
 cls:v.1=3->v.2<nc
theorem zh.zero:zh nf nc (0,0):=⟨qB,qB,qB⟩
theorem zh.mono{nf' nc':Nat}(h:zh nf nc v)(h1:nf<=nf')(h2:nc<=nc'):zh nf' nc' v:=
 ⟨h.num,λe=>by have:=h.fn e;omega,λe=>by have:=h.cls e;omega⟩
def va(nf nc:Nat)(l:List qr):Prop:=O l=8/\∀v,Z v∈l->zh nf nc v
theorem va.mono{nf nc nf' nc':Nat}{l:List qr}(h:va nf nc l)(h1:nf<=nf')(h2:nc<=nc'):va nf' nc' l:=⟨h.1,λv hv=>(h.2 v hv).mono h1 h2⟩
theorem va.none:va nf nc jZ:=⟨qB,λv hv=>tD⟩
theorem va.set{nf nc:Nat}{l:List qr}(h:va nf nc l){i:Nat}{s:qr}(hs:∀v,s=Z v->zh nf nc v):va nf nc (l.set i s):=by
 grind[va]
theorem va.get{l:List qr}(h:va nf nc l)(hv:l[i]?=Z (Z v)):zh nf nc v:=h.2 v (gM hv)
def kH(p:qC)(qJ:List Act)(b i:Nat):Prop:=∃c k,qJ[i]?=Z c/\p[b]?=Z k/\k.parent=c.qG/\0<b
structure zI(p:qC)(w:qM):Prop where
 a0:∃a,w.qJ[0]?=Z a/\a.qG=0
 vars:∀(i:Nat)a,w.qJ[i]?=Z a->va (O w.qI) (O w.qU) a.vars
 af:∀(i:Nat)a,w.qJ[i]?=Z a->a.qG<O p
 up:∀(i:Nat)a,w.qJ[i]?=Z a->0<i->a.up<i/\kH p w.qJ a.qG a.up
 zM:va (O w.qI) (O w.qU) w.globals
 qI:∀(i:Nat)g,w.qI[i]?=Z g->kH p w.qJ g.1 g.2
 cls:∀c∈w.qU,va (O w.qI) (O w.qU) c
 jw:∀i∈w.stack,i<O w.qJ
 wU:O w.qJ+2*w.left<=1000
 b6:O w.qI+2*w.left<=1000
 aR:O w.qU+2*w.left<=1000
 aS:O w.out+2*w.left<=1000
 aA:O w.trace+w.left<=1000
 mu:O w.stack+2*w.left<=1000
 l6:∀v∈w.out,-3<=v/\v<=1000
 eg:0<=w.en/\w.en<=7
theorem zI.en{p:qC}{w:qM}(h:zI p w){e:Int}(he:0<=e/\e<=7):zI p {w with en:=e}:=⟨h.a0,h.vars,h.af,h.up,h.zM,h.qI,h.cls,h.jw,h.wU,h.b6,h.aR,h.aS,h.aA,h.mu,h.l6,he⟩
structure Grow(s:Nat)(w w':qM):Prop where
 qJ:∀(i:Nat)a,w.qJ[i]?=Z a->∃b,w'.qJ[i]?=Z b/\b.qG=a.qG/\b.up=a.up
 qI:w.qI <+: w'.qI
 cls:w.qU <+: w'.qU
 out:w.out <+: w'.out
 tr:w.trace <+: w'.trace
 left:w'.left<=w.left
 wU:O w'.qJ+2*w'.left<=O w.qJ+2*w.left+s
 b6:O w'.qI+2*w'.left<=O w.qI+2*w.left+s
 aR:O w'.qU+2*w'.left<=O w.qU+2*w.left+s
 aS:O w'.out+2*w'.left<=O w.out+2*w.left+s
 aA:O w'.trace+w'.left=O w.trace+w.left
theorem Grow.refl(s:Nat)(w:qM):Grow s w w:=⟨λ_ a h=>⟨a,h,rfl,rfl⟩,rD _,rD _,rD _,rD _,qb _,qA,qA,qA,qA,rfl⟩
theorem Grow.trans{s t u:Nat}{w w' w'':qM}(h:Grow s w w')(h':Grow t w' w'')(hu:s+t<=u):Grow u w w'':=by
 refine⟨λi a e=>?_,h.qI.trans h'.qI,h.cls.trans h'.cls,h.out.trans h'.out,h.tr.trans h'.tr,uV h'.left h.left,?_,?_,?_,?_,h'.aA.trans h.aA⟩
 .obtain⟨b,e1,e2,e3⟩:=h.qJ i a e;obtain⟨c,f1,f2,f3⟩:=h'.qJ i b e1
  simp_all
 .have:=h.wU;have:=h'.wU;omega
 .have:=h.b6;have:=h'.b6;omega
 .have:=h.aR;have:=h'.aR;omega
 .have:=h.aS;have:=h'.aS;omega
theorem Grow.mono{s t:Nat}(h:Grow s w w')(ht:s<=t):Grow t w w':=h.trans (Grow.refl 0 w') qA
theorem Grow.aq{s:Nat}(h:Grow s w w'):O w.qJ<=O w'.qJ:=by
 cases hn:O w.qJ with
 |zero=>omega
 |succ n=>
  obtain⟨a,ha⟩:∃a,w.qJ[n]?=Z a:=⟨_,gE qA⟩;obtain⟨b,hb,_⟩:=h.qJ n a ha
  grind
def Grow.Dl{s:Nat}(h:Grow s w w'):O w.qI<=O w'.qI:=h.qI.length_le
theorem Grow.en{s:Nat}{w w':qM}(h:Grow s w w'){e:Int}:Grow s w {w' with en:=e}:=⟨h.qJ,h.qI,h.cls,h.out,h.tr,h.left,h.wU,h.b6,h.aR,h.aS,h.aA⟩
theorem Grow.qG{s:Nat}{w w':qM}(h:Grow s w w'){i:Nat}{a:Act}(hi:w.qJ[i]?=Z a):w'.qG i=w.qG i:=by
 obtain⟨b,hb,e,_⟩:=h.qJ i a hi
 grind[qM.qG]
theorem kH.grow{s:Nat}(h:kH p w.qJ b i)(hg:Grow s w w'):kH p w'.qJ b i:=by
 obtain⟨c,k,h1,h2,h3,h4⟩:=h;obtain⟨d,e1,e2,_⟩:=hg.qJ i c h1
 grind[kH]
theorem wk{a:Act}(h:w.qJ[i]?=Z a):w.qG i=a.qG:=by grind[qM.qG]
theorem oh(hh:ze p)(h:zI p w)(hc:w.qJ[a]?=Z c)(hne:c.qG≠o)(ho:0<o)(hi:j8 p (w.qG a) o=B):0<a/\c.up<a/\j8 p (w.qG c.up) o=B:=by
 rw[wk hc]at hi
 have h0:0<a:=by
  grind[zI.a0,cF]
 obtain⟨hu,q,k,e1,e2,e3,e4⟩:=h.up _ c hc h0
 grind[cF,wk,eh]
theorem Ki{p:qC}{w:qM}{o:Nat}(hh:ze p)(h:zI p w)(ho:0<o):∀(n m a:Nat),a<=n->a<=m->a<O w.qJ->j8 p (w.qG a) o=B->ak w.qJ o n a=ak w.qJ o m a
 |0,0,_,_,_,_,_=>rfl
 |0,m+1,a,h1,_,hl,hi=>by
  obtain rfl:a=0:=qA;obtain⟨c,hc⟩:=gX hl;by_cases e:c.qG=o
  .grind[ak]
  .have:=(oh hh h hc e ho hi).1;omega
 |n+1,0,a,_,h2,hl,hi=>by
  obtain rfl:a=0:=qA;obtain⟨c,hc⟩:=gX hl;by_cases e:c.qG=o
  .grind[ak]
  .have:=(oh hh h hc e ho hi).1;omega
 |n+1,m+1,a,h1,h2,hl,hi=>by
  obtain⟨c,hc⟩:=gX hl;by_cases e:c.qG=o
  .grind[ak]
  .obtain⟨e1,e2,e3⟩:=oh hh h hc e ho hi;simp only[ak,hc,e,if_false];exact Ki hh h ho n m c.up qA qA qA e3
theorem xC{qJ:List Act}(hc:qJ[a]?=Z c)(e:c.qG=o):∀n,ak qJ o n a=a
 |0=>rfl
 |n+1=>by grind[ak]
theorem DO(hh:ze p)(h:zI p w)(ho:0<o)(hc:w.qJ[a]?=Z c)(hne:c.qG≠o)(hi:j8 p (w.qG a) o=B):ak w.qJ o a a=ak w.qJ o c.up c.up:=by
 obtain⟨e1,e2,e3⟩:=oh hh h hc hne ho hi;have hl:=(gS hc).1;obtain⟨b,rfl⟩:∃b,a=b+1:=⟨a - 1,qA⟩
 grind[ak,Ki]
theorem Kh{p:qC}{w:qM}{o:Nat}(hh:ze p)(h:zI p w)(ho:0<o):∀(n a:Nat),a<=n->a<O w.qJ->j8 p (w.qG a) o=B->∃c,w.qJ[ak w.qJ o a a]?=Z c/\c.qG=o
 |n,a,h1,hl,hi=>by
  obtain⟨c,hc⟩:=gX hl;by_cases e:c.qG=o
  .grind[xC]
  .obtain⟨e1,e2,e3⟩:=oh hh h hc e ho hi;rw[DO hh h ho hc e hi]
   match n with
   |0=>omega
   |n+1=>exact Kh hh h ho n c.up qA qA e3
theorem XP(hh:ze p)(ho:0<o):∀(n:Nat)(j:Int),yU p x n j=o->j8 p j o=B
 :=by intro x0;induction x0<;>grind[yU,Dy,cF,eh]
theorem XX(hh:ze p)(ho:0<o)(h:zN p b x=o):j8 p b o=B:=by
 grind[cF,zN,outer,eh,XP,ze]
theorem xX(hh:ze p)(h:zI p w)(ha:a<O w.qJ):
  (zN p (w.qG a) x=-1/\w.loc p a x=Y)\/∃(o i:Nat)(c:Act),0<o/\zN p (w.qG a) x=o/\w.loc p a x=Z i/\i=ak w.qJ o a a/\w.qJ[i]?=Z c/\c.qG=o/\j8 p (w.qG a) o=B:=by
 rcases nA (p:=p) (c:=w.qG a) (x:=x)with e|e
 .grind[qM.loc]
 .obtain⟨o,ho⟩:∃o:Nat,zN p (w.qG a) x=o:=⟨(zN p (w.qG a) x).toNat,qA⟩;have ho0:0<o:=qA;have hi:=XX hh ho0 ho;obtain⟨c,hc,hb⟩:=Kh hh h ho0 a a (qb _) ha hi
  grind[qM.loc]
theorem Gv(hh:ze p)(h:zI p w)(ha:a<O w.qJ):∀i,w.loc p a x=Z i->i<O w.qJ:=by
 intro i hi;rcases xX (x:=x) hh h ha with⟨_,h2⟩|⟨o,j,c,_,_,h3,_,h4,_⟩<;>grind
def zI.Eb(h:zI p w)(hl:∀i,l=Z i->i<O w.qJ):va (O w.qI) (O w.qU) (w.vars l):=by
 cases l with
 |none=>exact h.zM
 |some i=>
  obtain⟨c,hc⟩:∃c,w.qJ[i]?=Z c:=⟨_,gE (hl i rfl)⟩;simp only[qM.vars,hc];exact h.vars i c hc
theorem UG(h:w.get l x=Z v):(w.vars l)[x.toNat]?=Z (Z v):=by
 grind[qM.get]
theorem zI.get{p:qC}{w:qM}(h:zI p w){l:Option Nat}{x:Int}{v:q8}(hv:w.get l x=Z v):zh (O w.qI) (O w.qU) v:=by
 have hv:=UG hv
 cases l with
 |none=>exact h.zM.get hv
 |some i=>
  simp only[qM.vars]at hv
  split at hv
  .rename_i c hc;exact(h.vars i c hc).get hv
  simp_all
theorem Bu{a:Act}(h:(w.set l x s).qJ[i]?=Z a):∃b,w.qJ[i]?=Z b/\b.qG=a.qG/\b.up=a.up/\(a.vars=b.vars\/a.vars=b.vars.set x.toNat s):=by
 cases l<;>grind[qM.set]
theorem Qm{a:Act}(h:w.qJ[i]?=Z a):∃b,(w.set l x s).qJ[i]?=Z b/\b.qG=a.qG/\b.up=a.up:=by
 cases l<;>grind[qM.set]
theorem Bv:O (w.set l x s).qJ=O w.qJ:=by
 cases l<;>simp[qM.set]
def pL:(w.set l x s).qI=w.qI/\(w.set l x s).qU=w.qU/\(w.set l x s).out=w.out/\(w.set l x s).trace=w.trace/\(w.set l x s).left=w.left/\(w.set l x s).stack=w.stack/\(w.set l x s).en=w.en:=by
 cases l<;>exact⟨rfl,rfl,rfl,rfl,rfl,rfl,rfl⟩
theorem IT:Grow 0 w (w.set l x s):=by
 obtain⟨e1,e2,e3,e4,e5,e6,_⟩:=pL (w:=w) (l:=l) (x:=x) (s:=s);refine⟨λi a h=>Qm h,qQ,qQ,qQ,qQ,qA,by grind[Bv],qQ,qQ,qQ,by rw[e5,e4]⟩
theorem zI.set{p:qC}{w:qM}(h:zI p w){l:Option Nat}{x:Int}{s:qr}(hs:∀v,s=Z v->zh (O w.qI) (O w.qU) v):zI p (w.set l x s):=by
 obtain⟨e1,e2,e3,e4,e5,e6,e7⟩:=pL (w:=w) (l:=l) (x:=x) (s:=s);have hg:Grow 0 w (w.set l x s):=IT;refine⟨?_,λi a ha=>?_,λi a ha=>?_,λi a ha hi=>?_,?_,λi g hi=>?_,λc hc=>?_,λi hi=>?_,by rw[Bv,e5];exact h.wU,by rw[e1,e5];exact h.b6,by rw[e2,e5];exact h.aR,by rw[e3,e5];exact h.aS,by rw[e4,e5];exact h.aA,by rw[e6,e5];exact h.mu,by rw[e3];exact h.l6,by rw[e7];exact h.eg⟩
 .grind[a0,Bv,Bu]
 .obtain⟨b,f1,f2,f3,f4⟩:=Bu ha;rw[e1,e2];rcases f4 with f4|f4
  .rw [f4];exact h.vars i b f1
  .rw [f4];exact(h.vars i b f1).set hs
 .obtain⟨b,f1,f2,f3,f4⟩:=Bu ha;rw[<- f2];exact h.af i b f1
 .obtain⟨b,f1,f2,f3,f4⟩:=Bu ha;obtain⟨g1,g2⟩:=h.up i b f1 hi;rw[<- f3,<- f2];exact⟨g1,g2.grow hg⟩
 .rw [e1,e2]
  cases l with
  |none=>exact h.zM.set hs
  |some j=>exact h.zM
 .rw [e1]at hi;exact(h.qI i g hi).grow hg
 .rw [e2]at hc;rw[e1,e2];exact h.cls c hc
 .rw [e6]at hi;rw[Bv];exact h.jw i hi
structure jx(p:qC)(s:Nat)(w w':qM):Prop where
 ok:zI p w'
 grow:Grow s w w'
 jw:w'.en=0->w'.stack=w.stack
theorem jx.refl{p:qC}{s:Nat}{w:qM}(h:zI p w):jx p s w w:=⟨h,.refl s w,λ_=>rfl⟩
theorem jx.en{p:qC}{s:Nat}{w w':qM}(h:jx p s w w'){e:Int}(he:e≠0)(hr:0<=e/\e<=7:=by decide):jx p s w {w' with en:=e}:=⟨h.ok.en hr,h.grow.en,λh=>absurd h he⟩
def jx.trans{p:qC}{s t u:Nat}{w w' w'':qM}(h:jx p s w w')(h':jx p t w' w'')(h0:w''.en=0->w'.en=0)(hu:s+t<=u):jx p u w w'':=⟨h'.ok,h.grow.trans h'.grow hu,λe=>(h'.jw e).trans (h.jw (h0 e))⟩
theorem jx.mono{p:qC}{s t:Nat}{w w':qM}(h:jx p s w w')(hst:s<=t):jx p t w w':=⟨h.ok,h.grow.mono hst,h.jw⟩
theorem BV{o:Int}:yw p b o≠0:=by grind[yw]
theorem MM{o:Int}:0<=yw p b o/\yw p b o<=7:=by grind[yw]
def Dn(h:zI p w):jx p 0 w (j9 p w a x).1/\zh (O w.qI) (O w.qU) (j9 p w a x).2/\((j9 p w a x).1=w\/∃e,e≠0/\(j9 p w a x).1={w with en:=e}):=by
 unfold j9
 split
 .rename_i v hv;exact⟨.refl h,h.get hv,.inl rfl⟩
 .split
  .split
   .rename_i v hv;exact⟨.refl h,h.get hv,.inl rfl⟩
   .split
    .exact⟨.refl h,⟨qB,qB,qB⟩,.inl rfl⟩
    .exact⟨(jx.refl h).en qf,.zero,.inr ⟨_,qf,rfl⟩⟩
  .exact⟨(jx.refl h).en BV MM,.zero,.inr ⟨_,BV,rfl⟩⟩
theorem xW{p:qC}{a:Nat}:∀{l:List Int}{w:qM},zI p w->jx p 0 w (z7 p w a l).1/\(∀v∈(z7 p w a l).2,zh (O w.qI) (O w.qU) v)/\((z7 p w a l).1=w\/∃e,e≠0/\(z7 p w a l).1={w with en:=e})/\((z7 p w a l).1.en=0->O (z7 p w a l).2=O l)/\O (z7 p w a l).2<=O l
 |[],w,h=>⟨.refl h,λv hv=>by grind[z7],.inl rfl,λ_=>rfl,qb _⟩
 |x::l,w,h=>by
  simp only[z7]
  split
  .grind[jx.refl]
  .rename_i he;obtain⟨h1,h2,h3⟩:=Dn (a:=a) (x:=x) h;rcases h3 with h3|⟨e,he,h3⟩
   .rw [h3];obtain⟨i1,i2,i3,i4,i5⟩:=xW (a:=a) (l:=l) h
    simp_all
   .rw [h3]
    have hen:z7 p {w with en:=e} a l=({w with en:=e},[]):=by
     cases l<;>grind[z7]
    simp_all
def qC3(h:zI p w)(hv:zh (O w.qI) (O w.qU) v):jx p 0 w (fE p w a x v):=
 ⟨h.set λu e=>qQ,IT,λ_=>pL.2.2.2.2.2.1⟩
def qCg(h:zI p w):jx p 0 w (bD p w a x):=by
 unfold bD
 split
 .exact⟨h.set λu e=>vi,IT,λ_=>pL.2.2.2.2.2.1⟩
 .exact (jx.refl h).en BV MM
theorem Xl{a b:q8}(h:zI p w)(ha:zh (O w.qI) (O w.qU) a)(hb:zh (O w.qI) (O w.qU) b):jx p 0 w (uf w a b).1/\zh (O (uf w a b).1.qI) (O (uf w a b).1.qU) (uf w a b).2:=by
 unfold uf
 split
 .exact⟨(jx.refl h).en qf,.zero⟩
 .refine⟨.refl h,⟨?_,qB,qB⟩⟩;have:=ha.num;have:=hb.num
  grind
def RO(h:zI p w):jx p 0 w (kO w v x).1/\zh (O (kO w v x).1.qI) (O (kO w v x).1.qU) (kO w v x).2:=by
 unfold kO
 split
 .exact⟨(jx.refl h).en qf,.zero⟩
 .split
  .rename_i c hc
   split
   .rename_i u hu;exact⟨.refl h,(h.cls c (gM hc)).get hu⟩
   .exact⟨(jx.refl h).en qf,.zero⟩
  .exact⟨(jx.refl h).en qf,.zero⟩
structure Room(k:Nat)(w:qM):Prop where
 qJ:O w.qJ+k+2*w.left<=1000
 qI:O w.qI+k+2*w.left<=1000
 cls:O w.qU+k+2*w.left<=1000
 out:O w.out+k+2*w.left<=1000
 jw:O w.stack+k+2*w.left<=1000
theorem Room.mono{k:Nat}(h:Room k w)(hk:k'<=k):Room k' w:=by
 obtain⟨h1,h2,h3,h4,h5⟩:=h;constructor<;>grind
def jx.room{s k:Nat}(h:jx p s w w')(hr:Room k w)(h0:w'.en=0)(hk:k'+s<=k):Room k' w':=by
 obtain⟨h1,h2,h3,h4,h5⟩:=hr;have g:=h.grow;have e:=h.jw h0;have:=g.left;exact⟨by have:=g.wU;omega,by have:=g.b6;omega,by have:=g.aR;omega,by have:=g.aS;omega,qx⟩
def ir(p:qC)(n:Nat)(R:qM->Nat->qM×q8):Prop:=∀(w:qM)(a:Nat),zI p w->w.left<n->a<O w.qJ->w.en=0->jx p 0 w (R w a).1/\zh (O (R w a).1.qI) (O (R w a).1.qU) (R w a).2
theorem Jj{ps:List Int}(h:∀v∈vs,zh nf nc v):va nf nc (dR ps vs):=by
 unfold dR
 have key:∀(l:List (Int×q8))(s:List qr),(∀q∈l,zh nf nc q.2)->va nf nc s->va nf nc (l.foldl (λl q=>l.set q.1.toNat (Z q.2)) s):=by
  intro l
  induction l with
  |nil=>simp
  |cons q l ih=>exact λs hl hs=>ih _ (λq' h'=>hl q' (cY _ h')) (hs.set λv e=>qQ)
 exact key _ _ (λq hq=>h q.2 (List.of_mem_zip hq).2) .none
theorem sm(h:zI p w)(hm:kH p w.qJ b up)(hv:∀v∈vs,zh (O w.qI) (O w.qU) v)(hr:Room 1 w):zI p (ja p w b up vs)/\Grow 1 w (ja p w b up vs):=by
 have hg:Grow 1 w (ja p w b up vs):=by
  constructor<;>grind[ja]
 refine⟨?_,hg⟩;have hmade:=hm.grow hg;obtain⟨c,k,m1,m2,m3,m4⟩:=hm;have hul:=(gS m1).1;have qv:=(gS m2).1
 have split':∀(i:Nat)(a:Act),(ja p w b up vs).qJ[i]?=Z a->w.qJ[i]?=Z a\/(i=O w.qJ/\a.qG=b/\a.up=up/\va (O w.qI) (O w.qU) a.vars):=by
  grind[ja,Jj]
 refine⟨?_,λi a ha=>?_,λi a ha=>?_,λi a ha hi=>?_,h.zM,λi g hg'=>(h.qI i g hg').grow hg,h.cls,λi hi=>?_,by simpa[ja]using hr.qJ,h.b6,h.aR,h.aS,h.aA,by simpa[ja]using hr.jw,h.l6,h.eg⟩
 .obtain⟨a,ha,hb⟩:=h.a0;obtain⟨b,e1,e2,_⟩:=hg.qJ 0 a ha
  simp_all
 .rcases split' i a ha with e|⟨_,_,_,e⟩
  .exact h.vars i a e
  .exact e
 .rcases split' i a ha with e|⟨_,e,_,_⟩
  .exact h.af i a e
  omega
 .rcases split' i a ha with e|⟨e1,e2,e3,_⟩
  .obtain⟨x1,x2⟩:=h.up i a e hi;exact⟨x1,x2.grow hg⟩
  simp_all
 .simp only[ja,yI,vG]at hi;simp only[ja,u7,aG];rcases hi with e|e
  .have:=h.jw i e;omega
  .omega
theorem DV(hR:ir p n R)(h:zI p w)(hn:w.left<n)(h0:w.en=0)(hm:kH p w.qJ b up)(hv:∀v∈vs,zh (O w.qI) (O w.qU) v)(hr:Room 1 w):
  jx p 1 w (jj p R w b up vs).1/\zh (O (jj p R w b up vs).1.qI) (O (jj p R w b up vs).1.qU) (jj p R w b up vs).2:=by
 obtain⟨h1,h2⟩:=sm h hm hv hr;obtain⟨⟨r1,r2,r3⟩,r4⟩:=hR (ja p w b up vs) (O w.qJ) h1 hn tB h0;unfold jj cA
 split
 .rename_i he;refine⟨⟨⟨r1.a0,r1.vars,r1.af,r1.up,r1.zM,r1.qI,r1.cls,λi hi=>r1.jw i (List.dropLast_subset _ hi),r1.wU,r1.b6,r1.aR,r1.aS,r1.aA,?_,r1.l6,r1.eg⟩,?_,λ_=>?_⟩,r4⟩
  .have:=r1.mu
   grind
  .have hg:=h2.trans r2 (qb _);exact⟨hg.qJ,hg.qI,hg.cls,hg.out,hg.tr,hg.left,hg.wU,hg.b6,hg.aR,hg.aS,hg.aA⟩
  grind[ja]
 .rename_i he;exact⟨⟨r1,h2.trans r2 (qb _),λe=>absurd e he⟩,r4⟩
theorem Rq(hR:ir p n R){f:q8}(h:zI p w)(hn:w.left<n)(h0:w.en=0)(hv:∀v∈vs,zh (O w.qI) (O w.qU) v)(hr:Room 1 w):
  jx p 1 w (ub p R w f vs).1/\zh (O (ub p R w f vs).1.qI) (O (ub p R w f vs).1.qU) (ub p R w f vs).2:=by
 unfold ub
 split
 .exact⟨(jx.refl h).en qf,.zero⟩
 .split
  .rename_i g hg
   split
   .exact⟨(jx.refl h).en qf,.zero⟩
   .exact DV hR h hn h0 (h.qI _ g hg) hv hr
  grind[jx.refl,zh.zero]
theorem zI.Qo(h:zI p w){c:List qr}(hc:va (O w.qI) (O w.qU) c)(hl:O w.qU+1+2*w.left<=1000):zI p {w with qU:=w.qU++[c]}:=by
 have hm:∀{l:List qr},va (O w.qI) (O w.qU) l->va (O w.qI) (O (w.qU++[c])) l:=λh=>h.mono (qb _) qB;refine⟨h.a0,λi a ha=>hm (h.vars i a ha),h.af,h.up,hm h.zM,h.qI,λd hd=>?_,h.jw,h.wU,h.b6,qQ,h.aS,h.aA,h.mu,h.l6,h.eg⟩;rcases yI.1 hd with e|e
 .exact hm (h.cls d e)
 simp_all
theorem zI.Qq(h:zI p w)(hm:kH p w.qJ b i)(hl:O w.qI+1+2*w.left<=1000):zI p {w with qI:=w.qI++[(b,i)]}:=by
 have hs:∀{l:List qr},va (O w.qI) (O w.qU) l->va (O (w.qI++[(b,i)])) (O w.qU) l:=λh=>h.mono qB (qb _);refine⟨h.a0,λi a ha=>hs (h.vars i a ha),h.af,h.up,hs h.zM,λj g hg=>?_,λc hc=>hs (h.cls c hc),h.jw,h.wU,qQ,h.aR,h.aS,h.aA,h.mu,h.l6,h.eg⟩;rcases yI.1 (gM hg)with e|e
 .obtain⟨j',hj'⟩:=ko e;exact h.qI j' g hj'
 simp_all
theorem SU(hR:ir p n R)(h:zI p w)(hn:w.left<n)(h0:w.en=0)(hm:kH p w.qJ b a)(hr:Room 2 w):
  jx p 2 w (co p R w b a).1/\zh (O (co p R w b a).1.qI) (O (co p R w b a).1.qU) (co p R w b a).2:=by
 obtain⟨⟨h1,h2,h3⟩,_⟩:=DV (vs:=[]) hR h hn h0 hm (λv hv=>tD) (hr.mono qA)
 have hlen:O w.qJ<O (jj p R w b a []).1.qJ:=by
  obtain⟨g1,g2⟩:=sm (vs:=[]) h hm (λv hv=>tD) (hr.mono qA);obtain⟨⟨_,r2,_⟩,_⟩:=hR (ja p w b a []) (O w.qJ) g1 hn tB h0;have:=r2.aq
  grind[jj,cA,ja]
 unfold co
 split
 .rename_i he;exact⟨⟨h1,h2.mono qA,h3⟩,.zero⟩
 .rename_i he;have he':(jj p R w b a []).1.en=0:=qA;have hr1:=(jx.mk h1 h2 h3).room hr he' (k':=1) qA;have hok:=h1.Qo (c:=(jj p R w b a []).1.vars (Z (O w.qJ))) (h1.Eb λi e=>qQ) hr1.cls;refine⟨⟨hok,?_,λe=>h3 e⟩,?_⟩
  .refine⟨h2.qJ,h2.qI,h2.cls.trans (List.prefix_append _ _),h2.out,h2.tr,h2.left,by have:=h2.wU;grind,by have:=h2.b6;grind,by have:=h2.aR;grind,by have:=h2.aS;grind,h2.aA⟩
  .have:=hr1.cls;constructor<;>grind
theorem zp.made{s:qT}(h:zp p b k s=B)(hk:s.kind=3\/s.kind=4):∃q,p[s.a.toNat]?=Z q/\q.parent=b/\0<s.a/\q.kind=s.kind-2:=by
 have key:∀d,bW p b s.a d=B->∃q,p[s.a.toNat]?=Z q/\q.parent=b/\0<s.a/\q.kind=d:=by
  grind[bW]
 rcases hk with e|e<;>simp_all[zp]
theorem zp.num{s:qT}(h:zp p b k s=B)(hk:s.kind=0):0<=s.a/\s.a<=99:=by
 grind[zp]
theorem D3(h:∀v∈vs,zh nf nc v)(i:Nat):zh nf nc (vs.getD i (0,0)):=by
 grind[zh.zero]
theorem Is(hR:ir p n R){s:qT}(h:zI p w)(hn:w.left<n)(h0:w.en=0)(ha:a<O w.qJ)(hs:zp p (w.qG a) k s=B)(hv:∀v∈vs,zh (O w.qI) (O w.qU) v)(hr:Room 2 w):
  jx p 2 w (yY p R w a s vs).1/\zh (O (yY p R w a s vs).1.qI) (O (yY p R w a s vs).1.qU) (yY p R w a s vs).2:=by
 obtain⟨c,hc⟩:=gX ha
 have hmade:s.kind=3\/s.kind=4->kH p w.qJ s.a.toNat a:=λe=>by
  obtain⟨q,h1,h2,h3,_⟩:=zp.made hs e;exact⟨c,q,hc,h1,by grind[wk],qA⟩
 unfold yY
 split
 .rename_i e;have:=zp.num hs e;exact⟨.refl h,⟨qx,qB,qB⟩⟩
 .split
  .obtain⟨h1,h2⟩:=Xl h (D3 hv 0) (D3 hv 1);exact⟨h1.mono qA,h2⟩
  .split
   .rename_i e;have hl:=hr.qI;refine⟨⟨h.Qq (hmade (.inl e)) qA,?_,λ_=>rfl⟩,⟨qx,λ_=>qx,qB⟩⟩;constructor<;>grind
   .split
    .grind[SU]
    .split
     .obtain⟨h1,h2⟩:=Rq (f:=vs.getD 0 (0,0)) (vs:=vs.tail) hR h hn h0 (λv hv'=>hv v (List.mem_of_mem_tail hv')) (hr.mono qA);exact⟨h1.mono qA,h2⟩
     .split
      .obtain⟨h1,h2⟩:=RO (v:=vs.getD 0 (0,0)) (x:=s.b) h;exact⟨h1.mono qA,h2⟩
      grind[jx.refl,D3]
theorem In(hR:ir p n R){s:qT}(h:zI p w)(hn:w.left<n)(h0:w.en=0)(ha:a<O w.qJ)(hs:zp p (w.qG a) k s=B)(hr:Room 2 w):
  jx p 2 w (vf p R w a s).1/\zh (O (vf p R w a s).1.qI) (O (vf p R w a s).1.qU) (vf p R w a s).2:=by
 unfold vf;obtain⟨h1,h2,h3,_⟩:=xW (a:=a) (l:=s.reads) h
 split
 .exact⟨h1.mono qA,.zero⟩
 grind[Is]
theorem qB1(h:zh nf nc v):-3<=Hm.shown v/\Hm.shown v<=1000:=by
 have:=h.num
 grind[shown]
def zI.Qr(h:zI p w){v:Int}(hl:O w.out+1+2*w.left<=1000)(hv:-3<=v/\v<=1000):zI p {w with out:=w.out++[v]}:=
 ⟨h.a0,h.vars,h.af,h.up,h.zM,h.qI,h.cls,h.jw,h.wU,h.b6,h.aR,qQ,h.aA,h.mu,λx hx=>by
   simp only[yI,vG]at hx;rcases hx with hx|rfl
   .exact h.l6 x hx
   .exact hv,h.eg⟩
theorem zp.print{s:qT}(h:s.kind=7):vf p R w a s=if(z7 p w a s.reads).1.en≠0 then((z7 p w a s.reads).1,(0,0))else((z7 p w a s.reads).1,(z7 p w a s.reads).2.getD 0 (0,0)):=by
 simp[vf,yY,h]
theorem EW(hR:ir p n R){s:qT}(h:zI p w)(hn:w.left<n)(h0:w.en=0)(ha:a<O w.qJ)(hs:zp p (w.qG a) k s=B)(hr:Room 2 w):jx p 2 w (uZ p R w a s):=by
 unfold uZ
 split
 .exact .refl h
 .split
  .exact (qCg h).mono qA
  .obtain⟨h1,h2⟩:=In hR h hn h0 ha hs hr
   split
   .exact h1
   .rename_i hne;have he:(vf p R w a s).1.en=0:=qA
    split
    .rename_i e7
     have hw:(vf p R w a s).1=w:=by
      grind[xW,zp.print]
     rw[hw];have hl:=hr.out;refine⟨h.Qr qA (qB1 h2),⟨λ_ a h=>⟨a,h,rfl,rfl⟩,rD _,rD _,List.prefix_append _ _,rD _,qb _,qB,qB,qB,qx,rfl⟩,λ_=>rfl⟩
    .obtain⟨s1,s2,s3⟩:=qC3 (a:=a) (x:=s.to) h1.ok h2;refine⟨s1,h1.grow.trans s2 qA,λe=>?_⟩;rw[s3 e];exact h1.jw he
theorem E4(h:zI p w)(hl:w.left≠0):zI p (zZ w a i)/\Room 2 (zZ w a i):=by
 have h1:=h.wU;have h2:=h.b6;have h3:=h.aR;have h4:=h.aS;have h5:=h.aA;have h6:=h.mu;refine⟨⟨h.a0,h.vars,h.af,h.up,h.zM,h.qI,h.cls,h.jw,?_,?_,?_,?_,?_,?_,h.l6,h.eg⟩,⟨?_,?_,?_,?_,?_⟩⟩<;>grind[zZ]
def qDK(hl:w.left≠0)(h:Grow 2 (zZ w a i) w'):Grow 0 w w':=by
 have h1:=h.wU;have h2:=h.b6;have h3:=h.aR;have h4:=h.aS;have h5:=h.aA;have h6:=h.left;simp only[zZ,u7,aG]at h1 h2 h3 h4 h5 h6;exact⟨h.qJ,h.qI,h.cls,h.out,(List.prefix_append _ _).trans h.tr,qA,qA,qA,qA,qA,qA⟩
def jx.tick(hl:w.left≠0)(h:jx p 2 (zZ w a i) w'):jx p 0 w w':=⟨h.ok,qDK hl h.grow,h.jw⟩
theorem Ju{p:qC}{n:Nat}{R:qM->Nat->qM×q8}(hR:ir p n R){a:Nat}{k:qY}:∀{l:List qT}{w:qM}{i:Nat},zI p w->w.left<n+1->w.en=0->a<O w.qJ->(∀s∈l,zp p (w.qG a) k s=B) ->
  jx p 0 w (ve p R a w i l).1/\zh (O (ve p R a w i l).1.qI) (O (ve p R a w i l).1.qU) (ve p R a w i l).2
 |[],w,i,h,_,_,_,_=>⟨.refl h,.zero⟩
 |s::l,w,i,h,hn,h0,ha,hs=>by
  simp only[ve]
  split
  .exact⟨(jx.refl h).en qf,.zero⟩
  .rename_i hl;obtain⟨t1,t2⟩:=E4 (a:=a) (i:=i) h hl;have tn:(zZ w a i).left<n:=by grind[zZ]
   split
   .obtain⟨x1,x2,x3⟩:=Dn (a:=a) (x:=s.a) t1;refine⟨(x1.mono qA).tick hl,?_⟩
    grind
   .have hst:=EW hR t1 tn h0 ha (hs s qB) t2
    split
    .exact⟨hst.tick hl,.zero⟩
    .rename_i he;have he':(uZ p R (zZ w a i) a s).en=0:=qA;have hA:=hst.tick hl;obtain⟨c,hc⟩:=gX ha;have hb:=hA.grow.qG hc;obtain⟨r1,r2⟩:=Ju hR (l:=l) (i:=i+1) hA.ok (by have:=hA.grow.left;omega) he' (um ha hA.grow.aq) (λs' hs'=>by rw[hb];exact hs s' (by simp[hs']));exact⟨hA.trans r1 (λ_=>he') qA,r2⟩
def fz{p:qC}(hp:zw p):∀n,ir p n (qm p n)
 |0=>λw a _ h=>absurd h qA
 |n+1=>by
  intro w a h hn ha h0;simp only[qm];obtain⟨c,hc⟩:=gX ha;have hb:=h.af a c hc;obtain⟨k,hk⟩:=gX hb;rw[wk hc,hk];exact Ju (fz hp n) (k:=k) h hn h0 ha (λs hs=>by rw[wk hc];exact hp.fD _ k hk s hs)
theorem EV(hp:zw p)(hf:fuel<=150):zI p (jb fuel):=by
 have hl:=hp.len;refine⟨⟨_,rfl,rfl⟩,λi a ha=>?_,λi a ha=>?_,λi a ha hi=>?_,.none,λi g hg=>?_,λc hc=>?_,λi hi=>?_,?_,?_,?_,?_,?_,?_,lK,lK⟩
 .grind[jb,va.none]
 .grind[jb]
 .grind[jb]
 .grind[jb]
 .grind[jb]
 .grind[jb]
 all_goals simp[jb]
 all_goals omega
theorem Mm(hp:zw p)(hf:fuel<=150):jx p 0 (jb fuel) (v7 p fuel):=
 (fz hp 151 (jb fuel) 0 (EV hp hf) (by grind[jb]) lK rfl).1
def jv(s:qr):List AV:=match s with|some v=>[bv B,iv v.1,iv v.2]|none=>[bv M,iv 0,iv 0]
@[simp]theorem By:O (jv s)=3:=by cases s<;>rfl
@[simp]theorem qB6{f:Nm->Option Nm}:(jv s).map (AV.tr f)=jv s:=by cases s<;>rfl
@[simp]theorem Bz:jv Y=[bv M,iv 0,iv 0]:=rfl
@[simp]theorem CA:jv (Z v)=[bv B,iv v.1,iv v.2]:=rfl
def zD(l:List qr):List (List AV):=l.map jv
section
variable{l:List qr}{i:Nat}{f:Nm->Option Nm}{s:qr}
@[simp]theorem slrows_len:O (zD l)=O l:=oM
@[simp]theorem qB8:(zD l)[i]?=(l[i]?).map jv:=oM
@[simp]theorem slrows_getE{h:i<O (zD l)}:(zD l)[i]=jv (l[i]' qQ):=oM
@[simp]theorem slrows_tr:(zD l).map (λr=>r.map (AV.tr f))=zD l:=oM
@[simp]theorem slrows_take:(zD l).take n=zD (l.take n):=oM
@[simp]theorem slrows_nil:zD []=[]:=rfl
theorem qB9:∀r∈zD l,O r=3:=by
 simp_all[zD]
@[simp]theorem slrows_cln:(zD l).all (λr=>r.all AV.jX)=B:=by
 rw[yn];intro r hr;simp only[zD,wi]at hr;obtain⟨s,_,rfl⟩:=hr
 cases s<;>rfl
theorem Oq:jn (zD l) i 0 (jv s)=zD (l.set i s):=by
 apply yp;intro j;simp only[jn,it,qB8,fL];by_cases e:i=j
 .subst e
  cases h:l[i]? with
  |none=>
   simp_all
  |some y=>
   simp_all<;>grind
 .simp [e]
end
@[simp]theorem slrows_setS{l:List qr}{a b:Int}:jn (zD l) i 0 [bv B,iv a,iv b]=zD (l.set i (Z (a,b))):=Oq (s:=Z (a,b))
@[simp]theorem slrows_setN{l:List qr}:jn (zD l) i 0 [bv M,iv 0,iv 0]=zD (l.set i Y):=Oq (s:=Y)
def zm(l:List q8):List (List AV):=l.map λv=>[iv v.1,iv v.2]
section
variable{l m:List q8}{i:Nat}{f:Nm->Option Nm}{v:q8}
@[simp]theorem vrows_len:O (zm l)=O l:=oO
@[simp]theorem vrows_getE{h:i<O (zm l)}:(zm l)[i]=[iv (l[i]' qQ).1,iv (l[i]' qQ).2]:=oO
@[simp]theorem vrows_tr:(zm l).map (λr=>r.map (AV.tr f))=zm l:=oO
@[simp]theorem vrows_take:(zm l).take n=zm (l.take n):=oO
@[simp]theorem vrows_nil:zm []=[]:=rfl
end
def vR(l:List (Nat×Nat)):List (List AV):=l.map λv=>[iv v.1,iv v.2]
section
variable{l m:List (Nat×Nat)}{i:Nat}{f:Nm->Option Nm}
@[simp]theorem nrows_len:O (vR l)=O l:=by simp[vR]
@[simp]theorem nrows_tr:(vR l).map (λr=>r.map (AV.tr f))=vR l:=by simp[vR]
@[simp]theorem nrows_take:(vR l).take n=vR (l.take n):=by simp[vR]
@[simp]theorem nrows_nil:vR []=[]:=rfl
def Dq:vR l++[[iv a,iv b]]=vR (l++[(a,b)]):=by simp[vR]
end
def er(i:Nat)(a:Act):Int:=if i=0 then -1 else a.up
def kW(n:Nm)(az:List Act):List (List AV):=az.mapIdx λi a=>[iv a.qG,iv (er i a),.hs (.c n i 2) 3 0 8]
def ky(n:Nm)(cs:List (List qr)):List (List AV):=cs.mapIdx λi _=>[.hs (.c n i 0) 3 0 8]
def wS(n:Nm)(fs:List (Nat×Nat)):List (List AV):=fs.mapIdx λi g=>[iv g.1,iv g.2,.hs (.c n i 2) 3 0 0]
section
variable{az:List Act}{cs:List (List qr)}{fs:List (Nat×Nat)}{n m:Nm}{i:Nat}{f:Nm->Option Nm}
@[simp]theorem actRows_len:O (kW n az)=O az:=by simp[kW]
@[simp]theorem CS:(kW n az)[i]?=(az[i]?).map λa=>[iv a.qG,iv (er i a),.hs (.c n i 2) 3 0 8]:=by simp[kW]
@[simp]theorem clsRows_len:O (ky n cs)=O cs:=by simp[ky]
@[simp]theorem Kk:(ky n cs)[i]?=(cs[i]?).map λ_=>[AV.hs (.c n i 0) 3 0 8]:=by simp[ky]
@[simp]theorem funRows_len:O (wS n fs)=O fs:=by simp[wS]
@[simp]theorem G8:(wS n fs)[i]?=(fs[i]?).map λg=>[iv g.1,iv g.2,AV.hs (.c n i 2) 3 0 0]:=by simp[wS]
@[simp]theorem actRows_getE{h:i<O (kW n az)}:(kW n az)[i]=[iv (az[i]' qQ).qG,iv (er i (az[i]' qQ)),.hs (.c n i 2) 3 0 8]:=by simp[kW]
@[simp]theorem clsRows_getE{h:i<O (ky n cs)}:(ky n cs)[i]=[AV.hs (.c n i 0) 3 0 8]:=by simp[ky]
@[simp]theorem funRows_getE{h:i<O (wS n fs)}:(wS n fs)[i]=[iv (fs[i]' qQ).1,iv (fs[i]' qQ).2,AV.hs (.c n i 2) 3 0 0]:=by simp[wS]
theorem J8(h:∀i,i<O az->f (.c n i 2)=Z (.c m i 2)):(kW n az).map (λr=>r.map (AV.tr f))=kW m az:=by
 apply yp
 grind[CS,AV.tr]
theorem Kl(h:∀i,i<O cs->f (.c n i 0)=Z (.c m i 0)):(ky n cs).map (λr=>r.map (AV.tr f))=ky m cs:=by
 apply yp
 grind[ky,AV.tr]
theorem Lc(h:∀i,i<O fs->f (.c n i 2)=Z (.c m i 2)):(wS n fs).map (λr=>r.map (AV.tr f))=wS m fs:=by
 apply yp
 grind[G8,AV.tr]
@[simp]theorem actRows_fix(h:∀i,f (.c n i 2)=Z (.c n i 2)):(kW n az).map (λr=>r.map (AV.tr f))=kW n az:=J8 λi _=>h i
@[simp]theorem clsRows_fix(h:∀i,f (.c n i 0)=Z (.c n i 0)):(ky n cs).map (λr=>r.map (AV.tr f))=ky n cs:=Kl λi _=>h i
@[simp]theorem funRows_fix(h:∀i,f (.c n i 2)=Z (.c n i 2)):(wS n fs).map (λr=>r.map (AV.tr f))=wS n fs:=Lc λi _=>h i
def Qk{a:Act}:kW n az++[[iv a.qG,iv (er (O az) a),.hs (.c n (O az) 2) 3 0 8]]=kW n (az++[a]):=by simp[kW]
def S0{c:List qr}:ky n cs++[[.hs (.c n (O cs) 0) 3 0 8]]=ky n (cs++[c]):=by simp[ky]
def Tw:wS n fs++[[iv a,iv b,.hs (.c n (O fs) 2) 3 0 0]]=wS n (fs++[(a,b)]):=by simp[wS]
end
abbrev Wn:Nm:=.u 1 0 0
def jW(p:qC)(w:qM):List AV:=[j6 p,.hs (.c Wn 0 1) 3 0 (O w.qJ),.hs (.c Wn 0 2) 1 0 (O w.stack),.hs (.c Wn 0 3) 3 0 8,.hs (.c Wn 0 4) 3 0 (O w.qI),.hs (.c Wn 0 5) 1 0 (O w.qU),.hs (.c Wn 0 6) 1 0 (O w.out),.hs (.c Wn 0 7) 2 0 (O w.trace),iv w.en,iv w.left]
def jQ(l:List Nat):List Int:=l.map λ(n:Nat)=>(n:Int)
@[simp]theorem nints_len{l:List Nat}:O (jQ l)=O l:=by simp[jQ]
structure qu(hp:Nm->Option AO)(p:qC)(w:qM):Prop where
 top:hp Wn=Z (.row 10 [jW p w])
 qJ:hp (.c Wn 0 1)=Z (.row 3 (kW (.c Wn 0 1) w.qJ))
 act:∀(i:Nat)a,w.qJ[i]?=Z a->hp (.c (.c Wn 0 1) i 2)=Z (.row 3 (zD a.vars))
 jw:∃l,hp (.c Wn 0 2)=Z (.row 1 (qh (jQ w.stack++l)))
 zM:hp (.c Wn 0 3)=Z (.row 3 (zD w.globals))
 qI:hp (.c Wn 0 4)=Z (.row 3 (wS (.c Wn 0 4) w.qI))
 jG:hp (.c Wn 0 5)=Z (.row 1 (ky (.c Wn 0 5) w.qU))
 cls:∀(i:Nat)c,w.qU[i]?=Z c->hp (.c (.c Wn 0 5) i 0)=Z (.row 3 (zD c))
 out:hp (.c Wn 0 6)=Z (.row 1 (qh w.out))
 zt:hp (.c Wn 0 7)=Z (.row 2 (vR w.trace))
def qu.re{hp':Nm->Option AO}(ow:qu hp p w)
  (h0:hp' Wn=Z (.row 10 [jW p w]):=by simp[ow.top,jW])
  (h1:hp' (.c Wn 0 1)=Z (.row 3 (kW (.c Wn 0 1) w.qJ)):=by simp[ow.qJ])
  (h2:∀(i:Nat)a,w.qJ[i]?=Z a->hp' (.c (.c Wn 0 1) i 2)=Z (.row 3 (zD a.vars)):=by intro i a ha;simp[ow.act i a ha])
  (h3:∀l,hp (.c Wn 0 2)=Z (.row 1 (qh (jQ w.stack++l)))->hp' (.c Wn 0 2)=Z (.row 1 (qh (jQ w.stack++l))):=by intro l hl;simp[hl])
  (h4:hp' (.c Wn 0 3)=Z (.row 3 (zD w.globals)):=by simp[ow.zM])
  (h5:hp' (.c Wn 0 4)=Z (.row 3 (wS (.c Wn 0 4) w.qI)):=by simp[ow.qI])
  (h6:hp' (.c Wn 0 5)=Z (.row 1 (ky (.c Wn 0 5) w.qU)):=by simp[ow.jG])
  (h7:∀(i:Nat)c,w.qU[i]?=Z c->hp' (.c (.c Wn 0 5) i 0)=Z (.row 3 (zD c)):=by intro i c hc;simp[ow.cls i c hc])
  (h8:hp' (.c Wn 0 6)=Z (.row 1 (qh w.out)):=by simp[ow.out])
  (h9:hp' (.c Wn 0 7)=Z (.row 2 (vR w.trace)):=by simp[ow.zt]):qu hp' p w:=
 ⟨h0,h1,h2,ow.jw.imp λl hl=>h3 l hl,h4,h5,h6,h7,h8,h9⟩
def vw:Option Nat->Nm
 |none=>.c Wn 0 3
 |some i=>.c (.c Wn 0 1) i 2
theorem qu.hp'{hp hp':Nm->Option AO}{p:qC}{w:qM}(h:qu hp p w){f:Nm->Option Nm}(hf:∀m,Nm.under Wn m=B->f m=Z m)(hh:∀m,Nm.under Wn m=B->hp' m=(hp m).map (AO.tr f)):qu hp' p w:=by
 have hu:∀j,Nm.under Wn (.c Wn 0 j)=B:=λj=>qB;have hu2:∀j i k,Nm.under Wn (.c (.c Wn 0 j) i k)=B:=λj i k=>qB;refine⟨?_,?_,λi a ha=>?_,?_,?_,?_,?_,λi c hc=>?_,?_,?_⟩
 .rw [hh _ qB,h.top]
  simp_all[jW]
 .grind[qJ,AO.tr,J8]
 .rw [hh _ (hu2 1 i 2),h.act i a ha];simp
 .obtain⟨l,hl⟩:=h.jw
  simp_all<;>grind
 .rw [hh _ (hu 3),h.zM];simp
 .grind[qI,AO.tr,Lc]
 .grind[jG,AO.tr,Kl]
 .rw [hh _ (hu2 5 i 0),h.cls i c hc];simp
 .rw [hh _ (hu 6),h.out];simp
 .rw [hh _ (hu 7),h.zt];simp
section
variable{l:Option Nat}{d:Nat}
@[simp]theorem locN_under:Nm.under Wn (vw l)=B:=by cases l<;>simp[vw,Nm.under]
@[simp]theorem locN_under_s:Nm.under (.s d) (vw l)=M:=by cases l<;>simp[vw,Nm.under]
end
theorem qu.loc(h:qu hp p w)(hl:∀i,l=Z i->i<O w.qJ):hp (vw l)=Z (.row 3 (zD (w.vars l))):=by
 cases l with
 |none=>exact h.zM
 |some i=>
  obtain⟨a,ha⟩:∃a,w.qJ[i]?=Z a:=⟨_,gE (hl i rfl)⟩;simp only[vw,qM.vars,ha];exact h.act i a ha
def qu.fin(h:qu hp p w):qu (vW (Nm.under Wn) [] hp) p w:=
 h.hp' (f:=zH (Nm.under Wn) []) (λm hm=>qQ) (λm hm=>qQ)
def qu.ri{D:Nm->Bool}{sbs:List (Nm×Nm)}(h:qu hp p w)(hD:∀m,D m=B->m.zj=M)(hW:∀m,Nm.under Wn m=B->D m=B)(hs:∀q∈sbs,q.1.zj=B):qu (vW D sbs hp) p w:=
 h.hp' (f:=zH D sbs) (λm hm=>mb hD (hW m hm) hs) (λm hm=>qQ)
abbrev dK:=List (Int×q8)
def lk(n:Int):dK->qr
 |[]=>Y
 |q::l=>if q.1=n then Z q.2 else lk n l
def mo(n:Int)(v:q8):dK->dK
 |[]=>[(n,v)]
 |q::l=>if q.1=n then(n,v)::l else q::mo n v l
def l0(n:Int):dK->dK
 |[]=>[]
 |q::l=>if q.1=n then l else q::l0 n l
abbrev q8.av(v:q8):AV:=.agg [iv v.1,iv v.2]
def ud(ms:dK):List (AV×AV):=ms.map λq=>(iv q.1,q8.av q.2)
section
variable{ms:dK}{n m:Int}{v:q8}{f:Nm->Option Nm}
@[simp]theorem mrows_nil:ud []=[]:=rfl
@[simp]theorem mrows_keys:aQ .i64 (ud ms)=B:=by
 induction ms with
 |nil=>rfl
 |cons q l ih=>simp only[ud,cX,aQ]at ih ⊢;simpa using ih
@[simp]theorem mrows_get:dq .i64 n (ud ms)=(lk n ms).map q8.av:=by
 induction ms with
 |nil=>rfl
 |cons q l ih=>
  simp only[ud,cX,dq,lk,if_true]at ih ⊢
  split
  .rfl
  .exact ih
@[simp]theorem mrows_set{a b:Int}:fq .i64 n (.agg [iv a,iv b]) (ud ms)=ud (mo n (a,b) ms):=by
 induction ms with
 |nil=>rfl
 |cons q l ih=>
  simp only[ud,cX,fq,mo,true_and]at ih ⊢
  split
  .rfl
  .rw [ih];rfl
@[simp]theorem mrows_del:dl .i64 n (ud ms)=ud (l0 n ms):=by
 induction ms with
 |nil=>rfl
 |cons q l ih=>
  simp only[ud,cX,dl,l0,true_and]at ih ⊢
  split
  .rfl
  .rw [ih];rfl
@[simp]theorem mrows_tr:(ud ms).map (λe=>(e.1.tr f,e.2.tr f))=ud ms:=by simp[ud]
theorem M8:lk m (mo n v ms)=if m=n then Z v else lk m ms:=by
 induction ms<;>grind[mo,lk]
theorem Gu:(lk m ms).isSome=B↔m∈ms.map (·.1):=by
 induction ms<;>grind[lk]
theorem Vs(h:m∉ms.map (·.1)):lk m ms=Y:=by
 cases e:lk m ms<;>grind[Gu]
theorem Vr(h:(ms.map (·.1)).Nodup):lk m (l0 n ms)=if m=n then Y else lk m ms:=by
 induction ms<;>grind[l0,lk,Vs]
theorem Vp:∀x,x∈(mo n v ms).map (·.1)↔x=n\/x∈ms.map (·.1):=by
 intro x;rw[<- Gu,M8,<- Gu]
 grind
theorem Vq(h:(ms.map (·.1)).Nodup):((mo n v ms).map (·.1)).Nodup:=by
 induction ms<;>grind[mo,Vp]
theorem Vm:∀x,x∈(l0 n ms).map (·.1)->x∈ms.map (·.1):=by
 induction ms<;>grind[l0]
theorem Vl(h:(ms.map (·.1)).Nodup):((l0 n ms).map (·.1)).Nodup:=by
 induction ms<;>grind[l0,Vm]
end
structure wN(ms:dK)(l:List qr):Prop where
 nd:(ms.map (·.1)).Nodup
 get:∀x:Nat,x<8->lk x ms=(match l[x]? with|some s=>s|none=>Y)
 len:O l=8
def wN.nil:wN [] jZ:=⟨qB,λx hx=>by simp[lk,hx],qB⟩
theorem wN.set{ms:dK}{l:List qr}(h:wN ms l){x:Int}{v:q8}(hx:0<=x/\x<=7):wN (mo x v ms) (l.set x.toNat (Z v)):=by
 refine⟨Vq h.nd,λy hy=>?_,by simp[h.len]⟩;rw[M8,fL];have hl:=h.len;by_cases e:(y:Int)=x
 .grind
 .have e':¬x.toNat=y:=qA;rw[if_neg e,if_neg e'];exact h.get y hy
theorem wN.del{ms:dK}{l:List qr}(h:wN ms l)(hx:0<=x/\x<=7):wN (l0 x ms) (l.set x.toNat Y):=by
 refine⟨Vl h.nd,λy hy=>?_,by simp[h.len]⟩;rw[Vr h.nd,fL];have hl:=h.len;by_cases e:(y:Int)=x
 .grind
 .have e':¬x.toNat=y:=qA;rw[if_neg e,if_neg e'];exact h.get y hy
theorem wN.at{ms:dK}{l:List qr}(h:wN ms l)(hx:0<=x/\x<=7):lk x ms=(match l[x.toNat]? with|some s=>s|none=>Y):=by
 have:=h.get x.toNat qA
 grind
section
variable{X:Ctx}{st:St}{K:St->Prop}{E:AV->St->Prop}{d:Nat}{ty:TypeId}{pos:String}{aft:Array Edge}{g:Option (Nat×Bool)}
theorem Iv(hd:d<X.n:=by first|(simp;done)|fail)(hs:B0 d st=st':=by simp[fx,B0];first|done|rfl)(h:K st'):qe X ⟨Z d,.makeMap T Y,ty,pos,aft,g⟩ K E st:=by
 grind[qBN]
theorem Pu{e:TypeId}{m key x:Operand}{k:IntKind}{i:Int}{n:Nm}{es:List (AV×AV)}(ht:gJ X.P T=Z (k,e):=by simp[fx];first|done|rfl|exact⟨rfl,rfl⟩)
  (hm:ev st m=.mp n:=by simp[fx];first|done|rfl)(hk:ev st key=.sc (.int k i):=by simp[fx];first|done|rfl)(hn:st.hp n=Z (.map es):=by simp[fx];first|done|rfl)(hks:aQ k es=B:=by simp[fx];first|done|rfl)
  (hs:st.zW n (.map (fq k i (ev st x) es))=st':=by simp[fx];first|done|rfl)(h:K st'):qe X ⟨Y,.mapUpdate T m key x,ty,pos,aft,g⟩ K E st:=by
 grind[qBO]
end
abbrev Mn:Nm:=.u 1 0 0
abbrev En(i:Nat):Nm:=.u 7 i 0
abbrev uH(i:Nat):AV:=.pt (En i) 0
def zd(l:List Nat):List (List AV):=l.map λi=>[uH i]
def Du(f:Nat->Bool):Nm->Bool
 |.s _=>M
 |.u k _ _=>f k
 |.c n _ _=>Du f n
section
variable{f:Nat->Bool}{n:Nm}{k i j d:Nat}
@[simp]theorem Du_s:Du f (.s d)=M:=rfl
@[simp]theorem Du_u:Du f (.u k i j)=f k:=rfl
@[simp]theorem Du_c:Du f (.c n i j)=Du f n:=rfl
def QZ:∀{n:Nm},Du f n=B->n.zj=M:=by
 intro n
 induction n with
 |s d=>simp
 |u a b c=>intro _;rfl
 |c q i j ih=>intro h;exact ih h
end
section
variable{X:Ctx}{st:St}{K:St->Prop}{E:AV->St->Prop}{d f:Nat}{ty:TypeId}{pos:String}{aft:Array Edge}{g:Option (Nat×Bool)}{c:Operand}{args:Array Operand}{Ts:Array TypeId}{xs ys az:List AV}{R:Nm->AV->(Nm->Option AO)->Prop}
theorem qEU(D:Nm->Bool)(hD:∀n,D n=B->n.zj=M)(hext:∀k i j,X.ext (.u k i j)=B->D (.u k i j)=M\/(zU D st.hp) (.u k i j)≠Y)(hd:d<X.n:=by first|(simp;done)|fail)
  (hv:ev st c=.fn (.func f) xs ys)(ha:xs++args.toList.map (ev st)++ys=az)
  (hF:qX X.P X.gl f D az (zU D st.hp) R qw)(h:∀y H',R (.s d) y H'->K ((st.call d D (zU D st.hp) H').put (Z d) y)):
  qe X ⟨Z d,.call ⟨.value c,args,Ts⟩,ty,pos,aft,g⟩ K E st:=by
 subst ha;refine mY (D:=D) (H:=zU D st.hp) (R:=R) (E0:=qw) hF (TB hF.1 rfl hv) M ⟨rfl,λj a a' h h'=>?_⟩ (λn hn=>?_) (λn hn=>?_) (λn hn=>?_) hext (λe he=>qQ) (λx H' hR=>?_) (λ_ _ h=>h.elim)
 .rw [h]at h';obtain rfl:=sI h';exact .refl _
 .cases hx:D n with
  |false=>rfl
  |true=>
   have h1:=hD n hx;have h2:=Nm.nO (a:=.s d) rfl hn
   simp_all
 .simp [hn]
 .simp_all
 simp_all
end
end Go.Hm
end
section
set_option linter.unusedSectionVars false
namespace Go.Hm
open Go Go.RowKit
structure Es(q:Bool)(w w':qM):Prop where
 qI:w.qI <+: w'.qI
 cls:w.qU <+: w'.qU
 out:w.out <+: w'.out
 tr:w.trace <+: w'.trace
 left:q=B->w'.left<=w.left
section
variable{p:qC}{R:qM->Nat->qM×q8}{w:qM}{a b i:Nat}{x:Int}{vs:List q8}{s:qT}{v:q8}{q:Bool}
variable(hR:∀w a,Es q w (R w a).1)
include hR
end
def Ey(k:Nat)(w:qM):qM:={w with left:=w.left+k}
structure Q4(k:Nat)(w w':qM):Prop where
 en:w.en=1
 left:w.left=0
 pre:Es M w w'
 more:0<k->O w.trace<O w'.trace
def Q3(k:Nat)(r r':qM×q8):Prop:=(r.1.en≠1/\r'=(Ey k r.1,r.2))\/Q4 k r.1 r'.1
section
variable{p:qC}{R:qM->Nat->qM×q8}{k n:Nat}{w:qM}{a b i:Nat}{x:Int}{l:Option Nat}{vs:List q8}{s:qT}{v:q8}
variable(hP:∀w a,Es B w (R w a).1)(hR:∀w a,w.left+k<n->w.en=0->Q3 k (R w a) (R (Ey k w) a))
include hP hR
end
end Go.Hm
end
