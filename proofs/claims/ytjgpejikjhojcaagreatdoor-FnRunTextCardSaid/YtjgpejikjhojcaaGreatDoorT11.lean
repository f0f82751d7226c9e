import Derived.Test.YtjgpejikjhojcaaGreatDoorT10
set_option linter.unusedSimpArgs false
set_option linter.unusedVariables false
set_option maxRecDepth 100000
set_option maxHeartbeats 4000000

section
namespace Go.Hm
open Go Go.RowKit
structure zO (nf nc:Nat) (v:qR):Prop where
 num:0<=v.2/\v.2<=1000
 fn:v.1=2->v.2<nf
 cls:v.1=3->v.2<nc
theorem zO.zero {nf nc:Nat}:zO nf nc (0,0):=⟨qB,qB,qB⟩
theorem zO.mono {nf nc nf' nc':Nat} {v:qR} (h:zO nf nc v) (h1:nf<=nf') (h2:nc<=nc'):zO nf' nc' v :=
 ⟨h.num,λe=>by have:=h.fn e;omega,λe=>by have:=h.cls e;omega⟩
def vF (nf nc:Nat) (l:List qu):Prop:=l.length=8/\∀ v,some v∈l->zO nf nc v
theorem vF.mono {nf nc nf' nc':Nat} {l:List qu} (h:vF nf nc l) (h1:nf<=nf') (h2:nc<=nc'):vF nf' nc' l:=⟨h.1,λv hv=>(h.2 v hv).mono h1 h2⟩
theorem vF.none {nf nc:Nat}:vF nf nc j3:=⟨qB,λv hv=>oH⟩
theorem vF.set {nf nc:Nat} {l:List qu} (h:vF nf nc l) {i:Nat} {s:qu} (hs:∀ v,s=some v->zO nf nc v):vF nf nc (l.set i s):=by
 grind[vF]
theorem vF.get {nf nc:Nat} {l:List qu} (h:vF nf nc l) {i:Nat} {v:qR} (hv:l[i]?=some (some v)):zO nf nc v:=h.2 v (gM hv)
def vL (p:qC) (qF:List Act) (b i:Nat):Prop:=∃ c k,qF[i]?=some c/\p[b]?=some k/\k.parent=c.qD/\0<b
structure qt (p:qC) (w:qK):Prop where
 a0:∃ a,w.qF[0]?=some a/\a.qD=0
 vars:∀ (i:Nat) a,w.qF[i]?=some a->vF w.qJ.length w.qO.length a.vars
 wV:∀ (i:Nat) a,w.qF[i]?=some a->a.qD<p.length
 up:∀ (i:Nat) a,w.qF[i]?=some a->0<i->a.up<i/\vL p w.qF a.qD a.up
 zJ:vF w.qJ.length w.qO.length w.globals
 qJ:∀ (i:Nat) g,w.qJ[i]?=some g->vL p w.qF g.1 g.2
 cls:∀ c∈w.qO,vF w.qJ.length w.qO.length c
 zR:∀ i∈w.stack,i<w.qF.length
 ko:w.qF.length+2 * w.left<=1000
 ah:w.qJ.length+2 * w.left<=1000
 wg:w.qO.length+2 * w.left<=1000
 kR:w.out.length+2 * w.left<=1000
 wh:w.trace.length+w.left<=1000
 lP:w.stack.length+2 * w.left<=1000
 dV:∀ v∈w.out,-3<=v/\v<=1000
 eH:0<=w.en/\w.en<=7
theorem qt.en {p:qC} {w:qK} (h:qt p w) {e:Int} (he:0<=e/\e<=7):qt p { w with en:=e }:=⟨h.a0,h.vars,h.wV,h.up,h.zJ,h.qJ,h.cls,h.zR,h.ko,h.ah,h.wg,h.kR,h.wh,h.lP,h.dV,he⟩
structure Grow (s:Nat) (w w':qK):Prop where
 qF:∀ (i:Nat) a,w.qF[i]?=some a->∃ b,w'.qF[i]?=some b/\b.qD=a.qD/\b.up=a.up
 qJ:w.qJ <+: w'.qJ
 cls:w.qO <+: w'.qO
 out:w.out <+: w'.out
 tr:w.trace <+: w'.trace
 left:w'.left<=w.left
 ko:w'.qF.length+2 * w'.left<=w.qF.length+2 * w.left+s
 ah:w'.qJ.length+2 * w'.left<=w.qJ.length+2 * w.left+s
 wg:w'.qO.length+2 * w'.left<=w.qO.length+2 * w.left+s
 kR:w'.out.length+2 * w'.left<=w.out.length+2 * w.left+s
 wh:w'.trace.length+w'.left=w.trace.length+w.left
theorem Grow.refl (s:Nat) (w:qK):Grow s w w:=⟨λ_ a h=>⟨a,h,rfl,rfl⟩,uY _,uY _,uY _,uY _,qX _,qA,qA,qA,qA,rfl⟩
theorem Grow.trans {s t u:Nat} {w w' w'':qK} (h:Grow s w w') (h':Grow t w' w'') (hu:s+t<=u):Grow u w w'':=by
 refine⟨λi a e=>?_,h.qJ.trans h'.qJ,h.cls.trans h'.cls,h.out.trans h'.out,h.tr.trans h'.tr,ka h'.left h.left,?_,?_,?_,?_,h'.wh.trans h.wh⟩
 .obtain⟨b,e1,e2,e3⟩:=h.qF i a e;obtain⟨c,f1,f2,f3⟩:=h'.qF i b e1
  simp_all
 .have:=h.ko;have:=h'.ko;omega
 .have:=h.ah;have:=h'.ah;omega
 .have:=h.wg;have:=h'.wg;omega
 .have:=h.kR;have:=h'.kR;omega
theorem Grow.mono {s t:Nat} {w w':qK} (h:Grow s w w') (ht:s<=t):Grow t w w':=h.trans (Grow.refl 0 w') qA
theorem Grow.aP {s:Nat} {w w':qK} (h:Grow s w w'):w.qF.length<=w'.qF.length:=by
 cases hn:w.qF.length with
 | zero=>omega
 | succ n =>
  obtain⟨a,ha⟩:∃ a,w.qF[n]?=some a:=⟨_,gE qA⟩;obtain⟨b,hb,_⟩:=h.qF n a ha
  grind
theorem Grow.Bj {s:Nat} {w w':qK} (h:Grow s w w'):w.qJ.length<=w'.qJ.length:=h.qJ.length_le
theorem Grow.en {s:Nat} {w w':qK} (h:Grow s w w') {e:Int}:Grow s w { w' with en:=e }:=⟨h.qF,h.qJ,h.cls,h.out,h.tr,h.left,h.ko,h.ah,h.wg,h.kR,h.wh⟩
theorem Grow.qD {s:Nat} {w w':qK} (h:Grow s w w') {i:Nat} {a:Act} (hi:w.qF[i]?=some a):w'.qD i=w.qD i:=by
 obtain⟨b,hb,e,_⟩:=h.qF i a hi
 grind[qK.qD]
theorem vL.grow {p:qC} {s b i:Nat} {w w':qK} (h:vL p w.qF b i) (hg:Grow s w w'):vL p w'.qF b i:=by
 obtain⟨c,k,h1,h2,h3,h4⟩:=h;obtain⟨d,e1,e2,_⟩:=hg.qF i c h1
 grind[vL]
theorem v8 {w:qK} {i:Nat} {a:Act} (h:w.qF[i]?=some a):w.qD i=a.qD:=by grind[qK.qD]
theorem lH {p:qC} {w:qK} {o a:Nat} {c:Act} (hh:zZ p) (h:qt p w) (hc:w.qF[a]?=some c) (hne:c.qD≠o) (ho:0<o) (hi:jS p (w.qD a) o=true):0<a/\c.up<a/\jS p (w.qD c.up) o=true:=by
 rw [v8 hc] at hi
 have h0:0<a:=by
  grind[qt.a0,bo]
 obtain⟨hu,q,k,e1,e2,e3,e4⟩:=h.up _ c hc h0
 grind[bo,v8,eK]
theorem IU {p:qC} {w:qK} {o:Nat} (hh:zZ p) (h:qt p w) (ho:0<o):∀ (n m a:Nat),a<=n->a<=m->a<w.qF.length->jS p (w.qD a) o=true->uZ w.qF o n a=uZ w.qF o m a
 | 0,0,_,_,_,_,_=>rfl
 | 0,m+1,a,h1,_,hl,hi=>by
  obtain rfl:a=0:=qA;obtain⟨c,hc⟩:=gX hl;by_cases e:c.qD=o
  .grind[uZ]
  .have:=(lH hh h hc e ho hi).1;omega
 | n+1,0,a,_,h2,hl,hi=>by
  obtain rfl:a=0:=qA;obtain⟨c,hc⟩:=gX hl;by_cases e:c.qD=o
  .grind[uZ]
  .have:=(lH hh h hc e ho hi).1;omega
 | n+1,m+1,a,h1,h2,hl,hi=>by
  obtain⟨c,hc⟩:=gX hl;by_cases e:c.qD=o
  .grind[uZ]
  .obtain⟨e1,e2,e3⟩:=lH hh h hc e ho hi;simp only [uZ,hc,e,if_false];exact IU hh h ho n m c.up qA qA qA e3
theorem dQ {qF:List Act} {o a:Nat} {c:Act} (hc:qF[a]?=some c) (e:c.qD=o):∀ n,uZ qF o n a=a
 | 0=>rfl
 | n+1=>by grind[uZ]
theorem rm {p:qC} {w:qK} {o a:Nat} {c:Act} (hh:zZ p) (h:qt p w) (ho:0<o) (hc:w.qF[a]?=some c) (hne:c.qD≠o) (hi:jS p (w.qD a) o=true):uZ w.qF o a a=uZ w.qF o c.up c.up:=by
 obtain⟨e1,e2,e3⟩:=lH hh h hc hne ho hi;have hl:=(gS hc).1;obtain⟨b,rfl⟩:∃ b,a=b+1:=⟨a - 1,qA⟩
 grind[uZ,IU]
theorem EI {p:qC} {w:qK} {o:Nat} (hh:zZ p) (h:qt p w) (ho:0<o):∀ (n a:Nat),a<=n->a<w.qF.length->jS p (w.qD a) o=true->∃ c,w.qF[uZ w.qF o a a]?=some c/\c.qD=o
 | n,a,h1,hl,hi=>by
  obtain⟨c,hc⟩:=gX hl;by_cases e:c.qD=o
  .grind[dQ]
  .obtain⟨e1,e2,e3⟩:=lH hh h hc e ho hi;rw [rm hh h ho hc e hi]
   match n with
   | 0=>omega
   | n+1=>exact EI hh h ho n c.up qA qA e3
theorem U4 {p:qC} {x:Int} {o:Nat} (hh:zZ p) (ho:0<o):∀ (n:Nat) (j:Int),jx p x n j=o->jS p j o=true
 := by intro x0;induction x0<;>grind[jx,FI,bo,eK]
theorem Ua {p:qC} {b o:Nat} {x:Int} (hh:zZ p) (ho:0<o) (h:zA p b x=o):jS p b o=true:=by
 grind[bo,zA,outer,eK,U4,zZ]
theorem sK {p:qC} {w:qK} {a:Nat} {x:Int} (hh:zZ p) (h:qt p w) (ha:a<w.qF.length) :
  (zA p (w.qD a) x=-1/\w.loc p a x=none)\/∃ (o i:Nat) (c:Act),0<o/\zA p (w.qD a) x=o/\w.loc p a x=some i/\i=uZ w.qF o a a/\w.qF[i]?=some c/\c.qD=o/\jS p (w.qD a) o=true:=by
 rcases lU (p:=p) (c:=w.qD a) (x:=x) with e|e
 .grind[qK.loc]
 .obtain⟨o,ho⟩:∃ o:Nat,zA p (w.qD a) x=o:=⟨(zA p (w.qD a) x).toNat,qA⟩;have ho0:0<o:=qA;have hi:=Ua hh ho0 ho;obtain⟨c,hc,hb⟩:=EI hh h ho0 a a (qX _) ha hi
  grind[qK.loc]
theorem Eh {p:qC} {w:qK} {a:Nat} {x:Int} (hh:zZ p) (h:qt p w) (ha:a<w.qF.length):∀ i,w.loc p a x=some i->i<w.qF.length:=by
 intro i hi;rcases sK (x:=x) hh h ha with⟨_,h2⟩|⟨o,j,c,_,_,h3,_,h4,_⟩<;>grind
theorem qt.C8 {p:qC} {w:qK} (h:qt p w) {l:Option Nat} (hl:∀ i,l=some i->i<w.qF.length):vF w.qJ.length w.qO.length (w.vars l):=by
 cases l with
 | none=>exact h.zJ
 | some i =>
  obtain⟨c,hc⟩:∃ c,w.qF[i]?=some c:=⟨_,gE (hl i rfl)⟩;simp only [qK.vars,hc];exact h.vars i c hc
theorem RK {w:qK} {l:Option Nat} {x:Int} {v:qR} (h:w.get l x=some v):(w.vars l)[x.toNat]?=some (some v):=by
 grind[qK.get]
theorem qt.get {p:qC} {w:qK} (h:qt p w) {l:Option Nat} {x:Int} {v:qR} (hv:w.get l x=some v):zO w.qJ.length w.qO.length v:=by
 have hv:=RK hv
 cases l with
 | none=>exact h.zJ.get hv
 | some i =>
  simp only [qK.vars] at hv
  split at hv
  .rename_i c hc;exact (h.vars i c hc).get hv
  simp_all
theorem AD {w:qK} {l:Option Nat} {x:Int} {s:qu} {i:Nat} {a:Act} (h:(w.set l x s).qF[i]?=some a):∃ b,w.qF[i]?=some b/\b.qD=a.qD/\b.up=a.up/\(a.vars=b.vars\/a.vars=b.vars.set x.toNat s):=by
 cases l<;>grind[qK.set]
theorem OK {w:qK} {l:Option Nat} {x:Int} {s:qu} {i:Nat} {a:Act} (h:w.qF[i]?=some a):∃ b,(w.set l x s).qF[i]?=some b/\b.qD=a.qD/\b.up=a.up:=by
 cases l<;>grind[qK.set]
theorem AE {w:qK} {l:Option Nat} {x:Int} {s:qu}:(w.set l x s).qF.length=w.qF.length:=by
 cases l <;> simp [qK.set]
theorem nH {w:qK} {l:Option Nat} {x:Int} {s:qu}:(w.set l x s).qJ=w.qJ/\(w.set l x s).qO=w.qO/\(w.set l x s).out=w.out/\(w.set l x s).trace=w.trace/\(w.set l x s).left=w.left/\(w.set l x s).stack=w.stack/\(w.set l x s).en=w.en:=by
 cases l <;> exact⟨rfl,rfl,rfl,rfl,rfl,rfl,rfl⟩
theorem GD {w:qK} {l:Option Nat} {x:Int} {s:qu}:Grow 0 w (w.set l x s):=by
 obtain⟨e1,e2,e3,e4,e5,e6,_⟩:=nH (w:=w) (l:=l) (x:=x) (s:=s);refine⟨λi a h=>OK h,qL,qL,qL,qL,qA,by grind[AE],qL,qL,qL,by rw [e5,e4]⟩
theorem qt.set {p:qC} {w:qK} (h:qt p w) {l:Option Nat} {x:Int} {s:qu} (hs:∀ v,s=some v->zO w.qJ.length w.qO.length v):qt p (w.set l x s):=by
 obtain⟨e1,e2,e3,e4,e5,e6,e7⟩:=nH (w:=w) (l:=l) (x:=x) (s:=s);have hg:Grow 0 w (w.set l x s):=GD;refine⟨?_,λi a ha=>?_,λi a ha=>?_,λi a ha hi=>?_,?_,λi g hi=>?_,λc hc=>?_,λi hi=>?_,by rw [AE,e5];exact h.ko,by rw [e1,e5];exact h.ah,by rw [e2,e5];exact h.wg,by rw [e3,e5];exact h.kR,by rw [e4,e5];exact h.wh,by rw [e6,e5];exact h.lP,by rw [e3];exact h.dV,by rw [e7];exact h.eH⟩
 .grind[a0,AE,AD]
 .obtain⟨b,f1,f2,f3,f4⟩:=AD ha;rw [e1,e2];rcases f4 with f4|f4
  .rw [f4];exact h.vars i b f1
  .rw [f4];exact (h.vars i b f1).set hs
 .obtain⟨b,f1,f2,f3,f4⟩:=AD ha;rw [<- f2];exact h.wV i b f1
 .obtain⟨b,f1,f2,f3,f4⟩:=AD ha;obtain⟨g1,g2⟩:=h.up i b f1 hi;rw [<- f3,<- f2];exact⟨g1,g2.grow hg⟩
 .rw [e1,e2]
  cases l with
  | none=>exact h.zJ.set hs
  | some j=>exact h.zJ
 .rw [e1] at hi;exact (h.qJ i g hi).grow hg
 .rw [e2] at hc;rw [e1,e2];exact h.cls c hc
 .rw [e6] at hi;rw [AE];exact h.zR i hi
structure ja (p:qC) (s:Nat) (w w':qK):Prop where
 ok:qt p w'
 grow:Grow s w w'
 zR:w'.en=0->w'.stack=w.stack
theorem ja.refl {p:qC} {s:Nat} {w:qK} (h:qt p w):ja p s w w:=⟨h,.refl s w,λ_=>rfl⟩
theorem ja.en {p:qC} {s:Nat} {w w':qK} (h:ja p s w w') {e:Int} (he:e≠0) (hr:0<=e/\e<=7:=by decide):ja p s w { w' with en:=e }:=⟨h.ok.en hr,h.grow.en,λh=>absurd h he⟩
theorem ja.trans {p:qC} {s t u:Nat} {w w' w'':qK} (h:ja p s w w') (h':ja p t w' w'') (h0:w''.en=0->w'.en=0) (hu:s+t<=u):ja p u w w'':=⟨h'.ok,h.grow.trans h'.grow hu,λe=>(h'.zR e).trans (h.zR (h0 e))⟩
theorem ja.mono {p:qC} {s t:Nat} {w w':qK} (h:ja p s w w') (hst:s<=t):ja p t w w':=⟨h.ok,h.grow.mono hst,h.zR⟩
theorem oo {p:qC} {b:Nat} {o:Int}:jd p b o≠0:=by grind[jd]
theorem Jb {p:qC} {b:Nat} {o:Int}:0<=jd p b o/\jd p b o<=7:=by grind[jd]
theorem Bl {p:qC} {w:qK} {a:Nat} {x:Int} (h:qt p w):ja p 0 w (zh p w a x).1/\zO w.qJ.length w.qO.length (zh p w a x).2/\((zh p w a x).1=w\/∃ e,e≠0/\(zh p w a x).1={ w with en:=e }):=by
 unfold zh
 split
 .rename_i v hv;exact⟨.refl h,h.get hv,.inl rfl⟩
 .split
  .split
   .rename_i v hv;exact⟨.refl h,h.get hv,.inl rfl⟩
   .split
    .exact⟨.refl h,⟨qB,qB,qB⟩,.inl rfl⟩
    .exact⟨(ja.refl h).en qc,.zero,.inr ⟨_,qc,rfl⟩⟩
  .exact⟨(ja.refl h).en oo Jb,.zero,.inr ⟨_,oo,rfl⟩⟩
theorem ot {p:qC} {a:Nat}:∀ {l:List Int} {w:qK},qt p w->ja p 0 w (zB p w a l).1/\(∀ v∈(zB p w a l).2,zO w.qJ.length w.qO.length v)/\((zB p w a l).1=w\/∃ e,e≠0/\(zB p w a l).1={ w with en:=e })/\((zB p w a l).1.en=0->(zB p w a l).2.length=l.length)/\(zB p w a l).2.length<=l.length
 | [],w,h=>⟨.refl h,λv hv=>by grind[zB],.inl rfl,λ_=>rfl,qX _⟩
 | x::l,w,h=>by
  simp only [zB]
  split
  .grind[ja.refl]
  .rename_i he;obtain⟨h1,h2,h3⟩:=Bl (a:=a) (x:=x) h;rcases h3 with h3|⟨e,he,h3⟩
   .rw [h3];obtain⟨i1,i2,i3,i4,i5⟩:=ot (a:=a) (l:=l) h
    simp_all
   .rw [h3]
    have hen:zB p { w with en:=e } a l=({ w with en:=e },[]):=by
     cases l<;>grind[zB]
    simp_all
theorem ZM {p:qC} {w:qK} {a:Nat} {x:Int} {v:qR} (h:qt p w) (hv:zO w.qJ.length w.qO.length v):ja p 0 w (cz p w a x v) :=
 ⟨h.set λu e=>qL,GD,λ_=>nH.2.2.2.2.2.1⟩
theorem ZZ {p:qC} {w:qK} {a:Nat} {x:Int} (h:qt p w):ja p 0 w (wo p w a x):=by
 unfold wo
 split
 .exact⟨h.set λu e=>vQ,GD,λ_=>nH.2.2.2.2.2.1⟩
 .exact (ja.refl h).en oo Jb
theorem Uz {p:qC} {w:qK} {a b:qR} (h:qt p w) (ha:zO w.qJ.length w.qO.length a) (hb:zO w.qJ.length w.qO.length b):ja p 0 w (uF w a b).1/\zO (uF w a b).1.qJ.length (uF w a b).1.qO.length (uF w a b).2:=by
 unfold uF
 split
 .exact⟨(ja.refl h).en qc,.zero⟩
 .refine⟨.refl h,⟨?_,qB,qB⟩⟩;have:=ha.num;have:=hb.num
  grind
theorem Oc {p:qC} {w:qK} {v:qR} {x:Int} (h:qt p w):ja p 0 w (uI w v x).1/\zO (uI w v x).1.qJ.length (uI w v x).1.qO.length (uI w v x).2:=by
 unfold uI
 split
 .exact⟨(ja.refl h).en qc,.zero⟩
 .split
  .rename_i c hc
   split
   .rename_i u hu;exact⟨.refl h,(h.cls c (gM hc)).get hu⟩
   .exact⟨(ja.refl h).en qc,.zero⟩
  .exact⟨(ja.refl h).en qc,.zero⟩
structure Room (k:Nat) (w:qK):Prop where
 qF:w.qF.length+k+2 * w.left<=1000
 qJ:w.qJ.length+k+2 * w.left<=1000
 cls:w.qO.length+k+2 * w.left<=1000
 out:w.out.length+k+2 * w.left<=1000
 zR:w.stack.length+k+2 * w.left<=1000
theorem Room.mono {k k':Nat} {w:qK} (h:Room k w) (hk:k'<=k):Room k' w:=by
 obtain⟨h1,h2,h3,h4,h5⟩:=h;constructor<;>grind
theorem ja.room {p:qC} {s k k':Nat} {w w':qK} (h:ja p s w w') (hr:Room k w) (h0:w'.en=0) (hk:k'+s<=k):Room k' w':=by
 obtain⟨h1,h2,h3,h4,h5⟩:=hr;have g:=h.grow;have e:=h.zR h0;have:=g.left;exact⟨by have:=g.ko;omega,by have:=g.ah;omega,by have:=g.wg;omega,by have:=g.kR;omega,qp⟩
def bA (p:qC) (n:Nat) (R:qK->Nat->qK×qR):Prop:=∀ (w:qK) (a:Nat),qt p w->w.left<n->a<w.qF.length->w.en=0->ja p 0 w (R w a).1/\zO (R w a).1.qJ.length (R w a).1.qO.length (R w a).2
theorem H5 {nf nc:Nat} {ps:List Int} {vs:List qR} (h:∀ v∈vs,zO nf nc v):vF nf nc (aD ps vs):=by
 unfold aD
 have key:∀ (l:List (Int×qR)) (s:List qu),(∀ q∈l,zO nf nc q.2)->vF nf nc s->vF nf nc (l.foldl (λl q=>l.set q.1.toNat (some q.2)) s):=by
  intro l
  induction l with
  | nil=>simp
  | cons q l ih=>exact λs hl hs=>ih _ (λq' h'=>hl q' (aB _ h')) (hs.set λv e=>qL)
 exact key _ _ (λq hq=>h q.2 (List.of_mem_zip hq).2) .none
theorem oD {p:qC} {w:qK} {b up:Nat} {vs:List qR} (h:qt p w) (hm:vL p w.qF b up) (hv:∀ v∈vs,zO w.qJ.length w.qO.length v) (hr:Room 1 w):qt p (zd p w b up vs)/\Grow 1 w (zd p w b up vs):=by
 have hg:Grow 1 w (zd p w b up vs):=by
  constructor<;>grind[zd]
 refine⟨?_,hg⟩;have hmade:=hm.grow hg;obtain⟨c,k,m1,m2,m3,m4⟩:=hm;have hul:=(gS m1).1;have zF:=(gS m2).1
 have split':∀ (i:Nat) (a:Act),(zd p w b up vs).qF[i]?=some a->w.qF[i]?=some a\/(i=w.qF.length/\a.qD=b/\a.up=up/\vF w.qJ.length w.qO.length a.vars):=by
  grind[zd,H5]
 refine⟨?_,λi a ha=>?_,λi a ha=>?_,λi a ha hi=>?_,h.zJ,λi g hg'=>(h.qJ i g hg').grow hg,h.cls,λi hi=>?_,by simpa [zd] using hr.qF,h.ah,h.wg,h.kR,h.wh,by simpa [zd] using hr.zR,h.dV,h.eH⟩
 .obtain⟨a,ha,hb⟩:=h.a0;obtain⟨b,e1,e2,_⟩:=hg.qF 0 a ha
  simp_all
 .rcases split' i a ha with e|⟨_,_,_,e⟩
  .exact h.vars i a e
  .exact e
 .rcases split' i a ha with e|⟨_,e,_,_⟩
  .exact h.wV i a e
  omega
 .rcases split' i a ha with e|⟨e1,e2,e3,_⟩
  .obtain⟨x1,x2⟩:=h.up i a e hi;exact⟨x1,x2.grow hg⟩
  simp_all
 .simp only [zd,jo,yj] at hi;simp only [zd,kC,b8];rcases hi with e|e
  .have:=h.zR i e;omega
  .omega
theorem BL {p:qC} {n:Nat} {R:qK->Nat->qK×qR} (hR:bA p n R) {w:qK} {b up:Nat} {vs:List qR} (h:qt p w) (hn:w.left<n) (h0:w.en=0) (hm:vL p w.qF b up) (hv:∀ v∈vs,zO w.qJ.length w.qO.length v) (hr:Room 1 w) :
  ja p 1 w (z8 p R w b up vs).1/\zO (z8 p R w b up vs).1.qJ.length (z8 p R w b up vs).1.qO.length (z8 p R w b up vs).2:=by
 obtain⟨h1,h2⟩:=oD h hm hv hr;obtain⟨⟨r1,r2,r3⟩,r4⟩:=hR (zd p w b up vs) w.qF.length h1 hn oJ h0;unfold z8 kG
 split
 .rename_i he;refine⟨⟨⟨r1.a0,r1.vars,r1.wV,r1.up,r1.zJ,r1.qJ,r1.cls,λi hi=>r1.zR i (List.dropLast_subset _ hi),r1.ko,r1.ah,r1.wg,r1.kR,r1.wh,?_,r1.dV,r1.eH⟩,?_,λ_=>?_⟩,r4⟩
  .have:=r1.lP
   grind
  .have hg:=h2.trans r2 (qX _);exact⟨hg.qF,hg.qJ,hg.cls,hg.out,hg.tr,hg.left,hg.ko,hg.ah,hg.wg,hg.kR,hg.wh⟩
  grind[zd]
 .rename_i he;exact⟨⟨r1,h2.trans r2 (qX _),λe=>absurd e he⟩,r4⟩
theorem PO {p:qC} {n:Nat} {R:qK->Nat->qK×qR} (hR:bA p n R) {w:qK} {f:qR} {vs:List qR} (h:qt p w) (hn:w.left<n) (h0:w.en=0) (hv:∀ v∈vs,zO w.qJ.length w.qO.length v) (hr:Room 1 w) :
  ja p 1 w (vb p R w f vs).1/\zO (vb p R w f vs).1.qJ.length (vb p R w f vs).1.qO.length (vb p R w f vs).2:=by
 unfold vb
 split
 .exact⟨(ja.refl h).en qc,.zero⟩
 .split
  .rename_i g hg
   split
   .exact⟨(ja.refl h).en qc,.zero⟩
   .exact BL hR h hn h0 (h.qJ _ g hg) hv hr
  grind[ja.refl,zO.zero]
theorem qt.OM {p:qC} {w:qK} (h:qt p w) {c:List qu} (hc:vF w.qJ.length w.qO.length c) (hl:w.qO.length+1+2 * w.left<=1000):qt p { w with qO:=w.qO++[c] }:=by
 have hm:∀ {l:List qu},vF w.qJ.length w.qO.length l->vF w.qJ.length (w.qO++[c]).length l:=λh=>h.mono (qX _) qB;refine⟨h.a0,λi a ha=>hm (h.vars i a ha),h.wV,h.up,hm h.zJ,h.qJ,λd hd=>?_,h.zR,h.ko,h.ah,qL,h.kR,h.wh,h.lP,h.dV,h.eH⟩;rcases jo.1 hd with e|e
 .exact hm (h.cls d e)
 simp_all
theorem qt.OO {p:qC} {w:qK} (h:qt p w) {b i:Nat} (hm:vL p w.qF b i) (hl:w.qJ.length+1+2 * w.left<=1000):qt p { w with qJ:=w.qJ++[(b,i)] }:=by
 have hs:∀ {l:List qu},vF w.qJ.length w.qO.length l->vF (w.qJ++[(b,i)]).length w.qO.length l:=λh=>h.mono qB (qX _);refine⟨h.a0,λi a ha=>hs (h.vars i a ha),h.wV,h.up,hs h.zJ,λj g hg=>?_,λc hc=>hs (h.cls c hc),h.zR,h.ko,qL,h.wg,h.kR,h.wh,h.lP,h.dV,h.eH⟩;rcases jo.1 (gM hg) with e|e
 .obtain⟨j',hj'⟩:=kB e;exact h.qJ j' g hj'
 simp_all
theorem P6 {p:qC} {n:Nat} {R:qK->Nat->qK×qR} (hR:bA p n R) {w:qK} {b a:Nat} (h:qt p w) (hn:w.left<n) (h0:w.en=0) (hm:vL p w.qF b a) (hr:Room 2 w) :
  ja p 2 w (aZ p R w b a).1/\zO (aZ p R w b a).1.qJ.length (aZ p R w b a).1.qO.length (aZ p R w b a).2:=by
 obtain⟨⟨h1,h2,h3⟩,_⟩:=BL (vs:=[]) hR h hn h0 hm (λv hv=>oH) (hr.mono qA)
 have hlen:w.qF.length<(z8 p R w b a []).1.qF.length:=by
  obtain⟨g1,g2⟩:=oD (vs:=[]) h hm (λv hv=>oH) (hr.mono qA);obtain⟨⟨_,r2,_⟩,_⟩:=hR (zd p w b a []) w.qF.length g1 hn oJ h0;have:=r2.aP
  grind[z8,kG,zd]
 unfold aZ
 split
 .rename_i he;exact⟨⟨h1,h2.mono qA,h3⟩,.zero⟩
 .rename_i he;have he':(z8 p R w b a []).1.en=0:=qA;have hr1:=(ja.mk h1 h2 h3).room hr he' (k':=1) qA;have hok:=h1.OM (c:=(z8 p R w b a []).1.vars (some w.qF.length)) (h1.C8 λi e=>qL) hr1.cls;refine⟨⟨hok,?_,λe=>h3 e⟩,?_⟩
  .refine⟨h2.qF,h2.qJ,h2.cls.trans (List.prefix_append _ _),h2.out,h2.tr,h2.left,by have:=h2.ko;grind,by have:=h2.ah;grind,by have:=h2.wg;grind,by have:=h2.kR;grind,h2.wh⟩
  .have:=hr1.cls;constructor<;>grind
theorem zW.made {p:qC} {b:Nat} {k:qT} {s:qP} (h:zW p b k s=true) (hk:s.kind=3\/s.kind=4):∃ q,p[s.a.toNat]?=some q/\q.parent=b/\0<s.a/\q.kind=s.kind - 2:=by
 have key:∀ d,ac p b s.a d=true->∃ q,p[s.a.toNat]?=some q/\q.parent=b/\0<s.a/\q.kind=d:=by
  grind[ac]
 rcases hk with e|e<;>simp_all[zW]
theorem zW.num {p:qC} {b:Nat} {k:qT} {s:qP} (h:zW p b k s=true) (hk:s.kind=0):0<=s.a/\s.a<=99:=by
 grind[zW]
theorem BW {nf nc:Nat} {vs:List qR} (h:∀ v∈vs,zO nf nc v) (i:Nat):zO nf nc (vs.getD i (0,0)):=by
 grind[zO.zero]
theorem Gd {p:qC} {n:Nat} {R:qK->Nat->qK×qR} (hR:bA p n R) {w:qK} {a:Nat} {k:qT} {s:qP} {vs:List qR} (h:qt p w) (hn:w.left<n) (h0:w.en=0) (ha:a<w.qF.length) (hs:zW p (w.qD a) k s=true) (hv:∀ v∈vs,zO w.qJ.length w.qO.length v) (hr:Room 2 w) :
  ja p 2 w (j9 p R w a s vs).1/\zO (j9 p R w a s vs).1.qJ.length (j9 p R w a s vs).1.qO.length (j9 p R w a s vs).2:=by
 obtain⟨c,hc⟩:=gX ha
 have hmade:s.kind=3\/s.kind=4->vL p w.qF s.a.toNat a:=λe=>by
  obtain⟨q,h1,h2,h3,_⟩:=zW.made hs e;exact⟨c,q,hc,h1,by grind[v8],qA⟩
 unfold j9
 split
 .rename_i e;have:=zW.num hs e;exact⟨.refl h,⟨qp,qB,qB⟩⟩
 .split
  .obtain⟨h1,h2⟩:=Uz h (BW hv 0) (BW hv 1);exact⟨h1.mono qA,h2⟩
  .split
   .rename_i e;have hl:=hr.qJ;refine⟨⟨h.OO (hmade (.inl e)) qA,?_,λ_=>rfl⟩,⟨qp,λ_=>qp,qB⟩⟩;constructor<;>grind
   .split
    .grind[P6]
    .split
     .obtain⟨h1,h2⟩:=PO (f:=vs.getD 0 (0,0)) (vs:=vs.tail) hR h hn h0 (λv hv'=>hv v (List.mem_of_mem_tail hv')) (hr.mono qA);exact⟨h1.mono qA,h2⟩
     .split
      .obtain⟨h1,h2⟩:=Oc (v:=vs.getD 0 (0,0)) (x:=s.b) h;exact⟨h1.mono qA,h2⟩
      grind[ja.refl,BW]
theorem C7 {p:qC} {n:Nat} {R:qK->Nat->qK×qR} (hR:bA p n R) {w:qK} {a:Nat} {k:qT} {s:qP} (h:qt p w) (hn:w.left<n) (h0:w.en=0) (ha:a<w.qF.length) (hs:zW p (w.qD a) k s=true) (hr:Room 2 w) :
  ja p 2 w (y7 p R w a s).1/\zO (y7 p R w a s).1.qJ.length (y7 p R w a s).1.qO.length (y7 p R w a s).2:=by
 unfold y7;obtain⟨h1,h2,h3,_⟩:=ot (a:=a) (l:=s.reads) h
 split
 .exact⟨h1.mono qA,.zero⟩
 grind[Gd]
theorem YW {nf nc:Nat} {v:qR} (h:zO nf nc v):-3<=Hm.shown v/\Hm.shown v<=1000:=by
 have:=h.num
 grind[shown]
theorem qt.OP {p:qC} {w:qK} (h:qt p w) {v:Int} (hl:w.out.length+1+2 * w.left<=1000) (hv:-3<=v/\v<=1000):qt p { w with out:=w.out++[v] } :=
 ⟨h.a0,h.vars,h.wV,h.up,h.zJ,h.qJ,h.cls,h.zR,h.ko,h.ah,h.wg,qL,h.wh,h.lP,λx hx=>by
   simp only [jo,yj] at hx;rcases hx with hx|rfl
   .exact h.dV x hx
   .exact hv,h.eH⟩
theorem zW.print {p:qC} {R:qK->Nat->qK×qR} {w:qK} {a:Nat} {s:qP} (h:s.kind=7):y7 p R w a s=if (zB p w a s.reads).1.en≠0 then ((zB p w a s.reads).1,(0,0)) else ((zB p w a s.reads).1,(zB p w a s.reads).2.getD 0 (0,0)):=by
 simp [y7,j9,h]
theorem AN {p:qC} {n:Nat} {R:qK->Nat->qK×qR} (hR:bA p n R) {w:qK} {a:Nat} {k:qT} {s:qP} (h:qt p w) (hn:w.left<n) (h0:w.en=0) (ha:a<w.qF.length) (hs:zW p (w.qD a) k s=true) (hr:Room 2 w):ja p 2 w (vE p R w a s):=by
 unfold vE
 split
 .exact .refl h
 .split
  .exact (ZZ h).mono qA
  .obtain⟨h1,h2⟩:=C7 hR h hn h0 ha hs hr
   split
   .exact h1
   .rename_i hne;have he:(y7 p R w a s).1.en=0:=qA
    split
    .rename_i e7
     have hw:(y7 p R w a s).1=w:=by
      grind[ot,zW.print]
     rw [hw];have hl:=hr.out;refine⟨h.OP qA (YW h2),⟨λ_ a h=>⟨a,h,rfl,rfl⟩,uY _,uY _,List.prefix_append _ _,uY _,qX _,qB,qB,qB,qp,rfl⟩,λ_=>rfl⟩
    .obtain⟨s1,s2,s3⟩:=ZM (a:=a) (x:=s.to) h1.ok h2;refine⟨s1,h1.grow.trans s2 qA,λe=>?_⟩;rw [s3 e];exact h1.zR he
theorem AQ {p:qC} {w:qK} {a i:Nat} (h:qt p w) (hl:w.left≠0):qt p (zD w a i)/\Room 2 (zD w a i):=by
 have h1:=h.ko;have h2:=h.ah;have h3:=h.wg;have h4:=h.kR;have h5:=h.wh;have h6:=h.lP;refine⟨⟨h.a0,h.vars,h.wV,h.up,h.zJ,h.qJ,h.cls,h.zR,?_,?_,?_,?_,?_,?_,h.dV,h.eH⟩,⟨?_,?_,?_,?_,?_⟩⟩<;>grind[zD]
theorem Zo {w w':qK} {a i:Nat} (hl:w.left≠0) (h:Grow 2 (zD w a i) w'):Grow 0 w w':=by
 have h1:=h.ko;have h2:=h.ah;have h3:=h.wg;have h4:=h.kR;have h5:=h.wh;have h6:=h.left;simp only [zD,kC,b8] at h1 h2 h3 h4 h5 h6;exact⟨h.qF,h.qJ,h.cls,h.out,(List.prefix_append _ _).trans h.tr,qA,qA,qA,qA,qA,qA⟩
theorem ja.tick {p:qC} {w w':qK} {a i:Nat} (hl:w.left≠0) (h:ja p 2 (zD w a i) w'):ja p 0 w w':=⟨h.ok,Zo hl h.grow,h.zR⟩
theorem Hg {p:qC} {n:Nat} {R:qK->Nat->qK×qR} (hR:bA p n R) {a:Nat} {k:qT}:∀ {l:List qP} {w:qK} {i:Nat},qt p w->w.left<n+1->w.en=0->a<w.qF.length->(∀ s∈l,zW p (w.qD a) k s=true) ->
  ja p 0 w (y9 p R a w i l).1/\zO (y9 p R a w i l).1.qJ.length (y9 p R a w i l).1.qO.length (y9 p R a w i l).2
 | [],w,i,h,_,_,_,_=>⟨.refl h,.zero⟩
 | s::l,w,i,h,hn,h0,ha,hs=>by
  simp only [y9]
  split
  .exact⟨(ja.refl h).en qc,.zero⟩
  .rename_i hl;obtain⟨t1,t2⟩:=AQ (a:=a) (i:=i) h hl;have tn:(zD w a i).left<n:=by grind[zD]
   split
   .obtain⟨x1,x2,x3⟩:=Bl (a:=a) (x:=s.a) t1;refine⟨(x1.mono qA).tick hl,?_⟩
    grind
   .have hst:=AN hR t1 tn h0 ha (hs s qB) t2
    split
    .exact⟨hst.tick hl,.zero⟩
    .rename_i he;have he':(vE p R (zD w a i) a s).en=0:=qA;have hA:=hst.tick hl;obtain⟨c,hc⟩:=gX ha;have hb:=hA.grow.qD hc;obtain⟨r1,r2⟩:=Hg hR (l:=l) (i:=i+1) hA.ok (by have:=hA.grow.left;omega) he' (uW ha hA.grow.aP) (λs' hs'=>by rw [hb];exact hs s' (by simp [hs']));exact⟨hA.trans r1 (λ_=>he') qA,r2⟩
theorem dZ {p:qC} (hp:z6 p):∀ n,bA p n (qg p n)
 | 0=>λw a _ h=>absurd h qA
 | n+1=>by
  intro w a h hn ha h0;simp only [qg];obtain⟨c,hc⟩:=gX ha;have hb:=h.wV a c hc;obtain⟨k,hk⟩:=gX hb;rw [v8 hc,hk];exact Hg (dZ hp n) (k:=k) h hn h0 ha (λs hs=>by rw [v8 hc];exact hp.an _ k hk s hs)
theorem AK {p:qC} (hp:z6 p) {fuel:Nat} (hf:fuel<=150):qt p (jX fuel):=by
 have hl:=hp.len;refine⟨⟨_,rfl,rfl⟩,λi a ha=>?_,λi a ha=>?_,λi a ha hi=>?_,.none,λi g hg=>?_,λc hc=>?_,λi hi=>?_,?_,?_,?_,?_,?_,?_,gY,gY⟩
 .grind[jX,vF.none]
 .grind[jX]
 .grind[jX]
 .grind[jX]
 .grind[jX]
 .grind[jX]
 all_goals simp [jX]
 all_goals omega
theorem KL {p:qC} (hp:z6 p) {fuel:Nat} (hf:fuel<=150):ja p 0 (jX fuel) (vt p fuel) :=
 (dZ hp 151 (jX fuel) 0 (AK hp hf) Ai gY rfl).1
def j6 (s:qu):List AV:=match s with|some v=>[bv true,iv v.1,iv v.2]|none=>[bv false,iv 0,iv 0]
@[simp] theorem AG {s:qu}:(j6 s).length=3:=by cases s <;> rfl
@[simp] theorem YZ {s:qu} {f:Nm->Option Nm}:(j6 s).map (AV.tr f)=j6 s:=by cases s <;> rfl
@[simp] theorem si:j6 none=[bv false,iv 0,iv 0]:=rfl
@[simp] theorem sj {v:qR}:j6 (some v)=[bv true,iv v.1,iv v.2]:=rfl
def j4 (l:List qu):List (List AV):=l.map j6
section
variable {l:List qu} {i:Nat} {f:Nm->Option Nm} {s:qu}
@[simp] theorem slrows_len:(j4 l).length=l.length:=rT
@[simp] theorem Y0:(j4 l)[i]?=(l[i]?).map j6:=rT
@[simp] theorem slrows_getE {h:i<(j4 l).length}:(j4 l)[i]=j6 (l[i]' qL):=rT
@[simp] theorem slrows_tr:(j4 l).map (λr=>r.map (AV.tr f))=j4 l:=rT
@[simp] theorem slrows_nil:j4 []=[]:=rfl
@[simp] theorem slrows_cln:(j4 l).all (λr=>r.all AV.jE)=true:=by
 rw [yS];intro r hr;simp only [j4,wU] at hr;obtain⟨s,_,rfl⟩:=hr
 cases s <;> rfl
theorem MR:wP (j4 l) i 0 (j6 s)=j4 (l.set i s):=by
 apply vl;intro j;simp only [wP,nz,Y0,ic];by_cases e:i=j
 .subst e
  cases h:l[i]? with
  | none =>
   simp_all
  | some y =>
   simp_all<;>grind
 .simp [e]
end
@[simp] theorem slrows_setS {l:List qu} {i:Nat} {a b:Int}:wP (j4 l) i 0 [bv true,iv a,iv b]=j4 (l.set i (some (a,b))):=MR (s:=some (a,b))
@[simp] theorem slrows_setN {l:List qu} {i:Nat}:wP (j4 l) i 0 [bv false,iv 0,iv 0]=j4 (l.set i none):=MR (s:=none)
def jZ (l:List qR):List (List AV):=l.map λv=>[iv v.1,iv v.2]
section
variable {l m:List qR} {i:Nat} {f:Nm->Option Nm} {v:qR}
@[simp] theorem vrows_len:(jZ l).length=l.length:=oM
@[simp] theorem vrows_getE {h:i<(jZ l).length}:(jZ l)[i]=[iv (l[i]' qL).1,iv (l[i]' qL).2]:=oM
@[simp] theorem vrows_tr:(jZ l).map (λr=>r.map (AV.tr f))=jZ l:=oM
@[simp] theorem vrows_take {n:Nat}:(jZ l).take n=jZ (l.take n):=oM
@[simp] theorem vrows_nil:jZ []=[]:=rfl
end
def vf (l:List (Nat×Nat)):List (List AV):=l.map λv=>[iv v.1,iv v.2]
section
variable {l m:List (Nat×Nat)} {i:Nat} {f:Nm->Option Nm}
@[simp] theorem nrows_len:(vf l).length=l.length:=by simp [vf]
@[simp] theorem nrows_tr:(vf l).map (λr=>r.map (AV.tr f))=vf l:=by simp [vf]
@[simp] theorem nrows_take {n:Nat}:(vf l).take n=vf (l.take n):=by simp [vf]
@[simp] theorem nrows_nil:vf []=[]:=rfl
theorem Ev {a b:Nat}:vf l++[[iv a,iv b]]=vf (l++[(a,b)]):=by simp [vf]
end
def dU (i:Nat) (a:Act):Int:=if i=0 then -1 else a.up
def kA (n:Nm) (az:List Act):List (List AV):=az.mapIdx λi a=>[iv a.qD,iv (dU i a),.hs (.c n i 2) 3 0 8]
def kO (n:Nm) (cs:List (List qu)):List (List AV):=cs.mapIdx λi _=>[.hs (.c n i 0) 3 0 8]
def km (n:Nm) (fs:List (Nat×Nat)):List (List AV):=fs.mapIdx λi g=>[iv g.1,iv g.2,.hs (.c n i 2) 3 0 0]
section
variable {az:List Act} {cs:List (List qu)} {fs:List (Nat×Nat)} {n m:Nm} {i:Nat} {f:Nm->Option Nm}
@[simp] theorem actRows_len:(kA n az).length=az.length:=by simp [kA]
@[simp] theorem A6:(kA n az)[i]?=(az[i]?).map λa=>[iv a.qD,iv (dU i a),.hs (.c n i 2) 3 0 8]:=by simp [kA]
@[simp] theorem clsRows_len:(kO n cs).length=cs.length:=by simp [kO]
@[simp] theorem IX:(kO n cs)[i]?=(cs[i]?).map λ_=>[AV.hs (.c n i 0) 3 0 8]:=by simp [kO]
@[simp] theorem funRows_len:(km n fs).length=fs.length:=by simp [km]
@[simp] theorem EY:(km n fs)[i]?=(fs[i]?).map λg=>[iv g.1,iv g.2,AV.hs (.c n i 2) 3 0 0]:=by simp [km]
@[simp] theorem actRows_getE {h:i<(kA n az).length}:(kA n az)[i]=[iv (az[i]' qL).qD,iv (dU i (az[i]' qL)),.hs (.c n i 2) 3 0 8]:=by simp [kA]
@[simp] theorem clsRows_getE {h:i<(kO n cs).length}:(kO n cs)[i]=[AV.hs (.c n i 0) 3 0 8]:=by simp [kO]
@[simp] theorem funRows_getE {h:i<(km n fs).length}:(km n fs)[i]=[iv (fs[i]' qL).1,iv (fs[i]' qL).2,AV.hs (.c n i 2) 3 0 0]:=by simp [km]
theorem HS (h:∀ i,i<az.length->f (.c n i 2)=some (.c m i 2)):(kA n az).map (λr=>r.map (AV.tr f))=kA m az:=by
 apply vl
 grind[A6,AV.tr]
theorem IY (h:∀ i,i<cs.length->f (.c n i 0)=some (.c m i 0)):(kO n cs).map (λr=>r.map (AV.tr f))=kO m cs:=by
 apply vl
 grind[kO,AV.tr]
theorem JF (h:∀ i,i<fs.length->f (.c n i 2)=some (.c m i 2)):(km n fs).map (λr=>r.map (AV.tr f))=km m fs:=by
 apply vl
 grind[EY,AV.tr]
@[simp] theorem actRows_fix (h:∀ i,f (.c n i 2)=some (.c n i 2)):(kA n az).map (λr=>r.map (AV.tr f))=kA n az:=HS λi _=>h i
@[simp] theorem clsRows_fix (h:∀ i,f (.c n i 0)=some (.c n i 0)):(kO n cs).map (λr=>r.map (AV.tr f))=kO n cs:=IY λi _=>h i
@[simp] theorem funRows_fix (h:∀ i,f (.c n i 2)=some (.c n i 2)):(km n fs).map (λr=>r.map (AV.tr f))=km n fs:=JF λi _=>h i
theorem OI {a:Act}:kA n az++[[iv a.qD,iv (dU az.length a),.hs (.c n az.length 2) 3 0 8]]=kA n (az++[a]):=by simp [kA]
theorem Pd {c:List qu}:kO n cs++[[.hs (.c n cs.length 0) 3 0 8]]=kO n (cs++[c]):=by simp [kO]
theorem Qy {a b:Nat}:km n fs++[[iv a,iv b,.hs (.c n fs.length 2) 3 0 0]]=km n (fs++[(a,b)]):=by simp [km]
end
abbrev Wn:Nm:=.u 1 0 0
def jC (p:qC) (w:qK):List AV:=[vK p,.hs (.c Wn 0 1) 3 0 w.qF.length,.hs (.c Wn 0 2) 1 0 w.stack.length,.hs (.c Wn 0 3) 3 0 8,.hs (.c Wn 0 4) 3 0 w.qJ.length,.hs (.c Wn 0 5) 1 0 w.qO.length,.hs (.c Wn 0 6) 1 0 w.out.length,.hs (.c Wn 0 7) 2 0 w.trace.length,iv w.en,iv w.left]
def eT (l:List Nat):List Int:=l.map λ(n:Nat)=>(n:Int)
@[simp] theorem nints_len {l:List Nat}:(eT l).length=l.length:=by simp [eT]
structure qj (hp:Nm->Option AO) (p:qC) (w:qK):Prop where
 top:hp Wn=some (.row 10 [jC p w])
 qF:hp (.c Wn 0 1)=some (.row 3 (kA (.c Wn 0 1) w.qF))
 act:∀ (i:Nat) a,w.qF[i]?=some a->hp (.c (.c Wn 0 1) i 2)=some (.row 3 (j4 a.vars))
 zR:∃ l,hp (.c Wn 0 2)=some (.row 1 (qm (eT w.stack++l)))
 zJ:hp (.c Wn 0 3)=some (.row 3 (j4 w.globals))
 qJ:hp (.c Wn 0 4)=some (.row 3 (km (.c Wn 0 4) w.qJ))
 jk:hp (.c Wn 0 5)=some (.row 1 (kO (.c Wn 0 5) w.qO))
 cls:∀ (i:Nat) c,w.qO[i]?=some c->hp (.c (.c Wn 0 5) i 0)=some (.row 3 (j4 c))
 out:hp (.c Wn 0 6)=some (.row 1 (qm w.out))
 yH:hp (.c Wn 0 7)=some (.row 2 (vf w.trace))
theorem qj.re {hp hp':Nm->Option AO} {p:qC} {w:qK} (ow:qj hp p w)
  (h0:hp' Wn=some (.row 10 [jC p w]):=by simp [ow.top,jC])
  (h1:hp' (.c Wn 0 1)=some (.row 3 (kA (.c Wn 0 1) w.qF)):=by simp [ow.qF])
  (h2:∀ (i:Nat) a,w.qF[i]?=some a->hp' (.c (.c Wn 0 1) i 2)=some (.row 3 (j4 a.vars)):=by intro i a ha;simp [ow.act i a ha])
  (h3:∀ l,hp (.c Wn 0 2)=some (.row 1 (qm (eT w.stack++l)))->hp' (.c Wn 0 2)=some (.row 1 (qm (eT w.stack++l))):=by intro l hl;simp [hl])
  (h4:hp' (.c Wn 0 3)=some (.row 3 (j4 w.globals)):=by simp [ow.zJ])
  (h5:hp' (.c Wn 0 4)=some (.row 3 (km (.c Wn 0 4) w.qJ)):=by simp [ow.qJ])
  (h6:hp' (.c Wn 0 5)=some (.row 1 (kO (.c Wn 0 5) w.qO)):=by simp [ow.jk])
  (h7:∀ (i:Nat) c,w.qO[i]?=some c->hp' (.c (.c Wn 0 5) i 0)=some (.row 3 (j4 c)):=by intro i c hc;simp [ow.cls i c hc])
  (h8:hp' (.c Wn 0 6)=some (.row 1 (qm w.out)):=by simp [ow.out])
  (h9:hp' (.c Wn 0 7)=some (.row 2 (vf w.trace)):=by simp [ow.yH]):qj hp' p w :=
 ⟨h0,h1,h2,ow.zR.imp λl hl=>h3 l hl,h4,h5,h6,h7,h8,h9⟩
def vY:Option Nat->Nm
 | none=>.c Wn 0 3
 | some i=>.c (.c Wn 0 1) i 2
theorem qj.hp' {hp hp':Nm->Option AO} {p:qC} {w:qK} (h:qj hp p w) {f:Nm->Option Nm} (hf:∀ m,Nm.under Wn m=true->f m=some m) (hh:∀ m,Nm.under Wn m=true->hp' m=(hp m).map (AO.tr f)):qj hp' p w:=by
 have hu:∀ j,Nm.under Wn (.c Wn 0 j)=true:=λj=>qB;have hu2:∀ j i k,Nm.under Wn (.c (.c Wn 0 j) i k)=true:=λj i k=>qB;refine⟨?_,?_,λi a ha=>?_,?_,?_,?_,?_,λi c hc=>?_,?_,?_⟩
 .rw [hh _ qB,h.top]
  simp_all[jC]
 .grind[qF,AO.tr,HS]
 .rw [hh _ (hu2 1 i 2),h.act i a ha];simp
 .obtain⟨l,hl⟩:=h.zR
  simp_all<;>grind
 .rw [hh _ (hu 3),h.zJ];simp
 .grind[qJ,AO.tr,JF]
 .grind[jk,AO.tr,IY]
 .rw [hh _ (hu2 5 i 0),h.cls i c hc];simp
 .rw [hh _ (hu 6),h.out];simp
 .rw [hh _ (hu 7),h.yH];simp
section
variable {l:Option Nat} {d:Nat}
@[simp] theorem locN_under:Nm.under Wn (vY l)=true:=by cases l <;> simp [vY,Nm.under]
@[simp] theorem locN_under_s:Nm.under (.s d) (vY l)=false:=by cases l <;> simp [vY,Nm.under]
end
theorem qj.loc {hp:Nm->Option AO} {p:qC} {w:qK} (h:qj hp p w) {l:Option Nat} (hl:∀ i,l=some i->i<w.qF.length):hp (vY l)=some (.row 3 (j4 (w.vars l))):=by
 cases l with
 | none=>exact h.zJ
 | some i =>
  obtain⟨a,ha⟩:∃ a,w.qF[i]?=some a:=⟨_,gE (hl i rfl)⟩;simp only [vY,qK.vars,ha];exact h.act i a ha
theorem qj.fin {hp:Nm->Option AO} {p:qC} {w:qK} (h:qj hp p w):qj (vd (Nm.under Wn) [] hp) p w :=
 h.hp' (f:=zE (Nm.under Wn) []) (λm hm=>qL) (λm hm=>qL)
theorem qj.o6 {hp:Nm->Option AO} {p:qC} {w:qK} {D:Nm->Bool} {sbs:List (Nm×Nm)} (h:qj hp p w) (hD:∀ m,D m=true->m.zo=false) (hW:∀ m,Nm.under Wn m=true->D m=true) (hs:∀ q∈sbs,q.1.zo=true):qj (vd D sbs hp) p w :=
 h.hp' (f:=zE D sbs) (λm hm=>md hD (hW m hm) hs) (λm hm=>qL)
abbrev cN:=List (Int×qR)
def lk (n:Int):cN->qu
 | []=>none
 | q::l=>if q.1=n then some q.2 else lk n l
def lM (n:Int) (v:qR):cN->cN
 | []=>[(n,v)]
 | q::l=>if q.1=n then (n,v)::l else q::lM n v l
def gt (n:Int):cN->cN
 | []=>[]
 | q::l=>if q.1=n then l else q::gt n l
abbrev qR.av (v:qR):AV:=.agg [iv v.1,iv v.2]
def uM (ms:cN):List (AV×AV):=ms.map λq=>(iv q.1,qR.av q.2)
section
variable {ms:cN} {n m:Int} {v:qR} {f:Nm->Option Nm}
@[simp] theorem mrows_nil:uM []=[]:=rfl
@[simp] theorem mrows_keys:we .i64 (uM ms)=true:=by
 induction ms with
 | nil=>rfl
 | cons q l ih=>simp only [uM,cR,we] at ih ⊢;simpa using ih
@[simp] theorem mrows_get:ci .i64 n (uM ms)=(lk n ms).map qR.av:=by
 induction ms with
 | nil=>rfl
 | cons q l ih =>
  simp only [uM,cR,ci,lk,if_true] at ih ⊢
  split
  .rfl
  .exact ih
@[simp] theorem mrows_set {a b:Int}:eR .i64 n (.agg [iv a,iv b]) (uM ms)=uM (lM n (a,b) ms):=by
 induction ms with
 | nil=>rfl
 | cons q l ih =>
  simp only [uM,cR,eR,lM,true_and] at ih ⊢
  split
  .rfl
  .rw [ih];rfl
@[simp] theorem mrows_del:cg .i64 n (uM ms)=uM (gt n ms):=by
 induction ms with
 | nil=>rfl
 | cons q l ih =>
  simp only [uM,cR,cg,gt,true_and] at ih ⊢
  split
  .rfl
  .rw [ih];rfl
@[simp] theorem mrows_tr:(uM ms).map (λe=>(e.1.tr f,e.2.tr f))=uM ms:=by simp [uM]
theorem Jw:lk m (lM n v ms)=if m=n then some v else lk m ms:=by
 induction ms<;>grind[lM,lk]
theorem Eg:(lk m ms).isSome=true↔m∈ms.map (·.1):=by
 induction ms<;>grind[lk]
theorem TD (h:m∉ms.map (·.1)):lk m ms=none:=by
 cases e:lk m ms<;>grind[Eg]
theorem TC (h:(ms.map (·.1)).Nodup):lk m (gt n ms)=if m=n then none else lk m ms:=by
 induction ms<;>grind[gt,lk,TD]
theorem TA:∀ x,x∈(lM n v ms).map (·.1)↔x=n\/x∈ms.map (·.1):=by
 intro x;rw [<- Eg,Jw,<- Eg]
 grind
theorem TB (h:(ms.map (·.1)).Nodup):((lM n v ms).map (·.1)).Nodup:=by
 induction ms<;>grind[lM,TA]
theorem Sz:∀ x,x∈(gt n ms).map (·.1)->x∈ms.map (·.1):=by
 induction ms<;>grind[gt]
theorem Sy (h:(ms.map (·.1)).Nodup):((gt n ms).map (·.1)).Nodup:=by
 induction ms<;>grind[gt,Sz]
end
structure kZ (ms:cN) (l:List qu):Prop where
 nd:(ms.map (·.1)).Nodup
 get:∀ x:Nat,x<8->lk x ms=(match l[x]? with|some s=>s|none=>none)
 len:l.length=8
theorem kZ.nil:kZ [] j3:=⟨qB,λx hx=>by simp [lk,hx],qB⟩
theorem kZ.set {ms:cN} {l:List qu} (h:kZ ms l) {x:Int} {v:qR} (hx:0<=x/\x<=7):kZ (lM x v ms) (l.set x.toNat (some v)):=by
 refine⟨TB h.nd,λy hy=>?_,by simp [h.len]⟩;rw [Jw,ic];have hl:=h.len;by_cases e:(y:Int)=x
 .grind
 .have e':¬ x.toNat=y:=qA;rw [if_neg e,if_neg e'];exact h.get y hy
theorem kZ.del {ms:cN} {l:List qu} (h:kZ ms l) {x:Int} (hx:0<=x/\x<=7):kZ (gt x ms) (l.set x.toNat none):=by
 refine⟨Sy h.nd,λy hy=>?_,by simp [h.len]⟩;rw [TC h.nd,ic];have hl:=h.len;by_cases e:(y:Int)=x
 .grind
 .have e':¬ x.toNat=y:=qA;rw [if_neg e,if_neg e'];exact h.get y hy
theorem kZ.at {ms:cN} {l:List qu} (h:kZ ms l) {x:Int} (hx:0<=x/\x<=7):lk x ms=(match l[x.toNat]? with|some s=>s|none=>none):=by
 have:=h.get x.toNat qA
 grind
section
variable {X:Ctx} {st:St} {K:St->Prop} {E:AV->St->Prop} {d:Nat} {ty:TypeId} {pos:String} {aft:Array Edge} {g:Option (Nat×Bool)}
theorem Gi {T:TypeId} {st':St} (hd:d<X.n:=by first|(simp;done)|fail) (hs:xd d st=st':=by simp [fx,xd];first|done|rfl) (h:K st'):q8 X ⟨some d,.makeMap T none,ty,pos,aft,g⟩ K E st:=by
 grind[YH]
theorem NV {T e:TypeId} {m key x:Operand} {k:IntKind} {i:Int} {n:Nm} {es:List (AV×AV)} {st':St} (ht:eb X.P T=some (k,e):=by simp [fx];first|done|rfl|exact⟨rfl,rfl⟩)
  (hm:ev st m=.mp n:=by simp [fx];first|done|rfl) (hk:ev st key=.sc (.int k i):=by simp [fx];first|done|rfl) (hn:st.hp n=some (.map es):=by simp [fx];first|done|rfl) (hks:we k es=true:=by simp [fx];first|done|rfl)
  (hs:st.zS n (.map (eR k i (ev st x) es))=st':=by simp [fx];first|done|rfl) (h:K st'):q8 X ⟨none,.mapUpdate T m key x,ty,pos,aft,g⟩ K E st:=by
 grind[YI]
end
abbrev Mn:Nm:=.u 1 0 0
abbrev En (i:Nat):Nm:=.u 7 i 0
abbrev vh (i:Nat):AV:=.pt (En i) 0
def zV (l:List Nat):List (List AV):=l.map λi=>[vh i]
def Du (f:Nat->Bool):Nm->Bool
 | .s _=>false
 | .u k _ _=>f k
 | .c n _ _=>Du f n
section
variable {f:Nat->Bool} {n:Nm} {k i j d:Nat}
@[simp] theorem Du_s:Du f (.s d)=false:=rfl
@[simp] theorem Du_u:Du f (.u k i j)=f k:=rfl
@[simp] theorem Du_c:Du f (.c n i j)=Du f n:=rfl
theorem Np:∀ {n:Nm},Du f n=true->n.zo=false:=by
 intro n
 induction n with
 | s d=>simp
 | u a b c=>intro _;rfl
 | c q i j ih=>intro h;exact ih h
end
section
variable {X:Ctx} {st:St} {K:St->Prop} {E:AV->St->Prop} {d f:Nat} {ty:TypeId} {pos:String} {aft:Array Edge} {g:Option (Nat×Bool)} {c:Operand} {args:Array Operand} {Ts:Array TypeId} {xs ys az:List AV} {R:Nm->AV->(Nm->Option AO)->Prop}
theorem qA1 (D:Nm->Bool) (hD:∀ n,D n=true->n.zo=false) (hext:∀ k i j,X.ext (.u k i j)=true->D (.u k i j)=false\/(ze D st.hp) (.u k i j)≠none) (hd:d<X.n:=by first|(simp;done)|fail)
  (hv:ev st c=.fn (.func f) xs ys) (ha:xs++args.toList.map (ev st)++ys=az)
  (hF:qV X.P X.gl f D az (ze D st.hp) R qy) (h:∀ y H',R (.s d) y H'->K ((st.call d D (ze D st.hp) H').put (some d) y)) :
  q8 X ⟨some d,.call ⟨.value c,args,Ts⟩,ty,pos,aft,g⟩ K E st:=by
 subst ha;refine iu (D:=D) (H:=ze D st.hp) (R:=R) (E0:=qy) hF (QQ hF.1 rfl hv) false ⟨rfl,λj a a' h h'=>?_⟩ (λn hn=>?_) (λn hn=>?_) (λn hn=>?_) hext (λe he=>qL) (λx H' hR=>?_) (λ_ _ h=>h.elim)
 .rw [h] at h';obtain rfl:=sI h';exact .refl _
 .cases hx:D n with
  | false=>rfl
  | true =>
   have h1:=hD n hx;have h2:=Nm.l9 (a:=.s d) rfl hn
   simp_all
 .simp [hn]
 .simp_all
 simp_all
end
end Go.Hm
end
section
set_option linter.unusedSectionVars false
namespace Go.Hm
open Go Go.RowKit
structure Cp (q:Bool) (w w':qK):Prop where
 qJ:w.qJ <+: w'.qJ
 cls:w.qO <+: w'.qO
 out:w.out <+: w'.out
 tr:w.trace <+: w'.trace
 left:q=true->w'.left<=w.left
section
variable {p:qC} {R:qK->Nat->qK×qR} {w:qK} {a b i:Nat} {x:Int} {vs:List qR} {s:qP} {v:qR} {q:Bool}
variable (hR:∀ w a,Cp q w (R w a).1)
include hR
end
def Cw (k:Nat) (w:qK):qK:={ w with left:=w.left+k }
structure Nt (k:Nat) (w w':qK):Prop where
 en:w.en=1
 left:w.left=0
 pre:Cp false w w'
 more:0<k->w.trace.length<w'.trace.length
def Ns (k:Nat) (r r':qK×qR):Prop:=(r.1.en≠1/\r'=(Cw k r.1,r.2))\/Nt k r.1 r'.1
section
variable {p:qC} {R:qK->Nat->qK×qR} {k n:Nat} {w:qK} {a b i:Nat} {x:Int} {l:Option Nat} {vs:List qR} {s:qP} {v:qR}
variable (hP:∀ w a,Cp true w (R w a).1) (hR:∀ w a,w.left+k<n->w.en=0->Ns k (R w a) (R (Cw k w) a))
include hP hR
end
end Go.Hm
end
