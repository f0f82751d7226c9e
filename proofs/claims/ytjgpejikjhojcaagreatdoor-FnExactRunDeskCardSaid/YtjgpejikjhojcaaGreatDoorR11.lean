import Derived.Test.YtjgpejikjhojcaaGreatDoorR10
set_option linter.unusedSimpArgs false
set_option linter.unusedVariables false
set_option maxRecDepth 100000
set_option maxHeartbeats 4000000

section
namespace Go.Hm
open Go Go.RowKit
structure ze (nf nc:Nat) (v:qW):Prop where
 num:0<=v.2/\v.2<=1000
 fn:v.1=2->v.2<nf
 cls:v.1=3->v.2<nc
theorem ze.zero {nf nc:Nat}:ze nf nc (0,0):=⟨qB,qB,qB⟩
theorem ze.mono {nf nc nf' nc':Nat} {v:qW} (h:ze nf nc v) (h1:nf<=nf') (h2:nc<=nc'):ze nf' nc' v :=
 ⟨h.num,λe=>by have:=h.fn e;omega,λe=>by have:=h.cls e;omega⟩
def vL (nf nc:Nat) (l:List qr):Prop:=l.length=8/\∀ v,some v∈l->ze nf nc v
theorem vL.mono {nf nc nf' nc':Nat} {l:List qr} (h:vL nf nc l) (h1:nf<=nf') (h2:nc<=nc'):vL nf' nc' l:=⟨h.1,λv hv=>(h.2 v hv).mono h1 h2⟩
theorem vL.none {nf nc:Nat}:vL nf nc jR:=⟨qB,λv hv=>rZ⟩
theorem vL.set {nf nc:Nat} {l:List qr} (h:vL nf nc l) {i:Nat} {s:qr} (hs:∀ v,s=some v->ze nf nc v):vL nf nc (l.set i s):=by
 grind[vL]
theorem vL.get {nf nc:Nat} {l:List qr} (h:vL nf nc l) {i:Nat} {v:qW} (hv:l[i]?=some (some v)):ze nf nc v:=h.2 v (gM hv)
def uf (p:qC) (qI:List Act) (b i:Nat):Prop:=∃ c k,qI[i]?=some c/\p[b]?=some k/\k.parent=c.qG/\0<b
structure zF (p:qC) (w:qL):Prop where
 a0:∃ a,w.qI[0]?=some a/\a.qG=0
 vars:∀ (i:Nat) a,w.qI[i]?=some a->vL w.qH.length w.qT.length a.vars
 wo:∀ (i:Nat) a,w.qI[i]?=some a->a.qG<p.length
 up:∀ (i:Nat) a,w.qI[i]?=some a->0<i->a.up<i/\uf p w.qI a.qG a.up
 zJ:vL w.qH.length w.qT.length w.globals
 qH:∀ (i:Nat) g,w.qH[i]?=some g->uf p w.qI g.1 g.2
 cls:∀ c∈w.qT,vL w.qH.length w.qT.length c
 jl:∀ i∈w.stack,i<w.qI.length
 ky:w.qI.length+2 * w.left<=1000
 aY:w.qH.length+2 * w.left<=1000
 w8:w.qT.length+2 * w.left<=1000
 w9:w.out.length+2 * w.left<=1000
 wQ:w.trace.length+w.left<=1000
 lW:w.stack.length+2 * w.left<=1000
 iF:∀ v∈w.out,-3<=v/\v<=1000
 eK:0<=w.en/\w.en<=7
theorem zF.en {p:qC} {w:qL} (h:zF p w) {e:Int} (he:0<=e/\e<=7):zF p { w with en:=e }:=⟨h.a0,h.vars,h.wo,h.up,h.zJ,h.qH,h.cls,h.jl,h.ky,h.aY,h.w8,h.w9,h.wQ,h.lW,h.iF,he⟩
structure Grow (s:Nat) (w w':qL):Prop where
 qI:∀ (i:Nat) a,w.qI[i]?=some a->∃ b,w'.qI[i]?=some b/\b.qG=a.qG/\b.up=a.up
 qH:w.qH <+: w'.qH
 cls:w.qT <+: w'.qT
 out:w.out <+: w'.out
 tr:w.trace <+: w'.trace
 left:w'.left<=w.left
 ky:w'.qI.length+2 * w'.left<=w.qI.length+2 * w.left+s
 aY:w'.qH.length+2 * w'.left<=w.qH.length+2 * w.left+s
 w8:w'.qT.length+2 * w'.left<=w.qT.length+2 * w.left+s
 w9:w'.out.length+2 * w'.left<=w.out.length+2 * w.left+s
 wQ:w'.trace.length+w'.left=w.trace.length+w.left
theorem Grow.refl (s:Nat) (w:qL):Grow s w w:=⟨λ_ a h=>⟨a,h,rfl,rfl⟩,oV _,oV _,oV _,oV _,qa _,qA,qA,qA,qA,rfl⟩
theorem Grow.trans {s t u:Nat} {w w' w'':qL} (h:Grow s w w') (h':Grow t w' w'') (hu:s+t<=u):Grow u w w'':=by
 refine⟨λi a e=>?_,h.qH.trans h'.qH,h.cls.trans h'.cls,h.out.trans h'.out,h.tr.trans h'.tr,ur h'.left h.left,?_,?_,?_,?_,h'.wQ.trans h.wQ⟩
 .obtain⟨b,e1,e2,e3⟩:=h.qI i a e;obtain⟨c,f1,f2,f3⟩:=h'.qI i b e1
  simp_all
 .have:=h.ky;have:=h'.ky;omega
 .have:=h.aY;have:=h'.aY;omega
 .have:=h.w8;have:=h'.w8;omega
 .have:=h.w9;have:=h'.w9;omega
theorem Grow.mono {s t:Nat} {w w':qL} (h:Grow s w w') (ht:s<=t):Grow t w w':=h.trans (Grow.refl 0 w') qA
theorem Grow.aF {s:Nat} {w w':qL} (h:Grow s w w'):w.qI.length<=w'.qI.length:=by
 cases hn:w.qI.length with
 | zero=>omega
 | succ n =>
  obtain⟨a,ha⟩:∃ a,w.qI[n]?=some a:=⟨_,gE qA⟩;obtain⟨b,hb,_⟩:=h.qI n a ha
  grind
theorem Grow.CL {s:Nat} {w w':qL} (h:Grow s w w'):w.qH.length<=w'.qH.length:=h.qH.length_le
theorem Grow.en {s:Nat} {w w':qL} (h:Grow s w w') {e:Int}:Grow s w { w' with en:=e }:=⟨h.qI,h.qH,h.cls,h.out,h.tr,h.left,h.ky,h.aY,h.w8,h.w9,h.wQ⟩
theorem Grow.qG {s:Nat} {w w':qL} (h:Grow s w w') {i:Nat} {a:Act} (hi:w.qI[i]?=some a):w'.qG i=w.qG i:=by
 obtain⟨b,hb,e,_⟩:=h.qI i a hi
 grind[qL.qG]
theorem uf.grow {p:qC} {s b i:Nat} {w w':qL} (h:uf p w.qI b i) (hg:Grow s w w'):uf p w'.qI b i:=by
 obtain⟨c,k,h1,h2,h3,h4⟩:=h;obtain⟨d,e1,e2,_⟩:=hg.qI i c h1
 grind[uf]
theorem wI {w:qL} {i:Nat} {a:Act} (h:w.qI[i]?=some a):w.qG i=a.qG:=by grind[qL.qG]
theorem my {p:qC} {w:qL} {o a:Nat} {c:Act} (hh:zj p) (h:zF p w) (hc:w.qI[a]?=some c) (hne:c.qG≠o) (ho:0<o) (hi:jX p (w.qG a) o=true):0<a/\c.up<a/\jX p (w.qG c.up) o=true:=by
 rw [wI hc] at hi
 have h0:0<a:=by
  grind[zF.a0,bA]
 obtain⟨hu,q,k,e1,e2,e3,e4⟩:=h.up _ c hc h0
 grind[bA,wI,dV]
theorem Ig {p:qC} {w:qL} {o:Nat} (hh:zj p) (h:zF p w) (ho:0<o):∀ (n m a:Nat),a<=n->a<=m->a<w.qI.length->jX p (w.qG a) o=true->aA w.qI o n a=aA w.qI o m a
 | 0,0,_,_,_,_,_=>rfl
 | 0,m+1,a,h1,_,hl,hi=>by
  obtain rfl:a=0:=qA;obtain⟨c,hc⟩:=gX hl;by_cases e:c.qG=o
  .grind[aA]
  .have:=(my hh h hc e ho hi).1;omega
 | n+1,0,a,_,h2,hl,hi=>by
  obtain rfl:a=0:=qA;obtain⟨c,hc⟩:=gX hl;by_cases e:c.qG=o
  .grind[aA]
  .have:=(my hh h hc e ho hi).1;omega
 | n+1,m+1,a,h1,h2,hl,hi=>by
  obtain⟨c,hc⟩:=gX hl;by_cases e:c.qG=o
  .grind[aA]
  .obtain⟨e1,e2,e3⟩:=my hh h hc e ho hi;simp only [aA,hc,e,if_false];exact Ig hh h ho n m c.up qA qA qA e3
theorem sK {qI:List Act} {o a:Nat} {c:Act} (hc:qI[a]?=some c) (e:c.qG=o):∀ n,aA qI o n a=a
 | 0=>rfl
 | n+1=>by grind[aA]
theorem Bk {p:qC} {w:qL} {o a:Nat} {c:Act} (hh:zj p) (h:zF p w) (ho:0<o) (hc:w.qI[a]?=some c) (hne:c.qG≠o) (hi:jX p (w.qG a) o=true):aA w.qI o a a=aA w.qI o c.up c.up:=by
 obtain⟨e1,e2,e3⟩:=my hh h hc hne ho hi;have hl:=(gS hc).1;obtain⟨b,rfl⟩:∃ b,a=b+1:=⟨a - 1,qA⟩
 grind[aA,Ig]
theorem If {p:qC} {w:qL} {o:Nat} (hh:zj p) (h:zF p w) (ho:0<o):∀ (n a:Nat),a<=n->a<w.qI.length->jX p (w.qG a) o=true->∃ c,w.qI[aA w.qI o a a]?=some c/\c.qG=o
 | n,a,h1,hl,hi=>by
  obtain⟨c,hc⟩:=gX hl;by_cases e:c.qG=o
  .grind[sK]
  .obtain⟨e1,e2,e3⟩:=my hh h hc e ho hi;rw [Bk hh h ho hc e hi]
   match n with
   | 0=>omega
   | n+1=>exact If hh h ho n c.up qA qA e3
theorem Ug {p:qC} {x:Int} {o:Nat} (hh:zj p) (ho:0<o):∀ (n:Nat) (j:Int),yK p x n j=o->jX p j o=true
 := by intro x0;induction x0<;>grind[yK,CW,bA,dV]
theorem Un {p:qC} {b o:Nat} {x:Int} (hh:zj p) (ho:0<o) (h:zI p b x=o):jX p b o=true:=by
 grind[bA,zI,outer,dV,Ug,zj]
theorem se {p:qC} {w:qL} {a:Nat} {x:Int} (hh:zj p) (h:zF p w) (ha:a<w.qI.length) :
  (zI p (w.qG a) x=-1/\w.loc p a x=none)\/∃ (o i:Nat) (c:Act),0<o/\zI p (w.qG a) x=o/\w.loc p a x=some i/\i=aA w.qI o a a/\w.qI[i]?=some c/\c.qG=o/\jX p (w.qG a) o=true:=by
 rcases l5 (p:=p) (c:=w.qG a) (x:=x) with e|e
 .grind[qL.loc]
 .obtain⟨o,ho⟩:∃ o:Nat,zI p (w.qG a) x=o:=⟨(zI p (w.qG a) x).toNat,qA⟩;have ho0:0<o:=qA;have hi:=Un hh ho0 ho;obtain⟨c,hc,hb⟩:=If hh h ho0 a a (qa _) ha hi
  grind[qL.loc]
theorem FI {p:qC} {w:qL} {a:Nat} {x:Int} (hh:zj p) (h:zF p w) (ha:a<w.qI.length):∀ i,w.loc p a x=some i->i<w.qI.length:=by
 intro i hi;rcases se (x:=x) hh h ha with⟨_,h2⟩|⟨o,j,c,_,_,h3,_,h4,_⟩<;>grind
theorem zF.Cu {p:qC} {w:qL} (h:zF p w) {l:Option Nat} (hl:∀ i,l=some i->i<w.qI.length):vL w.qH.length w.qT.length (w.vars l):=by
 cases l with
 | none=>exact h.zJ
 | some i =>
  obtain⟨c,hc⟩:∃ c,w.qI[i]?=some c:=⟨_,gE (hl i rfl)⟩;simp only [qL.vars,hc];exact h.vars i c hc
theorem Rc {w:qL} {l:Option Nat} {x:Int} {v:qW} (h:w.get l x=some v):(w.vars l)[x.toNat]?=some (some v):=by
 grind[qL.get]
theorem zF.get {p:qC} {w:qL} (h:zF p w) {l:Option Nat} {x:Int} {v:qW} (hv:w.get l x=some v):ze w.qH.length w.qT.length v:=by
 have hv:=Rc hv
 cases l with
 | none=>exact h.zJ.get hv
 | some i =>
  simp only [qL.vars] at hv
  split at hv
  .rename_i c hc;exact (h.vars i c hc).get hv
  simp_all
theorem A8 {w:qL} {l:Option Nat} {x:Int} {s:qr} {i:Nat} {a:Act} (h:(w.set l x s).qI[i]?=some a):∃ b,w.qI[i]?=some b/\b.qG=a.qG/\b.up=a.up/\(a.vars=b.vars\/a.vars=b.vars.set x.toNat s):=by
 cases l<;>grind[qL.set]
theorem O5 {w:qL} {l:Option Nat} {x:Int} {s:qr} {i:Nat} {a:Act} (h:w.qI[i]?=some a):∃ b,(w.set l x s).qI[i]?=some b/\b.qG=a.qG/\b.up=a.up:=by
 cases l<;>grind[qL.set]
theorem A9 {w:qL} {l:Option Nat} {x:Int} {s:qr}:(w.set l x s).qI.length=w.qI.length:=by
 cases l <;> simp [qL.set]
theorem na {w:qL} {l:Option Nat} {x:Int} {s:qr}:(w.set l x s).qH=w.qH/\(w.set l x s).qT=w.qT/\(w.set l x s).out=w.out/\(w.set l x s).trace=w.trace/\(w.set l x s).left=w.left/\(w.set l x s).stack=w.stack/\(w.set l x s).en=w.en:=by
 cases l <;> exact⟨rfl,rfl,rfl,rfl,rfl,rfl,rfl⟩
theorem GV {w:qL} {l:Option Nat} {x:Int} {s:qr}:Grow 0 w (w.set l x s):=by
 obtain⟨e1,e2,e3,e4,e5,e6,_⟩:=na (w:=w) (l:=l) (x:=x) (s:=s);refine⟨λi a h=>O5 h,qP,qP,qP,qP,qA,by grind[A9],qP,qP,qP,by rw [e5,e4]⟩
theorem zF.set {p:qC} {w:qL} (h:zF p w) {l:Option Nat} {x:Int} {s:qr} (hs:∀ v,s=some v->ze w.qH.length w.qT.length v):zF p (w.set l x s):=by
 obtain⟨e1,e2,e3,e4,e5,e6,e7⟩:=na (w:=w) (l:=l) (x:=x) (s:=s);have hg:Grow 0 w (w.set l x s):=GV;refine⟨?_,λi a ha=>?_,λi a ha=>?_,λi a ha hi=>?_,?_,λi g hi=>?_,λc hc=>?_,λi hi=>?_,by rw [A9,e5];exact h.ky,by rw [e1,e5];exact h.aY,by rw [e2,e5];exact h.w8,by rw [e3,e5];exact h.w9,by rw [e4,e5];exact h.wQ,by rw [e6,e5];exact h.lW,by rw [e3];exact h.iF,by rw [e7];exact h.eK⟩
 .grind[a0,A9,A8]
 .obtain⟨b,f1,f2,f3,f4⟩:=A8 ha;rw [e1,e2];rcases f4 with f4|f4
  .rw [f4];exact h.vars i b f1
  .rw [f4];exact (h.vars i b f1).set hs
 .obtain⟨b,f1,f2,f3,f4⟩:=A8 ha;rw [<- f2];exact h.wo i b f1
 .obtain⟨b,f1,f2,f3,f4⟩:=A8 ha;obtain⟨g1,g2⟩:=h.up i b f1 hi;rw [<- f3,<- f2];exact⟨g1,g2.grow hg⟩
 .rw [e1,e2]
  cases l with
  | none=>exact h.zJ.set hs
  | some j=>exact h.zJ
 .rw [e1] at hi;exact (h.qH i g hi).grow hg
 .rw [e2] at hc;rw [e1,e2];exact h.cls c hc
 .rw [e6] at hi;rw [A9];exact h.jl i hi
structure jm (p:qC) (s:Nat) (w w':qL):Prop where
 ok:zF p w'
 grow:Grow s w w'
 jl:w'.en=0->w'.stack=w.stack
theorem jm.refl {p:qC} {s:Nat} {w:qL} (h:zF p w):jm p s w w:=⟨h,.refl s w,λ_=>rfl⟩
theorem jm.en {p:qC} {s:Nat} {w w':qL} (h:jm p s w w') {e:Int} (he:e≠0) (hr:0<=e/\e<=7:=by decide):jm p s w { w' with en:=e }:=⟨h.ok.en hr,h.grow.en,λh=>absurd h he⟩
theorem jm.trans {p:qC} {s t u:Nat} {w w' w'':qL} (h:jm p s w w') (h':jm p t w' w'') (h0:w''.en=0->w'.en=0) (hu:s+t<=u):jm p u w w'':=⟨h'.ok,h.grow.trans h'.grow hu,λe=>(h'.jl e).trans (h.jl (h0 e))⟩
theorem jm.mono {p:qC} {s t:Nat} {w w':qL} (h:jm p s w w') (hst:s<=t):jm p t w w':=⟨h.ok,h.grow.mono hst,h.jl⟩
theorem AA {p:qC} {b:Nat} {o:Int}:yf p b o≠0:=by grind[yf]
theorem KJ {p:qC} {b:Nat} {o:Int}:0<=yf p b o/\yf p b o<=7:=by grind[yf]
theorem CN {p:qC} {w:qL} {a:Nat} {x:Int} (h:zF p w):jm p 0 w (jY p w a x).1/\ze w.qH.length w.qT.length (jY p w a x).2/\((jY p w a x).1=w\/∃ e,e≠0/\(jY p w a x).1={ w with en:=e }):=by
 unfold jY
 split
 .rename_i v hv;exact⟨.refl h,h.get hv,.inl rfl⟩
 .split
  .split
   .rename_i v hv;exact⟨.refl h,h.get hv,.inl rfl⟩
   .split
    .exact⟨.refl h,⟨qB,qB,qB⟩,.inl rfl⟩
    .exact⟨(jm.refl h).en qe,.zero,.inr ⟨_,qe,rfl⟩⟩
  .exact⟨(jm.refl h).en AA KJ,.zero,.inr ⟨_,AA,rfl⟩⟩
theorem sd {p:qC} {a:Nat}:∀ {l:List Int} {w:qL},zF p w->jm p 0 w (zW p w a l).1/\(∀ v∈(zW p w a l).2,ze w.qH.length w.qT.length v)/\((zW p w a l).1=w\/∃ e,e≠0/\(zW p w a l).1={ w with en:=e })/\((zW p w a l).1.en=0->(zW p w a l).2.length=l.length)/\(zW p w a l).2.length<=l.length
 | [],w,h=>⟨.refl h,λv hv=>by grind[zW],.inl rfl,λ_=>rfl,qa _⟩
 | x::l,w,h=>by
  simp only [zW]
  split
  .grind[jm.refl]
  .rename_i he;obtain⟨h1,h2,h3⟩:=CN (a:=a) (x:=x) h;rcases h3 with h3|⟨e,he,h3⟩
   .rw [h3];obtain⟨i1,i2,i3,i4,i5⟩:=sd (a:=a) (l:=l) h
    simp_all
   .rw [h3]
    have hen:zW p { w with en:=e } a l=({ w with en:=e },[]):=by
     cases l<;>grind[zW]
    simp_all
theorem π {p:qC} {w:qL} {a:Nat} {x:Int} {v:qW} (h:zF p w) (hv:ze w.qH.length w.qT.length v):jm p 0 w (di p w a x v) :=
 ⟨h.set λu e=>qP,GV,λ_=>na.2.2.2.2.2.1⟩
theorem qAA {p:qC} {w:qL} {a:Nat} {x:Int} (h:zF p w):jm p 0 w (aN p w a x):=by
 unfold aN
 split
 .exact⟨h.set λu e=>vS,GV,λ_=>na.2.2.2.2.2.1⟩
 .exact (jm.refl h).en AA KJ
theorem VL {p:qC} {w:qL} {a b:qW} (h:zF p w) (ha:ze w.qH.length w.qT.length a) (hb:ze w.qH.length w.qT.length b):jm p 0 w (uM w a b).1/\ze (uM w a b).1.qH.length (uM w a b).1.qT.length (uM w a b).2:=by
 unfold uM
 split
 .exact⟨(jm.refl h).en qe,.zero⟩
 .refine⟨.refl h,⟨?_,qB,qB⟩⟩;have:=ha.num;have:=hb.num
  grind
theorem PA {p:qC} {w:qL} {v:qW} {x:Int} (h:zF p w):jm p 0 w (ut w v x).1/\ze (ut w v x).1.qH.length (ut w v x).1.qT.length (ut w v x).2:=by
 unfold ut
 split
 .exact⟨(jm.refl h).en qe,.zero⟩
 .split
  .rename_i c hc
   split
   .rename_i u hu;exact⟨.refl h,(h.cls c (gM hc)).get hu⟩
   .exact⟨(jm.refl h).en qe,.zero⟩
  .exact⟨(jm.refl h).en qe,.zero⟩
structure Room (k:Nat) (w:qL):Prop where
 qI:w.qI.length+k+2 * w.left<=1000
 qH:w.qH.length+k+2 * w.left<=1000
 cls:w.qT.length+k+2 * w.left<=1000
 out:w.out.length+k+2 * w.left<=1000
 jl:w.stack.length+k+2 * w.left<=1000
theorem Room.mono {k k':Nat} {w:qL} (h:Room k w) (hk:k'<=k):Room k' w:=by
 obtain⟨h1,h2,h3,h4,h5⟩:=h;constructor<;>grind
theorem jm.room {p:qC} {s k k':Nat} {w w':qL} (h:jm p s w w') (hr:Room k w) (h0:w'.en=0) (hk:k'+s<=k):Room k' w':=by
 obtain⟨h1,h2,h3,h4,h5⟩:=hr;have g:=h.grow;have e:=h.jl h0;have:=g.left;exact⟨by have:=g.ky;omega,by have:=g.aY;omega,by have:=g.w8;omega,by have:=g.w9;omega,qw⟩
def gR (p:qC) (n:Nat) (R:qL->Nat->qL×qW):Prop:=∀ (w:qL) (a:Nat),zF p w->w.left<n->a<w.qI.length->w.en=0->jm p 0 w (R w a).1/\ze (R w a).1.qH.length (R w a).1.qT.length (R w a).2
theorem Hk {nf nc:Nat} {ps:List Int} {vs:List qW} (h:∀ v∈vs,ze nf nc v):vL nf nc (cK ps vs):=by
 unfold cK
 have key:∀ (l:List (Int×qW)) (s:List qr),(∀ q∈l,ze nf nc q.2)->vL nf nc s->vL nf nc (l.foldl (λl q=>l.set q.1.toNat (some q.2)) s):=by
  intro l
  induction l with
  | nil=>simp
  | cons q l ih=>exact λs hl hs=>ih _ (λq' h'=>hl q' (bU _ h')) (hs.set λv e=>qP)
 exact key _ _ (λq hq=>h q.2 (List.of_mem_zip hq).2) .none
theorem rN {p:qC} {w:qL} {b up:Nat} {vs:List qW} (h:zF p w) (hm:uf p w.qI b up) (hv:∀ v∈vs,ze w.qH.length w.qT.length v) (hr:Room 1 w):zF p (j2 p w b up vs)/\Grow 1 w (j2 p w b up vs):=by
 have hg:Grow 1 w (j2 p w b up vs):=by
  constructor<;>grind[j2]
 refine⟨?_,hg⟩;have hmade:=hm.grow hg;obtain⟨c,k,m1,m2,m3,m4⟩:=hm;have hul:=(gS m1).1;have qy:=(gS m2).1
 have split':∀ (i:Nat) (a:Act),(j2 p w b up vs).qI[i]?=some a->w.qI[i]?=some a\/(i=w.qI.length/\a.qG=b/\a.up=up/\vL w.qH.length w.qT.length a.vars):=by
  grind[j2,Hk]
 refine⟨?_,λi a ha=>?_,λi a ha=>?_,λi a ha hi=>?_,h.zJ,λi g hg'=>(h.qH i g hg').grow hg,h.cls,λi hi=>?_,by simpa [j2] using hr.qI,h.aY,h.w8,h.w9,h.wQ,by simpa [j2] using hr.jl,h.iF,h.eK⟩
 .obtain⟨a,ha,hb⟩:=h.a0;obtain⟨b,e1,e2,_⟩:=hg.qI 0 a ha
  simp_all
 .rcases split' i a ha with e|⟨_,_,_,e⟩
  .exact h.vars i a e
  .exact e
 .rcases split' i a ha with e|⟨_,e,_,_⟩
  .exact h.wo i a e
  omega
 .rcases split' i a ha with e|⟨e1,e2,e3,_⟩
  .obtain⟨x1,x2⟩:=h.up i a e hi;exact⟨x1,x2.grow hg⟩
  simp_all
 .simp only [j2,y9,vD] at hi;simp only [j2,ua,wm];rcases hi with e|e
  .have:=h.jl i e;omega
  .omega
theorem Br {p:qC} {n:Nat} {R:qL->Nat->qL×qW} (hR:gR p n R) {w:qL} {b up:Nat} {vs:List qW} (h:zF p w) (hn:w.left<n) (h0:w.en=0) (hm:uf p w.qI b up) (hv:∀ v∈vs,ze w.qH.length w.qT.length v) (hr:Room 1 w) :
  jm p 1 w (j8 p R w b up vs).1/\ze (j8 p R w b up vs).1.qH.length (j8 p R w b up vs).1.qT.length (j8 p R w b up vs).2:=by
 obtain⟨h1,h2⟩:=rN h hm hv hr;obtain⟨⟨r1,r2,r3⟩,r4⟩:=hR (j2 p w b up vs) w.qI.length h1 hn rV h0;unfold j8 aw
 split
 .rename_i he;refine⟨⟨⟨r1.a0,r1.vars,r1.wo,r1.up,r1.zJ,r1.qH,r1.cls,λi hi=>r1.jl i (List.dropLast_subset _ hi),r1.ky,r1.aY,r1.w8,r1.w9,r1.wQ,?_,r1.iF,r1.eK⟩,?_,λ_=>?_⟩,r4⟩
  .have:=r1.lW
   grind
  .have hg:=h2.trans r2 (qa _);exact⟨hg.qI,hg.qH,hg.cls,hg.out,hg.tr,hg.left,hg.ky,hg.aY,hg.w8,hg.w9,hg.wQ⟩
  grind[j2]
 .rename_i he;exact⟨⟨r1,h2.trans r2 (qa _),λe=>absurd e he⟩,r4⟩
theorem P2 {p:qC} {n:Nat} {R:qL->Nat->qL×qW} (hR:gR p n R) {w:qL} {f:qW} {vs:List qW} (h:zF p w) (hn:w.left<n) (h0:w.en=0) (hv:∀ v∈vs,ze w.qH.length w.qT.length v) (hr:Room 1 w) :
  jm p 1 w (uH p R w f vs).1/\ze (uH p R w f vs).1.qH.length (uH p R w f vs).1.qT.length (uH p R w f vs).2:=by
 unfold uH
 split
 .exact⟨(jm.refl h).en qe,.zero⟩
 .split
  .rename_i g hg
   split
   .exact⟨(jm.refl h).en qe,.zero⟩
   .exact Br hR h hn h0 (h.qH _ g hg) hv hr
  grind[jm.refl,ze.zero]
theorem zF.O7 {p:qC} {w:qL} (h:zF p w) {c:List qr} (hc:vL w.qH.length w.qT.length c) (hl:w.qT.length+1+2 * w.left<=1000):zF p { w with qT:=w.qT++[c] }:=by
 have hm:∀ {l:List qr},vL w.qH.length w.qT.length l->vL w.qH.length (w.qT++[c]).length l:=λh=>h.mono (qa _) qB;refine⟨h.a0,λi a ha=>hm (h.vars i a ha),h.wo,h.up,hm h.zJ,h.qH,λd hd=>?_,h.jl,h.ky,h.aY,qP,h.w9,h.wQ,h.lW,h.iF,h.eK⟩;rcases y9.1 hd with e|e
 .exact hm (h.cls d e)
 simp_all
theorem zF.O9 {p:qC} {w:qL} (h:zF p w) {b i:Nat} (hm:uf p w.qI b i) (hl:w.qH.length+1+2 * w.left<=1000):zF p { w with qH:=w.qH++[(b,i)] }:=by
 have hs:∀ {l:List qr},vL w.qH.length w.qT.length l->vL (w.qH++[(b,i)]).length w.qT.length l:=λh=>h.mono qB (qa _);refine⟨h.a0,λi a ha=>hs (h.vars i a ha),h.wo,h.up,hs h.zJ,λj g hg=>?_,λc hc=>hs (h.cls c hc),h.jl,h.ky,qP,h.w8,h.w9,h.wQ,h.lW,h.iF,h.eK⟩;rcases y9.1 (gM hg) with e|e
 .obtain⟨j',hj'⟩:=wj e;exact h.qH j' g hj'
 simp_all
theorem Pu {p:qC} {n:Nat} {R:qL->Nat->qL×qW} (hR:gR p n R) {w:qL} {b a:Nat} (h:zF p w) (hn:w.left<n) (h0:w.en=0) (hm:uf p w.qI b a) (hr:Room 2 w) :
  jm p 2 w (bc p R w b a).1/\ze (bc p R w b a).1.qH.length (bc p R w b a).1.qT.length (bc p R w b a).2:=by
 obtain⟨⟨h1,h2,h3⟩,_⟩:=Br (vs:=[]) hR h hn h0 hm (λv hv=>rZ) (hr.mono qA)
 have hlen:w.qI.length<(j8 p R w b a []).1.qI.length:=by
  obtain⟨g1,g2⟩:=rN (vs:=[]) h hm (λv hv=>rZ) (hr.mono qA);obtain⟨⟨_,r2,_⟩,_⟩:=hR (j2 p w b a []) w.qI.length g1 hn rV h0;have:=r2.aF
  grind[j8,aw,j2]
 unfold bc
 split
 .rename_i he;exact⟨⟨h1,h2.mono qA,h3⟩,.zero⟩
 .rename_i he;have he':(j8 p R w b a []).1.en=0:=qA;have hr1:=(jm.mk h1 h2 h3).room hr he' (k':=1) qA;have hok:=h1.O7 (c:=(j8 p R w b a []).1.vars (some w.qI.length)) (h1.Cu λi e=>qP) hr1.cls;refine⟨⟨hok,?_,λe=>h3 e⟩,?_⟩
  .refine⟨h2.qI,h2.qH,h2.cls.trans (List.prefix_append _ _),h2.out,h2.tr,h2.left,by have:=h2.ky;grind,by have:=h2.aY;grind,by have:=h2.w8;grind,by have:=h2.w9;grind,h2.wQ⟩
  .have:=hr1.cls;constructor<;>grind
theorem zt.made {p:qC} {b:Nat} {k:qX} {s:q8} (h:zt p b k s=true) (hk:s.kind=3\/s.kind=4):∃ q,p[s.a.toNat]?=some q/\q.parent=b/\0<s.a/\q.kind=s.kind - 2:=by
 have key:∀ d,bC p b s.a d=true->∃ q,p[s.a.toNat]?=some q/\q.parent=b/\0<s.a/\q.kind=d:=by
  grind[bC]
 rcases hk with e|e<;>simp_all[zt]
theorem zt.num {p:qC} {b:Nat} {k:qX} {s:q8} (h:zt p b k s=true) (hk:s.kind=0):0<=s.a/\s.a<=99:=by
 grind[zt]
theorem Bx {nf nc:Nat} {vs:List qW} (h:∀ v∈vs,ze nf nc v) (i:Nat):ze nf nc (vs.getD i (0,0)):=by
 grind[ze.zero]
theorem Gr {p:qC} {n:Nat} {R:qL->Nat->qL×qW} (hR:gR p n R) {w:qL} {a:Nat} {k:qX} {s:q8} {vs:List qW} (h:zF p w) (hn:w.left<n) (h0:w.en=0) (ha:a<w.qI.length) (hs:zt p (w.qG a) k s=true) (hv:∀ v∈vs,ze w.qH.length w.qT.length v) (hr:Room 2 w) :
  jm p 2 w (yN p R w a s vs).1/\ze (yN p R w a s vs).1.qH.length (yN p R w a s vs).1.qT.length (yN p R w a s vs).2:=by
 obtain⟨c,hc⟩:=gX ha
 have hmade:s.kind=3\/s.kind=4->uf p w.qI s.a.toNat a:=λe=>by
  obtain⟨q,h1,h2,h3,_⟩:=zt.made hs e;exact⟨c,q,hc,h1,by grind[wI],qA⟩
 unfold yN
 split
 .rename_i e;have:=zt.num hs e;exact⟨.refl h,⟨qw,qB,qB⟩⟩
 .split
  .obtain⟨h1,h2⟩:=VL h (Bx hv 0) (Bx hv 1);exact⟨h1.mono qA,h2⟩
  .split
   .rename_i e;have hl:=hr.qH;refine⟨⟨h.O9 (hmade (.inl e)) qA,?_,λ_=>rfl⟩,⟨qw,λ_=>qw,qB⟩⟩;constructor<;>grind
   .split
    .grind[Pu]
    .split
     .obtain⟨h1,h2⟩:=P2 (f:=vs.getD 0 (0,0)) (vs:=vs.tail) hR h hn h0 (λv hv'=>hv v (List.mem_of_mem_tail hv')) (hr.mono qA);exact⟨h1.mono qA,h2⟩
     .split
      .obtain⟨h1,h2⟩:=PA (v:=vs.getD 0 (0,0)) (x:=s.b) h;exact⟨h1.mono qA,h2⟩
      grind[jm.refl,Bx]
theorem Gm {p:qC} {n:Nat} {R:qL->Nat->qL×qW} (hR:gR p n R) {w:qL} {a:Nat} {k:qX} {s:q8} (h:zF p w) (hn:w.left<n) (h0:w.en=0) (ha:a<w.qI.length) (hs:zt p (w.qG a) k s=true) (hr:Room 2 w) :
  jm p 2 w (vO p R w a s).1/\ze (vO p R w a s).1.qH.length (vO p R w a s).1.qT.length (vO p R w a s).2:=by
 unfold vO;obtain⟨h1,h2,h3,_⟩:=sd (a:=a) (l:=s.reads) h
 split
 .exact⟨h1.mono qA,.zero⟩
 grind[Gr]
theorem ZK {nf nc:Nat} {v:qW} (h:ze nf nc v):-3<=Hm.shown v/\Hm.shown v<=1000:=by
 have:=h.num
 grind[shown]
theorem zF.Oa {p:qC} {w:qL} (h:zF p w) {v:Int} (hl:w.out.length+1+2 * w.left<=1000) (hv:-3<=v/\v<=1000):zF p { w with out:=w.out++[v] } :=
 ⟨h.a0,h.vars,h.wo,h.up,h.zJ,h.qH,h.cls,h.jl,h.ky,h.aY,h.w8,qP,h.wQ,h.lW,λx hx=>by
   simp only [y9,vD] at hx;rcases hx with hx|rfl
   .exact h.iF x hx
   .exact hv,h.eK⟩
theorem zt.print {p:qC} {R:qL->Nat->qL×qW} {w:qL} {a:Nat} {s:q8} (h:s.kind=7):vO p R w a s=if (zW p w a s.reads).1.en≠0 then ((zW p w a s.reads).1,(0,0)) else ((zW p w a s.reads).1,(zW p w a s.reads).2.getD 0 (0,0)):=by
 simp [vO,yN,h]
theorem Ci {p:qC} {n:Nat} {R:qL->Nat->qL×qW} (hR:gR p n R) {w:qL} {a:Nat} {k:qX} {s:q8} (h:zF p w) (hn:w.left<n) (h0:w.en=0) (ha:a<w.qI.length) (hs:zt p (w.qG a) k s=true) (hr:Room 2 w):jm p 2 w (uD p R w a s):=by
 unfold uD
 split
 .exact .refl h
 .split
  .exact (qAA h).mono qA
  .obtain⟨h1,h2⟩:=Gm hR h hn h0 ha hs hr
   split
   .exact h1
   .rename_i hne;have he:(vO p R w a s).1.en=0:=qA
    split
    .rename_i e7
     have hw:(vO p R w a s).1=w:=by
      grind[sd,zt.print]
     rw [hw];have hl:=hr.out;refine⟨h.Oa qA (ZK h2),⟨λ_ a h=>⟨a,h,rfl,rfl⟩,oV _,oV _,List.prefix_append _ _,oV _,qa _,qB,qB,qB,qw,rfl⟩,λ_=>rfl⟩
    .obtain⟨s1,s2,s3⟩:=π (a:=a) (x:=s.to) h1.ok h2;refine⟨s1,h1.grow.trans s2 qA,λe=>?_⟩;rw [s3 e];exact h1.jl he
theorem Cn {p:qC} {w:qL} {a i:Nat} (h:zF p w) (hl:w.left≠0):zF p (zV w a i)/\Room 2 (zV w a i):=by
 have h1:=h.ky;have h2:=h.aY;have h3:=h.w8;have h4:=h.w9;have h5:=h.wQ;have h6:=h.lW;refine⟨⟨h.a0,h.vars,h.wo,h.up,h.zJ,h.qH,h.cls,h.jl,?_,?_,?_,?_,?_,?_,h.iF,h.eK⟩,⟨?_,?_,?_,?_,?_⟩⟩<;>grind[zV]
theorem qA2 {w w':qL} {a i:Nat} (hl:w.left≠0) (h:Grow 2 (zV w a i) w'):Grow 0 w w':=by
 have h1:=h.ky;have h2:=h.aY;have h3:=h.w8;have h4:=h.w9;have h5:=h.wQ;have h6:=h.left;simp only [zV,ua,wm] at h1 h2 h3 h4 h5 h6;exact⟨h.qI,h.qH,h.cls,h.out,(List.prefix_append _ _).trans h.tr,qA,qA,qA,qA,qA,qA⟩
theorem jm.tick {p:qC} {w w':qL} {a i:Nat} (hl:w.left≠0) (h:jm p 2 (zV w a i) w'):jm p 0 w w':=⟨h.ok,qA2 hl h.grow,h.jl⟩
theorem Ht {p:qC} {n:Nat} {R:qL->Nat->qL×qW} (hR:gR p n R) {a:Nat} {k:qX}:∀ {l:List q8} {w:qL} {i:Nat},zF p w->w.left<n+1->w.en=0->a<w.qI.length->(∀ s∈l,zt p (w.qG a) k s=true) ->
  jm p 0 w (vM p R a w i l).1/\ze (vM p R a w i l).1.qH.length (vM p R a w i l).1.qT.length (vM p R a w i l).2
 | [],w,i,h,_,_,_,_=>⟨.refl h,.zero⟩
 | s::l,w,i,h,hn,h0,ha,hs=>by
  simp only [vM]
  split
  .exact⟨(jm.refl h).en qe,.zero⟩
  .rename_i hl;obtain⟨t1,t2⟩:=Cn (a:=a) (i:=i) h hl;have tn:(zV w a i).left<n:=by grind[zV]
   split
   .obtain⟨x1,x2,x3⟩:=CN (a:=a) (x:=s.a) t1;refine⟨(x1.mono qA).tick hl,?_⟩
    grind
   .have hst:=Ci hR t1 tn h0 ha (hs s qB) t2
    split
    .exact⟨hst.tick hl,.zero⟩
    .rename_i he;have he':(uD p R (zV w a i) a s).en=0:=qA;have hA:=hst.tick hl;obtain⟨c,hc⟩:=gX ha;have hb:=hA.grow.qG hc;obtain⟨r1,r2⟩:=Ht hR (l:=l) (i:=i+1) hA.ok (by have:=hA.grow.left;omega) he' (uQ ha hA.grow.aF) (λs' hs'=>by rw [hb];exact hs s' (by simp [hs']));exact⟨hA.trans r1 (λ_=>he') qA,r2⟩
theorem eZ {p:qC} (hp:zr p):∀ n,gR p n (qi p n)
 | 0=>λw a _ h=>absurd h qA
 | n+1=>by
  intro w a h hn ha h0;simp only [qi];obtain⟨c,hc⟩:=gX ha;have hb:=h.wo a c hc;obtain⟨k,hk⟩:=gX hb;rw [wI hc,hk];exact Ht (eZ hp n) (k:=k) h hn h0 ha (λs hs=>by rw [wI hc];exact hp.ed _ k hk s hs)
theorem Ch {p:qC} (hp:zr p) {fuel:Nat} (hf:fuel<=150):zF p (j4 fuel):=by
 have hl:=hp.len;refine⟨⟨_,rfl,rfl⟩,λi a ha=>?_,λi a ha=>?_,λi a ha hi=>?_,.none,λi g hg=>?_,λc hc=>?_,λi hi=>?_,?_,?_,?_,?_,?_,?_,gk,gk⟩
 .grind[j4,vL.none]
 .grind[j4]
 .grind[j4]
 .grind[j4]
 .grind[j4]
 .grind[j4]
 all_goals simp [j4]
 all_goals omega
theorem Kh {p:qC} (hp:zr p) {fuel:Nat} (hf:fuel<=150):jm p 0 (j4 fuel) (uB p fuel) :=
 (eZ hp 151 (j4 fuel) 0 (Ch hp hf) (by grind[j4]) gk rfl).1
def jk (s:qr):List AV:=match s with|some v=>[bv true,iv v.1,iv v.2]|none=>[bv false,iv 0,iv 0]
@[simp] theorem Ab {s:qr}:(jk s).length=3:=by cases s <;> rfl
@[simp] theorem ZP {s:qr} {f:Nm->Option Nm}:(jk s).map (AV.tr f)=jk s:=by cases s <;> rfl
@[simp] theorem Ac:jk none=[bv false,iv 0,iv 0]:=rfl
@[simp] theorem Ad {v:qW}:jk (some v)=[bv true,iv v.1,iv v.2]:=rfl
def zA (l:List qr):List (List AV):=l.map jk
section
variable {l:List qr} {i:Nat} {f:Nm->Option Nm} {s:qr}
@[simp] theorem slrows_len:(zA l).length=l.length:=mi
@[simp] theorem ZR:(zA l)[i]?=(l[i]?).map jk:=mi
@[simp] theorem slrows_getE {h:i<(zA l).length}:(zA l)[i]=jk (l[i]' qP):=mi
@[simp] theorem slrows_tr:(zA l).map (λr=>r.map (AV.tr f))=zA l:=mi
@[simp] theorem slrows_take {n:Nat}:(zA l).take n=zA (l.take n):=mi
@[simp] theorem slrows_nil:zA []=[]:=rfl
theorem ZS:∀ r∈zA l,r.length=3:=by
 simp_all[zA]
@[simp] theorem slrows_cln:(zA l).all (λr=>r.all AV.jU)=true:=by
 rw [y5];intro r hr;simp only [zA,bV] at hr;obtain⟨s,_,rfl⟩:=hr
 cases s <;> rfl
theorem Mj:j3 (zA l) i 0 (jk s)=zA (l.set i s):=by
 apply y6;intro j;simp only [j3,fE,ZR,dt];by_cases e:i=j
 .subst e
  cases h:l[i]? with
  | none =>
   simp_all
  | some y =>
   simp_all<;>grind
 .simp [e]
end
@[simp] theorem slrows_setS {l:List qr} {i:Nat} {a b:Int}:j3 (zA l) i 0 [bv true,iv a,iv b]=zA (l.set i (some (a,b))):=Mj (s:=some (a,b))
@[simp] theorem slrows_setN {l:List qr} {i:Nat}:j3 (zA l) i 0 [bv false,iv 0,iv 0]=zA (l.set i none):=Mj (s:=none)
def zh (l:List qW):List (List AV):=l.map λv=>[iv v.1,iv v.2]
section
variable {l m:List qW} {i:Nat} {f:Nm->Option Nm} {v:qW}
@[simp] theorem vrows_len:(zh l).length=l.length:=mT
@[simp] theorem vrows_getE {h:i<(zh l).length}:(zh l)[i]=[iv (l[i]' qP).1,iv (l[i]' qP).2]:=mT
@[simp] theorem vrows_tr:(zh l).map (λr=>r.map (AV.tr f))=zh l:=mT
@[simp] theorem vrows_take {n:Nat}:(zh l).take n=zh (l.take n):=mT
@[simp] theorem vrows_nil:zh []=[]:=rfl
end
def yy (l:List (Nat×Nat)):List (List AV):=l.map λv=>[iv v.1,iv v.2]
section
variable {l m:List (Nat×Nat)} {i:Nat} {f:Nm->Option Nm}
@[simp] theorem nrows_len:(yy l).length=l.length:=by simp [yy]
@[simp] theorem nrows_tr:(yy l).map (λr=>r.map (AV.tr f))=yy l:=by simp [yy]
@[simp] theorem nrows_take {n:Nat}:(yy l).take n=yy (l.take n):=by simp [yy]
@[simp] theorem nrows_nil:yy []=[]:=rfl
theorem CQ {a b:Nat}:yy l++[[iv a,iv b]]=yy (l++[(a,b)]):=by simp [yy]
end
def dY (i:Nat) (a:Act):Int:=if i=0 then -1 else a.up
def kB (n:Nm) (az:List Act):List (List AV):=az.mapIdx λi a=>[iv a.qG,iv (dY i a),.hs (.c n i 2) 3 0 8]
def kT (n:Nm) (cs:List (List qr)):List (List AV):=cs.mapIdx λi _=>[.hs (.c n i 0) 3 0 8]
def kx (n:Nm) (fs:List (Nat×Nat)):List (List AV):=fs.mapIdx λi g=>[iv g.1,iv g.2,.hs (.c n i 2) 3 0 0]
section
variable {az:List Act} {cs:List (List qr)} {fs:List (Nat×Nat)} {n m:Nm} {i:Nat} {f:Nm->Option Nm}
@[simp] theorem actRows_len:(kB n az).length=az.length:=by simp [kB]
@[simp] theorem Au:(kB n az)[i]?=(az[i]?).map λa=>[iv a.qG,iv (dY i a),.hs (.c n i 2) 3 0 8]:=by simp [kB]
@[simp] theorem clsRows_len:(kT n cs).length=cs.length:=by simp [kT]
@[simp] theorem Ii:(kT n cs)[i]?=(cs[i]?).map λ_=>[AV.hs (.c n i 0) 3 0 8]:=by simp [kT]
@[simp] theorem funRows_len:(kx n fs).length=fs.length:=by simp [kx]
@[simp] theorem El:(kx n fs)[i]?=(fs[i]?).map λg=>[iv g.1,iv g.2,AV.hs (.c n i 2) 3 0 0]:=by simp [kx]
@[simp] theorem actRows_getE {h:i<(kB n az).length}:(kB n az)[i]=[iv (az[i]' qP).qG,iv (dY i (az[i]' qP)),.hs (.c n i 2) 3 0 8]:=by simp [kB]
@[simp] theorem clsRows_getE {h:i<(kT n cs).length}:(kT n cs)[i]=[AV.hs (.c n i 0) 3 0 8]:=by simp [kT]
@[simp] theorem funRows_getE {h:i<(kx n fs).length}:(kx n fs)[i]=[iv (fs[i]' qP).1,iv (fs[i]' qP).2,AV.hs (.c n i 2) 3 0 0]:=by simp [kx]
theorem Ha (h:∀ i,i<az.length->f (.c n i 2)=some (.c m i 2)):(kB n az).map (λr=>r.map (AV.tr f))=kB m az:=by
 apply y6
 grind[Au,AV.tr]
theorem Ij (h:∀ i,i<cs.length->f (.c n i 0)=some (.c m i 0)):(kT n cs).map (λr=>r.map (AV.tr f))=kT m cs:=by
 apply y6
 grind[kT,AV.tr]
theorem J9 (h:∀ i,i<fs.length->f (.c n i 2)=some (.c m i 2)):(kx n fs).map (λr=>r.map (AV.tr f))=kx m fs:=by
 apply y6
 grind[El,AV.tr]
@[simp] theorem actRows_fix (h:∀ i,f (.c n i 2)=some (.c n i 2)):(kB n az).map (λr=>r.map (AV.tr f))=kB n az:=Ha λi _=>h i
@[simp] theorem clsRows_fix (h:∀ i,f (.c n i 0)=some (.c n i 0)):(kT n cs).map (λr=>r.map (AV.tr f))=kT n cs:=Ij λi _=>h i
@[simp] theorem funRows_fix (h:∀ i,f (.c n i 2)=some (.c n i 2)):(kx n fs).map (λr=>r.map (AV.tr f))=kx n fs:=J9 λi _=>h i
theorem O3 {a:Act}:kB n az++[[iv a.qG,iv (dY az.length a),.hs (.c n az.length 2) 3 0 8]]=kB n (az++[a]):=by simp [kB]
theorem QA {c:List qr}:kT n cs++[[.hs (.c n cs.length 0) 3 0 8]]=kT n (cs++[c]):=by simp [kT]
theorem RZ {a b:Nat}:kx n fs++[[iv a,iv b,.hs (.c n fs.length 2) 3 0 0]]=kx n (fs++[(a,b)]):=by simp [kx]
end
abbrev Wn:Nm:=.u 1 0 0
def jP (p:qC) (w:qL):List AV:=[jc p,.hs (.c Wn 0 1) 3 0 w.qI.length,.hs (.c Wn 0 2) 1 0 w.stack.length,.hs (.c Wn 0 3) 3 0 8,.hs (.c Wn 0 4) 3 0 w.qH.length,.hs (.c Wn 0 5) 1 0 w.qT.length,.hs (.c Wn 0 6) 1 0 w.out.length,.hs (.c Wn 0 7) 2 0 w.trace.length,iv w.en,iv w.left]
def jK (l:List Nat):List Int:=l.map λ(n:Nat)=>(n:Int)
@[simp] theorem nints_len {l:List Nat}:(jK l).length=l.length:=by simp [jK]
structure qt (hp:Nm->Option AO) (p:qC) (w:qL):Prop where
 top:hp Wn=some (.row 10 [jP p w])
 qI:hp (.c Wn 0 1)=some (.row 3 (kB (.c Wn 0 1) w.qI))
 act:∀ (i:Nat) a,w.qI[i]?=some a->hp (.c (.c Wn 0 1) i 2)=some (.row 3 (zA a.vars))
 jl:∃ l,hp (.c Wn 0 2)=some (.row 1 (qj (jK w.stack++l)))
 zJ:hp (.c Wn 0 3)=some (.row 3 (zA w.globals))
 qH:hp (.c Wn 0 4)=some (.row 3 (kx (.c Wn 0 4) w.qH))
 jA:hp (.c Wn 0 5)=some (.row 1 (kT (.c Wn 0 5) w.qT))
 cls:∀ (i:Nat) c,w.qT[i]?=some c->hp (.c (.c Wn 0 5) i 0)=some (.row 3 (zA c))
 out:hp (.c Wn 0 6)=some (.row 1 (qj w.out))
 zo:hp (.c Wn 0 7)=some (.row 2 (yy w.trace))
theorem qt.re {hp hp':Nm->Option AO} {p:qC} {w:qL} (ow:qt hp p w)
  (h0:hp' Wn=some (.row 10 [jP p w]):=by simp [ow.top,jP])
  (h1:hp' (.c Wn 0 1)=some (.row 3 (kB (.c Wn 0 1) w.qI)):=by simp [ow.qI])
  (h2:∀ (i:Nat) a,w.qI[i]?=some a->hp' (.c (.c Wn 0 1) i 2)=some (.row 3 (zA a.vars)):=by intro i a ha;simp [ow.act i a ha])
  (h3:∀ l,hp (.c Wn 0 2)=some (.row 1 (qj (jK w.stack++l)))->hp' (.c Wn 0 2)=some (.row 1 (qj (jK w.stack++l))):=by intro l hl;simp [hl])
  (h4:hp' (.c Wn 0 3)=some (.row 3 (zA w.globals)):=by simp [ow.zJ])
  (h5:hp' (.c Wn 0 4)=some (.row 3 (kx (.c Wn 0 4) w.qH)):=by simp [ow.qH])
  (h6:hp' (.c Wn 0 5)=some (.row 1 (kT (.c Wn 0 5) w.qT)):=by simp [ow.jA])
  (h7:∀ (i:Nat) c,w.qT[i]?=some c->hp' (.c (.c Wn 0 5) i 0)=some (.row 3 (zA c)):=by intro i c hc;simp [ow.cls i c hc])
  (h8:hp' (.c Wn 0 6)=some (.row 1 (qj w.out)):=by simp [ow.out])
  (h9:hp' (.c Wn 0 7)=some (.row 2 (yy w.trace)):=by simp [ow.zo]):qt hp' p w :=
 ⟨h0,h1,h2,ow.jl.imp λl hl=>h3 l hl,h4,h5,h6,h7,h8,h9⟩
def v8:Option Nat->Nm
 | none=>.c Wn 0 3
 | some i=>.c (.c Wn 0 1) i 2
theorem qt.hp' {hp hp':Nm->Option AO} {p:qC} {w:qL} (h:qt hp p w) {f:Nm->Option Nm} (hf:∀ m,Nm.under Wn m=true->f m=some m) (hh:∀ m,Nm.under Wn m=true->hp' m=(hp m).map (AO.tr f)):qt hp' p w:=by
 have hu:∀ j,Nm.under Wn (.c Wn 0 j)=true:=λj=>qB;have hu2:∀ j i k,Nm.under Wn (.c (.c Wn 0 j) i k)=true:=λj i k=>qB;refine⟨?_,?_,λi a ha=>?_,?_,?_,?_,?_,λi c hc=>?_,?_,?_⟩
 .rw [hh _ qB,h.top]
  simp_all[jP]
 .grind[qI,AO.tr,Ha]
 .rw [hh _ (hu2 1 i 2),h.act i a ha];simp
 .obtain⟨l,hl⟩:=h.jl
  simp_all<;>grind
 .rw [hh _ (hu 3),h.zJ];simp
 .grind[qH,AO.tr,J9]
 .grind[jA,AO.tr,Ij]
 .rw [hh _ (hu2 5 i 0),h.cls i c hc];simp
 .rw [hh _ (hu 6),h.out];simp
 .rw [hh _ (hu 7),h.zo];simp
section
variable {l:Option Nat} {d:Nat}
@[simp] theorem locN_under:Nm.under Wn (v8 l)=true:=by cases l <;> simp [v8,Nm.under]
@[simp] theorem locN_under_s:Nm.under (.s d) (v8 l)=false:=by cases l <;> simp [v8,Nm.under]
end
theorem qt.loc {hp:Nm->Option AO} {p:qC} {w:qL} (h:qt hp p w) {l:Option Nat} (hl:∀ i,l=some i->i<w.qI.length):hp (v8 l)=some (.row 3 (zA (w.vars l))):=by
 cases l with
 | none=>exact h.zJ
 | some i =>
  obtain⟨a,ha⟩:∃ a,w.qI[i]?=some a:=⟨_,gE (hl i rfl)⟩;simp only [v8,qL.vars,ha];exact h.act i a ha
theorem qt.fin {hp:Nm->Option AO} {p:qC} {w:qL} (h:qt hp p w):qt (vF (Nm.under Wn) [] hp) p w :=
 h.hp' (f:=zL (Nm.under Wn) []) (λm hm=>qP) (λm hm=>qP)
theorem qt.pF {hp:Nm->Option AO} {p:qC} {w:qL} {D:Nm->Bool} {sbs:List (Nm×Nm)} (h:qt hp p w) (hD:∀ m,D m=true->m.zg=false) (hW:∀ m,Nm.under Wn m=true->D m=true) (hs:∀ q∈sbs,q.1.zg=true):qt (vF D sbs hp) p w :=
 h.hp' (f:=zL D sbs) (λm hm=>lK hD (hW m hm) hs) (λm hm=>qP)
abbrev cD:=List (Int×qW)
def lk (n:Int):cD->qr
 | []=>none
 | q::l=>if q.1=n then some q.2 else lk n l
def lU (n:Int) (v:qW):cD->cD
 | []=>[(n,v)]
 | q::l=>if q.1=n then (n,v)::l else q::lU n v l
def iD (n:Int):cD->cD
 | []=>[]
 | q::l=>if q.1=n then l else q::iD n l
abbrev qW.av (v:qW):AV:=.agg [iv v.1,iv v.2]
def uJ (ms:cD):List (AV×AV):=ms.map λq=>(iv q.1,qW.av q.2)
section
variable {ms:cD} {n m:Int} {v:qW} {f:Nm->Option Nm}
@[simp] theorem mrows_nil:uJ []=[]:=rfl
@[simp] theorem mrows_keys:w7 .i64 (uJ ms)=true:=by
 induction ms with
 | nil=>rfl
 | cons q l ih=>simp only [uJ,al,w7] at ih ⊢;simpa using ih
@[simp] theorem mrows_get:cg .i64 n (uJ ms)=(lk n ms).map qW.av:=by
 induction ms with
 | nil=>rfl
 | cons q l ih =>
  simp only [uJ,al,cg,lk,if_true] at ih ⊢
  split
  .rfl
  .exact ih
@[simp] theorem mrows_set {a b:Int}:eT .i64 n (.agg [iv a,iv b]) (uJ ms)=uJ (lU n (a,b) ms):=by
 induction ms with
 | nil=>rfl
 | cons q l ih =>
  simp only [uJ,al,eT,lU,true_and] at ih ⊢
  split
  .rfl
  .rw [ih];rfl
@[simp] theorem mrows_del:ce .i64 n (uJ ms)=uJ (iD n ms):=by
 induction ms with
 | nil=>rfl
 | cons q l ih =>
  simp only [uJ,al,ce,iD,true_and] at ih ⊢
  split
  .rfl
  .rw [ih];rfl
@[simp] theorem mrows_tr:(uJ ms).map (λe=>(e.1.tr f,e.2.tr f))=uJ ms:=by simp [uJ]
theorem K5:lk m (lU n v ms)=if m=n then some v else lk m ms:=by
 induction ms<;>grind[lU,lk]
theorem FH:(lk m ms).isSome=true↔m∈ms.map (·.1):=by
 induction ms<;>grind[lk]
theorem T3 (h:m∉ms.map (·.1)):lk m ms=none:=by
 cases e:lk m ms<;>grind[FH]
theorem T0 (h:(ms.map (·.1)).Nodup):lk m (iD n ms)=if m=n then none else lk m ms:=by
 induction ms<;>grind[iD,lk,T3]
theorem TY:∀ x,x∈(lU n v ms).map (·.1)↔x=n\/x∈ms.map (·.1):=by
 intro x;rw [<- FH,K5,<- FH]
 grind
theorem TZ (h:(ms.map (·.1)).Nodup):((lU n v ms).map (·.1)).Nodup:=by
 induction ms<;>grind[lU,TY]
theorem TW:∀ x,x∈(iD n ms).map (·.1)->x∈ms.map (·.1):=by
 induction ms<;>grind[iD]
theorem TV (h:(ms.map (·.1)).Nodup):((iD n ms).map (·.1)).Nodup:=by
 induction ms<;>grind[iD,TW]
end
structure kn (ms:cD) (l:List qr):Prop where
 nd:(ms.map (·.1)).Nodup
 get:∀ x:Nat,x<8->lk x ms=(match l[x]? with|some s=>s|none=>none)
 len:l.length=8
theorem kn.nil:kn [] jR:=⟨qB,λx hx=>by simp [lk,hx],qB⟩
theorem kn.set {ms:cD} {l:List qr} (h:kn ms l) {x:Int} {v:qW} (hx:0<=x/\x<=7):kn (lU x v ms) (l.set x.toNat (some v)):=by
 refine⟨TZ h.nd,λy hy=>?_,by simp [h.len]⟩;rw [K5,dt];have hl:=h.len;by_cases e:(y:Int)=x
 .grind
 .have e':¬ x.toNat=y:=qA;rw [if_neg e,if_neg e'];exact h.get y hy
theorem kn.del {ms:cD} {l:List qr} (h:kn ms l) {x:Int} (hx:0<=x/\x<=7):kn (iD x ms) (l.set x.toNat none):=by
 refine⟨TV h.nd,λy hy=>?_,by simp [h.len]⟩;rw [T0 h.nd,dt];have hl:=h.len;by_cases e:(y:Int)=x
 .grind
 .have e':¬ x.toNat=y:=qA;rw [if_neg e,if_neg e'];exact h.get y hy
theorem kn.at {ms:cD} {l:List qr} (h:kn ms l) {x:Int} (hx:0<=x/\x<=7):lk x ms=(match l[x.toNat]? with|some s=>s|none=>none):=by
 have:=h.get x.toNat qA
 grind
section
variable {X:Ctx} {st:St} {K:St->Prop} {E:AV->St->Prop} {d:Nat} {ty:TypeId} {pos:String} {aft:Array Edge} {g:Option (Nat×Bool)}
theorem Gv {T:TypeId} {st':St} (hd:d<X.n:=by first|(simp;done)|fail) (hs:AG d st=st':=by simp [fx,AG];first|done|rfl) (h:K st'):qn X ⟨some d,.makeMap T none,ty,pos,aft,g⟩ K E st:=by
 grind[ZB]
theorem Nh {T e:TypeId} {m key x:Operand} {k:IntKind} {i:Int} {n:Nm} {es:List (AV×AV)} {st':St} (ht:eg X.P T=some (k,e):=by simp [fx];first|done|rfl|exact⟨rfl,rfl⟩)
  (hm:ev st m=.mp n:=by simp [fx];first|done|rfl) (hk:ev st key=.sc (.int k i):=by simp [fx];first|done|rfl) (hn:st.hp n=some (.map es):=by simp [fx];first|done|rfl) (hks:w7 k es=true:=by simp [fx];first|done|rfl)
  (hs:st.zT n (.map (eT k i (ev st x) es))=st':=by simp [fx];first|done|rfl) (h:K st'):qn X ⟨none,.mapUpdate T m key x,ty,pos,aft,g⟩ K E st:=by
 grind[ZC]
end
abbrev Mn:Nm:=.u 1 0 0
abbrev En (i:Nat):Nm:=.u 7 i 0
abbrev vo (i:Nat):AV:=.pt (En i) 0
def za (l:List Nat):List (List AV):=l.map λi=>[vo i]
def Du (f:Nat->Bool):Nm->Bool
 | .s _=>false
 | .u k _ _=>f k
 | .c n _ _=>Du f n
section
variable {f:Nat->Bool} {n:Nm} {k i j d:Nat}
@[simp] theorem Du_s:Du f (.s d)=false:=rfl
@[simp] theorem Du_u:Du f (.u k i j)=f k:=rfl
@[simp] theorem Du_c:Du f (.c n i j)=Du f n:=rfl
theorem OK:∀ {n:Nm},Du f n=true->n.zg=false:=by
 intro n
 induction n with
 | s d=>simp
 | u a b c=>intro _;rfl
 | c q i j ih=>intro h;exact ih h
end
section
variable {X:Ctx} {st:St} {K:St->Prop} {E:AV->St->Prop} {d f:Nat} {ty:TypeId} {pos:String} {aft:Array Edge} {g:Option (Nat×Bool)} {c:Operand} {args:Array Operand} {Ts:Array TypeId} {xs ys az:List AV} {R:Nm->AV->(Nm->Option AO)->Prop}
theorem qB9 (D:Nm->Bool) (hD:∀ n,D n=true->n.zg=false) (hext:∀ k i j,X.ext (.u k i j)=true->D (.u k i j)=false\/(z6 D st.hp) (.u k i j)≠none) (hd:d<X.n:=by first|(simp;done)|fail)
  (hv:ev st c=.fn (.func f) xs ys) (ha:xs++args.toList.map (ev st)++ys=az)
  (hF:qZ X.P X.gl f D az (z6 D st.hp) R zG) (h:∀ y H',R (.s d) y H'->K ((st.call d D (z6 D st.hp) H').put (some d) y)) :
  qn X ⟨some d,.call ⟨.value c,args,Ts⟩,ty,pos,aft,g⟩ K E st:=by
 subst ha;refine lH (D:=D) (H:=z6 D st.hp) (R:=R) (E0:=zG) hF (Q7 hF.1 rfl hv) false ⟨rfl,λj a a' h h'=>?_⟩ (λn hn=>?_) (λn hn=>?_) (λn hn=>?_) hext (λe he=>qP) (λx H' hR=>?_) (λ_ _ h=>h.elim)
 .rw [h] at h';obtain rfl:=sI h';exact .refl _
 .cases hx:D n with
  | false=>rfl
  | true =>
   have h1:=hD n hx;have h2:=Nm.lj (a:=.s d) rfl hn
   simp_all
 .simp [hn]
 .simp_all
 simp_all
end
end Go.Hm
end
section
set_option linter.unusedSectionVars false
namespace Go.Hm
open Go Go.RowKit
structure DK (q:Bool) (w w':qL):Prop where
 qH:w.qH <+: w'.qH
 cls:w.qT <+: w'.qT
 out:w.out <+: w'.out
 tr:w.trace <+: w'.trace
 left:q=true->w'.left<=w.left
section
variable {p:qC} {R:qL->Nat->qL×qW} {w:qL} {a b i:Nat} {x:Int} {vs:List qW} {s:q8} {v:qW} {q:Bool}
variable (hR:∀ w a,DK q w (R w a).1)
include hR
end
def DQ (k:Nat) (w:qL):qL:={ w with left:=w.left+k }
structure OP (k:Nat) (w w':qL):Prop where
 en:w.en=1
 left:w.left=0
 pre:DK false w w'
 more:0<k->w.trace.length<w'.trace.length
def OO (k:Nat) (r r':qL×qW):Prop:=(r.1.en≠1/\r'=(DQ k r.1,r.2))\/OP k r.1 r'.1
section
variable {p:qC} {R:qL->Nat->qL×qW} {k n:Nat} {w:qL} {a b i:Nat} {x:Int} {l:Option Nat} {vs:List qW} {s:q8} {v:qW}
variable (hP:∀ w a,DK true w (R w a).1) (hR:∀ w a,w.left+k<n->w.en=0->OO k (R w a) (R (DQ k w) a))
include hP hR
end
end Go.Hm
end
