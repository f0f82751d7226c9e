import Derived.Test.YtdnebaieamppbaaGreatDoorE11
set_option linter.unusedSimpArgs false
set_option linter.unusedVariables false
set_option maxRecDepth 100000
set_option maxHeartbeats 4000000

section
namespace Go.Hm
open Go Go.RowKit
structure VOk (nf nc:Nat) (v:Zd):Prop where
 num:0<=v.2/\v.2<=1000
 fn:v.1=2->v.2<nf
 cls:v.1=3->v.2<nc
theorem VOk.zero {nf nc:Nat}:VOk nf nc (0,0):=⟨qB,qB,qB⟩
theorem VOk.mono {nf nc nf' nc':Nat} {v:Zd} (h:VOk nf nc v) (h1:nf<=nf') (h2:nc<=nc'):VOk nf' nc' v :=
 ⟨h.num,λe=>by have:=h.fn e;omega,λe=>by have:=h.cls e;omega⟩
def SOk (nf nc:Nat) (l:List Zt):Prop:=l.length=8/\∀ v,some v∈l->VOk nf nc v
theorem SOk.mono {nf nc nf' nc':Nat} {l:List Zt} (h:SOk nf nc l) (h1:nf<=nf') (h2:nc<=nc'):SOk nf' nc' l:=⟨h.1,λv hv=>(h.2 v hv).mono h1 h2⟩
theorem SOk.none {nf nc:Nat}:SOk nf nc q9:=⟨qB,λv hv=>eJ⟩
theorem SOk.set {nf nc:Nat} {l:List Zt} (h:SOk nf nc l) {i:Nat} {s:Zt} (hs:∀ v,s=some v->VOk nf nc v):SOk nf nc (l.set i s):=by
 grind[SOk]
theorem SOk.get {nf nc:Nat} {l:List Zt} (h:SOk nf nc l) {i:Nat} {v:Zd} (hv:l[i]?=some (some v)):VOk nf nc v:=h.2 v (gM hv)
def jZ (p:Z0) (ZX:List Act) (b i:Nat):Prop:=∃ c k,ZX[i]?=some c/\p[b]?=some k/\k.parent=c.Z1/\0<b
structure Zy (p:Z0) (w:Z5):Prop where
 a0:∃ a,w.ZX[0]?=some a/\a.Z1=0
 vars:∀ (i:Nat) a,w.ZX[i]?=some a->SOk w.ZZ.length w.ZV.length a.vars
 qBC:∀ (i:Nat) a,w.ZX[i]?=some a->a.Z1<p.length
 up:∀ (i:Nat) a,w.ZX[i]?=some a->0<i->a.up<i/\jZ p w.ZX a.Z1 a.up
 Zg:SOk w.ZZ.length w.ZV.length w.globals
 ZZ:∀ (i:Nat) g,w.ZZ[i]?=some g->jZ p w.ZX g.1 g.2
 cls:∀ c∈w.ZV,SOk w.ZZ.length w.ZV.length c
 stk:∀ i∈w.stack,i<w.ZX.length
 qAe:w.ZX.length+2 * w.left<=1000
 qAu:w.ZZ.length+2 * w.left<=1000
 qBU:w.ZV.length+2 * w.left<=1000
 qBQ:w.out.length+2 * w.left<=1000
 ntr:w.trace.length+w.left<=1000
 qCJ:w.stack.length+2 * w.left<=1000
 qCS:∀ v∈w.out,-3<=v/\v<=1000
 enr:0<=w.en/\w.en<=7
theorem Zy.en {p:Z0} {w:Z5} (h:Zy p w) {e:Int} (he:0<=e/\e<=7):Zy p { w with en:=e }:=⟨h.a0,h.vars,h.qBC,h.up,h.Zg,h.ZZ,h.cls,h.stk,h.qAe,h.qAu,h.qBU,h.qBQ,h.ntr,h.qCJ,h.qCS,he⟩
structure Grow (s:Nat) (w w':Z5):Prop where
 ZX:∀ (i:Nat) a,w.ZX[i]?=some a->∃ b,w'.ZX[i]?=some b/\b.Z1=a.Z1/\b.up=a.up
 ZZ:w.ZZ <+: w'.ZZ
 cls:w.ZV <+: w'.ZV
 out:w.out <+: w'.out
 tr:w.trace <+: w'.trace
 left:w'.left<=w.left
 qAe:w'.ZX.length+2 * w'.left<=w.ZX.length+2 * w.left+s
 qAu:w'.ZZ.length+2 * w'.left<=w.ZZ.length+2 * w.left+s
 qBU:w'.ZV.length+2 * w'.left<=w.ZV.length+2 * w.left+s
 qBQ:w'.out.length+2 * w'.left<=w.out.length+2 * w.left+s
 ntr:w'.trace.length+w'.left=w.trace.length+w.left
theorem Grow.refl (s:Nat) (w:Z5):Grow s w w:=⟨λ_ a h=>⟨a,h,rfl,rfl⟩,aG _,aG _,aG _,aG _,qf _,qA,qA,qA,qA,rfl⟩
theorem Grow.trans {s t u:Nat} {w w' w'':Z5} (h:Grow s w w') (h':Grow t w' w'') (hu:s+t<=u):Grow u w w'':=by
 refine⟨λi a e=>?_,h.ZZ.trans h'.ZZ,h.cls.trans h'.cls,h.out.trans h'.out,h.tr.trans h'.tr,vk h'.left h.left,?_,?_,?_,?_,h'.ntr.trans h.ntr⟩
 .obtain⟨b,e1,e2,e3⟩:=h.ZX i a e;obtain⟨c,f1,f2,f3⟩:=h'.ZX i b e1
  simp_all
 .have:=h.qAe;have:=h'.qAe;omega
 .have:=h.qAu;have:=h'.qAu;omega
 .have:=h.qBU;have:=h'.qBU;omega
 .have:=h.qBQ;have:=h'.qBQ;omega
theorem Grow.mono {s t:Nat} {w w':Z5} (h:Grow s w w') (ht:s<=t):Grow t w w':=h.trans (Grow.refl 0 w') qA
theorem Grow.qAk {s:Nat} {w w':Z5} (h:Grow s w w'):w.ZX.length<=w'.ZX.length:=by
 cases hn:w.ZX.length with
 | zero=>omega
 | succ n =>
  obtain⟨a,ha⟩:∃ a,w.ZX[n]?=some a:=⟨_,gE qA⟩;obtain⟨b,hb,_⟩:=h.ZX n a ha
  grind
theorem Grow.qCy {s:Nat} {w w':Z5} (h:Grow s w w'):w.ZZ.length<=w'.ZZ.length:=h.ZZ.length_le
theorem Grow.en {s:Nat} {w w':Z5} (h:Grow s w w') {e:Int}:Grow s w { w' with en:=e }:=⟨h.ZX,h.ZZ,h.cls,h.out,h.tr,h.left,h.qAe,h.qAu,h.qBU,h.qBQ,h.ntr⟩
theorem Grow.Z1 {s:Nat} {w w':Z5} (h:Grow s w w') {i:Nat} {a:Act} (hi:w.ZX[i]?=some a):w'.Z1 i=w.Z1 i:=by
 obtain⟨b,hb,e,_⟩:=h.ZX i a hi
 grind[Z5.Z1]
theorem jZ.grow {p:Z0} {s b i:Nat} {w w':Z5} (h:jZ p w.ZX b i) (hg:Grow s w w'):jZ p w'.ZX b i:=by
 obtain⟨c,k,h1,h2,h3,h4⟩:=h;obtain⟨d,e1,e2,_⟩:=hg.ZX i c h1
 grind[jZ]
theorem jq {w:Z5} {i:Nat} {a:Act} (h:w.ZX[i]?=some a):w.Z1 i=a.Z1:=by grind[Z5.Z1]
theorem ui {p:Z0} {w:Z5} {o a:Nat} {c:Act} (hh:zS p) (h:Zy p w) (hc:w.ZX[a]?=some c) (hne:c.Z1≠o) (ho:0<o) (hi:qi p (w.Z1 a) o=true):0<a/\c.up<a/\qi p (w.Z1 c.up) o=true:=by
 rw [jq hc] at hi
 have h0:0<a:=by
  grind[Zy.a0,zf]
 obtain⟨hu,q,k,e1,e2,e3,e4⟩:=h.up _ c hc h0
 grind[zf,jq,zr]
theorem AQ {p:Z0} {w:Z5} {o:Nat} (hh:zS p) (h:Zy p w) (ho:0<o):∀ (n m a:Nat),a<=n->a<=m->a<w.ZX.length->qi p (w.Z1 a) o=true->uV w.ZX o n a=uV w.ZX o m a
 | 0,0,_,_,_,_,_=>rfl
 | 0,m+1,a,h1,_,hl,hi=>by
  obtain rfl:a=0:=qA;obtain⟨c,hc⟩:=gX hl;by_cases e:c.Z1=o
  .grind[uV]
  .have:=(ui hh h hc e ho hi).1;omega
 | n+1,0,a,_,h2,hl,hi=>by
  obtain rfl:a=0:=qA;obtain⟨c,hc⟩:=gX hl;by_cases e:c.Z1=o
  .grind[uV]
  .have:=(ui hh h hc e ho hi).1;omega
 | n+1,m+1,a,h1,h2,hl,hi=>by
  obtain⟨c,hc⟩:=gX hl;by_cases e:c.Z1=o
  .grind[uV]
  .obtain⟨e1,e2,e3⟩:=ui hh h hc e ho hi;simp only [uV,hc,e,if_false];exact AQ hh h ho n m c.up qA qA qA e3
theorem yD {ZX:List Act} {o a:Nat} {c:Act} (hc:ZX[a]?=some c) (e:c.Z1=o):∀ n,uV ZX o n a=a
 | 0=>rfl
 | n+1=>by grind[uV]
theorem eD {p:Z0} {w:Z5} {o a:Nat} {c:Act} (hh:zS p) (h:Zy p w) (ho:0<o) (hc:w.ZX[a]?=some c) (hne:c.Z1≠o) (hi:qi p (w.Z1 a) o=true):uV w.ZX o a a=uV w.ZX o c.up c.up:=by
 obtain⟨e1,e2,e3⟩:=ui hh h hc hne ho hi;have hl:=(gS hc).1;obtain⟨b,rfl⟩:∃ b,a=b+1:=⟨a - 1,qA⟩
 grind[uV,AQ]
theorem pb {p:Z0} {w:Z5} {o:Nat} (hh:zS p) (h:Zy p w) (ho:0<o):∀ (n a:Nat),a<=n->a<w.ZX.length->qi p (w.Z1 a) o=true->∃ c,w.ZX[uV w.ZX o a a]?=some c/\c.Z1=o
 | n,a,h1,hl,hi=>by
  obtain⟨c,hc⟩:=gX hl;by_cases e:c.Z1=o
  .grind[yD]
  .obtain⟨e1,e2,e3⟩:=ui hh h hc e ho hi;rw [eD hh h ho hc e hi]
   match n with
   | 0=>omega
   | n+1=>exact pb hh h ho n c.up qA qA e3
theorem BG {p:Z0} {x:Int} {o:Nat} (hh:zS p) (ho:0<o):∀ (n:Nat) (j:Int),zZ p x n j=o->qi p j o=true
 := by intro x0;induction x0<;>grind[zZ,rl,zf,zr]
theorem Da {p:Z0} {b o:Nat} {x:Int} (hh:zS p) (ho:0<o) (h:q7 p b x=o):qi p b o=true:=by
 grind[zf,q7,outer,zr,BG,zS]
theorem dn {p:Z0} {w:Z5} {a:Nat} {x:Int} (hh:zS p) (h:Zy p w) (ha:a<w.ZX.length) :
  (q7 p (w.Z1 a) x=-1/\w.loc p a x=none)\/∃ (o i:Nat) (c:Act),0<o/\q7 p (w.Z1 a) x=o/\w.loc p a x=some i/\i=uV w.ZX o a a/\w.ZX[i]?=some c/\c.Z1=o/\qi p (w.Z1 a) o=true:=by
 rcases kV (p:=p) (c:=w.Z1 a) (x:=x) with e|e
 .grind[Z5.loc]
 .obtain⟨o,ho⟩:∃ o:Nat,q7 p (w.Z1 a) x=o:=⟨(q7 p (w.Z1 a) x).toNat,qA⟩;have ho0:0<o:=qA;have hi:=Da hh ho0 ho;obtain⟨c,hc,hb⟩:=pb hh h ho0 a a (qf _) ha hi
  grind[Z5.loc]
theorem Mq {p:Z0} {w:Z5} {a:Nat} {x:Int} (hh:zS p) (h:Zy p w) (ha:a<w.ZX.length):∀ i,w.loc p a x=some i->i<w.ZX.length:=by
 intro i hi;rcases dn (x:=x) hh h ha with⟨_,h2⟩|⟨o,j,c,_,_,h3,_,h4,_⟩<;>grind
theorem Zy.qCA {p:Z0} {w:Z5} (h:Zy p w) {l:Option Nat} (hl:∀ i,l=some i->i<w.ZX.length):SOk w.ZZ.length w.ZV.length (w.vars l):=by
 cases l with
 | none=>exact h.Zg
 | some i =>
  obtain⟨c,hc⟩:∃ c,w.ZX[i]?=some c:=⟨_,gE (hl i rfl)⟩;simp only [Z5.vars,hc];exact h.vars i c hc
theorem get_eq {w:Z5} {l:Option Nat} {x:Int} {v:Zd} (h:w.get l x=some v):(w.vars l)[x.toNat]?=some (some v):=by
 grind[Z5.get]
theorem Zy.get {p:Z0} {w:Z5} (h:Zy p w) {l:Option Nat} {x:Int} {v:Zd} (hv:w.get l x=some v):VOk w.ZZ.length w.ZV.length v:=by
 have hv:=get_eq hv
 cases l with
 | none=>exact h.Zg.get hv
 | some i =>
  simp only [Z5.vars] at hv
  split at hv
  .rename_i c hc;exact (h.vars i c hc).get hv
  simp_all
theorem mG {w:Z5} {l:Option Nat} {x:Int} {s:Zt} {i:Nat} {a:Act} (h:(w.set l x s).ZX[i]?=some a):∃ b,w.ZX[i]?=some b/\b.Z1=a.Z1/\b.up=a.up/\(a.vars=b.vars\/a.vars=b.vars.set x.toNat s):=by
 cases l<;>grind[Z5.set]
theorem RS {w:Z5} {l:Option Nat} {x:Int} {s:Zt} {i:Nat} {a:Act} (h:w.ZX[i]?=some a):∃ b,(w.set l x s).ZX[i]?=some b/\b.Z1=a.Z1/\b.up=a.up:=by
 cases l<;>grind[Z5.set]
theorem rK {w:Z5} {l:Option Nat} {x:Int} {s:Zt}:(w.set l x s).ZX.length=w.ZX.length:=by
 cases l <;> simp [Z5.set]
theorem be {w:Z5} {l:Option Nat} {x:Int} {s:Zt}:(w.set l x s).ZZ=w.ZZ/\(w.set l x s).ZV=w.ZV/\(w.set l x s).out=w.out/\(w.set l x s).trace=w.trace/\(w.set l x s).left=w.left/\(w.set l x s).stack=w.stack/\(w.set l x s).en=w.en:=by
 cases l <;> exact⟨rfl,rfl,rfl,rfl,rfl,rfl,rfl⟩
theorem Ai {w:Z5} {l:Option Nat} {x:Int} {s:Zt}:Grow 0 w (w.set l x s):=by
 obtain⟨e1,e2,e3,e4,e5,e6,_⟩:=be (w:=w) (l:=l) (x:=x) (s:=s);refine⟨λi a h=>RS h,qH,qH,qH,qH,qA,by grind[rK],qH,qH,qH,by rw [e5,e4]⟩
theorem Zy.set {p:Z0} {w:Z5} (h:Zy p w) {l:Option Nat} {x:Int} {s:Zt} (hs:∀ v,s=some v->VOk w.ZZ.length w.ZV.length v):Zy p (w.set l x s):=by
 obtain⟨e1,e2,e3,e4,e5,e6,e7⟩:=be (w:=w) (l:=l) (x:=x) (s:=s);have hg:Grow 0 w (w.set l x s):=Ai;refine⟨?_,λi a ha=>?_,λi a ha=>?_,λi a ha hi=>?_,?_,λi g hi=>?_,λc hc=>?_,λi hi=>?_,by rw [rK,e5];exact h.qAe,by rw [e1,e5];exact h.qAu,by rw [e2,e5];exact h.qBU,by rw [e3,e5];exact h.qBQ,by rw [e4,e5];exact h.ntr,by rw [e6,e5];exact h.qCJ,by rw [e3];exact h.qCS,by rw [e7];exact h.enr⟩
 .grind[a0,rK,mG]
 .obtain⟨b,f1,f2,f3,f4⟩:=mG ha;rw [e1,e2];rcases f4 with f4|f4
  .rw [f4];exact h.vars i b f1
  .rw [f4];exact (h.vars i b f1).set hs
 .obtain⟨b,f1,f2,f3,f4⟩:=mG ha;rw [<- f2];exact h.qBC i b f1
 .obtain⟨b,f1,f2,f3,f4⟩:=mG ha;obtain⟨g1,g2⟩:=h.up i b f1 hi;rw [<- f3,<- f2];exact⟨g1,g2.grow hg⟩
 .rw [e1,e2]
  cases l with
  | none=>exact h.Zg.set hs
  | some j=>exact h.Zg
 .rw [e1] at hi;exact (h.ZZ i g hi).grow hg
 .rw [e2] at hc;rw [e1,e2];exact h.cls c hc
 .rw [e6] at hi;rw [rK];exact h.stk i hi
structure Aft (p:Z0) (s:Nat) (w w':Z5):Prop where
 ok:Zy p w'
 grow:Grow s w w'
 stk:w'.en=0->w'.stack=w.stack
theorem Aft.refl {p:Z0} {s:Nat} {w:Z5} (h:Zy p w):Aft p s w w:=⟨h,.refl s w,λ_=>rfl⟩
theorem Aft.en {p:Z0} {s:Nat} {w w':Z5} (h:Aft p s w w') {e:Int} (he:e≠0) (hr:0<=e/\e<=7:=by decide):Aft p s w { w' with en:=e }:=⟨h.ok.en hr,h.grow.en,λh=>absurd h he⟩
theorem Aft.trans {p:Z0} {s t u:Nat} {w w' w'':Z5} (h:Aft p s w w') (h':Aft p t w' w'') (h0:w''.en=0->w'.en=0) (hu:s+t<=u):Aft p u w w'':=⟨h'.ok,h.grow.trans h'.grow hu,λe=>(h'.stk e).trans (h.stk (h0 e))⟩
theorem Aft.mono {p:Z0} {s t:Nat} {w w':Z5} (h:Aft p s w w') (hst:s<=t):Aft p t w w':=⟨h.ok,h.grow.mono hst,h.stk⟩
theorem lJ {p:Z0} {b:Nat} {o:Int}:qAG p b o≠0:=by grind[qAG]
theorem IZ {p:Z0} {b:Nat} {o:Int}:0<=qAG p b o/\qAG p b o<=7:=by grind[qAG]
theorem mR {p:Z0} {w:Z5} {a:Nat} {x:Int} (h:Zy p w):Aft p 0 w (zk p w a x).1/\VOk w.ZZ.length w.ZV.length (zk p w a x).2/\((zk p w a x).1=w\/∃ e,e≠0/\(zk p w a x).1={ w with en:=e }):=by
 unfold zk
 split
 .rename_i v hv;exact⟨.refl h,h.get hv,.inl rfl⟩
 .split
  .split
   .rename_i v hv;exact⟨.refl h,h.get hv,.inl rfl⟩
   .split
    .exact⟨.refl h,⟨qB,qB,qB⟩,.inl rfl⟩
    .exact⟨(Aft.refl h).en qO,.zero,.inr ⟨_,qO,rfl⟩⟩
  .exact⟨(Aft.refl h).en lJ IZ,.zero,.inr ⟨_,lJ,rfl⟩⟩
theorem ww {p:Z0} {a:Nat}:∀ {l:List Int} {w:Z5},Zy p w->Aft p 0 w (qY p w a l).1/\(∀ v∈(qY p w a l).2,VOk w.ZZ.length w.ZV.length v)/\((qY p w a l).1=w\/∃ e,e≠0/\(qY p w a l).1={ w with en:=e })/\((qY p w a l).1.en=0->(qY p w a l).2.length=l.length)/\(qY p w a l).2.length<=l.length
 | [],w,h=>⟨.refl h,λv hv=>by grind[qY],.inl rfl,λ_=>rfl,qf _⟩
 | x::l,w,h=>by
  simp only [qY]
  split
  .grind[Aft.refl]
  .rename_i he;obtain⟨h1,h2,h3⟩:=mR (a:=a) (x:=x) h;rcases h3 with h3|⟨e,he,h3⟩
   .rw [h3];obtain⟨i1,i2,i3,i4,i5⟩:=ww (a:=a) (l:=l) h
    simp_all
   .rw [h3]
    have hen:qY p { w with en:=e } a l=({ w with en:=e },[]):=by
     cases l<;>grind[qY]
    simp_all
theorem L8 {p:Z0} {w:Z5} {a:Nat} {x:Int} {v:Zd} (h:Zy p w) (hv:VOk w.ZZ.length w.ZV.length v):Aft p 0 w (wm p w a x v) :=
 ⟨h.set λu e=>qH,Ai,λ_=>be.2.2.2.2.2.1⟩
theorem P1 {p:Z0} {w:Z5} {a:Nat} {x:Int} (h:Zy p w):Aft p 0 w (bb p w a x):=by
 unfold bb
 split
 .exact⟨h.set λu e=>um,Ai,λ_=>be.2.2.2.2.2.1⟩
 .exact (Aft.refl h).en lJ IZ
theorem QA {p:Z0} {w:Z5} {a b:Zd} (h:Zy p w) (ha:VOk w.ZZ.length w.ZV.length a) (hb:VOk w.ZZ.length w.ZV.length b):Aft p 0 w (uw w a b).1/\VOk (uw w a b).1.ZZ.length (uw w a b).1.ZV.length (uw w a b).2:=by
 unfold uw
 split
 .exact⟨(Aft.refl h).en qO,.zero⟩
 .refine⟨.refl h,⟨?_,qB,qB⟩⟩;have:=ha.num;have:=hb.num
  grind
theorem RI {p:Z0} {w:Z5} {v:Zd} {x:Int} (h:Zy p w):Aft p 0 w (kN w v x).1/\VOk (kN w v x).1.ZZ.length (kN w v x).1.ZV.length (kN w v x).2:=by
 unfold kN
 split
 .exact⟨(Aft.refl h).en qO,.zero⟩
 .split
  .rename_i c hc
   split
   .rename_i u hu;exact⟨.refl h,(h.cls c (gM hc)).get hu⟩
   .exact⟨(Aft.refl h).en qO,.zero⟩
  .exact⟨(Aft.refl h).en qO,.zero⟩
structure Room (k:Nat) (w:Z5):Prop where
 ZX:w.ZX.length+k+2 * w.left<=1000
 ZZ:w.ZZ.length+k+2 * w.left<=1000
 cls:w.ZV.length+k+2 * w.left<=1000
 out:w.out.length+k+2 * w.left<=1000
 stk:w.stack.length+k+2 * w.left<=1000
theorem Room.mono {k k':Nat} {w:Z5} (h:Room k w) (hk:k'<=k):Room k' w:=by
 obtain⟨h1,h2,h3,h4,h5⟩:=h;constructor<;>grind
theorem Aft.room {p:Z0} {s k k':Nat} {w w':Z5} (h:Aft p s w w') (hr:Room k w) (h0:w'.en=0) (hk:k'+s<=k):Room k' w':=by
 obtain⟨h1,h2,h3,h4,h5⟩:=hr;have g:=h.grow;have e:=h.stk h0;have:=g.left;exact⟨by have:=g.qAe;omega,by have:=g.qAu;omega,by have:=g.qBU;omega,by have:=g.qBQ;omega,qj⟩
def cZ (p:Z0) (n:Nat) (R:Z5->Nat->Z5×Zd):Prop:=∀ (w:Z5) (a:Nat),Zy p w->w.left<n->a<w.ZX.length->w.en=0->Aft p 0 w (R w a).1/\VOk (R w a).1.ZZ.length (R w a).1.ZV.length (R w a).2
theorem It {nf nc:Nat} {ps:List Int} {vs:List Zd} (h:∀ v∈vs,VOk nf nc v):SOk nf nc (wD ps vs):=by
 unfold wD
 have key:∀ (l:List (Int×Zd)) (s:List Zt),(∀ q∈l,VOk nf nc q.2)->SOk nf nc s->SOk nf nc (l.foldl (λl q=>l.set q.1.toNat (some q.2)) s):=by
  intro l
  induction l with
  | nil=>simp
  | cons q l ih=>exact λs hl hs=>ih _ (λq' h'=>hl q' (lj _ h')) (hs.set λv e=>qH)
 exact key _ _ (λq hq=>h q.2 (List.of_mem_zip hq).2) .none
theorem ko {p:Z0} {w:Z5} {b up:Nat} {vs:List Zd} (h:Zy p w) (hm:jZ p w.ZX b up) (hv:∀ v∈vs,VOk w.ZZ.length w.ZV.length v) (hr:Room 1 w):Zy p (qn p w b up vs)/\Grow 1 w (qn p w b up vs):=by
 have hg:Grow 1 w (qn p w b up vs):=by
  constructor<;>grind[qn]
 refine⟨?_,hg⟩;have hmade:=hm.grow hg;obtain⟨c,k,m1,m2,m3,m4⟩:=hm;have hul:=(gS m1).1;have Zs:=(gS m2).1
 have split':∀ (i:Nat) (a:Act),(qn p w b up vs).ZX[i]?=some a->w.ZX[i]?=some a\/(i=w.ZX.length/\a.Z1=b/\a.up=up/\SOk w.ZZ.length w.ZV.length a.vars):=by
  grind[qn,It]
 refine⟨?_,λi a ha=>?_,λi a ha=>?_,λi a ha hi=>?_,h.Zg,λi g hg'=>(h.ZZ i g hg').grow hg,h.cls,λi hi=>?_,by simpa [qn] using hr.ZX,h.qAu,h.qBU,h.qBQ,h.ntr,by simpa [qn] using hr.stk,h.qCS,h.enr⟩
 .obtain⟨a,ha,hb⟩:=h.a0;obtain⟨b,e1,e2,_⟩:=hg.ZX 0 a ha
  simp_all
 .rcases split' i a ha with e|⟨_,_,_,e⟩
  .exact h.vars i a e
  .exact e
 .rcases split' i a ha with e|⟨_,e,_,_⟩
  .exact h.qBC i a e
  omega
 .rcases split' i a ha with e|⟨e1,e2,e3,_⟩
  .obtain⟨x1,x2⟩:=h.up i a e hi;exact⟨x1,x2.grow hg⟩
  simp_all
 .simp only [qn,dY,w6] at hi;simp only [qn,am,dU];rcases hi with e|e
  .have:=h.stk i e;omega
  .omega
theorem mn {p:Z0} {n:Nat} {R:Z5->Nat->Z5×Zd} (hR:cZ p n R) {w:Z5} {b up:Nat} {vs:List Zd} (h:Zy p w) (hn:w.left<n) (h0:w.en=0) (hm:jZ p w.ZX b up) (hv:∀ v∈vs,VOk w.ZZ.length w.ZV.length v) (hr:Room 1 w) :
  Aft p 1 w (qm p R w b up vs).1/\VOk (qm p R w b up vs).1.ZZ.length (qm p R w b up vs).1.ZV.length (qm p R w b up vs).2:=by
 obtain⟨h1,h2⟩:=ko h hm hv hr;obtain⟨⟨r1,r2,r3⟩,r4⟩:=hR (qn p w b up vs) w.ZX.length h1 hn eP h0;unfold qm nh
 split
 .rename_i he;refine⟨⟨⟨r1.a0,r1.vars,r1.qBC,r1.up,r1.Zg,r1.ZZ,r1.cls,λi hi=>r1.stk i (List.dropLast_subset _ hi),r1.qAe,r1.qAu,r1.qBU,r1.qBQ,r1.ntr,?_,r1.qCS,r1.enr⟩,?_,λ_=>?_⟩,r4⟩
  .have:=r1.qCJ
   grind
  .have hg:=h2.trans r2 (qf _);exact⟨hg.ZX,hg.ZZ,hg.cls,hg.out,hg.tr,hg.left,hg.qAe,hg.qAu,hg.qBU,hg.qBQ,hg.ntr⟩
  grind[qn]
 .rename_i he;exact⟨⟨r1,h2.trans r2 (qf _),λe=>absurd e he⟩,r4⟩
theorem RA {p:Z0} {n:Nat} {R:Z5->Nat->Z5×Zd} (hR:cZ p n R) {w:Z5} {f:Zd} {vs:List Zd} (h:Zy p w) (hn:w.left<n) (h0:w.en=0) (hv:∀ v∈vs,VOk w.ZZ.length w.ZV.length v) (hr:Room 1 w) :
  Aft p 1 w (u6 p R w f vs).1/\VOk (u6 p R w f vs).1.ZZ.length (u6 p R w f vs).1.ZV.length (u6 p R w f vs).2:=by
 unfold u6
 split
 .exact⟨(Aft.refl h).en qO,.zero⟩
 .split
  .rename_i g hg
   split
   .exact⟨(Aft.refl h).en qO,.zero⟩
   .exact mn hR h hn h0 (h.ZZ _ g hg) hv hr
  grind[Aft.refl,VOk.zero]
theorem Zy.qDz {p:Z0} {w:Z5} (h:Zy p w) {c:List Zt} (hc:SOk w.ZZ.length w.ZV.length c) (hl:w.ZV.length+1+2 * w.left<=1000):Zy p { w with ZV:=w.ZV++[c] }:=by
 have hm:∀ {l:List Zt},SOk w.ZZ.length w.ZV.length l->SOk w.ZZ.length (w.ZV++[c]).length l:=λh=>h.mono (qf _) qB;refine⟨h.a0,λi a ha=>hm (h.vars i a ha),h.qBC,h.up,hm h.Zg,h.ZZ,λd hd=>?_,h.stk,h.qAe,h.qAu,qH,h.qBQ,h.ntr,h.qCJ,h.qCS,h.enr⟩;rcases dY.1 hd with e|e
 .exact hm (h.cls d e)
 simp_all
theorem Zy.qDy {p:Z0} {w:Z5} (h:Zy p w) {b i:Nat} (hm:jZ p w.ZX b i) (hl:w.ZZ.length+1+2 * w.left<=1000):Zy p { w with ZZ:=w.ZZ++[(b,i)] }:=by
 have hs:∀ {l:List Zt},SOk w.ZZ.length w.ZV.length l->SOk (w.ZZ++[(b,i)]).length w.ZV.length l:=λh=>h.mono qB (qf _);refine⟨h.a0,λi a ha=>hs (h.vars i a ha),h.qBC,h.up,hs h.Zg,λj g hg=>?_,λc hc=>hs (h.cls c hc),h.stk,h.qAe,qH,h.qBU,h.qBQ,h.ntr,h.qCJ,h.qCS,h.enr⟩;rcases dY.1 (gM hg) with e|e
 .obtain⟨j',hj'⟩:=eW e;exact h.ZZ j' g hj'
 simp_all
theorem Nf {p:Z0} {n:Nat} {R:Z5->Nat->Z5×Zd} (hR:cZ p n R) {w:Z5} {b a:Nat} (h:Zy p w) (hn:w.left<n) (h0:w.en=0) (hm:jZ p w.ZX b a) (hr:Room 2 w) :
  Aft p 2 w (kI p R w b a).1/\VOk (kI p R w b a).1.ZZ.length (kI p R w b a).1.ZV.length (kI p R w b a).2:=by
 obtain⟨⟨h1,h2,h3⟩,_⟩:=mn (vs:=[]) hR h hn h0 hm (λv hv=>eJ) (hr.mono qA)
 have hlen:w.ZX.length<(qm p R w b a []).1.ZX.length:=by
  obtain⟨g1,g2⟩:=ko (vs:=[]) h hm (λv hv=>eJ) (hr.mono qA);obtain⟨⟨_,r2,_⟩,_⟩:=hR (qn p w b a []) w.ZX.length g1 hn eP h0;have:=r2.qAk
  grind[qm,nh,qn]
 unfold kI
 split
 .rename_i he;exact⟨⟨h1,h2.mono qA,h3⟩,.zero⟩
 .rename_i he;have he':(qm p R w b a []).1.en=0:=qA;have hr1:=(Aft.mk h1 h2 h3).room hr he' (k':=1) qA;have hok:=h1.qDz (c:=(qm p R w b a []).1.vars (some w.ZX.length)) (h1.qCA λi e=>qH) hr1.cls;refine⟨⟨hok,?_,λe=>h3 e⟩,?_⟩
  .refine⟨h2.ZX,h2.ZZ,h2.cls.trans (List.prefix_append _ _),h2.out,h2.tr,h2.left,by have:=h2.qAe;grind,by have:=h2.qAu;grind,by have:=h2.qBU;grind,by have:=h2.qBQ;grind,h2.ntr⟩
  .have:=hr1.cls;constructor<;>grind
theorem zN.made {p:Z0} {b:Nat} {k:Za} {s:Z9} (h:zN p b k s=true) (hk:s.kind=3\/s.kind=4):∃ q,p[s.a.toNat]?=some q/\q.parent=b/\0<s.a/\q.kind=s.kind - 2:=by
 have key:∀ d,kW p b s.a d=true->∃ q,p[s.a.toNat]?=some q/\q.parent=b/\0<s.a/\q.kind=d:=by
  grind[kW]
 rcases hk with e|e<;>simp_all[zN]
theorem zN.num {p:Z0} {b:Nat} {k:Za} {s:Z9} (h:zN p b k s=true) (hk:s.kind=0):0<=s.a/\s.a<=99:=by
 grind[zN]
theorem BY {nf nc:Nat} {vs:List Zd} (h:∀ v∈vs,VOk nf nc v) (i:Nat):VOk nf nc (vs.getD i (0,0)):=by
 grind[VOk.zero]
theorem A5 {p:Z0} {n:Nat} {R:Z5->Nat->Z5×Zd} (hR:cZ p n R) {w:Z5} {a:Nat} {k:Za} {s:Z9} {vs:List Zd} (h:Zy p w) (hn:w.left<n) (h0:w.en=0) (ha:a<w.ZX.length) (hs:zN p (w.Z1 a) k s=true) (hv:∀ v∈vs,VOk w.ZZ.length w.ZV.length v) (hr:Room 2 w) :
  Aft p 2 w (ju p R w a s vs).1/\VOk (ju p R w a s vs).1.ZZ.length (ju p R w a s vs).1.ZV.length (ju p R w a s vs).2:=by
 obtain⟨c,hc⟩:=gX ha
 have hmade:s.kind=3\/s.kind=4->jZ p w.ZX s.a.toNat a:=λe=>by
  obtain⟨q,h1,h2,h3,_⟩:=zN.made hs e;exact⟨c,q,hc,h1,by grind[jq],qA⟩
 unfold ju
 split
 .rename_i e;have:=zN.num hs e;exact⟨.refl h,⟨qj,qB,qB⟩⟩
 .split
  .obtain⟨h1,h2⟩:=QA h (BY hv 0) (BY hv 1);exact⟨h1.mono qA,h2⟩
  .split
   .rename_i e;have hl:=hr.ZZ;refine⟨⟨h.qDy (hmade (.inl e)) qA,?_,λ_=>rfl⟩,⟨qj,λ_=>qj,qB⟩⟩;constructor<;>grind
   .split
    .grind[Nf]
    .split
     .obtain⟨h1,h2⟩:=RA (f:=vs.getD 0 (0,0)) (vs:=vs.tail) hR h hn h0 (λv hv'=>hv v (List.mem_of_mem_tail hv')) (hr.mono qA);exact⟨h1.mono qA,h2⟩
     .split
      .obtain⟨h1,h2⟩:=RI (v:=vs.getD 0 (0,0)) (x:=s.b) h;exact⟨h1.mono qA,h2⟩
      grind[Aft.refl,BY]
theorem fK {p:Z0} {n:Nat} {R:Z5->Nat->Z5×Zd} (hR:cZ p n R) {w:Z5} {a:Nat} {k:Za} {s:Z9} (h:Zy p w) (hn:w.left<n) (h0:w.en=0) (ha:a<w.ZX.length) (hs:zN p (w.Z1 a) k s=true) (hr:Room 2 w) :
  Aft p 2 w (zo p R w a s).1/\VOk (zo p R w a s).1.ZZ.length (zo p R w a s).1.ZV.length (zo p R w a s).2:=by
 unfold zo;obtain⟨h1,h2,h3,_⟩:=ww (a:=a) (l:=s.reads) h
 split
 .exact⟨h1.mono qA,.zero⟩
 grind[A5]
theorem Lp {nf nc:Nat} {v:Zd} (h:VOk nf nc v):-3<=Hm.shown v/\Hm.shown v<=1000:=by
 have:=h.num
 grind[shown]
theorem Zy.qDx {p:Z0} {w:Z5} (h:Zy p w) {v:Int} (hl:w.out.length+1+2 * w.left<=1000) (hv:-3<=v/\v<=1000):Zy p { w with out:=w.out++[v] } :=
 ⟨h.a0,h.vars,h.qBC,h.up,h.Zg,h.ZZ,h.cls,h.stk,h.qAe,h.qAu,h.qBU,qH,h.ntr,h.qCJ,λx hx=>by
   simp only [dY,w6] at hx;rcases hx with hx|rfl
   .exact h.qCS x hx
   .exact hv,h.enr⟩
theorem zN.print {p:Z0} {R:Z5->Nat->Z5×Zd} {w:Z5} {a:Nat} {s:Z9} (h:s.kind=7):zo p R w a s=if (qY p w a s.reads).1.en≠0 then ((qY p w a s.reads).1,(0,0)) else ((qY p w a s.reads).1,(qY p w a s.reads).2.getD 0 (0,0)):=by
 simp [zo,ju,h]
theorem nL {p:Z0} {n:Nat} {R:Z5->Nat->Z5×Zd} (hR:cZ p n R) {w:Z5} {a:Nat} {k:Za} {s:Z9} (h:Zy p w) (hn:w.left<n) (h0:w.en=0) (ha:a<w.ZX.length) (hs:zN p (w.Z1 a) k s=true) (hr:Room 2 w):Aft p 2 w (cd p R w a s):=by
 unfold cd
 split
 .exact .refl h
 .split
  .exact (P1 h).mono qA
  .obtain⟨h1,h2⟩:=fK hR h hn h0 ha hs hr
   split
   .exact h1
   .rename_i hne;have he:(zo p R w a s).1.en=0:=qA
    split
    .rename_i e7
     have hw:(zo p R w a s).1=w:=by
      grind[ww,zN.print]
     rw [hw];have hl:=hr.out;refine⟨h.qDx qA (Lp h2),⟨λ_ a h=>⟨a,h,rfl,rfl⟩,aG _,aG _,List.prefix_append _ _,aG _,qf _,qB,qB,qB,qj,rfl⟩,λ_=>rfl⟩
    .obtain⟨s1,s2,s3⟩:=L8 (a:=a) (x:=s.to) h1.ok h2;refine⟨s1,h1.grow.trans s2 qA,λe=>?_⟩;rw [s3 e];exact h1.stk he
theorem gq {p:Z0} {w:Z5} {a i:Nat} (h:Zy p w) (hl:w.left≠0):Zy p (qq w a i)/\Room 2 (qq w a i):=by
 have h1:=h.qAe;have h2:=h.qAu;have h3:=h.qBU;have h4:=h.qBQ;have h5:=h.ntr;have h6:=h.qCJ;refine⟨⟨h.a0,h.vars,h.qBC,h.up,h.Zg,h.ZZ,h.cls,h.stk,?_,?_,?_,?_,?_,?_,h.qCS,h.enr⟩,⟨?_,?_,?_,?_,?_⟩⟩<;>grind[qq]
theorem LT {w w':Z5} {a i:Nat} (hl:w.left≠0) (h:Grow 2 (qq w a i) w'):Grow 0 w w':=by
 have h1:=h.qAe;have h2:=h.qAu;have h3:=h.qBU;have h4:=h.qBQ;have h5:=h.ntr;have h6:=h.left;simp only [qq,am,dU] at h1 h2 h3 h4 h5 h6;exact⟨h.ZX,h.ZZ,h.cls,h.out,(List.prefix_append _ _).trans h.tr,qA,qA,qA,qA,qA,qA⟩
theorem Aft.tick {p:Z0} {w w':Z5} {a i:Nat} (hl:w.left≠0) (h:Aft p 2 (qq w a i) w'):Aft p 0 w w':=⟨h.ok,LT hl h.grow,h.stk⟩
theorem Is {p:Z0} {n:Nat} {R:Z5->Nat->Z5×Zd} (hR:cZ p n R) {a:Nat} {k:Za}:∀ {l:List Z9} {w:Z5} {i:Nat},Zy p w->w.left<n+1->w.en=0->a<w.ZX.length->(∀ s∈l,zN p (w.Z1 a) k s=true) ->
  Aft p 0 w (vK p R a w i l).1/\VOk (vK p R a w i l).1.ZZ.length (vK p R a w i l).1.ZV.length (vK p R a w i l).2
 | [],w,i,h,_,_,_,_=>⟨.refl h,.zero⟩
 | s::l,w,i,h,hn,h0,ha,hs=>by
  simp only [vK]
  split
  .exact⟨(Aft.refl h).en qO,.zero⟩
  .rename_i hl;obtain⟨t1,t2⟩:=gq (a:=a) (i:=i) h hl;have tn:(qq w a i).left<n:=by grind[qq]
   split
   .obtain⟨x1,x2,x3⟩:=mR (a:=a) (x:=s.a) t1;refine⟨(x1.mono qA).tick hl,?_⟩
    grind
   .have hst:=nL hR t1 tn h0 ha (hs s qB) t2
    split
    .exact⟨hst.tick hl,.zero⟩
    .rename_i he;have he':(cd p R (qq w a i) a s).en=0:=qA;have hA:=hst.tick hl;obtain⟨c,hc⟩:=gX ha;have hb:=hA.grow.Z1 hc;obtain⟨r1,r2⟩:=Is hR (l:=l) (i:=i+1) hA.ok (by have:=hA.grow.left;omega) he' (aR ha hA.grow.qAk) (λs' hs'=>by rw [hb];exact hs s' (by simp [hs']));exact⟨hA.trans r1 (λ_=>he') qA,r2⟩
theorem kT {p:Z0} (hp:Z7 p):∀ n,cZ p n (zY p n)
 | 0=>λw a _ h=>absurd h qA
 | n+1=>by
  intro w a h hn ha h0;simp only [zY];obtain⟨c,hc⟩:=gX ha;have hb:=h.qBC a c hc;obtain⟨k,hk⟩:=gX hb;rw [jq hc,hk];exact Is (kT hp n) (k:=k) h hn h0 ha (λs hs=>by rw [jq hc];exact hp.stm _ k hk s hs)
theorem ce {p:Z0} (hp:Z7 p) {fuel:Nat} (hf:fuel<=150):Zy p (zK fuel):=by
 have hl:=hp.len;refine⟨⟨_,rfl,rfl⟩,λi a ha=>?_,λi a ha=>?_,λi a ha hi=>?_,.none,λi g hg=>?_,λc hc=>?_,λi hi=>?_,?_,?_,?_,?_,?_,?_,gF,gF⟩
 .grind[zK,SOk.none]
 .grind[zK]
 .grind[zK]
 .grind[zK]
 .grind[zK]
 .grind[zK]
 all_goals simp [zK]
 all_goals omega
theorem sA {p:Z0} (hp:Z7 p) {fuel:Nat} (hf:fuel<=150):Aft p 0 (zK fuel) (yI p fuel) :=
 (kT hp 151 (zK fuel) 0 (ce hp hf) tW gF rfl).1
def jm (s:Zt):List AV:=match s with|some v=>[bv true,iv v.1,iv v.2]|none=>[bv false,iv 0,iv 0]
@[simp] theorem fQ {s:Zt}:(jm s).length=3:=by cases s <;> rfl
@[simp] theorem Hr {s:Zt} {f:Nm->Option Nm}:(jm s).map (AV.tr f)=jm s:=by cases s <;> rfl
@[simp] theorem wN:jm none=[bv false,iv 0,iv 0]:=rfl
@[simp] theorem kC {v:Zd}:jm (some v)=[bv true,iv v.1,iv v.2]:=rfl
def qW (l:List Zt):List (List AV):=l.map jm
section
variable {l:List Zt} {i:Nat} {f:Nm->Option Nm} {s:Zt}
@[simp] theorem slrows_len:(qW l).length=l.length:=gO
@[simp] theorem JX:(qW l)[i]?=(l[i]?).map jm:=gO
@[simp] theorem slrows_getE {h:i<(qW l).length}:(qW l)[i]=jm (l[i]' qH):=gO
@[simp] theorem slrows_tr:(qW l).map (λr=>r.map (AV.tr f))=qW l:=gO
@[simp] theorem slrows_take {n:Nat}:(qW l).take n=qW (l.take n):=gO
@[simp] theorem slrows_nil:qW []=[]:=rfl
theorem JW:∀ r∈qW l,r.length=3:=by
 simp_all[qW]
@[simp] theorem slrows_cln:(qW l).all (λr=>r.all AV.cln)=true:=by
 rw [dT];intro r hr;simp only [qW,fG] at hr;obtain⟨s,_,rfl⟩:=hr
 cases s <;> rfl
theorem xh:qk (qW l) i 0 (jm s)=qW (l.set i s):=by
 apply wK;intro j;simp only [qk,pR,JX,eV];by_cases e:i=j
 .subst e
  cases h:l[i]? with
  | none =>
   simp_all
  | some y =>
   simp_all<;>grind
 .simp [e]
end
@[simp] theorem slrows_setS {l:List Zt} {i:Nat} {a b:Int}:qk (qW l) i 0 [bv true,iv a,iv b]=qW (l.set i (some (a,b))):=xh (s:=some (a,b))
@[simp] theorem slrows_setN {l:List Zt} {i:Nat}:qk (qW l) i 0 [bv false,iv 0,iv 0]=qW (l.set i none):=xh (s:=none)
def zn (l:List Zd):List (List AV):=l.map λv=>[iv v.1,iv v.2]
section
variable {l m:List Zd} {i:Nat} {f:Nm->Option Nm} {v:Zd}
@[simp] theorem vrows_len:(zn l).length=l.length:=gc
@[simp] theorem vrows_getE {h:i<(zn l).length}:(zn l)[i]=[iv (l[i]' qH).1,iv (l[i]' qH).2]:=gc
@[simp] theorem vrows_tr:(zn l).map (λr=>r.map (AV.tr f))=zn l:=gc
@[simp] theorem vrows_take {n:Nat}:(zn l).take n=zn (l.take n):=gc
@[simp] theorem vrows_nil:zn []=[]:=rfl
end
def yw (l:List (Nat×Nat)):List (List AV):=l.map λv=>[iv v.1,iv v.2]
section
variable {l m:List (Nat×Nat)} {i:Nat} {f:Nm->Option Nm}
@[simp] theorem nrows_len:(yw l).length=l.length:=by simp [yw]
@[simp] theorem nrows_tr:(yw l).map (λr=>r.map (AV.tr f))=yw l:=by simp [yw]
@[simp] theorem nrows_take {n:Nat}:(yw l).take n=yw (l.take n):=by simp [yw]
@[simp] theorem nrows_nil:yw []=[]:=rfl
theorem iD {a b:Nat}:yw l++[[iv a,iv b]]=yw (l++[(a,b)]):=by simp [yw]
end
def Jr (i:Nat) (a:Act):Int:=if i=0 then -1 else a.up
def yN (n:Nm) (az:List Act):List (List AV):=az.mapIdx λi a=>[iv a.Z1,iv (Jr i a),.hs (.c n i 2) 3 0 8]
def yX (n:Nm) (cs:List (List Zt)):List (List AV):=cs.mapIdx λi _=>[.hs (.c n i 0) 3 0 8]
def yq (n:Nm) (fs:List (Nat×Nat)):List (List AV):=fs.mapIdx λi g=>[iv g.1,iv g.2,.hs (.c n i 2) 3 0 0]
section
variable {az:List Act} {cs:List (List Zt)} {fs:List (Nat×Nat)} {n m:Nm} {i:Nat} {f:Nm->Option Nm}
@[simp] theorem actRows_len:(yN n az).length=az.length:=by simp [yN]
@[simp] theorem eX:(yN n az)[i]?=(az[i]?).map λa=>[iv a.Z1,iv (Jr i a),.hs (.c n i 2) 3 0 8]:=by simp [yN]
@[simp] theorem clsRows_len:(yX n cs).length=cs.length:=by simp [yX]
@[simp] theorem sj:(yX n cs)[i]?=(cs[i]?).map λ_=>[AV.hs (.c n i 0) 3 0 8]:=by simp [yX]
@[simp] theorem funRows_len:(yq n fs).length=fs.length:=by simp [yq]
@[simp] theorem lN:(yq n fs)[i]?=(fs[i]?).map λg=>[iv g.1,iv g.2,AV.hs (.c n i 2) 3 0 0]:=by simp [yq]
@[simp] theorem actRows_getE {h:i<(yN n az).length}:(yN n az)[i]=[iv (az[i]' qH).Z1,iv (Jr i (az[i]' qH)),.hs (.c n i 2) 3 0 8]:=by simp [yN]
@[simp] theorem clsRows_getE {h:i<(yX n cs).length}:(yX n cs)[i]=[AV.hs (.c n i 0) 3 0 8]:=by simp [yX]
@[simp] theorem funRows_getE {h:i<(yq n fs).length}:(yq n fs)[i]=[iv (fs[i]' qH).1,iv (fs[i]' qH).2,AV.hs (.c n i 2) 3 0 0]:=by simp [yq]
theorem AY (h:∀ i,i<az.length->f (.c n i 2)=some (.c m i 2)):(yN n az).map (λr=>r.map (AV.tr f))=yN m az:=by
 apply wK
 grind[eX,AV.tr]
theorem AN (h:∀ i,i<cs.length->f (.c n i 0)=some (.c m i 0)):(yX n cs).map (λr=>r.map (AV.tr f))=yX m cs:=by
 apply wK
 grind[yX,AV.tr]
theorem AH (h:∀ i,i<fs.length->f (.c n i 2)=some (.c m i 2)):(yq n fs).map (λr=>r.map (AV.tr f))=yq m fs:=by
 apply wK
 grind[lN,AV.tr]
@[simp] theorem actRows_fix (h:∀ i,f (.c n i 2)=some (.c n i 2)):(yN n az).map (λr=>r.map (AV.tr f))=yN n az:=AY λi _=>h i
@[simp] theorem clsRows_fix (h:∀ i,f (.c n i 0)=some (.c n i 0)):(yX n cs).map (λr=>r.map (AV.tr f))=yX n cs:=AN λi _=>h i
@[simp] theorem funRows_fix (h:∀ i,f (.c n i 2)=some (.c n i 2)):(yq n fs).map (λr=>r.map (AV.tr f))=yq n fs:=AH λi _=>h i
theorem HW {a:Act}:yN n az++[[iv a.Z1,iv (Jr az.length a),.hs (.c n az.length 2) 3 0 8]]=yN n (az++[a]):=by simp [yN]
theorem Fy {c:List Zt}:yX n cs++[[.hs (.c n cs.length 0) 3 0 8]]=yX n (cs++[c]):=by simp [yX]
theorem Fo {a b:Nat}:yq n fs++[[iv a,iv b,.hs (.c n fs.length 2) 3 0 0]]=yq n (fs++[(a,b)]):=by simp [yq]
end
abbrev Wn:Nm:=.u 1 0 0
def wL (p:Z0) (w:Z5):List AV:=[ksl p,.hs (.c Wn 0 1) 3 0 w.ZX.length,.hs (.c Wn 0 2) 1 0 w.stack.length,.hs (.c Wn 0 3) 3 0 8,.hs (.c Wn 0 4) 3 0 w.ZZ.length,.hs (.c Wn 0 5) 1 0 w.ZV.length,.hs (.c Wn 0 6) 1 0 w.out.length,.hs (.c Wn 0 7) 2 0 w.trace.length,iv w.en,iv w.left]
def jN (l:List Nat):List Int:=l.map λ(n:Nat)=>(n:Int)
@[simp] theorem nints_len {l:List Nat}:(jN l).length=l.length:=by simp [jN]
structure Zf (hp:Nm->Option AO) (p:Z0) (w:Z5):Prop where
 top:hp Wn=some (.row 10 [wL p w])
 ZX:hp (.c Wn 0 1)=some (.row 3 (yN (.c Wn 0 1) w.ZX))
 act:∀ (i:Nat) a,w.ZX[i]?=some a->hp (.c (.c Wn 0 1) i 2)=some (.row 3 (qW a.vars))
 stk:∃ l,hp (.c Wn 0 2)=some (.row 1 (qT (jN w.stack++l)))
 Zg:hp (.c Wn 0 3)=some (.row 3 (qW w.globals))
 ZZ:hp (.c Wn 0 4)=some (.row 3 (yq (.c Wn 0 4) w.ZZ))
 Zw:hp (.c Wn 0 5)=some (.row 1 (yX (.c Wn 0 5) w.ZV))
 cls:∀ (i:Nat) c,w.ZV[i]?=some c->hp (.c (.c Wn 0 5) i 0)=some (.row 3 (qW c))
 out:hp (.c Wn 0 6)=some (.row 1 (qT w.out))
 trc:hp (.c Wn 0 7)=some (.row 2 (yw w.trace))
theorem Zf.re {hp hp':Nm->Option AO} {p:Z0} {w:Z5} (ow:Zf hp p w)
  (h0:hp' Wn=some (.row 10 [wL p w]):=by simp [ow.top,wL])
  (h1:hp' (.c Wn 0 1)=some (.row 3 (yN (.c Wn 0 1) w.ZX)):=by simp [ow.ZX])
  (h2:∀ (i:Nat) a,w.ZX[i]?=some a->hp' (.c (.c Wn 0 1) i 2)=some (.row 3 (qW a.vars)):=by intro i a ha;simp [ow.act i a ha])
  (h3:∀ l,hp (.c Wn 0 2)=some (.row 1 (qT (jN w.stack++l)))->hp' (.c Wn 0 2)=some (.row 1 (qT (jN w.stack++l))):=by intro l hl;simp [hl])
  (h4:hp' (.c Wn 0 3)=some (.row 3 (qW w.globals)):=by simp [ow.Zg])
  (h5:hp' (.c Wn 0 4)=some (.row 3 (yq (.c Wn 0 4) w.ZZ)):=by simp [ow.ZZ])
  (h6:hp' (.c Wn 0 5)=some (.row 1 (yX (.c Wn 0 5) w.ZV)):=by simp [ow.Zw])
  (h7:∀ (i:Nat) c,w.ZV[i]?=some c->hp' (.c (.c Wn 0 5) i 0)=some (.row 3 (qW c)):=by intro i c hc;simp [ow.cls i c hc])
  (h8:hp' (.c Wn 0 6)=some (.row 1 (qT w.out)):=by simp [ow.out])
  (h9:hp' (.c Wn 0 7)=some (.row 2 (yw w.trace)):=by simp [ow.trc]):Zf hp' p w :=
 ⟨h0,h1,h2,ow.stk.imp λl hl=>h3 l hl,h4,h5,h6,h7,h8,h9⟩
def lF:Option Nat->Nm
 | none=>.c Wn 0 3
 | some i=>.c (.c Wn 0 1) i 2
theorem Zf.hp' {hp hp':Nm->Option AO} {p:Z0} {w:Z5} (h:Zf hp p w) {f:Nm->Option Nm} (hf:∀ m,Nm.under Wn m=true->f m=some m) (hh:∀ m,Nm.under Wn m=true->hp' m=(hp m).map (AO.tr f)):Zf hp' p w:=by
 have hu:∀ j,Nm.under Wn (.c Wn 0 j)=true:=λj=>qB;have hu2:∀ j i k,Nm.under Wn (.c (.c Wn 0 j) i k)=true:=λj i k=>qB;refine⟨?_,?_,λi a ha=>?_,?_,?_,?_,?_,λi c hc=>?_,?_,?_⟩
 .rw [hh _ qB,h.top]
  simp_all[wL]
 .grind[ZX,AO.tr,AY]
 .rw [hh _ (hu2 1 i 2),h.act i a ha];simp
 .obtain⟨l,hl⟩:=h.stk
  simp_all<;>grind
 .rw [hh _ (hu 3),h.Zg];simp
 .grind[ZZ,AO.tr,AH]
 .grind[Zw,AO.tr,AN]
 .rw [hh _ (hu2 5 i 0),h.cls i c hc];simp
 .rw [hh _ (hu 6),h.out];simp
 .rw [hh _ (hu 7),h.trc];simp
section
variable {l:Option Nat} {d:Nat}
@[simp] theorem locN_under:Nm.under Wn (lF l)=true:=by cases l <;> simp [lF,Nm.under]
@[simp] theorem locN_under_s:Nm.under (.s d) (lF l)=false:=by cases l <;> simp [lF,Nm.under]
end
theorem Zf.loc {hp:Nm->Option AO} {p:Z0} {w:Z5} (h:Zf hp p w) {l:Option Nat} (hl:∀ i,l=some i->i<w.ZX.length):hp (lF l)=some (.row 3 (qW (w.vars l))):=by
 cases l with
 | none=>exact h.Zg
 | some i =>
  obtain⟨a,ha⟩:∃ a,w.ZX[i]?=some a:=⟨_,gE (hl i rfl)⟩;simp only [lF,Z5.vars,ha];exact h.act i a ha
theorem Zf.fin {hp:Nm->Option AO} {p:Z0} {w:Z5} (h:Zf hp p w):Zf (lQ (Nm.under Wn) [] hp) p w :=
 h.hp' (f:=jc (Nm.under Wn) []) (λm hm=>qH) (λm hm=>qH)
theorem Zf.qCq {hp:Nm->Option AO} {p:Z0} {w:Z5} {D:Nm->Bool} {sbs:List (Nm×Nm)} (h:Zf hp p w) (hD:∀ m,D m=true->m.Zi=false) (hW:∀ m,Nm.under Wn m=true->D m=true) (hs:∀ q∈sbs,q.1.Zi=true):Zf (lQ D sbs hp) p w :=
 h.hp' (f:=jc D sbs) (λm hm=>ox hD (hW m hm) hs) (λm hm=>qH)
abbrev Iz:=List (Int×Zd)
def lk (n:Int):Iz->Zt
 | []=>none
 | q::l=>if q.1=n then some q.2 else lk n l
def lkS (n:Int) (v:Zd):Iz->Iz
 | []=>[(n,v)]
 | q::l=>if q.1=n then (n,v)::l else q::lkS n v l
def lkD (n:Int):Iz->Iz
 | []=>[]
 | q::l=>if q.1=n then l else q::lkD n l
abbrev Zd.av (v:Zd):AV:=.agg [iv v.1,iv v.2]
def wC (ms:Iz):List (AV×AV):=ms.map λq=>(iv q.1,Zd.av q.2)
section
variable {ms:Iz} {n m:Int} {v:Zd} {f:Nm->Option Nm}
@[simp] theorem mrows_nil:wC []=[]:=rfl
@[simp] theorem mrows_keys:cK .i64 (wC ms)=true:=by
 induction ms with
 | nil=>rfl
 | cons q l ih=>simp only [wC,gi,cK] at ih ⊢;simpa using ih
@[simp] theorem mrows_get:Eu .i64 n (wC ms)=(lk n ms).map Zd.av:=by
 induction ms with
 | nil=>rfl
 | cons q l ih =>
  simp only [wC,gi,Eu,lk,if_true] at ih ⊢
  split
  .rfl
  .exact ih
@[simp] theorem mrows_set {a b:Int}:IR .i64 n (.agg [iv a,iv b]) (wC ms)=wC (lkS n (a,b) ms):=by
 induction ms with
 | nil=>rfl
 | cons q l ih =>
  simp only [wC,gi,IR,lkS,true_and] at ih ⊢
  split
  .rfl
  .rw [ih];rfl
@[simp] theorem mrows_del:Ev .i64 n (wC ms)=wC (lkD n ms):=by
 induction ms with
 | nil=>rfl
 | cons q l ih =>
  simp only [wC,gi,Ev,lkD,true_and] at ih ⊢
  split
  .rfl
  .rw [ih];rfl
@[simp] theorem mrows_tr:(wC ms).map (λe=>(e.1.tr f,e.2.tr f))=wC ms:=by simp [wC]
theorem Rt:lk m (lkS n v ms)=if m=n then some v else lk m ms:=by
 induction ms<;>grind[lkS,lk]
theorem Mt:(lk m ms).isSome=true↔m∈ms.map (·.1):=by
 induction ms<;>grind[lk]
theorem Ta (h:m∉ms.map (·.1)):lk m ms=none:=by
 cases e:lk m ms<;>grind[Mt]
theorem Vz (h:(ms.map (·.1)).Nodup):lk m (lkD n ms)=if m=n then none else lk m ms:=by
 induction ms<;>grind[lkD,lk,Ta]
theorem Q2:∀ x,x∈(lkS n v ms).map (·.1)↔x=n\/x∈ms.map (·.1):=by
 intro x;rw [<- Mt,Rt,<- Mt]
 grind
theorem Mu (h:(ms.map (·.1)).Nodup):((lkS n v ms).map (·.1)).Nodup:=by
 induction ms<;>grind[lkS,Q2]
theorem Tb:∀ x,x∈(lkD n ms).map (·.1)->x∈ms.map (·.1):=by
 induction ms<;>grind[lkD]
theorem Mv (h:(ms.map (·.1)).Nodup):((lkD n ms).map (·.1)).Nodup:=by
 induction ms<;>grind[lkD,Tb]
end
structure qAa (ms:Iz) (l:List Zt):Prop where
 nd:(ms.map (·.1)).Nodup
 get:∀ x:Nat,x<8->lk x ms=(match l[x]? with|some s=>s|none=>none)
 len:l.length=8
theorem qAa.nil:qAa [] q9:=⟨qB,λx hx=>by simp [lk,hx],qB⟩
theorem qAa.set {ms:Iz} {l:List Zt} (h:qAa ms l) {x:Int} {v:Zd} (hx:0<=x/\x<=7):qAa (lkS x v ms) (l.set x.toNat (some v)):=by
 refine⟨Mu h.nd,λy hy=>?_,by simp [h.len]⟩;rw [Rt,eV];have hl:=h.len;by_cases e:(y:Int)=x
 .grind
 .have e':¬ x.toNat=y:=qA;rw [if_neg e,if_neg e'];exact h.get y hy
theorem qAa.del {ms:Iz} {l:List Zt} (h:qAa ms l) {x:Int} (hx:0<=x/\x<=7):qAa (lkD x ms) (l.set x.toNat none):=by
 refine⟨Mv h.nd,λy hy=>?_,by simp [h.len]⟩;rw [Vz h.nd,eV];have hl:=h.len;by_cases e:(y:Int)=x
 .grind
 .have e':¬ x.toNat=y:=qA;rw [if_neg e,if_neg e'];exact h.get y hy
theorem qAa.at {ms:Iz} {l:List Zt} (h:qAa ms l) {x:Int} (hx:0<=x/\x<=7):lk x ms=(match l[x.toNat]? with|some s=>s|none=>none):=by
 have:=h.get x.toNat qA
 grind
section
variable {X:Ctx} {st:St} {K:St->Prop} {E:AV->St->Prop} {d:Nat} {ty:TypeId} {pos:String} {aft:Array Edge} {g:Option (Nat×Bool)}
theorem PB {T:TypeId} {st':St} (hd:d<X.n:=by first|(simp;done)|fail) (hs:Vx d st=st':=by simp [fx,Vx];first|done|rfl) (h:K st'):qS X ⟨some d,.makeMap T none,ty,pos,aft,g⟩ K E st:=by
 grind[Sk]
theorem im {T e:TypeId} {m key x:Operand} {k:IntKind} {i:Int} {n:Nm} {es:List (AV×AV)} {st':St} (ht:nK X.P T=some (k,e):=by simp [fx];first|done|rfl|exact⟨rfl,rfl⟩)
  (hm:ev st m=.mp n:=by simp [fx];first|done|rfl) (hk:ev st key=.sc (.int k i):=by simp [fx];first|done|rfl) (hn:st.hp n=some (.map es):=by simp [fx];first|done|rfl) (hks:cK k es=true:=by simp [fx];first|done|rfl)
  (hs:st.Zp n (.map (IR k i (ev st x) es))=st':=by simp [fx];first|done|rfl) (h:K st'):qS X ⟨none,.mapUpdate T m key x,ty,pos,aft,g⟩ K E st:=by
 grind[Al]
end
abbrev Mn:Nm:=.u 1 0 0
abbrev En (i:Nat):Nm:=.u 7 i 0
abbrev ptE (i:Nat):AV:=.pt (En i) 0
def zQ (l:List Nat):List (List AV):=l.map λi=>[ptE i]
def Du (f:Nat->Bool):Nm->Bool
 | .s _=>false
 | .u k _ _=>f k
 | .c n _ _=>Du f n
section
variable {f:Nat->Bool} {n:Nm} {k i j d:Nat}
@[simp] theorem Du_s:Du f (.s d)=false:=rfl
@[simp] theorem Du_u:Du f (.u k i j)=f k:=rfl
@[simp] theorem Du_c:Du f (.c n i j)=Du f n:=rfl
theorem UM:∀ {n:Nm},Du f n=true->n.Zi=false:=by
 intro n
 induction n with
 | s d=>simp
 | u a b c=>intro _;rfl
 | c q i j ih=>intro h;exact ih h
end
section
variable {X:Ctx} {st:St} {K:St->Prop} {E:AV->St->Prop} {d f:Nat} {ty:TypeId} {pos:String} {aft:Array Edge} {g:Option (Nat×Bool)} {c:Operand} {args:Array Operand} {Ts:Array TypeId} {xs ys az:List AV} {R:Nm->AV->(Nm->Option AO)->Prop}
theorem SX (D:Nm->Bool) (hD:∀ n,D n=true->n.Zi=false) (hext:∀ k i j,X.ext (.u k i j)=true->D (.u k i j)=false\/(vC D st.hp) (.u k i j)≠none) (hd:d<X.n:=by first|(simp;done)|fail)
  (hv:ev st c=.fn (.func f) xs ys) (ha:xs++args.toList.map (ev st)++ys=az)
  (hF:Zj X.P X.gl f D az (vC D st.hp) R noE) (h:∀ y H',R (.s d) y H'->K ((st.call d D (vC D st.hp) H').put (some d) y)) :
  qS X ⟨some d,.call ⟨.value c,args,Ts⟩,ty,pos,aft,g⟩ K E st:=by
 subst ha;refine eF (D:=D) (H:=vC D st.hp) (R:=R) (E0:=noE) hF (N4 hF.1 rfl hv) false ⟨rfl,λj a a' h h'=>?_⟩ (λn hn=>?_) (λn hn=>?_) (λn hn=>?_) hext (λe he=>qH) (λx H' hR=>?_) (λ_ _ h=>h.elim)
 .rw [h] at h';obtain rfl:=sI h';exact .refl _
 .cases hx:D n with
  | false=>rfl
  | true =>
   have h1:=hD n hx;have h2:=Nm.qAM (a:=.s d) rfl hn
   simp_all
 .simp [hn]
 .simp_all
 simp_all
end
end Go.Hm
end
section
set_option linter.unusedSectionVars false
namespace Go.Hm
open Go Go.RowKit
structure Pre (q:Bool) (w w':Z5):Prop where
 ZZ:w.ZZ <+: w'.ZZ
 cls:w.ZV <+: w'.ZV
 out:w.out <+: w'.out
 tr:w.trace <+: w'.trace
 left:q=true->w'.left<=w.left
section
variable {p:Z0} {R:Z5->Nat->Z5×Zd} {w:Z5} {a b i:Nat} {x:Int} {vs:List Zd} {s:Z9} {v:Zd} {q:Bool}
variable (hR:∀ w a,Pre q w (R w a).1)
include hR
end
def Yr (k:Nat) (w:Z5):Z5:={ w with left:=w.left+k }
structure qE6 (k:Nat) (w w':Z5):Prop where
 en:w.en=1
 left:w.left=0
 pre:Pre false w w'
 more:0<k->w.trace.length<w'.trace.length
def ZT (k:Nat) (r r':Z5×Zd):Prop:=(r.1.en≠1/\r'=(Yr k r.1,r.2))\/qE6 k r.1 r'.1
section
variable {p:Z0} {R:Z5->Nat->Z5×Zd} {k n:Nat} {w:Z5} {a b i:Nat} {x:Int} {l:Option Nat} {vs:List Zd} {s:Z9} {v:Zd}
variable (hP:∀ w a,Pre true w (R w a).1) (hR:∀ w a,w.left+k<n->w.en=0->ZT k (R w a) (R (Yr k w) a))
include hP hR
end
end Go.Hm
end
