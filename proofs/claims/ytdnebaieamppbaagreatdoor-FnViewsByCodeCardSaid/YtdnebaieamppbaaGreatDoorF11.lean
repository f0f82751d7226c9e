import Derived.Test.YtdnebaieamppbaaGreatDoorF10
set_option linter.unusedSimpArgs false
set_option linter.unusedVariables false
set_option maxRecDepth 100000
set_option maxHeartbeats 4000000

section
namespace Go.Hm
open Go Go.RowKit
abbrev Y6:=Int×Int
abbrev Yj:=Option Y6
structure Act where
 YS:Nat
 up:Nat
 vars:List Yj
structure YY where
 YR:List Act
 stack:List Nat
 globals:List Yj
 YT:List (Nat×Nat)
 YP:List (List Yj)
 out:List Int
 trace:List (Nat×Nat)
 en:Int
 left:Nat
abbrev qc:List Yj:=List.replicate 8 none
def shown (v:Y6):Int:=if v.1=1 then v.2 else if v.1=2 then -2 else if v.1=3 then -3 else -1
def YY.YS (w:YY) (at':Nat):Nat:=match w.YR[at']? with|some a=>a.YS|none=>0
def ua (YR:List Act) (o:Nat):Nat->Nat->Nat
 | 0,a=>a
 | n+1,a=>match YR[a]? with|some c=>if c.YS=o then a else ua YR o n c.up|none=>a
def YY.loc (p:YU) (w:YY) (at':Nat) (x:Int):Option Nat:=if qh p (w.YS at') x<0 then none else some (ua w.YR (qh p (w.YS at') x).toNat at' at')
def YY.vars (w:YY):Option Nat->List Yj
 | none=>w.globals
 | some i=>match w.YR[i]? with|some a=>a.vars|none=>[]
def YY.get (w:YY) (l:Option Nat) (x:Int):Yj:=match (w.vars l)[x.toNat]? with|some s=>s|none=>none
def YY.set (w:YY) (l:Option Nat) (x:Int) (s:Yj):YY:=match l with
 | none=>{ w with globals:=w.globals.set x.toNat s }
 | some i=>{ w with YR:=w.YR.modify i λa=>{ a with vars:=a.vars.set x.toNat s } }
def ZO (p:YU) (b:Nat) (o:Int):Int:=if o<0\/(o=b/\qV p b=2) then 4 else if o=b then 2 else 3
def jM (p:YU) (w:YY) (at':Nat) (x:Int):YY×Y6 :=
 match w.get (w.loc p at' x) x with
 | some v=>(w,v)
 | none =>
  if ZO p (w.YS at') (qh p (w.YS at') x)=4 then
   match w.get none x with
   | some v=>(w,v)
   | none=>if x=7 then (w,(1,70)) else ({ w with en:=4 },(0,0))
  else ({ w with en:=ZO p (w.YS at') (qh p (w.YS at') x) },(0,0))
def qf (p:YU) (w:YY) (at':Nat):List Int->YY×List Y6
 | []=>(w,[])
 | x::l=>if w.en≠0 then (w,[]) else
  ((qf p (jM p w at' x).1 at' l).1,(jM p w at' x).2::(qf p (jM p w at' x).1 at' l).2)
def b5 (p:YU) (w:YY) (at':Nat) (x:Int) (v:Y6):YY:=w.set (w.loc p at' x) x (some v)
def fb (p:YU) (w:YY) (at':Nat) (x:Int):YY:=match w.get (w.loc p at' x) x with
 | some _=>w.set (w.loc p at' x) x none
 | none=>{ w with en:=ZO p (w.YS at') (qh p (w.YS at') x) }
def a7 (w:YY) (a b:Y6):YY×Y6:=if a.1≠1\/b.1≠1 then ({ w with en:=5 },(0,0)) else (w,(1,(a.2+b.2).tmod 1000))
def wj (w:YY) (v:Y6) (x:Int):YY×Y6:=if v.1≠3 then ({ w with en:=5 },(0,0)) else
 match w.YP[v.2.toNat]? with
 | some c=>match c[x.toNat]? with
  | some (some u)=>(w,u)
  | _=>({ w with en:=7 },(0,0))
 | none=>({ w with en:=7 },(0,0))
def ef (ps:List Int) (vs:List Y6):List Yj:=(ps.zip vs).foldl (λl q=>l.set q.1.toNat (some q.2)) qc
def qk (p:YU) (w:YY) (b up:Nat) (vs:List Y6):YY :=
 { w with YR:=w.YR++[⟨b,up,ef (match p[b]? with|some k=>k.params|none=>[]) vs⟩],stack:=w.stack++[w.YR.length] }
def xA (w:YY):YY:=if w.en=0 then { w with stack:=w.stack.dropLast } else w
def fH (p:YU) (b:Nat):Nat:=match p[b]? with|some k=>k.params.length|none=>0
section
variable (p:YU) (R:YY->Nat->YY×Y6)
def qx (w:YY) (b up:Nat) (vs:List Y6):YY×Y6:=(xA (R (qk p w b up vs) w.YR.length).1,(R (qk p w b up vs) w.YR.length).2)
def aQ (w:YY) (f:Y6) (vs:List Y6):YY×Y6:=if f.1≠2 then ({ w with en:=5 },(0,0)) else
 match w.YT[f.2.toNat]? with
 | some g=>if fH p g.1≠vs.length then ({ w with en:=6 },(0,0)) else qx p R w g.1 g.2 vs
 | none=>(w,(0,0))
def wE (w:YY) (b at':Nat):YY×Y6 :=
 if (qx p R w b at' []).1.en≠0 then ((qx p R w b at' []).1,(0,0)) else
 ({ (qx p R w b at' []).1 with YP:=(qx p R w b at' []).1.YP++[(qx p R w b at' []).1.vars (some w.YR.length)] },(3,((qx p R w b at' []).1.YP.length:Int)))
def yL (w:YY) (at':Nat) (s:Y5) (vs:List Y6):YY×Y6 :=
 if s.kind=0 then (w,(1,s.a)) else if s.kind=2 then a7 w (vs.getD 0 (0,0)) (vs.getD 1 (0,0))
 else if s.kind=3 then ({ w with YT:=w.YT++[(s.a.toNat,at')] },(2,(w.YT.length:Int)))
 else if s.kind=4 then wE p R w s.a.toNat at' else if s.kind=5 then aQ p R w (vs.getD 0 (0,0)) vs.tail
 else if s.kind=6 then wj w (vs.getD 0 (0,0)) s.b else (w,vs.getD 0 (0,0))
def jc (w:YY) (at':Nat) (s:Y5):YY×Y6 :=
 if (qf p w at' s.reads).1.en≠0 then ((qf p w at' s.reads).1,(0,0)) else yL p R (qf p w at' s.reads).1 at' s (qf p w at' s.reads).2
def lh (w:YY) (at':Nat) (s:Y5):YY :=
 if s.kind=9\/s.kind=10 then w else if s.kind=11 then fb p w at' s.to else
 if (jc p R w at' s).1.en≠0 then (jc p R w at' s).1
 else if s.kind=7 then { (jc p R w at' s).1 with out:=(jc p R w at' s).1.out++[shown (jc p R w at' s).2] }
 else b5 p (jc p R w at' s).1 at' s.to (jc p R w at' s).2
def zF (w:YY) (at' i:Nat):YY:={ w with left:=w.left - 1,trace:=w.trace++[(w.YS at',i)] }
def uA (at':Nat):YY->Nat->List Y5->YY×Y6
 | w,_,[]=>(w,(0,0))
 | w,i,s::l =>
  if w.left=0 then ({ w with en:=1 },(0,0)) else
  if s.kind=8 then jM p (zF w at' i) at' s.a else
  if (lh p R (zF w at' i) at' s).en≠0 then (lh p R (zF w at' i) at' s,(0,0)) else uA at' (lh p R (zF w at' i) at' s) (i+1) l
end
def jv (p:YU):Nat->YY->Nat->YY×Y6
 | 0,w,_=>(w,(0,0))
 | n+1,w,at'=>uA p (jv p n) at' w 0 (match p[w.YS at']? with|some k=>k.body|none=>[])
def zg (fuel:Nat):YY:=⟨[⟨0,0,qc⟩],[0],qc,[],[],[],[],0,fuel⟩
def ji (p:YU) (fuel:Nat):YY:=(jv p 151 (zg fuel) 0).1
structure ZQ (nf nc:Nat) (v:Y6):Prop where
 num:0<=v.2/\v.2<=1000
 fn:v.1=2->v.2<nf
 cls:v.1=3->v.2<nc
theorem ZQ.zero {nf nc:Nat}:ZQ nf nc (0,0):=⟨qB,qB,qB⟩
theorem ZQ.mono {nf nc nf' nc':Nat} {v:Y6} (h:ZQ nf nc v) (h1:nf<=nf') (h2:nc<=nc'):ZQ nf' nc' v :=
 ⟨h.num,λe=>by have:=h.fn e;omega,λe=>by have:=h.cls e;omega⟩
def SOk (nf nc:Nat) (l:List Yj):Prop:=l.length=8/\∀ v,some v∈l->ZQ nf nc v
theorem SOk.mono {nf nc nf' nc':Nat} {l:List Yj} (h:SOk nf nc l) (h1:nf<=nf') (h2:nc<=nc'):SOk nf' nc' l:=⟨h.1,λv hv=>(h.2 v hv).mono h1 h2⟩
theorem SOk.none {nf nc:Nat}:SOk nf nc qc:=⟨qB,λv hv=>cp⟩
theorem SOk.set {nf nc:Nat} {l:List Yj} (h:SOk nf nc l) {i:Nat} {s:Yj} (hs:∀ v,s=some v->ZQ nf nc v):SOk nf nc (l.set i s):=by
 grind[SOk]
theorem SOk.get {nf nc:Nat} {l:List Yj} (h:SOk nf nc l) {i:Nat} {v:Y6} (hv:l[i]?=some (some v)):ZQ nf nc v:=h.2 v (gM hv)
def jG (p:YU) (YR:List Act) (b i:Nat):Prop:=∃ c k,YR[i]?=some c/\p[b]?=some k/\k.parent=c.YS/\0<b
structure Yx (p:YU) (w:YY):Prop where
 a0:∃ a,w.YR[0]?=some a/\a.YS=0
 vars:∀ (i:Nat) a,w.YR[i]?=some a->SOk w.YT.length w.YP.length a.vars
 Zs:∀ (i:Nat) a,w.YR[i]?=some a->a.YS<p.length
 up:∀ (i:Nat) a,w.YR[i]?=some a->0<i->a.up<i/\jG p w.YR a.YS a.up
 Yd:SOk w.YT.length w.YP.length w.globals
 YT:∀ (i:Nat) g,w.YT[i]?=some g->jG p w.YR g.1 g.2
 cls:∀ c∈w.YP,SOk w.YT.length w.YP.length c
 Z7:∀ i∈w.stack,i<w.YR.length
 Zd:w.YR.length+2 * w.left<=1000
 Zi:w.YT.length+2 * w.left<=1000
 qAK:w.YP.length+2 * w.left<=1000
 qAJ:w.out.length+2 * w.left<=1000
 ntr:w.trace.length+w.left<=1000
 qAk:w.stack.length+2 * w.left<=1000
 qAu:∀ v∈w.out,-3<=v/\v<=1000
 enr:0<=w.en/\w.en<=7
theorem Yx.en {p:YU} {w:YY} (h:Yx p w) {e:Int} (he:0<=e/\e<=7):Yx p { w with en:=e }:=⟨h.a0,h.vars,h.Zs,h.up,h.Yd,h.YT,h.cls,h.Z7,h.Zd,h.Zi,h.qAK,h.qAJ,h.ntr,h.qAk,h.qAu,he⟩
structure Grow (s:Nat) (w w':YY):Prop where
 YR:∀ (i:Nat) a,w.YR[i]?=some a->∃ b,w'.YR[i]?=some b/\b.YS=a.YS/\b.up=a.up
 YT:w.YT <+: w'.YT
 cls:w.YP <+: w'.YP
 out:w.out <+: w'.out
 tr:w.trace <+: w'.trace
 left:w'.left<=w.left
 Zd:w'.YR.length+2 * w'.left<=w.YR.length+2 * w.left+s
 Zi:w'.YT.length+2 * w'.left<=w.YT.length+2 * w.left+s
 qAK:w'.YP.length+2 * w'.left<=w.YP.length+2 * w.left+s
 qAJ:w'.out.length+2 * w'.left<=w.out.length+2 * w.left+s
 ntr:w'.trace.length+w'.left=w.trace.length+w.left
theorem Grow.refl (s:Nat) (w:YY):Grow s w w:=⟨λ_ a h=>⟨a,h,rfl,rfl⟩,kE _,kE _,kE _,kE _,qp _,qA,qA,qA,qA,rfl⟩
theorem Grow.trans {s t u:Nat} {w w' w'':YY} (h:Grow s w w') (h':Grow t w' w'') (hu:s+t<=u):Grow u w w'':=by
 refine⟨λi a e=>?_,h.YT.trans h'.YT,h.cls.trans h'.cls,h.out.trans h'.out,h.tr.trans h'.tr,uS h'.left h.left,?_,?_,?_,?_,h'.ntr.trans h.ntr⟩
 .obtain⟨b,e1,e2,e3⟩:=h.YR i a e;obtain⟨c,f1,f2,f3⟩:=h'.YR i b e1
  simp_all
 .have:=h.Zd;have:=h'.Zd;omega
 .have:=h.Zi;have:=h'.Zi;omega
 .have:=h.qAK;have:=h'.qAK;omega
 .have:=h.qAJ;have:=h'.qAJ;omega
theorem Grow.mono {s t:Nat} {w w':YY} (h:Grow s w w') (ht:s<=t):Grow t w w':=h.trans (Grow.refl 0 w') qA
theorem Grow.Zl {s:Nat} {w w':YY} (h:Grow s w w'):w.YR.length<=w'.YR.length:=by
 cases hn:w.YR.length with
 | zero=>omega
 | succ n =>
  obtain⟨a,ha⟩:∃ a,w.YR[n]?=some a:=⟨_,gE qA⟩;obtain⟨b,hb,_⟩:=h.YR n a ha
  grind
theorem Grow.qB9 {s:Nat} {w w':YY} (h:Grow s w w'):w.YT.length<=w'.YT.length:=h.YT.length_le
theorem Grow.en {s:Nat} {w w':YY} (h:Grow s w w') {e:Int}:Grow s w { w' with en:=e }:=⟨h.YR,h.YT,h.cls,h.out,h.tr,h.left,h.Zd,h.Zi,h.qAK,h.qAJ,h.ntr⟩
theorem Grow.YS {s:Nat} {w w':YY} (h:Grow s w w') {i:Nat} {a:Act} (hi:w.YR[i]?=some a):w'.YS i=w.YS i:=by
 obtain⟨b,hb,e,_⟩:=h.YR i a hi
 grind[YY.YS]
theorem jG.grow {p:YU} {s b i:Nat} {w w':YY} (h:jG p w.YR b i) (hg:Grow s w w'):jG p w'.YR b i:=by
 obtain⟨c,k,h1,h2,h3,h4⟩:=h;obtain⟨d,e1,e2,_⟩:=hg.YR i c h1
 grind[jG]
theorem jq {w:YY} {i:Nat} {a:Act} (h:w.YR[i]?=some a):w.YS i=a.YS:=by grind[YY.YS]
theorem uv {p:YU} {w:YY} {o a:Nat} {c:Act} (hh:zD p) (h:Yx p w) (hc:w.YR[a]?=some c) (hne:c.YS≠o) (ho:0<o) (hi:qy p (w.YS a) o=true):0<a/\c.up<a/\qy p (w.YS c.up) o=true:=by
 rw [jq hc] at hi
 have h0:0<a:=by
  grind[Yx.a0,zm]
 obtain⟨hu,q,k,e1,e2,e3,e4⟩:=h.up _ c hc h0
 grind[zm,jq,zZ]
theorem xC {p:YU} {w:YY} {o:Nat} (hh:zD p) (h:Yx p w) (ho:0<o):∀ (n m a:Nat),a<=n->a<=m->a<w.YR.length->qy p (w.YS a) o=true->ua w.YR o n a=ua w.YR o m a
 | 0,0,_,_,_,_,_=>rfl
 | 0,m+1,a,h1,_,hl,hi=>by
  obtain rfl:a=0:=qA;obtain⟨c,hc⟩:=gX hl;by_cases e:c.YS=o
  .grind[ua]
  .have:=(uv hh h hc e ho hi).1;omega
 | n+1,0,a,_,h2,hl,hi=>by
  obtain rfl:a=0:=qA;obtain⟨c,hc⟩:=gX hl;by_cases e:c.YS=o
  .grind[ua]
  .have:=(uv hh h hc e ho hi).1;omega
 | n+1,m+1,a,h1,h2,hl,hi=>by
  obtain⟨c,hc⟩:=gX hl;by_cases e:c.YS=o
  .grind[ua]
  .obtain⟨e1,e2,e3⟩:=uv hh h hc e ho hi;simp only [ua,hc,e,if_false];exact xC hh h ho n m c.up qA qA qA e3
theorem jF {YR:List Act} {o a:Nat} {c:Act} (hc:YR[a]?=some c) (e:c.YS=o):∀ n,ua YR o n a=a
 | 0=>rfl
 | n+1=>by grind[ua]
theorem fR {p:YU} {w:YY} {o a:Nat} {c:Act} (hh:zD p) (h:Yx p w) (ho:0<o) (hc:w.YR[a]?=some c) (hne:c.YS≠o) (hi:qy p (w.YS a) o=true):ua w.YR o a a=ua w.YR o c.up c.up:=by
 obtain⟨e1,e2,e3⟩:=uv hh h hc hne ho hi;have hl:=(gS hc).1;obtain⟨b,rfl⟩:∃ b,a=b+1:=⟨a - 1,qA⟩
 grind[ua,xC]
theorem ny {p:YU} {w:YY} {o:Nat} (hh:zD p) (h:Yx p w) (ho:0<o):∀ (n a:Nat),a<=n->a<w.YR.length->qy p (w.YS a) o=true->∃ c,w.YR[ua w.YR o a a]?=some c/\c.YS=o
 | n,a,h1,hl,hi=>by
  obtain⟨c,hc⟩:=gX hl;by_cases e:c.YS=o
  .grind[jF]
  .obtain⟨e1,e2,e3⟩:=uv hh h hc e ho hi;rw [fR hh h ho hc e hi]
   match n with
   | 0=>omega
   | n+1=>exact ny hh h ho n c.up qA qA e3
theorem AB {p:YU} {x:Int} {o:Nat} (hh:zD p) (ho:0<o):∀ (n:Nat) (j:Int),zX p x n j=o->qy p j o=true
 := by intro x0;induction x0<;>grind[zX,ow,zm,zZ]
theorem Cb {p:YU} {b o:Nat} {x:Int} (hh:zD p) (ho:0<o) (h:qh p b x=o):qy p b o=true:=by
 grind[zm,qh,outer,zZ,AB,zD]
theorem nj {p:YU} {w:YY} {a:Nat} {x:Int} (hh:zD p) (h:Yx p w) (ha:a<w.YR.length) :
  (qh p (w.YS a) x=-1/\w.loc p a x=none)\/∃ (o i:Nat) (c:Act),0<o/\qh p (w.YS a) x=o/\w.loc p a x=some i/\i=ua w.YR o a a/\w.YR[i]?=some c/\c.YS=o/\qy p (w.YS a) o=true:=by
 rcases uo (p:=p) (c:=w.YS a) (x:=x) with e|e
 .grind[YY.loc]
 .obtain⟨o,ho⟩:∃ o:Nat,qh p (w.YS a) x=o:=⟨(qh p (w.YS a) x).toNat,qA⟩;have ho0:0<o:=qA;have hi:=Cb hh ho0 ho;obtain⟨c,hc,hb⟩:=ny hh h ho0 a a (qp _) ha hi
  grind[YY.loc]
theorem Yx.qCH {p:YU} {w:YY} (h:Yx p w) {l:Option Nat} (hl:∀ i,l=some i->i<w.YR.length):SOk w.YT.length w.YP.length (w.vars l):=by
 cases l with
 | none=>exact h.Yd
 | some i =>
  obtain⟨c,hc⟩:∃ c,w.YR[i]?=some c:=⟨_,gE (hl i rfl)⟩;simp only [YY.vars,hc];exact h.vars i c hc
theorem VI {w:YY} {l:Option Nat} {x:Int} {v:Y6} (h:w.get l x=some v):(w.vars l)[x.toNat]?=some (some v):=by
 grind[YY.get]
theorem Yx.get {p:YU} {w:YY} (h:Yx p w) {l:Option Nat} {x:Int} {v:Y6} (hv:w.get l x=some v):ZQ w.YT.length w.YP.length v:=by
 have hv:=VI hv
 cases l with
 | none=>exact h.Yd.get hv
 | some i =>
  simp only [YY.vars] at hv
  split at hv
  .rename_i c hc;exact (h.vars i c hc).get hv
  simp_all
theorem ij {w:YY} {l:Option Nat} {x:Int} {s:Yj} {i:Nat} {a:Act} (h:(w.set l x s).YR[i]?=some a):∃ b,w.YR[i]?=some b/\b.YS=a.YS/\b.up=a.up/\(a.vars=b.vars\/a.vars=b.vars.set x.toNat s):=by
 cases l<;>grind[YY.set]
theorem QS {w:YY} {l:Option Nat} {x:Int} {s:Yj} {i:Nat} {a:Act} (h:w.YR[i]?=some a):∃ b,(w.set l x s).YR[i]?=some b/\b.YS=a.YS/\b.up=a.up:=by
 cases l<;>grind[YY.set]
theorem gR {w:YY} {l:Option Nat} {x:Int} {s:Yj}:(w.set l x s).YR.length=w.YR.length:=by
 cases l <;> simp [YY.set]
theorem ag {w:YY} {l:Option Nat} {x:Int} {s:Yj}:(w.set l x s).YT=w.YT/\(w.set l x s).YP=w.YP/\(w.set l x s).out=w.out/\(w.set l x s).trace=w.trace/\(w.set l x s).left=w.left/\(w.set l x s).stack=w.stack/\(w.set l x s).en=w.en:=by
 cases l <;> exact⟨rfl,rfl,rfl,rfl,rfl,rfl,rfl⟩
theorem xb {w:YY} {l:Option Nat} {x:Int} {s:Yj}:Grow 0 w (w.set l x s):=by
 obtain⟨e1,e2,e3,e4,e5,e6,_⟩:=ag (w:=w) (l:=l) (x:=x) (s:=s);refine⟨λi a h=>QS h,qH,qH,qH,qH,qA,by grind[gR],qH,qH,qH,by rw [e5,e4]⟩
theorem Yx.set {p:YU} {w:YY} (h:Yx p w) {l:Option Nat} {x:Int} {s:Yj} (hs:∀ v,s=some v->ZQ w.YT.length w.YP.length v):Yx p (w.set l x s):=by
 obtain⟨e1,e2,e3,e4,e5,e6,e7⟩:=ag (w:=w) (l:=l) (x:=x) (s:=s);have hg:Grow 0 w (w.set l x s):=xb;refine⟨?_,λi a ha=>?_,λi a ha=>?_,λi a ha hi=>?_,?_,λi g hi=>?_,λc hc=>?_,λi hi=>?_,by rw [gR,e5];exact h.Zd,by rw [e1,e5];exact h.Zi,by rw [e2,e5];exact h.qAK,by rw [e3,e5];exact h.qAJ,by rw [e4,e5];exact h.ntr,by rw [e6,e5];exact h.qAk,by rw [e3];exact h.qAu,by rw [e7];exact h.enr⟩
 .grind[a0,gR,ij]
 .obtain⟨b,f1,f2,f3,f4⟩:=ij ha;rw [e1,e2];rcases f4 with f4|f4
  .rw [f4];exact h.vars i b f1
  .rw [f4];exact (h.vars i b f1).set hs
 .obtain⟨b,f1,f2,f3,f4⟩:=ij ha;rw [<- f2];exact h.Zs i b f1
 .obtain⟨b,f1,f2,f3,f4⟩:=ij ha;obtain⟨g1,g2⟩:=h.up i b f1 hi;rw [<- f3,<- f2];exact⟨g1,g2.grow hg⟩
 .rw [e1,e2]
  cases l with
  | none=>exact h.Yd.set hs
  | some j=>exact h.Yd
 .rw [e1] at hi;exact (h.YT i g hi).grow hg
 .rw [e2] at hc;rw [e1,e2];exact h.cls c hc
 .rw [e6] at hi;rw [gR];exact h.Z7 i hi
structure Zr (p:YU) (s:Nat) (w w':YY):Prop where
 ok:Yx p w'
 grow:Grow s w w'
 Z7:w'.en=0->w'.stack=w.stack
theorem Zr.refl {p:YU} {s:Nat} {w:YY} (h:Yx p w):Zr p s w w:=⟨h,.refl s w,λ_=>rfl⟩
theorem Zr.en {p:YU} {s:Nat} {w w':YY} (h:Zr p s w w') {e:Int} (he:e≠0) (hr:0<=e/\e<=7:=by decide):Zr p s w { w' with en:=e }:=⟨h.ok.en hr,h.grow.en,λh=>absurd h he⟩
theorem Zr.trans {p:YU} {s t u:Nat} {w w' w'':YY} (h:Zr p s w w') (h':Zr p t w' w'') (h0:w''.en=0->w'.en=0) (hu:s+t<=u):Zr p u w w'':=⟨h'.ok,h.grow.trans h'.grow hu,λe=>(h'.Z7 e).trans (h.Z7 (h0 e))⟩
theorem Zr.mono {p:YU} {s t:Nat} {w w':YY} (h:Zr p s w w') (hst:s<=t):Zr p t w w':=⟨h.ok,h.grow.mono hst,h.Z7⟩
theorem go {p:YU} {b:Nat} {o:Int}:ZO p b o≠0:=by grind[ZO]
theorem HV {p:YU} {b:Nat} {o:Int}:0<=ZO p b o/\ZO p b o<=7:=by grind[ZO]
theorem AM {p:YU} {w:YY} {a:Nat} {x:Int} (h:Yx p w):Zr p 0 w (jM p w a x).1/\ZQ w.YT.length w.YP.length (jM p w a x).2/\((jM p w a x).1=w\/∃ e,e≠0/\(jM p w a x).1={ w with en:=e }):=by
 unfold jM
 split
 .rename_i v hv;exact⟨.refl h,h.get hv,.inl rfl⟩
 .split
  .split
   .rename_i v hv;exact⟨.refl h,h.get hv,.inl rfl⟩
   .split
    .exact⟨.refl h,⟨qB,qB,qB⟩,.inl rfl⟩
    .exact⟨(Zr.refl h).en qL,.zero,.inr ⟨_,qL,rfl⟩⟩
  .exact⟨(Zr.refl h).en go HV,.zero,.inr ⟨_,go,rfl⟩⟩
theorem kx {p:YU} {a:Nat}:∀ {l:List Int} {w:YY},Yx p w->Zr p 0 w (qf p w a l).1/\(∀ v∈(qf p w a l).2,ZQ w.YT.length w.YP.length v)/\((qf p w a l).1=w\/∃ e,e≠0/\(qf p w a l).1={ w with en:=e })/\((qf p w a l).1.en=0->(qf p w a l).2.length=l.length)/\(qf p w a l).2.length<=l.length
 | [],w,h=>⟨.refl h,λv hv=>by grind[qf],.inl rfl,λ_=>rfl,qp _⟩
 | x::l,w,h=>by
  simp only [qf]
  split
  .grind[Zr.refl]
  .rename_i he;obtain⟨h1,h2,h3⟩:=AM (a:=a) (x:=x) h;rcases h3 with h3|⟨e,he,h3⟩
   .rw [h3];obtain⟨i1,i2,i3,i4,i5⟩:=kx (a:=a) (l:=l) h
    simp_all
   .rw [h3]
    have hen:qf p { w with en:=e } a l=({ w with en:=e },[]):=by
     cases l<;>grind[qf]
    simp_all
theorem K4 {p:YU} {w:YY} {a:Nat} {x:Int} {v:Y6} (h:Yx p w) (hv:ZQ w.YT.length w.YP.length v):Zr p 0 w (b5 p w a x v) :=
 ⟨h.set λu e=>qH,xb,λ_=>ag.2.2.2.2.2.1⟩
theorem O8 {p:YU} {w:YY} {a:Nat} {x:Int} (h:Yx p w):Zr p 0 w (fb p w a x):=by
 unfold fb
 split
 .exact⟨h.set λu e=>uN,xb,λ_=>ag.2.2.2.2.2.1⟩
 .exact (Zr.refl h).en go HV
theorem PA {p:YU} {w:YY} {a b:Y6} (h:Yx p w) (ha:ZQ w.YT.length w.YP.length a) (hb:ZQ w.YT.length w.YP.length b):Zr p 0 w (a7 w a b).1/\ZQ (a7 w a b).1.YT.length (a7 w a b).1.YP.length (a7 w a b).2:=by
 unfold a7
 split
 .exact⟨(Zr.refl h).en qL,.zero⟩
 .refine⟨.refl h,⟨?_,qB,qB⟩⟩;have:=ha.num;have:=hb.num
  grind
theorem QO {p:YU} {w:YY} {v:Y6} {x:Int} (h:Yx p w):Zr p 0 w (wj w v x).1/\ZQ (wj w v x).1.YT.length (wj w v x).1.YP.length (wj w v x).2:=by
 unfold wj
 split
 .exact⟨(Zr.refl h).en qL,.zero⟩
 .split
  .rename_i c hc
   split
   .rename_i u hu;exact⟨.refl h,(h.cls c (gM hc)).get hu⟩
   .exact⟨(Zr.refl h).en qL,.zero⟩
  .exact⟨(Zr.refl h).en qL,.zero⟩
structure Room (k:Nat) (w:YY):Prop where
 YR:w.YR.length+k+2 * w.left<=1000
 YT:w.YT.length+k+2 * w.left<=1000
 cls:w.YP.length+k+2 * w.left<=1000
 out:w.out.length+k+2 * w.left<=1000
 Z7:w.stack.length+k+2 * w.left<=1000
theorem Room.mono {k k':Nat} {w:YY} (h:Room k w) (hk:k'<=k):Room k' w:=by
 obtain⟨h1,h2,h3,h4,h5⟩:=h;constructor<;>grind
theorem Zr.room {p:YU} {s k k':Nat} {w w':YY} (h:Zr p s w w') (hr:Room k w) (h0:w'.en=0) (hk:k'+s<=k):Room k' w':=by
 obtain⟨h1,h2,h3,h4,h5⟩:=hr;have g:=h.grow;have e:=h.Z7 h0;have:=g.left;exact⟨by have:=g.Zd;omega,by have:=g.Zi;omega,by have:=g.qAK;omega,by have:=g.qAJ;omega,qe⟩
def bW (p:YU) (n:Nat) (R:YY->Nat->YY×Y6):Prop:=∀ (w:YY) (a:Nat),Yx p w->w.left<n->a<w.YR.length->w.en=0->Zr p 0 w (R w a).1/\ZQ (R w a).1.YT.length (R w a).1.YP.length (R w a).2
theorem Hx {nf nc:Nat} {ps:List Int} {vs:List Y6} (h:∀ v∈vs,ZQ nf nc v):SOk nf nc (ef ps vs):=by
 unfold ef
 have key:∀ (l:List (Int×Y6)) (s:List Yj),(∀ q∈l,ZQ nf nc q.2)->SOk nf nc s->SOk nf nc (l.foldl (λl q=>l.set q.1.toNat (some q.2)) s):=by
  intro l
  induction l with
  | nil=>simp
  | cons q l ih=>exact λs hl hs=>ih _ (λq' h'=>hl q' (mf _ h')) (hs.set λv e=>qH)
 exact key _ _ (λq hq=>h q.2 (List.of_mem_zip hq).2) .none
theorem kC {p:YU} {w:YY} {b up:Nat} {vs:List Y6} (h:Yx p w) (hm:jG p w.YR b up) (hv:∀ v∈vs,ZQ w.YT.length w.YP.length v) (hr:Room 1 w):Yx p (qk p w b up vs)/\Grow 1 w (qk p w b up vs):=by
 have hg:Grow 1 w (qk p w b up vs):=by
  constructor<;>grind[qk]
 refine⟨?_,hg⟩;have hmade:=hm.grow hg;obtain⟨c,k,m1,m2,m3,m4⟩:=hm;have hul:=(gS m1).1;have Ym:=(gS m2).1
 have split':∀ (i:Nat) (a:Act),(qk p w b up vs).YR[i]?=some a->w.YR[i]?=some a\/(i=w.YR.length/\a.YS=b/\a.up=up/\SOk w.YT.length w.YP.length a.vars):=by
  grind[qk,Hx]
 refine⟨?_,λi a ha=>?_,λi a ha=>?_,λi a ha hi=>?_,h.Yd,λi g hg'=>(h.YT i g hg').grow hg,h.cls,λi hi=>?_,by simpa [qk] using hr.YR,h.Zi,h.qAK,h.qAJ,h.ntr,by simpa [qk] using hr.Z7,h.qAu,h.enr⟩
 .obtain⟨a,ha,hb⟩:=h.a0;obtain⟨b,e1,e2,_⟩:=hg.YR 0 a ha
  simp_all
 .rcases split' i a ha with e|⟨_,_,_,e⟩
  .exact h.vars i a e
  .exact e
 .rcases split' i a ha with e|⟨_,e,_,_⟩
  .exact h.Zs i a e
  omega
 .rcases split' i a ha with e|⟨e1,e2,e3,_⟩
  .obtain⟨x1,x2⟩:=h.up i a e hi;exact⟨x1,x2.grow hg⟩
  simp_all
 .simp only [qk,cK,kg] at hi;simp only [qk,wk,bS];rcases hi with e|e
  .have:=h.Z7 i e;omega
  .omega
theorem ph {p:YU} {n:Nat} {R:YY->Nat->YY×Y6} (hR:bW p n R) {w:YY} {b up:Nat} {vs:List Y6} (h:Yx p w) (hn:w.left<n) (h0:w.en=0) (hm:jG p w.YR b up) (hv:∀ v∈vs,ZQ w.YT.length w.YP.length v) (hr:Room 1 w) :
  Zr p 1 w (qx p R w b up vs).1/\ZQ (qx p R w b up vs).1.YT.length (qx p R w b up vs).1.YP.length (qx p R w b up vs).2:=by
 obtain⟨h1,h2⟩:=kC h hm hv hr;obtain⟨⟨r1,r2,r3⟩,r4⟩:=hR (qk p w b up vs) w.YR.length h1 hn gF h0;unfold qx xA
 split
 .rename_i he;refine⟨⟨⟨r1.a0,r1.vars,r1.Zs,r1.up,r1.Yd,r1.YT,r1.cls,λi hi=>r1.Z7 i (List.dropLast_subset _ hi),r1.Zd,r1.Zi,r1.qAK,r1.qAJ,r1.ntr,?_,r1.qAu,r1.enr⟩,?_,λ_=>?_⟩,r4⟩
  .have:=r1.qAk
   grind
  .have hg:=h2.trans r2 (qp _);exact⟨hg.YR,hg.YT,hg.cls,hg.out,hg.tr,hg.left,hg.Zd,hg.Zi,hg.qAK,hg.qAJ,hg.ntr⟩
  grind[qk]
 .rename_i he;exact⟨⟨r1,h2.trans r2 (qp _),λe=>absurd e he⟩,r4⟩
theorem QE {p:YU} {n:Nat} {R:YY->Nat->YY×Y6} (hR:bW p n R) {w:YY} {f:Y6} {vs:List Y6} (h:Yx p w) (hn:w.left<n) (h0:w.en=0) (hv:∀ v∈vs,ZQ w.YT.length w.YP.length v) (hr:Room 1 w) :
  Zr p 1 w (aQ p R w f vs).1/\ZQ (aQ p R w f vs).1.YT.length (aQ p R w f vs).1.YP.length (aQ p R w f vs).2:=by
 unfold aQ
 split
 .exact⟨(Zr.refl h).en qL,.zero⟩
 .split
  .rename_i g hg
   split
   .exact⟨(Zr.refl h).en qL,.zero⟩
   .exact ph hR h hn h0 (h.YT _ g hg) hv hr
  grind[Zr.refl,ZQ.zero]
theorem Yx.qC8 {p:YU} {w:YY} (h:Yx p w) {c:List Yj} (hc:SOk w.YT.length w.YP.length c) (hl:w.YP.length+1+2 * w.left<=1000):Yx p { w with YP:=w.YP++[c] }:=by
 have hm:∀ {l:List Yj},SOk w.YT.length w.YP.length l->SOk w.YT.length (w.YP++[c]).length l:=λh=>h.mono (qp _) qB;refine⟨h.a0,λi a ha=>hm (h.vars i a ha),h.Zs,h.up,hm h.Yd,h.YT,λd hd=>?_,h.Z7,h.Zd,h.Zi,qH,h.qAJ,h.ntr,h.qAk,h.qAu,h.enr⟩;rcases cK.1 hd with e|e
 .exact hm (h.cls d e)
 simp_all
theorem Yx.qC7 {p:YU} {w:YY} (h:Yx p w) {b i:Nat} (hm:jG p w.YR b i) (hl:w.YT.length+1+2 * w.left<=1000):Yx p { w with YT:=w.YT++[(b,i)] }:=by
 have hs:∀ {l:List Yj},SOk w.YT.length w.YP.length l->SOk (w.YT++[(b,i)]).length w.YP.length l:=λh=>h.mono qB (qp _);refine⟨h.a0,λi a ha=>hs (h.vars i a ha),h.Zs,h.up,hs h.Yd,λj g hg=>?_,λc hc=>hs (h.cls c hc),h.Z7,h.Zd,qH,h.qAK,h.qAJ,h.ntr,h.qAk,h.qAu,h.enr⟩;rcases cK.1 (gM hg) with e|e
 .obtain⟨j',hj'⟩:=ab e;exact h.YT j' g hj'
 simp_all
theorem Mm {p:YU} {n:Nat} {R:YY->Nat->YY×Y6} (hR:bW p n R) {w:YY} {b a:Nat} (h:Yx p w) (hn:w.left<n) (h0:w.en=0) (hm:jG p w.YR b a) (hr:Room 2 w) :
  Zr p 2 w (wE p R w b a).1/\ZQ (wE p R w b a).1.YT.length (wE p R w b a).1.YP.length (wE p R w b a).2:=by
 obtain⟨⟨h1,h2,h3⟩,_⟩:=ph (vs:=[]) hR h hn h0 hm (λv hv=>cp) (hr.mono qA)
 have hlen:w.YR.length<(qx p R w b a []).1.YR.length:=by
  obtain⟨g1,g2⟩:=kC (vs:=[]) h hm (λv hv=>cp) (hr.mono qA);obtain⟨⟨_,r2,_⟩,_⟩:=hR (qk p w b a []) w.YR.length g1 hn gF h0;have:=r2.Zl
  grind[qx,xA,qk]
 unfold wE
 split
 .rename_i he;exact⟨⟨h1,h2.mono qA,h3⟩,.zero⟩
 .rename_i he;have he':(qx p R w b a []).1.en=0:=qA;have hr1:=(Zr.mk h1 h2 h3).room hr he' (k':=1) qA;have hok:=h1.qC8 (c:=(qx p R w b a []).1.vars (some w.YR.length)) (h1.qCH λi e=>qH) hr1.cls;refine⟨⟨hok,?_,λe=>h3 e⟩,?_⟩
  .refine⟨h2.YR,h2.YT,h2.cls.trans (N9 _ _),h2.out,h2.tr,h2.left,by have:=h2.Zd;grind,by have:=h2.Zi;grind,by have:=h2.qAK;grind,by have:=h2.qAJ;grind,h2.ntr⟩
  .have:=hr1.cls;constructor<;>grind
theorem zP.made {p:YU} {b:Nat} {k:Y4} {s:Y5} (h:zP p b k s=true) (hk:s.kind=3\/s.kind=4):∃ q,p[s.a.toNat]?=some q/\q.parent=b/\0<s.a/\q.kind=s.kind - 2:=by
 have key:∀ d,wQ p b s.a d=true->∃ q,p[s.a.toNat]?=some q/\q.parent=b/\0<s.a/\q.kind=d:=by
  grind[wQ]
 rcases hk with e|e<;>simp_all[zP]
theorem zP.num {p:YU} {b:Nat} {k:Y4} {s:Y5} (h:zP p b k s=true) (hk:s.kind=0):0<=s.a/\s.a<=99:=by
 grind[zP]
theorem A1 {nf nc:Nat} {vs:List Y6} (h:∀ v∈vs,ZQ nf nc v) (i:Nat):ZQ nf nc (vs.getD i (0,0)):=by
 grind[ZQ.zero]
theorem xQ {p:YU} {n:Nat} {R:YY->Nat->YY×Y6} (hR:bW p n R) {w:YY} {a:Nat} {k:Y4} {s:Y5} {vs:List Y6} (h:Yx p w) (hn:w.left<n) (h0:w.en=0) (ha:a<w.YR.length) (hs:zP p (w.YS a) k s=true) (hv:∀ v∈vs,ZQ w.YT.length w.YP.length v) (hr:Room 2 w) :
  Zr p 2 w (yL p R w a s vs).1/\ZQ (yL p R w a s vs).1.YT.length (yL p R w a s vs).1.YP.length (yL p R w a s vs).2:=by
 obtain⟨c,hc⟩:=gX ha
 have hmade:s.kind=3\/s.kind=4->jG p w.YR s.a.toNat a:=λe=>by
  obtain⟨q,h1,h2,h3,_⟩:=zP.made hs e;exact⟨c,q,hc,h1,mX,qA⟩
 unfold yL
 split
 .rename_i e;have:=zP.num hs e;exact⟨.refl h,⟨qe,qB,qB⟩⟩
 .split
  .obtain⟨h1,h2⟩:=PA h (A1 hv 0) (A1 hv 1);exact⟨h1.mono qA,h2⟩
  .split
   .rename_i e;have hl:=hr.YT;refine⟨⟨h.qC7 (hmade (.inl e)) qA,?_,λ_=>rfl⟩,⟨qe,λ_=>qe,qB⟩⟩;constructor<;>grind
   .split
    .grind[Mm]
    .split
     .obtain⟨h1,h2⟩:=QE (f:=vs.getD 0 (0,0)) (vs:=vs.tail) hR h hn h0 (λv hv'=>hv v (List.mem_of_mem_tail hv')) (hr.mono qA);exact⟨h1.mono qA,h2⟩
     .split
      .obtain⟨h1,h2⟩:=QO (v:=vs.getD 0 (0,0)) (x:=s.b) h;exact⟨h1.mono qA,h2⟩
      grind[Zr.refl,A1]
theorem oQ {p:YU} {n:Nat} {R:YY->Nat->YY×Y6} (hR:bW p n R) {w:YY} {a:Nat} {k:Y4} {s:Y5} (h:Yx p w) (hn:w.left<n) (h0:w.en=0) (ha:a<w.YR.length) (hs:zP p (w.YS a) k s=true) (hr:Room 2 w) :
  Zr p 2 w (jc p R w a s).1/\ZQ (jc p R w a s).1.YT.length (jc p R w a s).1.YP.length (jc p R w a s).2:=by
 unfold jc;obtain⟨h1,h2,h3,_⟩:=kx (a:=a) (l:=s.reads) h
 split
 .exact⟨h1.mono qA,.zero⟩
 grind[xQ]
theorem Km {nf nc:Nat} {v:Y6} (h:ZQ nf nc v):-3<=Hm.shown v/\Hm.shown v<=1000:=by
 have:=h.num
 grind[shown]
theorem Yx.qC6 {p:YU} {w:YY} (h:Yx p w) {v:Int} (hl:w.out.length+1+2 * w.left<=1000) (hv:-3<=v/\v<=1000):Yx p { w with out:=w.out++[v] } :=
 ⟨h.a0,h.vars,h.Zs,h.up,h.Yd,h.YT,h.cls,h.Z7,h.Zd,h.Zi,h.qAK,qH,h.ntr,h.qAk,λx hx=>by
   simp only [cK,kg] at hx;rcases hx with hx|rfl
   .exact h.qAu x hx
   .exact hv,h.enr⟩
theorem zP.print {p:YU} {R:YY->Nat->YY×Y6} {w:YY} {a:Nat} {s:Y5} (h:s.kind=7):jc p R w a s=if (qf p w a s.reads).1.en≠0 then ((qf p w a s.reads).1,(0,0)) else ((qf p w a s.reads).1,(qf p w a s.reads).2.getD 0 (0,0)):=by
 simp [jc,yL,h]
theorem lg {p:YU} {n:Nat} {R:YY->Nat->YY×Y6} (hR:bW p n R) {w:YY} {a:Nat} {k:Y4} {s:Y5} (h:Yx p w) (hn:w.left<n) (h0:w.en=0) (ha:a<w.YR.length) (hs:zP p (w.YS a) k s=true) (hr:Room 2 w):Zr p 2 w (lh p R w a s):=by
 unfold lh
 split
 .exact .refl h
 .split
  .exact (O8 h).mono qA
  .obtain⟨h1,h2⟩:=oQ hR h hn h0 ha hs hr
   split
   .exact h1
   .rename_i hne;have he:(jc p R w a s).1.en=0:=qA
    split
    .rename_i e7
     have hw:(jc p R w a s).1=w:=by
      grind[kx,zP.print]
     rw [hw];have hl:=hr.out;refine⟨h.qC6 qA (Km h2),⟨λ_ a h=>⟨a,h,rfl,rfl⟩,kE _,kE _,N9 _ _,kE _,qp _,qB,qB,qB,qe,rfl⟩,λ_=>rfl⟩
    .obtain⟨s1,s2,s3⟩:=K4 (a:=a) (x:=s.to) h1.ok h2;refine⟨s1,h1.grow.trans s2 qA,λe=>?_⟩;rw [s3 e];exact h1.Z7 he
theorem fA {p:YU} {w:YY} {a i:Nat} (h:Yx p w) (hl:w.left≠0):Yx p (zF w a i)/\Room 2 (zF w a i):=by
 have h1:=h.Zd;have h2:=h.Zi;have h3:=h.qAK;have h4:=h.qAJ;have h5:=h.ntr;have h6:=h.qAk;refine⟨⟨h.a0,h.vars,h.Zs,h.up,h.Yd,h.YT,h.cls,h.Z7,?_,?_,?_,?_,?_,?_,h.qAu,h.enr⟩,⟨?_,?_,?_,?_,?_⟩⟩<;>grind[zF]
theorem KW {w w':YY} {a i:Nat} (hl:w.left≠0) (h:Grow 2 (zF w a i) w'):Grow 0 w w':=by
 have h1:=h.Zd;have h2:=h.Zi;have h3:=h.qAK;have h4:=h.qAJ;have h5:=h.ntr;have h6:=h.left;simp only [zF,wk,bS] at h1 h2 h3 h4 h5 h6;exact⟨h.YR,h.YT,h.cls,h.out,(N9 _ _).trans h.tr,qA,qA,qA,qA,qA,qA⟩
theorem Zr.tick {p:YU} {w w':YY} {a i:Nat} (hl:w.left≠0) (h:Zr p 2 (zF w a i) w'):Zr p 0 w w':=⟨h.ok,KW hl h.grow,h.Z7⟩
theorem Hw {p:YU} {n:Nat} {R:YY->Nat->YY×Y6} (hR:bW p n R) {a:Nat} {k:Y4}:∀ {l:List Y5} {w:YY} {i:Nat},Yx p w->w.left<n+1->w.en=0->a<w.YR.length->(∀ s∈l,zP p (w.YS a) k s=true) ->
  Zr p 0 w (uA p R a w i l).1/\ZQ (uA p R a w i l).1.YT.length (uA p R a w i l).1.YP.length (uA p R a w i l).2
 | [],w,i,h,_,_,_,_=>⟨.refl h,.zero⟩
 | s::l,w,i,h,hn,h0,ha,hs=>by
  simp only [uA]
  split
  .exact⟨(Zr.refl h).en qL,.zero⟩
  .rename_i hl;obtain⟨t1,t2⟩:=fA (a:=a) (i:=i) h hl;have tn:(zF w a i).left<n:=rF
   split
   .obtain⟨x1,x2,x3⟩:=AM (a:=a) (x:=s.a) t1;refine⟨(x1.mono qA).tick hl,?_⟩
    grind
   .have hst:=lg hR t1 tn h0 ha (hs s qB) t2
    split
    .exact⟨hst.tick hl,.zero⟩
    .rename_i he;have he':(lh p R (zF w a i) a s).en=0:=qA;have hA:=hst.tick hl;obtain⟨c,hc⟩:=gX ha;have hb:=hA.grow.YS hc;obtain⟨r1,r2⟩:=Hw hR (l:=l) (i:=i+1) hA.ok An he' (ac ha hA.grow.Zl) (λs' hs'=>by rw [hb];exact hs s' (by simp [hs']));exact⟨hA.trans r1 (λ_=>he') qA,r2⟩
theorem aC {p:YU} (hp:Y1 p):∀ n,bW p n (jv p n)
 | 0=>λw a _ h=>absurd h qA
 | n+1=>by
  intro w a h hn ha h0;simp only [jv];obtain⟨c,hc⟩:=gX ha;have hb:=h.Zs a c hc;obtain⟨k,hk⟩:=gX hb;rw [jq hc,hk];exact Hw (aC hp n) (k:=k) h hn h0 ha (λs hs=>FR)
theorem b6 {p:YU} (hp:Y1 p) {fuel:Nat} (hf:fuel<=150):Yx p (zg fuel):=by
 have hl:=hp.len;refine⟨⟨_,rfl,rfl⟩,λi a ha=>?_,λi a ha=>?_,λi a ha hi=>?_,.none,λi g hg=>?_,λc hc=>?_,λi hi=>?_,?_,?_,?_,?_,?_,?_,ce,ce⟩
 .grind[zg,SOk.none]
 .grind[zg]
 .grind[zg]
 .grind[zg]
 .grind[zg]
 .grind[zg]
 all_goals simp [zg]
 all_goals omega
theorem iy {p:YU} (hp:Y1 p) {fuel:Nat} (hf:fuel<=150):Zr p 0 (zg fuel) (ji p fuel) :=
 (aC hp 151 (zg fuel) 0 (b6 hp hf) mS ce rfl).1
def jJ (s:Yj):List AV:=match s with|some v=>[bv true,iv v.1,iv v.2]|none=>[bv false,iv 0,iv 0]
@[simp] theorem df {s:Yj}:(jJ s).length=3:=by cases s <;> rfl
@[simp] theorem Gs {s:Yj} {f:Nm->Option Nm}:(jJ s).map (AV.tr f)=jJ s:=by cases s <;> rfl
@[simp] theorem yR:jJ none=[bv false,iv 0,iv 0]:=rfl
@[simp] theorem jt {v:Y6}:jJ (some v)=[bv true,iv v.1,iv v.2]:=rfl
def qU (l:List Yj):List (List AV):=l.map jJ
section
variable {l:List Yj} {i:Nat} {f:Nm->Option Nm} {s:Yj}
@[simp] theorem slrows_len:(qU l).length=l.length:=ck
@[simp] theorem IY:(qU l)[i]?=(l[i]?).map jJ:=ck
@[simp] theorem slrows_getE {h:i<(qU l).length}:(qU l)[i]=jJ (l[i]' qH):=ck
@[simp] theorem slrows_tr:(qU l).map (λr=>r.map (AV.tr f))=qU l:=ck
@[simp] theorem slrows_take {n:Nat}:(qU l).take n=qU (l.take n):=ck
@[simp] theorem slrows_nil:qU []=[]:=rfl
theorem IZ {m:List Yj}:qU l++qU m=qU (l++m):=ck
theorem IX:∀ r∈qU l,r.length=3:=by
 simp_all[qU]
@[simp] theorem slrows_cln:(qU l).all (λr=>r.all AV.Zh)=true:=by
 rw [uB];intro r hr;simp only [qU,eg] at hr;obtain⟨s,_,rfl⟩:=hr
 cases s <;> rfl
theorem tE:qY (qU l) i 0 (jJ s)=qU (l.set i s):=by
 apply aW;intro j;simp only [qY,nV,IY,bT];by_cases e:i=j
 .subst e
  cases h:l[i]? with
  | none =>
   simp_all
  | some y =>
   simp_all<;>grind
 .simp [e]
end
@[simp] theorem slrows_setS {l:List Yj} {i:Nat} {a b:Int}:qY (qU l) i 0 [bv true,iv a,iv b]=qU (l.set i (some (a,b))):=tE (s:=some (a,b))
@[simp] theorem slrows_setN {l:List Yj} {i:Nat}:qY (qU l) i 0 [bv false,iv 0,iv 0]=qU (l.set i none):=tE (s:=none)
def zf (l:List Y6):List (List AV):=l.map λv=>[iv v.1,iv v.2]
section
variable {l m:List Y6} {i:Nat} {f:Nm->Option Nm} {v:Y6}
@[simp] theorem vrows_len:(zf l).length=l.length:=iM
@[simp] theorem vrows_getE {h:i<(zf l).length}:(zf l)[i]=[iv (l[i]' qH).1,iv (l[i]' qH).2]:=iM
@[simp] theorem vrows_tr:(zf l).map (λr=>r.map (AV.tr f))=zf l:=iM
@[simp] theorem vrows_take {n:Nat}:(zf l).take n=zf (l.take n):=iM
@[simp] theorem vrows_nil:zf []=[]:=rfl
end
def vv (l:List (Nat×Nat)):List (List AV):=l.map λv=>[iv v.1,iv v.2]
section
variable {l m:List (Nat×Nat)} {i:Nat} {f:Nm->Option Nm}
@[simp] theorem nrows_len:(vv l).length=l.length:=by simp [vv]
@[simp] theorem nrows_tr:(vv l).map (λr=>r.map (AV.tr f))=vv l:=by simp [vv]
@[simp] theorem nrows_take {n:Nat}:(vv l).take n=vv (l.take n):=by simp [vv]
@[simp] theorem nrows_nil:vv []=[]:=rfl
theorem ly {a b:Nat}:vv l++[[iv a,iv b]]=vv (l++[(a,b)]):=by simp [vv]
end
def zu (l:List Nat):List Int:=l.map λ(n:Nat)=>(n:Int)
@[simp] theorem nints_len {l:List Nat}:(zu l).length=l.length:=by simp [zu]
abbrev IC:=List (Int×Y6)
def lk (n:Int):IC->Yj
 | []=>none
 | q::l=>if q.1=n then some q.2 else lk n l
def lkS (n:Int) (v:Y6):IC->IC
 | []=>[(n,v)]
 | q::l=>if q.1=n then (n,v)::l else q::lkS n v l
def lkD (n:Int):IC->IC
 | []=>[]
 | q::l=>if q.1=n then l else q::lkD n l
abbrev Y6.av (v:Y6):AV:=.agg [iv v.1,iv v.2]
def kL (ms:IC):List (AV×AV):=ms.map λq=>(iv q.1,Y6.av q.2)
section
variable {ms:IC} {n m:Int} {v:Y6} {f:Nm->Option Nm}
@[simp] theorem mrows_nil:kL []=[]:=rfl
@[simp] theorem mrows_keys:bO .i64 (kL ms)=true:=by
 induction ms with
 | nil=>rfl
 | cons q l ih=>simp only [kL,dT,bO] at ih ⊢;simpa using ih
@[simp] theorem mrows_get:ED .i64 n (kL ms)=(lk n ms).map Y6.av:=by
 induction ms with
 | nil=>rfl
 | cons q l ih =>
  simp only [kL,dT,ED,lk,if_true] at ih ⊢
  split
  .rfl
  .exact ih
@[simp] theorem mrows_set {a b:Int}:Er .i64 n (.agg [iv a,iv b]) (kL ms)=kL (lkS n (a,b) ms):=by
 induction ms with
 | nil=>rfl
 | cons q l ih =>
  simp only [kL,dT,Er,lkS,true_and] at ih ⊢
  split
  .rfl
  .rw [ih];rfl
@[simp] theorem mrows_del:EE .i64 n (kL ms)=kL (lkD n ms):=by
 induction ms with
 | nil=>rfl
 | cons q l ih =>
  simp only [kL,dT,EE,lkD,true_and] at ih ⊢
  split
  .rfl
  .rw [ih];rfl
@[simp] theorem mrows_tr:(kL ms).map (λe=>(e.1.tr f,e.2.tr f))=kL ms:=by simp [kL]
theorem Qd:lk m (lkS n v ms)=if m=n then some v else lk m ms:=by
 induction ms<;>grind[lkS,lk]
theorem Lu:(lk m ms).isSome=true↔m∈ms.map (·.1):=by
 induction ms<;>grind[lk]
theorem SW (h:m∉ms.map (·.1)):lk m ms=none:=by
 cases e:lk m ms<;>grind[Lu]
theorem Uv (h:(ms.map (·.1)).Nodup):lk m (lkD n ms)=if m=n then none else lk m ms:=by
 induction ms<;>grind[lkD,lk,SW]
theorem PZ:∀ x,x∈(lkS n v ms).map (·.1)↔x=n\/x∈ms.map (·.1):=by
 intro x;rw [<- Lu,Qd,<- Lu]
 grind
theorem Lv (h:(ms.map (·.1)).Nodup):((lkS n v ms).map (·.1)).Nodup:=by
 induction ms<;>grind[lkS,PZ]
theorem SX:∀ x,x∈(lkD n ms).map (·.1)->x∈ms.map (·.1):=by
 induction ms<;>grind[lkD]
theorem Lw (h:(ms.map (·.1)).Nodup):((lkD n ms).map (·.1)).Nodup:=by
 induction ms<;>grind[lkD,SX]
end
structure ZZ (ms:IC) (l:List Yj):Prop where
 nd:(ms.map (·.1)).Nodup
 get:∀ x:Nat,x<8->lk x ms=(match l[x]? with|some s=>s|none=>none)
 len:l.length=8
theorem ZZ.nil:ZZ [] qc:=⟨qB,λx hx=>by simp [lk,hx],qB⟩
theorem ZZ.set {ms:IC} {l:List Yj} (h:ZZ ms l) {x:Int} {v:Y6} (hx:0<=x/\x<=7):ZZ (lkS x v ms) (l.set x.toNat (some v)):=by
 refine⟨Lv h.nd,λy hy=>?_,by simp [h.len]⟩;rw [Qd,bT];have hl:=h.len;by_cases e:(y:Int)=x
 .grind
 .have e':¬ x.toNat=y:=qA;rw [if_neg e,if_neg e'];exact h.get y hy
theorem ZZ.del {ms:IC} {l:List Yj} (h:ZZ ms l) {x:Int} (hx:0<=x/\x<=7):ZZ (lkD x ms) (l.set x.toNat none):=by
 refine⟨Lw h.nd,λy hy=>?_,by simp [h.len]⟩;rw [Uv h.nd,bT];have hl:=h.len;by_cases e:(y:Int)=x
 .grind
 .have e':¬ x.toNat=y:=qA;rw [if_neg e,if_neg e'];exact h.get y hy
theorem ZZ.at {ms:IC} {l:List Yj} (h:ZZ ms l) {x:Int} (hx:0<=x/\x<=7):lk x ms=(match l[x.toNat]? with|some s=>s|none=>none):=by
 have:=h.get x.toNat qA
 grind
section
variable {X:Ctx} {st:St} {K:St->Prop} {E:AV->St->Prop} {d:Nat} {ty:TypeId} {pos:String} {aft:Array Edge} {g:Option (Nat×Bool)}
theorem KH {T:TypeId} {st':St} (hd:d<X.n:=by first|(simp;done)|fail) (hs:Ut d st=st':=by simp [fx,Ut];first|done|rfl) (h:K st'):qO X ⟨some d,.makeMap T none,ty,pos,aft,g⟩ K E st:=by
 grind[R8]
theorem vT {T e:TypeId} {m key x:Operand} {k:IntKind} {i:Int} {n:Nm} {es:List (AV×AV)} {st':St} (ht:lf X.P T=some (k,e):=by simp [fx];first|done|rfl|exact⟨rfl,rfl⟩)
  (hm:ev st m=.mp n:=by simp [fx];first|done|rfl) (hk:ev st key=.sc (.int k i):=by simp [fx];first|done|rfl) (hn:st.hp n=some (.map es):=by simp [fx];first|done|rfl) (hks:bO k es=true:=by simp [fx];first|done|rfl)
  (hs:st.Yf n (.map (Er k i (ev st x) es))=st':=by simp [fx];first|done|rfl) (h:K st'):qO X ⟨none,.mapUpdate T m key x,ty,pos,aft,g⟩ K E st:=by
 grind[xe]
end
abbrev Mn:Nm:=.u 1 0 0
abbrev En (i:Nat):Nm:=.u 7 i 0
abbrev ptE (i:Nat):AV:=.pt (En i) 0
def zC (l:List Nat):List (List AV):=l.map λi=>[ptE i]
def Du (f:Nat->Bool):Nm->Bool
 | .s _=>false
 | .u k _ _=>f k
 | .c n _ _=>Du f n
section
variable {f:Nat->Bool} {n:Nm} {k i j d:Nat}
@[simp] theorem Du_s:Du f (.s d)=false:=rfl
@[simp] theorem Du_u:Du f (.u k i j)=f k:=rfl
@[simp] theorem Du_c:Du f (.c n i j)=Du f n:=rfl
theorem Nl:∀ {n:Nm},Du f n=true->n.Y3=false:=by
 intro n
 induction n with
 | s d=>simp
 | u a b c=>intro _;rfl
 | c q i j ih=>intro h;exact ih h
theorem Jn:∀ {n:Nm},Nm.under (.s d) n=true->Du f n=false:=by
 intro n h
 cases hx:Du f n with
 | false=>rfl
 | true =>
  have h1:=Nl hx;have h2:=Nm.ZF (a:=.s d) rfl h
  simp_all
end
section
variable {X:Ctx} {st:St} {K:St->Prop} {E:AV->St->Prop} {d f:Nat} {ty:TypeId} {pos:String} {aft:Array Edge} {g:Option (Nat×Bool)} {c:Operand} {args:Array Operand} {Ts:Array TypeId} {xs ys az:List AV} {R:Nm->AV->(Nm->Option AO)->Prop}
theorem RD (D:Nm->Bool) (hD:∀ n,D n=true->n.Y3=false) (hext:∀ k i j,X.ext (.u k i j)=true->D (.u k i j)=false\/(yb D st.hp) (.u k i j)≠none) (hd:d<X.n:=by first|(simp;done)|fail)
  (hv:ev st c=.fn (.func f) xs ys) (ha:xs++args.toList.map (ev st)++ys=az)
  (hF:Yc X.P X.gl f D az (yb D st.hp) R Yz) (h:∀ y H',R (.s d) y H'->K ((st.call d D (yb D st.hp) H').put (some d) y)) :
  qO X ⟨some d,.call ⟨.value c,args,Ts⟩,ty,pos,aft,g⟩ K E st:=by
 subst ha;refine fV (D:=D) (H:=yb D st.hp) (R:=R) (E0:=Yz) hF (So hF.1 rfl hv) false ⟨rfl,λj a a' h h'=>?_⟩ (λn hn=>?_) (λn hn=>?_) (λn hn=>?_) hext (λe he=>qH) (λx H' hR=>?_) (λ_ _ h=>h.elim)
 .rw [h] at h';obtain rfl:=sI h';exact .refl _
 .cases hx:D n with
  | false=>rfl
  | true =>
   have h1:=hD n hx;have h2:=Nm.ZF (a:=.s d) rfl hn
   simp_all
 .simp [hn]
 .simp_all
 simp_all
end
end Go.Hm
end
section
set_option linter.unusedSectionVars false
namespace Go.Hm
open Go Go.RowKit
structure Pre (q:Bool) (w w':YY):Prop where
 YT:w.YT <+: w'.YT
 cls:w.YP <+: w'.YP
 out:w.out <+: w'.out
 tr:w.trace <+: w'.trace
 left:q=true->w'.left<=w.left
section
variable {p:YU} {R:YY->Nat->YY×Y6} {w:YY} {a b i:Nat} {x:Int} {vs:List Y6} {s:Y5} {v:Y6} {q:Bool}
variable (hR:∀ w a,Pre q w (R w a).1)
include hR
end
def Xj (k:Nat) (w:YY):YY:={ w with left:=w.left+k }
structure qDC (k:Nat) (w w':YY):Prop where
 en:w.en=1
 left:w.left=0
 pre:Pre false w w'
 more:0<k->w.trace.length<w'.trace.length
def YK (k:Nat) (r r':YY×Y6):Prop:=(r.1.en≠1/\r'=(Xj k r.1,r.2))\/qDC k r.1 r'.1
section
variable {p:YU} {R:YY->Nat->YY×Y6} {k n:Nat} {w:YY} {a b i:Nat} {x:Int} {l:Option Nat} {vs:List Y6} {s:Y5} {v:Y6}
variable (hP:∀ w a,Pre true w (R w a).1) (hR:∀ w a,w.left+k<n->w.en=0->YK k (R w a) (R (Xj k w) a))
include hP hR
end
end Go.Hm
end
