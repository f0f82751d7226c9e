import Derived.Test.YtdnebaieamppbaaGreatDoorE15
set_option linter.unusedSimpArgs false
set_option linter.unusedVariables false
set_option maxRecDepth 100000
set_option maxHeartbeats 4000000

section
namespace Go.Hm
open Go Go.RowKit
structure FOk (p:Z0) (nf nk nc:Nat) (f:Z8) (e:Nat):Prop where
 Z1:f.Z1<p.length
 fl:f.Z3.length=(qP p f.Z1).length
 fv:∀ v,some v∈f.Z3->VOk nf nk v
 cl:f.cells.length=(qF p f.Z1).length+(qd p f.Z1).length
 cr:∀ c∈f.cells,c<nc
 nm:SOk nf nk f.names
 sv:∀ v∈f.stack,VOk nf nk v
 sl:f.stack.length+e<=f.pc
 pc:f.pc<=(vI p f.Z1).length
 ok:zu (f.stack.length+e) ((vI p f.Z1).drop f.pc)
def uC (p:Z0) (f:Z8):Nat:=v7 ((vI p f.Z1).drop f.pc)
def BB (p:Z0) (fs:List Z8):Nat:=(fs.map (uC p)).sum
structure MOk (p:Z0) (m:Zb) (fs:List Z8) (f:Z8):Prop where
 cells:∀ v,some v∈m.cells->VOk m.ZZ.length m.ZV.length v
 Zg:SOk m.ZZ.length m.ZV.length m.globals
 cls:∀ c∈m.ZV,SOk m.ZZ.length m.ZV.length c
 ZZ:∀ g∈m.ZZ,∃ k,p[g.1]?=some k/\k.kind=1/\g.2.length=(qd p g.1).length/\∀ c∈g.2,c<m.cells.length
 low:∀ g∈fs,FOk p m.ZZ.length m.ZV.length m.cells.length g 1
 top:FOk p m.ZZ.length m.ZV.length m.cells.length f 0
 made:m.made+m.left+(BB p fs+uC p f)<=151
 nf:m.ZZ.length+m.left+(BB p fs+uC p f)<=150
 nk:m.ZV.length+(fs.length+1)<=m.made
 nc:m.cells.length<=8 * m.made
 out:m.out.length+m.left+(BB p fs+uC p f)<=150
 tr:m.trace.length+m.left<=150
 deep:fs.length+1<=m.deep/\m.deep<=m.made
 b0:∀ g,(fs++[f])[0]?=some g->g.Z1=0
section
variable {p:Z0} {m:Zb} {nf nk nc nf' nk' nc' b e:Nat} {fs:List Z8} {f g:Z8} {o:Int×Int} {v:Zd} {k:Za} {x:Int}
theorem FOk.mono (h:FOk p nf nk nc f e) (h1:nf<=nf') (h2:nk<=nk') (h3:nc<=nc'):FOk p nf' nk' nc' f e :=
 ⟨h.Z1,h.fl,λv hv=>(h.fv v hv).mono h1 h2,h.cl,λc hc=>aR (h.cr c hc) h3,h.nm.mono h1 h2,λv hv=>(h.sv v hv).mono h1 h2,h.sl,h.pc,h.ok⟩
theorem dy (ho:(vI p f.Z1)[f.pc]?=some o):(vI p f.Z1).drop f.pc=o::(vI p f.Z1).drop (f.pc+1):=by
 grind[Ea]
theorem gv {l:List Zt} {i:Nat} (h:uE l i=some v):some v∈l:=by
 grind[uE]
theorem cF (h:1<=f.stack.length):f.tos∈f.stack:=by
 grind[Z8.tos,List.mem_of_getLast?]
theorem dk:f.pop.stack.length=f.stack.length - 1:=by simp [Z8.pop]
theorem fX {v:Zd} (h:v∈f.pop.stack):v∈f.stack:=List.dropLast_subset _ h
theorem MOk.re {pc:Nat} {st:List Zd} (h:MOk p m fs f) (ho:(vI p f.Z1)[f.pc]?=some o) (hpc:pc=f.pc+1) (hv:∀ v∈st,VOk m.ZZ.length m.ZV.length v) (hl:st.length<=pc) (hok:zu st.length ((vI p f.Z1).drop (f.pc+1))) (h0:o.1≠0):MOk p m fs { f with pc:=pc,stack:=st }:=by
 subst hpc;have hd:=dy ho;have hpl:=(gS ho).1
 have hp1:uC p { f with pc:=f.pc+1,stack:=st }<=uC p f:=by
  grind[uC,v7]
 have h1:=h.made;have h2:=h.nf;have h3:=h.out;refine⟨h.cells,h.Zg,h.cls,h.ZZ,h.low,⟨h.top.Z1,h.top.fl,h.top.fv,h.top.cl,h.top.cr,h.top.nm,hv,hl,hpl,hok⟩,qA,qA,h.nk,h.nc,qA,h.tr,h.deep,λg hg=>?_⟩
 cases fs with
 | nil=>simp at hg;subst hg;exact h.b0 f qB
 | cons a l=>exact h.b0 g qH
theorem MOk.ZW {X:List Z8} (h:MOk p m fs f):MOk p { m with ZW:=X } fs f :=
 ⟨h.cells,h.Zg,h.cls,h.ZZ,h.low,h.top,h.made,h.nf,h.nk,h.nc,h.out,h.tr,h.deep,h.b0⟩
def SE (p:Z0) (m:Zb):Prop:=∃ fs f,m.ZW=fs++[f]/\MOk p m fs f
theorem SE.of (h:MOk p m fs f):SE p (m.top fs f):=⟨fs,f,rfl,h.ZW⟩
theorem Tn (h:MOk p m fs f) (hg:ft m f o=some v):VOk m.ZZ.length m.ZV.length v:=by
 unfold ft at hg
 split at hg
 .exact h.top.fv v (gv hg)
 .split at hg
  .exact h.cells v (gv hg)
  .split at hg
   .exact h.Zg.2 v (gv hg)
   .exact h.top.nm.2 v (gv hg)
theorem MQ (h:MOk p m fs f) (ho:(vI p f.Z1)[f.pc]?=some o) (h0:o.1≠0) (hok:zu (f.stack.length+1) ((vI p f.Z1).drop (f.pc+1))) (hv:VOk m.ZZ.length m.ZV.length v):MOk p m fs (f.next.push v):=by
 have hsl:=h.top.sl;refine h.re ho rfl (λu hu=>?_) ?_ ?_ h0
 .rcases dY.1 hu with e|e
  .exact h.top.sv u e
  simp_all
 .grind[Z8.next]
 grind[Z8.next]
theorem Ls {l:List Zt} {i:Nat} {s:Zt} {u:Zd} (h:some u∈l.set i s):some u∈l\/s=some u:=by
 grind
theorem Lt {s:Zt} (h:MOk p m fs f) (hs:∀ v,s=some v->VOk m.ZZ.length m.ZV.length v):SE p (qAD m fs f o s):=by
 unfold qAD
 split
 .refine .of ⟨h.cells,h.Zg,h.cls,h.ZZ,h.low,⟨h.top.Z1,by simp [h.top.fl],λv hv=>?_,h.top.cl,h.top.cr,h.top.nm,h.top.sv,h.top.sl,h.top.pc,h.top.ok⟩,h.made,h.nf,h.nk,h.nc,h.out,h.tr,h.deep,λg hg=>?_⟩
  .rcases Ls hv with e|e
   .exact h.top.fv v e
   simp_all
  .cases fs with
   | nil=>simp at hg;subst hg;exact h.b0 f qB
   | cons a l=>exact h.b0 g qH
 .split
  .refine⟨fs,f,rfl,⟨λv hv=>?_,h.Zg,h.cls,λg hg=>?_,λg hg=>(h.low g hg).mono (qf _) (qf _) qB,h.top.mono (qf _) (qf _) qB,h.made,h.nf,h.nk,?_,h.out,h.tr,h.deep,h.b0⟩⟩
   .rcases Ls hv with e|e
    .exact h.cells v e
    .exact hs v e
   .obtain⟨q,q1,q2,q3,q4⟩:=h.ZZ g hg
    simp_all
   grind[MOk.nc,Zb.top]
  .split
   .exact⟨fs,f,rfl,⟨h.cells,h.Zg.set hs,h.cls,h.ZZ,h.low,h.top,h.made,h.nf,h.nk,h.nc,h.out,h.tr,h.deep,h.b0⟩⟩
   .refine .of ⟨h.cells,h.Zg,h.cls,h.ZZ,h.low,⟨h.top.Z1,h.top.fl,h.top.fv,h.top.cl,h.top.cr,h.top.nm.set hs,h.top.sv,h.top.sl,h.top.pc,h.top.ok⟩,h.made,h.nf,h.nk,h.nc,h.out,h.tr,h.deep,λg hg=>?_⟩
    cases fs with
    | nil=>simp at hg;subst hg;exact h.b0 f qB
    | cons a l=>exact h.b0 g qH
theorem Nn (hh:zS p) (hk:p[b]?=some k):∀ y∈zt p b,0<=y/\y<((qF p (ac p b)).length:Int)+(qd p (ac p b)).length:=by
 intro y hy;simp only [zt,fG] at hy;obtain⟨x,hx,rfl⟩:=hy;obtain⟨o,_,_,_,_,ho,_⟩:=dE hh hk hx;obtain⟨_,_,_,_,hcase⟩:=Bj hh hk hx ho
 grind[yC,aE]
theorem Bk (hh:zS p) (h:FOk p nf nk nc f e) (hk:p[b]?=some k) (hpar:k.parent=f.Z1):(uk p f b).length=(qd p b).length/\∀ c∈uk p f b,c<nc:=by
 have hpa:ac p b=f.Z1:=by grind[ac]
 refine⟨by simp [uk,zt],λc hc=>?_⟩;simp only [uk,fG] at hc;obtain⟨y,hy,rfl⟩:=hc;have hr:=Nn hh hk y hy;rw [hpa] at hr;have hcl:=h.cl;obtain⟨c,hc⟩:∃ c,f.cells[y.toNat]?=some c:=⟨_,gE qA⟩;rw [xC,hc];exact h.cr c (gM hc)
theorem Db (hp:Z7 p) (hb:b<p.length):zu 0 (vI p b)/\v7 (vI p b)=0:=by
 obtain⟨k,hk⟩:=gX hb
 grind[Vr,qBq.ok,qBq.qBl]
theorem rf (hp:Zm p) (hk:p[b]?=some k) (hx:x∈k.params):x∈qP p b\/x∈qF p b:=by
 have hkm:=gM hk;have hxr:=(hp.sh.names k hkm).params x hx;have how:=hp.pm b k hk x hx;have hhd:=hp.sh.head b k hk
 grind[qg,Aa,Zm.sh,jB]
theorem RH {cs:List Nat} {vs:List Zd} {pd:Nat} (hp:Zm p) (hb:b<p.length) (h0:0<b)
  (hcells:∀ v,some v∈m.cells->VOk m.ZZ.length m.ZV.length v) (hglob:SOk m.ZZ.length m.ZV.length m.globals) (hcls:∀ c∈m.ZV,SOk m.ZZ.length m.ZV.length c)
  (hfuns:∀ g∈m.ZZ,∃ k,p[g.1]?=some k/\k.kind=1/\g.2.length=(qd p g.1).length/\∀ c∈g.2,c<m.cells.length)
  (hlow:∀ g∈m.ZW,FOk p m.ZZ.length m.ZV.length m.cells.length g 1) (hne:m.ZW≠[]) (hpd:BB p m.ZW=pd)
  (hmade:m.made+1+m.left+pd<=151) (hnf:m.ZZ.length+m.left+pd<=150) (hnk:m.ZV.length+m.ZW.length<=m.made) (hnc:m.cells.length<=8 * m.made) (hout:m.out.length+m.left+pd<=150) (htr:m.trace.length+m.left<=150) (hdeep:m.ZW.length<=m.deep/\m.deep<=m.made) (hb0:∀ g,m.ZW[0]?=some g->g.Z1=0)
  (hcsl:cs.length=(qd p b).length) (hcs:∀ c∈cs,c<m.cells.length) (hvs:∀ v∈vs,VOk m.ZZ.length m.ZV.length v):SE p (z8 p m b cs vs):=by
 obtain⟨k,hk⟩:=gX hb;have hpar:(zC p b).params=k.params:=em;obtain⟨o1,o2⟩:=Db hp.sh hb;have c8:=jo (p:=p) (b:=b)
 have base:∀ (F:Z8) (C:List Zt),F.Z1=b->F.pc=0->F.stack=[]->F.names=q9->F.cells=((List.range (qF p b).length).map (m.cells.length+·))++cs->F.Z3.length=(qP p b).length->(∀ v,some v∈F.Z3->VOk m.ZZ.length m.ZV.length v)->C.length=m.cells.length+(qF p b).length->(∀ v,some v∈C->VOk m.ZZ.length m.ZV.length v) ->
   SE p { m with cells:=C,made:=m.made+1,deep:=max m.deep (m.ZW.length+1),ZW:=m.ZW++[F] }:=by
  intro F C f1 f2 f3 f4 f5 f6 f7 c1 c2;have hpF:uC p F=0:=by grind[uC]
  refine⟨m.ZW,F,rfl,⟨c2,hglob,hcls,λg hg=>?_,λg hg=>(hlow g hg).mono (qf _) (qf _) qH,⟨qA,qH,f7,?_,λc hc=>?_,by grind[SOk.none],qH,qH,qA,?_⟩,?_,?_,?_,?_,?_,htr,?_,λg hg=>?_⟩⟩
  .grind
  .simp_all
  .grind
  .simp_all
  .simp_all
  .simp_all
  .grind
  .grind
  .simp_all
  .grind
  grind
 unfold z8
 split
 .grind
 simp_all
end
section
variable {p:Z0} {m:Zb} {b e:Nat} {fs:List Z8} {f g:Z8} {o:Int×Int} {v:Zd} {k:Za} {x:Int} {l:List (Int×Int)}
def A0 (p:Z0) (m:Zb):Prop:=m.en≠0\/m.ZW=[]\/SE p m
theorem FM {l:List Z8} {a:Z8}:BB p (l++[a])=BB p l+uC p a:=by simp [BB]
theorem IU (h:MOk p m fs f) (hv:VOk m.ZZ.length m.ZV.length v):A0 p (zW m fs v):=by
 unfold zW
 cases hl:fs.getLast? with
 | none=>exact .inr (.inl rfl)
 | some g =>
  obtain⟨gs,rfl⟩:∃ gs,fs=gs++[g]:=by
   grind[List.getLast?_eq_some_iff]
  have hg:=h.low g qB;have h1:=h.made;have h2:=h.nf;have h3:=h.out;have h4:=h.nk;have h5:=h.deep;rw [FM] at h1 h2 h3;have hp1:uC p (g.push v)=uC p g:=rfl;simp only [am,dU] at h4 h5;refine .inr (.inr ⟨gs,g.push v,qB,⟨h.cells,h.Zg,h.cls,h.ZZ,λq hq=>h.low q cU,⟨hg.Z1,hg.fl,hg.fv,hg.cl,hg.cr,hg.nm,λu hu=>?_,?_,hg.pc,?_⟩,qj,qj,qj,h.nc,qj,h.tr,qj,λq hq=>?_⟩⟩)
  .rcases dY.1 hu with e|e
   .exact hg.sv u e
   simp_all
  .have:=hg.sl
   grind[Z8.push]
  .simpa [Z8.push] using hg.ok
  .cases gs with
   | nil =>
    simp at hq;subst hq;exact h.b0 g qB
   | cons a l=>exact h.b0 q qH
theorem Od {c:List Zt} (h:MOk p m fs f) (hc:SOk m.ZZ.length m.ZV.length c) (hn:m.ZV.length+1+fs.length<=m.made):A0 p (zW { m with ZV:=m.ZV++[c] } fs (3,m.ZV.length)):=by
 have hl:m.ZV.length<=(m.ZV++[c]).length:=qB;have hm:=h.made;unfold zW
 cases hlst:fs.getLast? with
 | none=>exact .inr (.inl rfl)
 | some g =>
  obtain⟨gs,rfl⟩:∃ gs,fs=gs++[g]:=by
   grind[List.getLast?_eq_some_iff]
  have hg:=(h.low g qB).mono (nf':=m.ZZ.length) (nk':=(m.ZV++[c]).length) (nc':=m.cells.length) (qf _) hl (qf _);have h1:=h.made;have h2:=h.nf;have h3:=h.out;have h5:=h.deep;rw [FM] at h1 h2 h3;have hp1:∀ u,uC p (g.push u)=uC p g:=λ_=>rfl;simp only [am,dU] at hn h5;refine .inr (.inr ⟨gs,g.push (3,(m.ZV.length:Int)),qB,⟨λu hu=>(h.cells u hu).mono (qf _) hl,h.Zg.mono (qf _) hl,λq hq=>?_,h.ZZ,λq hq=>(h.low q cU).mono (qf _) hl (qf _),⟨hg.Z1,hg.fl,hg.fv,hg.cl,hg.cr,hg.nm,λu hu=>?_,?_,hg.pc,?_⟩,qj,qj,qH,h.nc,qj,h.tr,qj,λq hq=>?_⟩⟩)
  .rcases dY.1 hq with e|e
   .exact (h.cls q e).mono (qf _) hl
   .simp only [w6] at e;subst e;exact hc.mono (qf _) hl
  .rcases dY.1 hu with e|e
   .exact hg.sv u e
   constructor<;>grind
  .have:=hg.sl
   grind[Z8.push]
  .simpa [Z8.push] using hg.ok
  .cases gs with
   | nil =>
    simp at hq;subst hq;exact h.b0 g qB
   | cons a l=>exact h.b0 q qH
theorem Sj {st:List Zd} (h:MOk p m fs f) (ho:(vI p f.Z1)[f.pc]?=some o) (h0:o.1≠0) (hs:∀ u∈st,u∈f.stack) (hl:st.length<=f.stack.length) (hok:zu st.length ((vI p f.Z1).drop (f.pc+1))):MOk p m fs { f with pc:=f.pc+1,stack:=st } :=
 h.re ho rfl (λu hu=>h.top.sv u (hs u hu)) (by have:=h.top.sl;omega) hok h0
theorem I8 {st:List Zd} {b:Nat} {cs:List Nat} {vs:List Zd} (hp:Zm p) (h:MOk p m fs f) (ho:(vI p f.Z1)[f.pc]?=some o) (h0:o.1=16\/o.1=17) (hs:∀ u∈st,u∈f.stack) (hl:st.length+1<=f.pc+1) (hok:zu (st.length+1) ((vI p f.Z1).drop (f.pc+1)))
  (hb:b<p.length) (hb0:0<b) (hcsl:cs.length=(qd p b).length) (hcs:∀ c∈cs,c<m.cells.length) (hvs:∀ v∈vs,VOk m.ZZ.length m.ZV.length v):SE p (z8 p (m.top fs { f with pc:=f.pc+1,stack:=st }) b cs vs):=by
 have hd:=dy ho;have hpl:=(gS ho).1
 have hp1:uC p f=1+uC p { f with pc:=f.pc+1,stack:=st }:=by
  grind[uC,v7]
 have h1:=h.made;have h2:=h.nf;have h3:=h.out;have h4:=h.nk;have h5:=h.deep;refine RH (pd:=BB p fs+uC p { f with pc:=f.pc+1,stack:=st }) hp hb hb0 h.cells h.Zg h.cls h.ZZ (λg hg=>?_) a6 (by grind[Zb.top,FM]) ?_ ?_ ?_ h.nc ?_ h.tr ?_ (λg hg=>?_) hcsl hcs hvs
 .simp only [Zb.top,dY,w6] at hg;rcases hg with e|e
  .exact h.low g e
  .subst e;exact⟨h.top.Z1,h.top.fl,h.top.fv,h.top.cl,h.top.cr,h.top.nm,λu hu=>h.top.sv u (hs u hu),hl,hpl,hok⟩
 .grind[Zb.top]
 .grind[Zb.top]
 .grind[Zb.top]
 .grind[Zb.top]
 .grind[Zb.top]
 .simp only [Zb.top] at hg
  cases fs with
  | nil=>simp at hg;subst hg;exact h.b0 f qB
  | cons a l=>exact h.b0 g qH
theorem K0 {c:Int} (h:0<=c/\c<=20):c=0\/c=1\/(2<=c/\c<=13)\/c=14\/c=15\/c=16\/c=17\/c=18\/c=19\/c=20:=qA
theorem M0 (hp:Zm p) (h:MOk p m fs f) (ho:(vI p f.Z1)[f.pc]?=some o):A0 p (kM p m fs f.next o):=by
 obtain⟨k,hk⟩:=gX h.top.Z1;have hO:=IK hp.sh hk o (gM ho);have hd:=dy ho;have hok:=h.top.ok;rw [hd,C4] at hok;obtain⟨l,hl⟩:∃ l,l=(vI p f.Z1).drop (f.pc+1):=⟨_,rfl⟩;rw [<- hl] at hok hd;have h1:=h.made;have h2:=h.nf;have h3:=h.out;have hsl:=h.top.sl;obtain⟨c,a⟩:=o;simp only [zu] at hok;have hstop:∀ (F:Z8) (e:Int),e≠0->A0 p (m.stop fs F e):=λF e he=>.inl he;rcases K0 hO.code with rfl|rfl|⟨n2,n13⟩|rfl|rfl|rfl|rfl|rfl|rfl|rfl
 · -- a statement begins
   simp at hok;have e0:kM p m fs f.next (0,a)=bE p m fs f.next:=by simp [kM]
   rw [e0,bE];by_cases hz:m.left=0
   .simp_all
   .rw [if_neg hz];have hpl:=(gS ho).1;have hpf:uC p f=0:=by grind[uC,v7]
    have hpn:uC p f.next=v7 l:=by grind[uC,Z8.next]
    have htr:=h.tr;refine .inr (.inr ⟨fs,f.next,rfl,⟨h.cells,h.Zg,h.cls,h.ZZ,h.low,⟨h.top.Z1,h.top.fl,h.top.fv,h.top.cl,h.top.cr,h.top.nm,h.top.sv,tR,hpl,?_⟩,?_,?_,h.nk,h.nc,?_,?_,h.deep,λg hg=>?_⟩⟩)
    .show zu (f.stack.length+0) ((vI p f.Z1).drop (f.pc+1))
     simp_all
    .grind[Zb.top]
    .grind[Zb.top]
    .grind[Zb.top]
    .grind
    .cases fs with
     | nil=>simp at hg;subst hg;exact h.b0 f qB
     | cons a l=>exact h.b0 g qH
 .simp at hok;have e0:kM p m fs f.next (1,a)=m.top fs (f.next.push (1,a)):=bX;rw [e0];refine .inr (.inr (.of (MQ h ho qB qH ?_)));have:=hO.arg;constructor<;>grind
 · -- names
   have e0:kM p m fs f.next (c,a)=if (c - 2) % 3=0 then vj p m fs f.next (c,a) else if (c - 2) % 3=1 then rB m fs f.next (c,a) else AL p m fs f.next (c,a):=by
    grind[kM]
   rw [e0];have hn:∀ st:List Zd,(∀ u∈st,u∈f.stack)->st.length<=f.stack.length->zu st.length l->MOk p m fs { f with pc:=f.pc+1,stack:=st }:=λst q1 q2 q3=>Sj h ho qA q1 q2 qj;by_cases m0:(c - 2) % 3=0
   .rw [if_pos m0];have hc:c=2\/c=5\/c=8\/c=11:=qA
    have hok':zu (f.stack.length+1) l:=by
     grind
    have push:∀ v,VOk m.ZZ.length m.ZV.length v->A0 p (m.top fs (f.next.push v)):=λv hv=>.inr (.inr (.of (MQ h ho qA qj hv)));unfold vj;have hgs:ft m f.next (c,a)=ft m f (c,a):=rfl;rw [hgs]
    cases hg:ft m f (c,a) with
    | some v=>grind[Tn]
    | none =>
     simp only
     split
     .split
      .rename_i v hv;exact push v (h.Zg.2 v (gv hv))
      .split
       .exact push _ ⟨qO,qB,qB⟩
       grind
     grind[fH]
   .rw [if_neg m0];by_cases m1:(c - 2) % 3=1
    .rw [if_pos m1];have hc:c=3\/c=6\/c=9\/c=12:=qA
     have hok':1<=f.stack.length/\zu (f.stack.length - 1) l:=by
      rcases hc with rfl|rfl|rfl|rfl <;> simpa using hok
     have hM:=hn f.pop.stack (λu hu=>fX hu) (by grind[dk]) (by grind[dk]);refine .inr (.inr (Lt (f:=f.next.pop) hM λv hv=>?_));obtain rfl:=sI hv;exact h.top.sv _ (cF hok'.1)
    .rw [if_neg m1];have hc:c=4\/c=7\/c=10\/c=13:=qA
     have hok':zu f.stack.length l:=by
      rcases hc with rfl|rfl|rfl|rfl <;> simpa using hok
     have hM:=hn f.stack (λu hu=>hu) (qf _) hok';unfold AL
     split
     .exact .inr (.inr (Lt (f:=f.next) hM λv hv=>by cases hv))
     grind[fH]
 .simp at hok;have e0:kM p m fs f.next (14,a)=HU m fs f.next:=bX;rw [e0,HU];have hp2:f.next.pop.pop.stack.length=f.stack.length - 2:=by grind[dk,Z8.next]
  have hv1:=h.top.sv _ (cF (f:=f) qA);have hv2:=h.top.sv _ (fX (cF (f:=f.pop) (by grind[dk])))
  split
  .simp_all
  .refine .inr (.inr (.of ?_));refine h.re ho rfl (λu hu=>?_) ?_ ?_ qB
   .rcases dY.1 hu with e|e
    .exact h.top.sv u (fX (fX e))
    .simp only [w6] at e;subst e;have e1:f.next.pop.tos=f.pop.tos:=rfl;have e2:f.next.tos=f.tos:=rfl;rw [e1,e2];have q1:=hv1.num;have q2:=hv2.num;constructor<;>grind
   .constructor<;>grind
   grind
 .simp at hok;obtain⟨q,q1,q2,q3,q4⟩:=hO.Z1 (.inl rfl);simp only at q1 q3 q4;have e0:kM p m fs f.next (15,a)={ m.top fs (f.next.push (2,m.ZZ.length)) with ZZ:=m.ZZ++[(a.toNat,uk p f.next a.toNat)] }:=bX;rw [e0];obtain⟨c1,c2⟩:=Bk hp.sh.Zc h.top q1 q2;have hfl:m.ZZ.length<=(m.ZZ++[(a.toNat,uk p f.next a.toNat)]).length:=qB;have hpf:uC p f=1+v7 l:=by grind[uC,v7]
  have hpn:uC p (f.next.push (2,(m.ZZ.length:Int)))=v7 l:=by grind[uC,Z8.next,Z8.push]
  have hpl:=(gS ho).1;have hT:=h.top.mono (nf':=(m.ZZ++[(a.toNat,uk p f.next a.toNat)]).length) hfl (qf _) (qf _);refine .inr (.inr ⟨fs,_,rfl,⟨λu hu=>(h.cells u hu).mono hfl (qf _),h.Zg.mono hfl (qf _),λu hu=>(h.cls u hu).mono hfl (qf _),λu hu=>?_,λu hu=>(h.low u hu).mono hfl (qf _) (qf _),⟨hT.Z1,hT.fl,hT.fv,hT.cl,hT.cr,hT.nm,λu hu=>?_,?_,hpl,?_⟩,?_,?_,h.nk,h.nc,?_,h.tr,h.deep,λg hg=>?_⟩⟩)
  .rcases dY.1 hu with e|e
   .exact h.ZZ u e
   .simp only [w6] at e;subst e;exact⟨q,q1,qA,c1,c2⟩
  .rcases dY.1 hu with e|e
   .exact hT.sv u e
   constructor<;>grind
  .grind[Z8.push,Z8.next]
  .grind[Z8.push,Z8.next]
  .grind[Zb.top]
  .grind[Zb.top]
  .grind[Zb.top]
  .cases fs with
   | nil=>simp at hg;subst hg;exact h.b0 f qB
   | cons a l=>exact h.b0 g qH
 .simp at hok;obtain⟨q,q1,q2,q3,q4⟩:=hO.Z1 (.inr rfl);simp only at q1 q3 q4;have e0:kM p m fs f.next (16,a)=z8 p (m.top fs f.next) a.toNat (uk p f.next a.toNat) []:=bX;rw [e0];obtain⟨c1,c2⟩:=Bk hp.sh.Zc h.top q1 q2;exact .inr (.inr (I8 (st:=f.stack) hp h ho (.inl rfl) (λu hu=>hu) qA qH (gS q1).1 qA c1 c2 (λv hv=>eJ)))
 .simp at hok;have e0:kM p m fs f.next (17,a)=dK p m fs f.next (17,a):=bX;rw [e0,dK];simp only;obtain⟨n,hn⟩:∃ n,a.toNat=n:=⟨_,rfl⟩;rw [hn] at hok ⊢;have hnl:f.next.stack.length=f.stack.length:=rfl;have hns:f.next.stack=f.stack:=rfl;rw [hns];have hkl:f.stack.length - n - 1<f.stack.length:=qA;have hg:VOk m.ZZ.length m.ZV.length (f.stack.getD (f.stack.length - n - 1) (0,0)):=BY h.top.sv _
  split
  .simp_all
  .rename_i hg2;have hg2':(f.stack.getD (f.stack.length - n - 1) (0,0)).1=2:=qA
   split
   .rename_i q hq
    split
    .simp_all
    .obtain⟨kb,r1,r2,r3,r4⟩:=h.ZZ q (gM hq)
     have hq0:0<q.1:=by
      rcases dV q.1 with e|e
      .rw [e] at r1;have:=(hp.sh.qAx r1).2 rfl;omega
      .exact e
     have hls:(f.stack.take (f.stack.length - n - 1)).length=f.stack.length - n - 1:=qc;refine .inr (.inr (I8 (st:=f.stack.take (f.stack.length - n - 1)) hp h ho (.inr rfl) (λu hu=>Ki hu) qA ?_ (gS r1).1 hq0 r3 r4 (λv hv=>h.top.sv v (List.mem_of_mem_drop hv))))
     grind
   simp_all
 .simp at hok;have e0:kM p m fs f.next (18,a)=ge m fs f.next (18,a):=bX;rw [e0,ge];simp only
  split
  .simp_all
  .split
   .rename_i u hu
    have hv:VOk m.ZZ.length m.ZV.length u:=by
     have hm:=gv hu;rw [xC] at hm
     cases hc:m.ZV[f.next.tos.2.toNat]? with
     | none=>simp_all
     | some cl =>
      rw [hc] at hm;exact (h.cls cl (gM hc)).2 u hm
    refine .inr (.inr (.of ?_));have hp1:f.next.pop.stack.length=f.stack.length - 1:=by rw [dk];rfl
    refine h.re ho rfl (λw hw=>?_) ?_ ?_ qB
    .rcases dY.1 hw with e|e
     .exact h.top.sv w (fX e)
     simp_all
    .constructor<;>grind
    simp_all
   simp_all
 .simp at hok;have e0:kM p m fs f.next (19,a)={ m.top fs f.next.pop with out:=m.out++[shown f.next.tos] }:=bX;rw [e0];have hpf:uC p f=1+v7 l:=by grind[uC,v7]
  have hpn:uC p f.next.pop=v7 l:=by grind[uC,Z8.next,Z8.pop]
  have hpl:=(gS ho).1;have hp1:f.next.pop.stack.length=f.stack.length - 1:=by rw [dk];rfl
  refine .inr (.inr ⟨fs,f.next.pop,rfl,⟨h.cells,h.Zg,h.cls,h.ZZ,h.low,⟨h.top.Z1,h.top.fl,h.top.fv,h.top.cl,h.top.cr,h.top.nm,λu hu=>h.top.sv u (fX hu),?_,hpl,?_⟩,?_,?_,h.nk,h.nc,?_,h.tr,h.deep,λg hg=>?_⟩⟩)
  .grind[Z8.pop,Z8.next]
  .grind[Z8.pop,Z8.next]
  .grind[Zb.top]
  .grind[Zb.top]
  .grind[Zb.top]
  .cases fs with
   | nil=>simp at hg;subst hg;exact h.b0 f qB
   | cons a l=>exact h.b0 g qH
 .simp at hok;have e0:kM p m fs f.next (20,a)=zW m fs f.next.tos:=bX;rw [e0];exact IU h (h.top.sv _ (cF hok.1))
theorem JS (hp:Zm p) (hf:m.ZW=fs++[f]) (h:MOk p m fs f):A0 p (uS p m):=by
 cases ho:(vI p f.Z1)[f.pc]? with
 | some o =>
  rw [qBM hf ho];exact M0 hp h ho
 | none =>
  rw [step_end hf ho,Bb]
  split
  .have:=h.nk;exact Od h h.top.nm qA
  .exact IU h .zero
theorem DL (hp:Zm p) {n:Nat} (hn:n<=150):∀ i,(j7 p i (q8 p n)).ended\/SE p (j7 p i (q8 p n))
 | 0=>by
  right;have hl:=hp.sh.len;obtain⟨k,hk⟩:∃ k,p[0]?=some k:=⟨_,gE qA⟩;have hk0:=(hp.sh.qAx hk).2 rfl;have hka:qg p 0=0:=eQ;have hc0:qF p 0=[]:=by grind[qF]
  have hf0:qP p 0=[]:=by grind[qP]
  have hr0:qd p 0=[]:=by
   rw [List.eq_nil_iff_forall_not_mem];intro x hx;exact absurd (mj hx) qO
  have hps:(zC p 0).params=[]:=by
   have:=hp.sh.head 0 k hk
   grind[zC]
  have hM:q8 p n=⟨[],q9,[],[],[⟨0,0,[],[],q9,[]⟩],1,1,[],[],0,n⟩:=by
   unfold q8 z8
   simp_all[z6]
  obtain⟨o1,o2⟩:=Db (b:=0) hp.sh qA;simp only [j7,hM];have hpF:uC p ⟨0,0,[],[],q9,[]⟩=0:=by grind[uC]
  have hpS:BB p []=0:=rfl;refine⟨[],_,rfl,⟨qB,.none,qB,qB,qB,⟨qj,by simp [hf0],qB,qH,qB,.none,qB,qB,qB,qH⟩,?_,?_,?_,?_,?_,?_,?_,?_⟩⟩
  all_goals try simp only [hpF,hpS,Ek]
  all_goals first|omega|simp
 | i+1=>by
  rw [kU];rcases DL hp hn i with h|h
  .simp_all
  .by_cases he:(j7 p i (q8 p n)).ended
   .simp_all
   .rw [if_neg he];obtain⟨fs,f,h1,h2⟩:=h;rcases JS hp h1 h2 with e|e|e
    .exact .inl (.inr e)
    .exact .inl (.inl e)
    simp_all
end
section
variable {p:Z0} {m m':Zb} {b n:Nat} {fs:List Z8} {f g:Z8} {o:Int×Int} {v:Zd} {s:Zt}
def Dq (f:Z8):Nat:=61 - f.pc
def BR (m:Zb):Nat:=(151 - m.made) * 62+(m.ZW.map Dq).sum
def WU (m:Zb) (fs:List Z8) (pc:Nat) (m':Zb):Prop:=(∃ g,m'.ZW=fs++[g]/\g.pc=pc)/\m'.made=m.made/\m'.out.length<=m.out.length+1/\m'.trace.length<=m.trace.length+1/\m'.globals.length=m.globals.length
theorem Q7 (h:g.pc=f.pc):WU m fs f.pc (m.top fs g):=⟨⟨g,rfl,h⟩,rfl,a6,a6,rfl⟩
theorem NJ {e:Int} (h:g.pc=f.pc):WU m fs f.pc (m.stop fs g e):=⟨⟨g,rfl,h⟩,rfl,by simp [Zb.stop,Zb.top],by simp [Zb.stop,Zb.top],rfl⟩
theorem I5 (h:g.pc=f.pc):WU m fs f.pc (qAD m fs g o s):=by
 unfold qAD
 repeat' split
 all_goals exact⟨⟨_,rfl,h⟩,rfl,a6,a6,a6⟩
theorem AG {cs:List Nat} {vs:List Zd}:(∃ g,(z8 p m b cs vs).ZW=m.ZW++[g])/\(z8 p m b cs vs).made=m.made+1/\(z8 p m b cs vs).out=m.out/\(z8 p m b cs vs).trace=m.trace/\(z8 p m b cs vs).globals=m.globals:=by
 unfold z8
 split<;>grind
def UL (m m':Zb):Prop:=BR m'<BR m/\m'.out.length<=m.out.length+1/\m'.trace.length<=m.trace.length+1/\m'.globals.length=m.globals.length
theorem Mx (hm:m.ZW=fs++[f]) (hp:f.pc<61) (h:WU m fs (f.pc+1) m'):UL m m':=by
 obtain⟨⟨g,h1,h2⟩,h3,h4⟩:=h;refine⟨?_,h4⟩
 grind[BR,Dq]
theorem AC {cs:List Nat} {vs:List Zd} (hm:m.ZW=fs++[f]) (hp:f.pc<61) (hg:g.pc=f.pc+1) (hmd:m.made<=150):UL m (z8 p (m.top fs g) b cs vs):=by
 obtain⟨⟨x,h1⟩,h2,h3,h4,h5⟩:=AG (p:=p) (m:=m.top fs g) (b:=b) (cs:=cs) (vs:=vs);refine⟨?_,by rw [h3];exact Nat.le_succ _,by rw [h4];exact Nat.le_succ _,by rw [h5];rfl⟩;have h6:(m.top fs g).ZW=fs++[g]:=rfl;have h7:(m.top fs g).made=m.made:=rfl
 grind[BR,Dq]
theorem AB (hm:m.ZW=fs++[f]) (hp:f.pc<61) (hf:m'.made=m.made) (ho:m'.out=m.out) (ht:m'.trace=m.trace) (hg:m'.globals=m.globals):UL m (zW m' fs v):=by
 unfold zW
 split
 .rename_i g hl
  have hs:((fs.dropLast++[g.push v]).map Dq).sum=(fs.map Dq).sum:=by
   have e:fs=fs.dropLast++[g]:=by
    have hne:fs≠[]:=λe=>qH
    grind[RL]
   grind[Dq,Z8.push]
  refine⟨?_,by simp [ho],oI,by simp [hg]⟩
  grind[BR,Dq]
 .refine⟨?_,by simp [ho],oI,by simp [hg]⟩
  grind[BR,Dq]
theorem Cu (hp:Zm p) (hm:m.ZW=fs++[f]) (hM:MOk p m fs f):UL m (uS p m):=by
 have hol:=dl (p:=p) (b:=f.Z1) hp.sh;have hpc:=hM.top.pc;have h61:f.pc<61:=qA
 cases ho:(vI p f.Z1)[f.pc]? with
 | none =>
  rw [Hm.step_end hm ho]
  grind[Bb,AB]
 | some o =>
  rw [Hm.qBM hm ho];have hmd:=hM.made
  have hpend:o.1=16\/o.1=17->m.made<=150:=λh=>by
   have h2:1<=uC p f:=by
    unfold uC;rw [dy ho]
    grind[v7]
   omega
  have hG:∀ m',WU m fs f.next.pc m'->UL m m':=λm' h=>Mx hm h61 h;have hT:∀ g:Z8,g.pc=f.next.pc->UL m (m.top fs g):=λg h=>hG _ (Q7 h);have hS:∀ (g:Z8) (e:Int),g.pc=f.next.pc->UL m (m.stop fs g e):=λg e h=>hG _ (NJ h);unfold kM
  split
  .unfold bE
   split
   .exact hS _ _ rfl
   .exact hG _ ⟨⟨_,rfl,rfl⟩,rfl,a6,qB,rfl⟩
  .split
   .split
    .unfold vj
     repeat' split
     all_goals first|exact hT _ rfl|exact hS _ _ rfl
    .split
     .exact hG _ (I5 rfl)
     .unfold AL
      split
      .exact hG _ (I5 rfl)
      .exact hS _ _ rfl
   .unfold ya
    split
    .exact hT _ rfl
    split
    .unfold HU;dsimp only
     split
     .exact hS _ _ rfl
     .exact hT _ rfl
    split
    .exact hG _ ⟨⟨_,rfl,rfl⟩,rfl,a6,a6,rfl⟩
    split
    .grind[AC]
    split
    .unfold dK;dsimp only
     split
     .exact hS _ _ rfl
     .split
      .split
       .exact hS _ _ rfl
       grind[AC]
      .exact hS _ _ rfl
    split
    .unfold ge;dsimp only
     split
     .exact hS _ _ rfl
     .split
      .exact hT _ rfl
      .exact hS _ _ rfl
    split
    .exact hG _ ⟨⟨_,rfl,rfl⟩,rfl,qB,a6,rfl⟩
    grind[AB]
theorem Pf (hp:Zm p) (hn:n<=150):∃ N,(j7 p N (q8 p n)).ended:=by
 have key:∀ i,(j7 p i (q8 p n)).ended\/BR (j7 p i (q8 p n))+i<=BR (q8 p n):=by
  intro i
  induction i with
  | zero=>exact .inr (qf _)
  | succ i ih =>
   rcases ih with h|h
   .grind[kU]
   .by_cases he:(j7 p i (q8 p n)).ended
    .grind[kU]
    .right;rw [kU,if_neg he];obtain⟨fs,f,h1,h2⟩:=(DL hp hn i).resolve_left he;have:=(Cu hp h1 h2).1;omega
 rcases key (BR (q8 p n)+1) with h|h<;>grind
theorem Ri (hp:Zm p) (hn:n<=150):∀ i,(j7 p i (q8 p n)).out.length<=151/\(j7 p i (q8 p n)).trace.length<=151/\(j7 p i (q8 p n)).globals.length=8
 | 0=>by
  grind[AG,z6,j7,q8]
 | i+1=>by
  have ih:=Ri hp hn i;by_cases he:(j7 p i (q8 p n)).ended
  .grind[kU]
  .rw [kU,if_neg he];obtain⟨fs,f,h1,h2⟩:=(DL hp hn i).resolve_left he;obtain⟨_,h3,h4,h5⟩:=Cu hp h1 h2;have h6:=h2.out;have h7:=h2.tr;omega
end
section
variable {p:Z0} {m:Zb} {b e d n i j N M:Nat} {fs:List Z8} {f g:Z8} {o:Int×Int} {v:Zd} {k:Za} {x:Int} {l:List (Int×Int)}
def Zb.add (d:Nat) (m:Zb):Zb:={ m with left:=m.left+d }
theorem UE:(m.add d).top fs f=(m.top fs f).add d:=rfl
theorem RP {E:Int}:(m.add d).stop fs f E=(m.stop fs f E).add d:=rfl
theorem Iw {s:Zt}:qAD (m.add d) fs f o s=(qAD m fs f o s).add d:=by
 unfold qAD
 repeat' split
 all_goals rfl
theorem RQ:vj p (m.add d) fs f o=(vj p m fs f o).add d:=by
 unfold vj;have h1:ft (m.add d) f o=ft m f o:=rfl;have h2:uE (m.add d).globals o.2.toNat=uE m.globals o.2.toNat:=rfl;rw [h1,h2]
 repeat' split
 all_goals rfl
theorem UF:AL p (m.add d) fs f o=(AL p m fs f o).add d:=by
 unfold AL;have h1:ft (m.add d) f o=ft m f o:=rfl;rw [h1]
 split
 .exact Iw
 .rfl
theorem xG {cs:List Nat} {vs:List Zd}:z8 p (m.add d) b cs vs=(z8 p m b cs vs).add d:=by
 unfold z8
 split
 .split <;> rfl
 .rfl
theorem RR:dK p (m.add d) fs f o=(dK p m fs f o).add d:=by
 unfold dK;have h1:(m.add d).ZZ=m.ZZ:=rfl;simp only [h1,UE,RP,xG]
 repeat' split
 all_goals rfl
theorem El:zW (m.add d) fs v=(zW m fs v).add d:=by
 unfold zW
 split <;> rfl
theorem RO:ya p (m.add d) fs f o=(ya p m fs f o).add d:=by
 unfold ya
 split
 .rfl
 .split
  .unfold HU;dsimp only
   split <;> rfl
  .split
   .rfl
   .split
    .exact xG (m:=m.top fs f)
    .split
     .exact RR
     .split
      .unfold ge;have h1:(m.add d).ZV=m.ZV:=rfl;simp only [h1]
       repeat' split
       all_goals rfl
      .split
       .rfl
       .exact El
theorem P7:uS p (m.add d)=(uS p m).add d\/((uS p m).en=1/\(uS p m).cells=m.cells/\(uS p m).made=m.made/\(uS p m).deep=m.deep/\(uS p m).ZW.length=m.ZW.length):=by
 unfold uS;have h1:(m.add d).ZW=m.ZW:=rfl;rw [h1]
 cases hf:m.ZW.getLast? with
 | none=>simp
 | some f =>
  simp only
  cases ho:(vI p f.Z1)[f.pc]? with
  | none =>
   simp only;left;unfold Bb
   split
   .unfold zW
    split <;> rfl
   .exact El
  | some o =>
   simp only;unfold kM
   split
   .unfold bE;by_cases hl:m.left=0
    .grind[Zb.stop,Zb.top]
    grind[Zb.add,Zb.top]
   .left
    split
    .split
     .exact RQ
     .split
      .exact Iw
      .exact UF
    .exact RO
structure Gr (m m':Zb):Prop where
 cells:m.cells.length<=m'.cells.length
 made:m.made<=m'.made
 deep:m.deep<=m'.deep
theorem Gr.refl (m:Zb):Gr m m:=⟨qf _,qf _,qf _⟩
theorem Gr.trans {a b c:Zb} (h:Gr a b) (h':Gr b c):Gr a c:=⟨vk h.cells h'.cells,vk h.made h'.made,vk h.deep h'.deep⟩
theorem NI {s:Zt}:Gr m (qAD m fs f o s):=by
 unfold qAD
 repeat' split
 all_goals exact⟨a6,a6,a6⟩
theorem Q6 {cs:List Nat} {vs:List Zd}:Gr m (z8 p m b cs vs):=by
 unfold z8
 split
 .split
  .exact⟨qB,qB,qj⟩
  .exact⟨qB,qB,qj⟩
 .exact⟨qB,qB,qj⟩
theorem Dy {cs:List Nat} {vs:List Zd}:Gr m (z8 p (m.top fs f) b cs vs):=by
 have h:=Q6 (p:=p) (m:=m.top fs f) (b:=b) (cs:=cs) (vs:=vs);exact⟨h.cells,h.made,h.deep⟩
theorem I4:Gr m (zW m fs v):=by
 unfold zW
 split <;> exact⟨qf _,qf _,qf _⟩
theorem Sc:Gr m (uS p m):=by
 unfold uS
 split
 .rename_i f hf
  split
  .rename_i o ho;unfold kM
   split
   .unfold bE
    split <;> exact⟨qf _,qf _,qf _⟩
   .split
    .split
     .unfold vj
      repeat' split
      all_goals exact⟨qf _,qf _,qf _⟩
     .split
      .exact NI
      .unfold AL
       split
       .exact NI
       .exact⟨qf _,qf _,qf _⟩
    .unfold ya
     split
     .exact⟨qf _,qf _,qf _⟩
     .split
      .unfold HU;dsimp only
       split <;> exact⟨qf _,qf _,qf _⟩
      .split
       .exact⟨qf _,qf _,qf _⟩
       .split
        .exact Dy
        .split
         .unfold dK;simp only
          split
          .exact⟨qf _,qf _,qf _⟩
          .split
           .split
            .exact⟨qf _,qf _,qf _⟩
            .exact Dy
           .exact⟨qf _,qf _,qf _⟩
         .split
          .unfold ge;simp only
           split
           .exact⟨qf _,qf _,qf _⟩
           .split <;> exact⟨qf _,qf _,qf _⟩
          .split
           .exact⟨qf _,qf _,qf _⟩
           .exact I4
  .unfold Bb
   split
   .unfold zW
    split <;> exact⟨qf _,qf _,qf _⟩
   .exact I4
 .exact⟨qf _,qf _,qf _⟩
theorem MH (h:i<=j) (m:Zb):Gr (j7 p i m) (j7 p j m):=by
 induction h with
 | refl=>exact .refl _
 | step _ ih =>
  refine ih.trans ?_
  grind[kU,Gr.refl,Sc]
theorem Lg:q8 p (n+d)=(q8 p n).add d:=by
 unfold q8;have:z6 (n+d)=(z6 n).add d:=rfl;rw [this,xG]
theorem MI:∀ i:Nat,j7 p i (m.add d)=(j7 p i m).add d\/∃ j,j<i/\j7 p j (m.add d)=(j7 p j m).add d/\(j7 p (j+1) m).en=1/\(j7 p (j+1) m).cells=(j7 p j m).cells/\(j7 p (j+1) m).made=(j7 p j m).made/\(j7 p (j+1) m).deep=(j7 p j m).deep/\(j7 p (j+1) m).ZW.length=(j7 p j m).ZW.length
 | 0=>.inl rfl
 | i+1=>by
  rcases MI i with h|⟨j,hj,h⟩
  .have he:(j7 p i (m.add d)).ended↔(j7 p i m).ended:=by rw [h];rfl
   grind[kU,P7]
  grind
theorem Tu (hN:(j7 p N (q8 p n)).ended) (hM:(j7 p M (q8 p (n+d))).ended):Gr (j7 p N (q8 p n)) (j7 p M (q8 p (n+d))):=by
 rw [Lg] at hM ⊢;rcases MI (p:=p) (m:=q8 p n) (d:=d) N with h|⟨j,hj,h,_,h2,h3,h4,_⟩
 .have hE:(j7 p N ((q8 p n).add d)).ended:=by rw [h];exact hN
  have:j7 p M ((q8 p n).add d)=j7 p N ((q8 p n).add d):=by
   grind[fW]
  rw [this,h];exact⟨qf _,qf _,qf _⟩
 .have hEj:(j7 p (j+1) (q8 p n)).ended:=by
   right;omega
  have e1:j7 p N (q8 p n)=j7 p (j+1) (q8 p n):=fW hEj qA;rw [e1]
  have hg:Gr (j7 p (j+1) (q8 p n)) (j7 p j ((q8 p n).add d)):=by
   rw [h];exact⟨by rw [h2];exact qf _,by rw [h3];exact qf _,HF⟩
  refine hg.trans ?_
  grind[MH,fW]
end
section
variable {p:Z0} {m:Zb} {b d n i j N M t:Nat} {fs:List Z8} {f g:Z8} {o:Int×Int} {v:Zd} {k:Za} {x:Int}
structure qBD (p:Z0) (t:Nat) (m:Zb):Prop where
 fr:m.ZW.length<=m.deep
 dm:m.deep<=m.made
 d1:1<=m.deep
 cells:m.cells.length<=t * (m.made - 1)
theorem qBD.of {m':Zb} (h:qBD p t m) (h1:m'.ZW.length<=m.ZW.length) (h2:m'.deep=m.deep) (h3:m'.made=m.made) (h4:m'.cells.length=m.cells.length):qBD p t m' :=
 ⟨by grind[fr],by grind[dm],by grind[d1],by rw [h4,h3];exact h.cells⟩
theorem Ti (h:qBD p t m) (hl:fs.length+1=m.ZW.length):qBD p t (m.top fs f):=h.of nr rfl rfl rfl
theorem I2 {s:Zt} (h:qBD p t m) (hl:fs.length+1=m.ZW.length):qBD p t (qAD m fs f o s):=by
 unfold qAD
 repeat' split
 all_goals exact h.of nr rfl rfl a6
theorem Dt {cs:List Nat} {vs:List Zd} (ht:∀ b,(qF p b).length<=t) (h:qBD p t m):qBD p t (z8 p m b cs vs):=by
 have hb:=ht b;have h1:=h.fr;have h2:=h.dm;have h3:=h.d1;have h4:=h.cells
 have key:∀ {C:List Zt} {F:List Z8},C.length=m.cells.length+(qF p b).length->F.length=m.ZW.length+1->qBD p t { m with cells:=C,made:=m.made+1,deep:=max m.deep (m.ZW.length+1),ZW:=F }:=by
  intro C F e1 e2;refine⟨qj,qj,qj,?_⟩;simp only [e1];obtain⟨q,hq⟩:∃ q,m.made=q+1:=⟨m.made - 1,qA⟩
  grind[Nat.mul_succ]
 unfold z8
 split<;>grind
theorem sQ (h:qBD p t m) (hl:fs.length+1=m.ZW.length):qBD p t (zW m fs v):=by
 unfold zW
 split
 .rename_i g hg;refine h.of ?_ rfl rfl rfl
  grind
 .exact h.of qB rfl rfl rfl
theorem I1 (ht:∀ b,(qF p b).length<=t) (h:qBD p t m):qBD p t (uS p m):=by
 unfold uS
 split
 .rename_i f hf
  have hl:m.ZW.dropLast.length+1=m.ZW.length:=by
   grind
  have hT:∀ F:Z8,qBD p t (m.top m.ZW.dropLast F):=λF=>Ti h hl;have hS:∀ (F:Z8) (E:Int),qBD p t (m.stop m.ZW.dropLast F E):=λF E=>(hT F).of (qf _) rfl rfl rfl
  split
  .rename_i o ho;unfold kM
   split
   .unfold bE
    split
    .grind
    .exact (hT _).of (qf _) rfl rfl rfl
   .split
    .split
     .grind[vj]
     .split
      .exact I2 h hl
      grind[AL,I2]
    .unfold ya
     split
     .exact hT _
     .split
      .grind[HU]
      .split
       .exact (hT _).of (qf _) rfl rfl rfl
       .split
        .grind[Dt]
        .split
         .grind[dK,Dt]
         .split
          .grind[ge]
          .split
           .exact (hT _).of (qf _) rfl rfl rfl
           grind[sQ]
  .unfold Bb
   split
   .exact sQ (m:={ m with ZV:=m.ZV++[f.names] }) (h.of (qf _) rfl rfl rfl) hl
   grind[sQ]
 .exact h
theorem Fj (ht:∀ b,(qF p b).length<=t):∀ (i:Nat) {m:Zb},qBD p t m->qBD p t (j7 p i m)
 | 0,_,h=>h
 | i+1,m,h=>by
  rw [j7]
  split
  .exact h
  .exact Fj ht i (I1 ht h)
theorem Ds (hp:Zm p):qBD p t (q8 p n):=by
 obtain⟨hR,f,hf,_⟩:=Cw (n:=n) hp;have hl:=hp.sh.len;obtain⟨k,hk⟩:∃ k,p[0]?=some k:=⟨_,gE qA⟩;have hk0:=(hp.sh.qAx hk).2 rfl;have hka:qg p 0=0:=eQ;have hc0:qF p 0=[]:=by grind[qF]
 have hps:(zC p 0).params=[]:=by
  have:=hp.sh.head 0 k hk
  grind[zC]
 unfold q8 z8;rw [hps];exact⟨qj,gD,qj,tN⟩
open Classical in
noncomputable def wB (p:Z0) (n:Nat):Zb:=if h:∃ N,(j7 p N (q8 p n)).ended then j7 p (Classical.choose h) (q8 p n) else q8 p n
theorem nR (h:(j7 p i (q8 p n)).ended):j7 p i (q8 p n)=wB p n:=by
 have hE:∃ N,(j7 p N (q8 p n)).ended:=⟨i,h⟩
 grind[wB,fW]
theorem co (hp:Zm p) (hn:n<=150):∃ N,(∀ i,i<N->¬ (j7 p i (q8 p n)).ended)/\(j7 p N (q8 p n)).ended/\j7 p N (q8 p n)=wB p n:=by
 obtain⟨N,hN⟩:=Pf (n:=n) hp hn
 have key:∀ N,(j7 p N (q8 p n)).ended->∃ M,(∀ i,i<M->¬ (j7 p i (q8 p n)).ended)/\(j7 p M (q8 p n)).ended:=by
  intro N
  induction N<;>grind[fW]
 grind[nR]
theorem Fa (hp:Zm p) (hn:n<=150):(wB p n).ended/\qBW p (yI p n) (wB p n):=by
 grind[Qs,nR]
theorem og (hp:Zm p) (hn:n<=150):(wB p n).out.length<=151/\(wB p n).trace.length<=151/\(wB p n).globals.length=8:=by
 grind[co,Ri]
theorem TA (hp:Zm p) (hn:n<=150) (ht:∀ b,(qF p b).length<=t):qBD p t (wB p n):=by
 grind[co,Fj,Ds]
theorem Pt (hp:Zm p) (hnm:n<=j) (hj:j<=150):Gr (wB p n) (wB p j):=by
 obtain⟨N,_,h1,h2⟩:=co (n:=n) hp qA;obtain⟨M,_,h3,h4⟩:=co (n:=j) hp hj;obtain⟨d,rfl⟩:∃ d,j=n+d:=⟨j - n,qA⟩;rw [<- h2,<- h4];exact Tu h1 h3
theorem JU (hp:Zm p) (hnm:n<=j) (hj:j<=150):(yI p n).stack.length<=(wB p j).deep:=by
 obtain⟨_,hC⟩:=Fa (n:=n) hp qA;have hI:=TA (n:=n) (t:=8) hp qA λb=>jo;have hg:=(Pt hp hnm hj).deep;have h1:=hI.fr;have h2:=hI.d1;by_cases he:(yI p n).en=0
 .have:=(sA hp.sh (fuel:=n) qA).stk he
  grind[zK]
 .obtain⟨B,hB⟩:=hC.err he
  grind[qAC.frl]
end
def swV (x y:Int) (l:List Zt):List Zt:=(List.range l.length).map λi:Nat=>match l[(swp x y i).toNat]? with|some s=>s|none=>none
section
variable {p:Z0} {b:Nat} {x y z:Int}
theorem L4 {l:List Zt}:(swV x y l).length=l.length:=by simp [swV]
theorem L5 {l:List Zt} (hl:l.length=8) (hx:0<=x/\x<=7) (hy:0<=y/\y<=7) {i:Nat} (hi:i<8):(swV x y l)[i]?=l[(swp x y i).toNat]?:=by
 grind[swp,swV]
theorem Ab (hx:0<=x/\x<=7) (hy:0<=y/\y<=7):swV x y q9=q9:=by
 apply wK
 grind[L5,L4]
theorem L3 {l:List Zt} {s:Zt} (hl:l.length=8) (hx:0<=x/\x<=7) (hy:0<=y/\y<=7) (hxy:x≠y) (hz:0<=z/\z<=7):(swV x y l).set (swp x y z).toNat s=swV x y (l.set z.toNat s):=by
 apply wK
 grind[L5,L4,swp,RM]
theorem L6 (h:z≠y):jC z x y=swp x y z:=by
 grind[jC,swp]
end
section
variable {p:Z0} {b:Nat} {x y:Int} (H:qAE p b x y)
include H
abbrev pH (p:Z0) (b:Nat) (x y:Int):Z0:=uI (qQ p b x) x y p
def iZ (p:Z0) (b:Nat) (x y:Int) (c:Nat) (z:Int):Int:=if qQ p b x c=true then jC z x y else z
omit H in
theorem Rc {k:Za} {z:Int} (h:z∈k.us):0<=z/\z<=7:=by
 grind[Za.us,mem_sorted]
theorem qAE.qD8 {c:Nat} {k:Za} {z:Int} (hk:p[c]?=some k) (hi:qi p c b=true) (hz:z∈k.us):z≠y:=by
 rintro rfl;have hf:=H.free c k hk hi;rw [xy] at hz;rcases hz with h|h|h|h
 .exact hf.rd (mem_sorted.1 h).1
 .exact hf.bd (mem_sorted.1 h).1
 .exact hf.d9 (mem_sorted.1 h).1
 .exact hf.d10 (mem_sorted.1 h).1
omit H in
theorem wl {c:Nat} {k:Za} (hk:p[c]?=some k):qQ p b x c=true↔x∈k.us/\q7 p c x=b:=by
 grind[qQ]
theorem qAE.own {c:Nat} {k:Za} {z:Int} (hk:p[c]?=some k) (hz:z∈k.us):q7 (pH p b x y) c (iZ p b x y c z)=q7 p c z:=by
 have hq:(pH p b x y)[c]?=some (yQ (qQ p b x c) x y k):=ab hk;by_cases h0:c=0
 .grind[q7]
 have hc0:0<c:=qA;unfold iZ;by_cases ht:qQ p b x c=true
 .rw [if_pos ht];obtain⟨hxu,hxo⟩:=(wl hk).1 ht;have hin:=wW H.sh.Zc H.hb ht;have hzy:=H.qD8 hk hin hz;have hf:=H.qBv hk ht;by_cases hzx:z=x
  .subst hzx;have h2:qQ (pH p b z y) b y c=true:=by grind[qDf]
   simp_all[wl,jC]
  .have h1:jC z x y=z:=by grind[jC]
   have hs:swp x y z=z:=P4 hzx hzy;rw [h1];unfold q7;rw [hq,hk,ht];simp only [yQ,if_true,oe H.hx H.hy H.hxy hf,ck H.hx H.hy H.hxy hf,hs,H.qBE hzx hzy hk hc0]
 .rw [if_neg ht];have ht':qQ p b x c=false:=qH;have hne:z=x->q7 p c z≠b:=λe h=>ht ((wl hk).2 ⟨e ▸ hz,e ▸ h⟩);unfold q7;rw [hq,hk,ht'];simp only [yQ,ak,if_false];by_cases hg:c=0\/z∈k.dc 9
  .simp_all
  .rw [if_neg hg,if_neg hg];by_cases hl:qa c k z=true
   .simp_all
   .rw [if_neg hl,if_neg hl]
    cases hin:qi p c b with
    | false=>exact H.qBm hk hc0 hin
    | true =>
     have hzy:=H.qD8 hk hin hz;by_cases hzx:z=x
     .subst hzx
      have:outer p c z≠b:=by
       grind[q7]
      exact H.qCZ hk hc0 this
     .exact H.qBE hzx hzy hk hc0
omit H in
theorem Ye {c:Nat}:qg (pH p b x y) c=qg p c:=by
 grind[qg,yx,nQ]
def kP (b:Nat) (x y:Int) (w:Z5):Z5:={ w with ZX:=w.ZX.map λc=>if c.Z1=b then { c with vars:=swV x y c.vars } else c }
omit H in
theorem Az {w:Z5} {a:Nat}:(kP b x y w).ZX[a]?=(w.ZX[a]?).map λc=>if c.Z1=b then { c with vars:=swV x y c.vars } else c:=by simp [kP]
omit H in
theorem mI {w:Z5} {a:Nat}:(kP b x y w).Z1 a=w.Z1 a:=by
 grind[Z5.Z1,Az]
omit H in
theorem xp {w:Z5} {o:Nat}:∀ n a:Nat,uV (kP b x y w).ZX o n a=uV w.ZX o n a
 | 0,_=>rfl
 | n+1,a=>by
  simp only [uV,Az]
  cases w.ZX[a]? with
  | none=>rfl
  | some c =>
   simp only [kv];have h1:(if c.Z1=b then { c with vars:=swV x y c.vars } else c:Act).Z1=c.Z1:=qj;have h2:(if c.Z1=b then { c with vars:=swV x y c.vars } else c:Act).up=c.up:=qj;rw [h1,h2,xp n]
theorem qAE.qCn {w:Z5} {a:Nat} {k:Za} {z:Int} (hk:p[w.Z1 a]?=some k) (hz:z∈k.us):(kP b x y w).loc (pH p b x y) a (iZ p b x y (w.Z1 a) z)=w.loc p a z:=by
 unfold Z5.loc;rw [mI,H.own hk hz,xp]
theorem qAE.slot {w:Z5} {a:Nat} {k:Za} {z:Int} (hW:Zy p w) (ha:a<w.ZX.length) (hk:p[w.Z1 a]?=some k) (hz:z∈k.us) :
  (w.loc p a z=none/\iZ p b x y (w.Z1 a) z=z)\/∃ (d:Nat) (e:Act),w.loc p a z=some d/\w.ZX[d]?=some e/\((e.Z1=b/\iZ p b x y (w.Z1 a) z=swp x y z)\/(e.Z1≠b/\iZ p b x y (w.Z1 a) z=z)):=by
 have hb:=H.hb;rcases dn (x:=z) H.sh.Zc hW ha with⟨h1,h2⟩|⟨o,d,e,h0,h1,h2,_,h4,h5,h6⟩
 .grind[iZ,wl,jC]
 .refine .inr ⟨d,e,h2,h4,?_⟩;by_cases ho:o=b
  .left;subst ho;refine⟨h5,?_⟩;have hzy:=H.qD8 hk h6 hz
   grind[iZ,wl,L6,P4]
  grind[iZ,wl,jC]
theorem qAE.get_eq {w:Z5} {a:Nat} {k:Za} {z:Int} (hW:Zy p w) (ha:a<w.ZX.length) (hk:p[w.Z1 a]?=some k) (hz:z∈k.us):(kP b x y w).get (w.loc p a z) (iZ p b x y (w.Z1 a) z)=w.get (w.loc p a z) z:=by
 have hzr:=Rc hz;rcases H.slot hW ha hk hz with⟨h1,h2⟩|⟨d,e,h1,h2,h3⟩
 .rw [h1,h2]
  rfl
 .have hl:=(hW.vars d e h2).1
  grind[Z5.get,Z5.vars,Az,hx,hy,swp,L5]
theorem qAE.qDM {w:Z5} {a:Nat} {k:Za} {z:Int} {s:Zt} (hW:Zy p w) (ha:a<w.ZX.length) (hk:p[w.Z1 a]?=some k) (hz:z∈k.us):(kP b x y w).set (w.loc p a z) (iZ p b x y (w.Z1 a) z) s=kP b x y (w.set (w.loc p a z) z s):=by
 have hzr:=Rc hz;rcases H.slot hW ha hk hz with⟨h1,h2⟩|⟨d,e,h1,h2,h3⟩
 .rw [h1,h2]
  rfl
 .have hl:=(hW.vars d e h2).1;rw [h1]
  have key:(kP b x y w).ZX.modify d (λq=>{ q with vars:=q.vars.set (iZ p b x y (w.Z1 a) z).toNat s })=(w.ZX.modify d λq=>{ q with vars:=q.vars.set z.toNat s }).map λc=>if c.Z1=b then { c with vars:=swV x y c.vars } else c:=by
   apply wK
   grind[Az,L3,hx,hy,hxy]
  show ({ kP b x y w with ZX:=(kP b x y w).ZX.modify d λq=>{ q with vars:=q.vars.set (iZ p b x y (w.Z1 a) z).toNat s } }:Z5)=kP b x y { w with ZX:=w.ZX.modify d λq=>{ q with vars:=q.vars.set z.toNat s } }
  rw [key]
  rfl
end
end Go.Hm
end
