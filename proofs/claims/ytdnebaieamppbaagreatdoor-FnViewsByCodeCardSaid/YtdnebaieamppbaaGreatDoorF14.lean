import Derived.Test.YtdnebaieamppbaaGreatDoorF13
set_option linter.unusedSimpArgs false
set_option linter.unusedVariables false
set_option maxRecDepth 100000
set_option maxHeartbeats 4000000

section
namespace Go.Hm
open Go Go.RowKit
section
variable {p:YU} {w:YY} {m:Y2} {B:List Nat} {a b o d up:Nat} {c e:Act} {k:Y4} {f:YZ} {x:Int} {fs:List YZ} {vs:List Y6} {cs:List Nat}
theorem D8 {z:Act} (hh:zD p) (hW:Yx p w) (h0:0<o):∀ n a:Nat,a<w.YR.length->qy p (w.YS a) o=true->ua (w.YR++[z]) o n a=ua w.YR o n a/\ua w.YR o n a<w.YR.length
 | 0,a,hl,_=>⟨rfl,hl⟩
 | n+1,a,hl,hi=>by
  obtain⟨c,hc⟩:=gX hl;have hc':(w.YR++[z])[a]?=some c:=qe;simp only [ua,hc,hc'];by_cases e:c.YS=o
  .simp_all
  .simp only [e,if_false];obtain⟨h1,h2,h3⟩:=uv hh hW hc e h0 hi;exact D8 hh hW h0 n c.up qA h3
theorem lM {l:List Nat} {i n:Nat} (h:i<l.length):(l++[n]).getD i 0=l.getD i 0:=by
 grind
theorem MV {l:List Nat} {n:Nat}:(l++[n]).getD l.length 0=n:=qB
theorem tT (hm:jG p w.YR b up):w8 p b=w.YS up/\up<w.YR.length:=by
 obtain⟨c,k,h1,h2,h3,_⟩:=hm
 grind[jq,w8]
theorem rC {z:Act} {n:Nat} (hh:zD p) (hW:Yx p w) (hB:B.length=w.YR.length) (hm:jG p w.YR b up):aP p (w.YR++[z]) (B++[n]) b up=aP p w.YR B b up:=by
 obtain⟨hpa,hul⟩:=tT hm;obtain⟨c,k,_,hk,_,_⟩:=hm;refine lZ λx hx=>?_;obtain⟨o,_,_,_,_,ho,_⟩:=aN hh hk hx;obtain⟨_,_,h0,hi,_⟩:=Ah hh hk hx ho
 grind[D8,lU]
theorem xE {YR:List Act}:aP p YR B 0 up=[]:=by
 have:qN p 0=[]:=by
  rw [List.eq_nil_iff_forall_not_mem];intro x hx;exact absurd (fN hx) qL
 grind[aP]
theorem Mt (hh:zD p) (hW:Yx p w) (hc:w.YR[a]?=some c) (hF:Zp p w.YR B a c f) (hm:jG p w.YR b a):uM p f b=aP p w.YR B b a:=by
 obtain⟨hpa,hul⟩:=tT hm;obtain⟨c',k,_,hk,_,_⟩:=hm;have hb:=jq hc;rw [hb] at hpa;simp only [uM,z8,sJ,aP];refine lZ λx hx=>?_;obtain⟨o,_,_,_,_,ho,_⟩:=aN hh hk hx;obtain⟨_,hks,h0,hi,hcase⟩:=Ah hh hk hx ho;rw [ho,a6];simp only [Function.comp];rw [hpa] at hi hcase hks ⊢;rcases hcase with⟨e1,e2⟩|⟨e1,e2,e3,e4⟩
 .grind[zQ,vM,nh,lU,jF]
 .obtain⟨j,hj1,hj2,hj3⟩:=zQ e3;rw [vM,if_neg e2,hj1];have:(((qC p c.YS).length:Int)+(j:Int)).toNat=(qC p c.YS).length+j:=qA;rw [this,c9 hF hj3,e4,a6,lU,lU,fR hh hW h0 hc qA qH]
theorem Gt {n i:Nat}:ju (List.replicate n none) i=none:=by
 grind[ju]
theorem GR (hp:Y1 p) (hW:Yx p w) (hR:Ys p w m B) (hm:jG p w.YR b up) (hcs:cs=aP p w.YR B b up) {pc:Nat} {st:List Y6} {D:Nat} :
  Ys p { w with YR:=w.YR++[⟨b,up,qc⟩],stack:=w.stack++[w.YR.length] }
   { m with cells:=m.cells++List.replicate (qC p b).length none,made:=m.made+1,deep:=D,YO:=m.YO++[⟨b,pc,List.replicate (qG p b).length none,((List.range (qC p b).length).map (m.cells.length+·))++cs,qc,st⟩] } (B++[m.cells.length]):=by
 have hh:=hp.Y9;have hB:=hR.qAe
 have hold:∀ (i:Nat) c,(w.YR++[⟨b,up,qc⟩])[i]?=some c->(i<w.YR.length/\w.YR[i]?=some c)\/(i=w.YR.length/\c=⟨b,up,qc⟩):=by
  grind
 have hcap:∀ (i:Nat) c,w.YR[i]?=some c->aP p (w.YR++[⟨b,up,qc⟩]) (B++[m.cells.length]) c.YS c.up=aP p w.YR B c.YS c.up:=by
  intro i c hc;rcases iR i with e|e
  .grind[Yx.a0,xE]
  .exact rC hh hW hB (hW.up i c hc e).2
 refine⟨hR.en,hR.out,hR.tr,hR.left,hR.Yd,hR.cls,?_,by simp [hR.made],by simp [hB],λi c hc=>?_,λi j c h1 h2 hc=>?_,λi j c y hc hy=>?_,by simp [hR.frl],λi q c g hi hc hg=>?_,?_,hR.fk⟩
 .simp only [hR.YT];refine lZ λg hg=>?_;obtain⟨i,hi⟩:=ab hg;rw [rC hh hW hB (hW.YT i g hi)]
 .rcases hold i c hc with⟨h1,h2⟩|⟨h1,h2⟩
  .rw [lM qA];have:=hR.top i c h2
   grind
  simp_all
 .rw [wk,bS] at h2;rcases hold i c hc with⟨h3,h4⟩|⟨h3,h4⟩
  .rw [lM qA];rcases dS j w.YR.length with h5|h5
   .rw [lM qA];exact hR.dis i j c h1 h5 h4
   .obtain rfl:j=w.YR.length:=qA;rw [<- hB,MV];exact hR.top i c h4
  .omega
 .rcases hold i c hc with⟨h3,h4⟩|⟨h3,h4⟩
  .have ht:=hR.top i c h4;have hjl:=(gS hy).1;simp only;rw [lM qA,dX qA];exact hR.val i j c y h4 hy
  grind[Gt]
 .have hfl:=hR.frl;have hil:=(gS hi).1;rw [wk,bS] at hil;rcases dS i w.stack.length with h1|h1
  .simp only at hi hg;rw [dX h1] at hi;rw [dX qA] at hg;have hql:=hW.Z7 q (gM hi);rcases hold q c hc with⟨h3,h4⟩|⟨h3,h4⟩
   .have hF:=hR.frs i q c g hi h4 hg;refine⟨hF.YS,?_,hF.YV,hF.names⟩;rw [hF.cells,vf,vf,hcap q c h4,lM qA]
   .omega
  .obtain rfl:i=w.stack.length:=qA;simp only at hi hg;rw [kh (qp _),Dx] at hi;rw [kh qA,hfl,Dx] at hg;simp only [fm,sL] at hi hg;subst hi hg;rcases hold _ c hc with⟨h3,_⟩|⟨_,h4⟩
   .omega
   .subst h4;refine⟨rfl,?_,?_,λ_=>rfl⟩
    .grind[vf,rC]
    .apply aW
     grind[Gt]
 .refine List.pairwise_append.2 ⟨hR.Z7,qB,λu hu v hv=>?_⟩;simp only [kg] at hv;subst hv;exact hW.Z7 u hu
theorem GS (h:(qd p b).params=[]):qk p w b up vs={ w with YR:=w.YR++[⟨b,up,qc⟩],stack:=w.stack++[w.YR.length] }:=by
 unfold qd at h;unfold qk
 cases hk:p[b]?<;>simp_all[ef]
theorem pF {z:Act} {g:Act->Act}:∀ l:List Act,(l++[z]).modify l.length g=l++[g z]
 | []=>rfl
 | a::l=>by simp [pF l]
theorem N3 (hp:Yl p) (hW:Yx p w) (hR:Ys p w m B) (hm:jG p w.YR b up) (hcs:cs=aP p w.YR B b up) (hv:vs.length=fH p b) (hvo:∀ v∈vs,ZQ w.YT.length w.YP.length v) (hr:Room 1 w) :
  Ys p (qk p w b up vs) (ze p m b cs vs) (B++[m.cells.length])/\∃ f',(ze p m b cs vs).YO=m.YO++[f']/\f'.YS=b/\f'.pc=0/\f'.stack=[]:=by
 have hE:=GR hp.sh hW hR hm hcs (pc:=0) (st:=[]) (D:=max m.deep (m.YO.length+1));have hm0:=hm;obtain⟨_,k,_,hk,_,hb0⟩:=hm;have hpar:(qd p b).params=k.params:=kR;have hvl:vs.length=k.params.length:=by grind[fH]
 have hhd:=hp.sh.head b k hk;unfold ym at hhd;rw [if_neg qA] at hhd
 have hpl:k.params.length<=1/\(k.params.length=1->k.kind=1):=by
  omega
 have hcase:(k.params=[]/\vs=[])\/∃ x v,k.params=[x]/\vs=[v]:=by
  grind[GX]
 unfold ze;rcases hcase with⟨hps,rfl⟩|⟨x,v,hps,rfl⟩
 .grind[GS]
 .rw [hpar,hps];simp only;have hkm:=gM hk;have hxp:x∈k.params:=by simp [hps]
  have hx:=(hp.sh.names k hkm).params x hxp;have how:=hp.pm b k hk x hxp;have hk1:k.kind=1:=hpl.2 (by simp [hps]);have hka:qV p b=1:=cq
  have hbw:qk p w b up [v]=({ w with YR:=w.YR++[⟨b,up,qc⟩],stack:=w.stack++[w.YR.length] }:YY).set (some w.YR.length) x (some v):=by
   simp_all[qk,ef,YY.set,pF]
  rw [hbw]
  have hW2:Yx p ({ w with YR:=w.YR++[⟨b,up,qc⟩],stack:=w.stack++[w.YR.length] }:YY):=by
   have:=N4 (i:=0) hW hm0 hvo hr
   simp_all[aZ,ef]
  have hB:=hR.qAe;have hc2:({ w with YR:=w.YR++[⟨b,up,qc⟩],stack:=w.stack++[w.YR.length] }:YY).YR[w.YR.length]?=some ⟨b,up,qc⟩:=qB;by_cases hf:x∈qG p b
  .rw [if_pos hf];obtain⟨i,hi1,hi2,hi3⟩:=zQ hf;have hT:=Ys.Z2 (m:={ m with cells:=m.cells++List.replicate (qC p b).length none,made:=m.made+1,deep:=max m.deep (m.YO.length+1) }) (fs:=m.YO) hE rfl hc2;refine⟨E1 (m:={ m with cells:=m.cells++List.replicate (qC p b).length none,made:=m.made+1,deep:=max m.deep (m.YO.length+1) }) (fs:=m.YO) hW2 hE rfl hc2 hx (wg hf) (g:=⟨b,0,(List.replicate (qG p b).length none).set (qq (qG p b) x).toNat (some v),_,qc,[]⟩) rfl rfl ?_ (λh2=>?_),_,rfl,rfl,rfl,rfl⟩
   .have h3:=hT.2.YV
    simp_all[DX]
   simp_all
  .rw [if_neg hf]
   have hcl:x∈qC p b:=by
    apply Classical.byContradiction;intro hno
    simp_all[xV,Yl.sh,zh]
   obtain⟨j,hj1,hj2,hj3⟩:=zQ hcl;have hS:=xc (s:=some v) hW2 hE hc2 hcl hj3
   grind
end
section
variable {p:YU} {w:YY} {m:Y2} {B:List Nat} {a b o d up:Nat} {c e:Act} {k:Y4} {f:YZ} {x:Int} {fs:List YZ} {vs:List Y6} {cs:List Nat} {st:List Nat} {s:Y5}
def YZ.at (p:YU) (f:YZ) (l:List (Int×Int)):Prop:=(yg p f.YS).drop f.pc=l
def YZ.next (f:YZ):YZ:={ f with pc:=f.pc+1 }
theorem YZ.ZU {o:Int×Int} {l:List (Int×Int)} (h:f.at p (o::l)):(yg p f.YS)[f.pc]?=some o/\f.next.at p l:=by
 unfold YZ.at at h ⊢;refine⟨?_,?_⟩
 .have:=congrArg (λl=>l[0]?) h
  grind
 grind[next,List.tail_drop]
theorem YZ.qC5 (h:f.at p []):(yg p f.YS)[f.pc]?=none:=by
 unfold YZ.at at h
 simp_all
structure ZW (p:YU) (w:YY) (m:Y2) (B:List Nat) (fs:List YZ) (f:YZ) (st:List Nat) (a:Nat) (c:Act) (k:Y4):Prop where
 sim:Ys p w (m.top fs f) B
 ok:Yx p w
 en:w.en=0
 Z7:w.stack=st++[a]
 act:w.YR[a]?=some c
 YS:p[c.YS]?=some k
theorem ZW.fr (h:ZW p w m B fs f st a c k):Zp p w.YR B a c f:=(h.sim.Z2 h.Z7 h.act).2
theorem ZW.re {g:YZ} (h:ZW p w m B fs f st a c k) (h1:g.YS=f.YS) (h2:g.cells=f.cells) (h3:g.YV=f.YV) (h4:g.names=f.names):ZW p w m B fs g st a c k :=
 ⟨h.sim.qAb (st:=st) h1 h2 h3 h4,h.ok,h.en,h.Z7,h.act,h.YS⟩
theorem ZW.step {o:Int×Int} (h:ZW p w m B fs f st a c k) (ho:(yg p f.YS)[f.pc]?=some o):aX p (m.top fs f) (uq p m fs f.next o):=by
 have he:(m.top fs f).en=0:=h.sim.en.trans h.en;exact K9 (m:=m.top fs f) (fs:=fs) rfl he ho
theorem ni (hp:Y1 p) (hk:p[b]?=some k) (hu:x∈k.us) {v:Int} (hv:v=0\/v=1\/v=2) :
  uq p m fs f (qm p b x v)=(if v=0 then vw p m fs f (qm p b x v) else if v=1 then oT m fs f (qm p b x v) else EF p m fs f (qm p b x v)):=by
 grind[uq,qm]
theorem OJ (hp:Y1 p) (hk:p[b]?=some k) (hu:x∈k.us) {v:Int} (hv:0<=v/\v<=2) (h:dW p f (qm p b x v)=4):(qm p b x v).2=x:=by
 grind[dW,qm]
theorem HR (hp:Y1 p) (h:ZW p w m B fs f st a c k) (hu:x∈k.us) :
  ((jM p w a x).1=w/\vw p m fs f (qm p c.YS x 0)=m.top fs (f.push (jM p w a x).2)) \/
  ((jM p w a x).1.en≠0/\(jM p w a x).1={ w with en:=(jM p w a x).1.en }/\vw p m fs f (qm p c.YS x 0)=m.stop fs f (jM p w a x).1.en):=by
 obtain⟨h1,h2⟩:=MT (v:=0) hp h.ok h.sim h.act h.fr h.YS hu qL;have hb:=jq h.act;have hg:m.globals=w.globals:=h.sim.Yd;have h1:gq m f (qm p c.YS x 0)=w.get (w.loc p a x) x:=h1;unfold jM vw;rw [h1,h2,hb]
 cases hget:w.get (w.loc p a x) x with
 | some v=>simp
 | none =>
  by_cases h4:ZO p c.YS (qh p c.YS x)=4
  .have hx:=OJ (f:=f) hp h.YS hu (v:=0) qL (h2.trans h4);simp only [if_pos h4,hx];have hgx:ju m.globals x.toNat=w.get none x:=by rw [hg];rfl
   grind
  grind[go]
theorem Cz (hp:Y1 p) {rest:List (Int×Int)}:∀ (l:List Int) (f:YZ),ZW p w m B fs f st a c k->(∀ x∈l,x∈k.us)->f.at p (l.map (λx=>qm p c.YS x 0)++rest) ->
  ((qf p w a l).1=w/\∃ g,aX p (m.top fs f) (m.top fs g)/\g.at p rest/\g.YS=f.YS/\g.cells=f.cells/\g.YV=f.YV/\g.names=f.names/\g.stack=f.stack++(qf p w a l).2) \/
  ((qf p w a l).1.en≠0/\∃ m',aX p (m.top fs f) m'/\Ys p (qf p w a l).1 m' B)
 | [],f,h,_,ha=>.inl ⟨rfl,f,.refl _,ha,rfl,rfl,rfl,rfl,by simp [qf]⟩
 | x::l,f,h,hu,ha=>by
  obtain⟨h1,h2⟩:=YZ.ZU ha;have hs:=h.step h1;rw [ni hp h.YS (hu x List.mem_cons_self) (.inl rfl),if_pos rfl] at hs;have hn:ZW p w m B fs f.next st a c k:=h.re rfl rfl rfl rfl;have e0:¬ w.en≠0:=λe=>e h.en;rcases HR (x:=x) hp hn (hu x List.mem_cons_self) with⟨g1,g2⟩|⟨g1,g2,g3⟩
  .rw [g2] at hs;have hn2:ZW p w m B fs (f.next.push (jM p w a x).2) st a c k:=h.re rfl rfl rfl rfl;have hat:(f.next.push (jM p w a x).2).at p (l.map (λx=>qm p c.YS x 0)++rest):=h2;simp only [qf,if_neg e0,g1];rcases Cz hp l _ hn2 (λy hy=>hu y (mf _ hy)) hat with⟨i1,g,i2,i3,i4,i5,i6,i7,i8⟩|⟨i1,m',i2,i3⟩
   .exact .inl ⟨i1,g,hs.trans i2,i3,i4,i5,i6,i7,Fk⟩
   .exact .inr ⟨i1,m',hs.trans i2,i3⟩
  .rw [g3] at hs
   have hl:(qf p (jM p w a x).1 a l).1=(jM p w a x).1:=by
    cases l<;>grind[qf]
   simp only [qf,if_neg e0,hl];refine .inr ⟨g1,_,hs,?_⟩;rw [g2];exact hn.sim.qBG rfl rfl rfl rfl
def TK (p:YU) (m:Y2) (fs:List YZ) (f:YZ) (v:Y6):Y2:=if qV p f.YS=2 then zd { m with YP:=m.YP++[f.names] } fs (3,m.YP.length) else zd m fs v
def sS (p:YU) (n:Nat) (R:YY->Nat->YY×Y6):Prop:=∀ (w:YY) (a:Nat) (m:Y2) (B:List Nat) (fs:List YZ) (f:YZ) (st:List Nat),
 Yx p w->w.left<n->w.en=0->w.stack=st++[a]->Ys p w m B->m.YO=fs++[f]->f.YS=w.YS a->f.pc=0->f.stack=[] ->
 ∃ m' B',aX p m m'/\Ys p (R w a).1 m' B'/\B <+: B'/\((R w a).1.en=0->∃ f',m'.YO=fs++[f']/\f'.YS=f.YS/\wZ p m'=TK p m' fs f' (R w a).2)
theorem Ys.pop {g:YZ} {v:Y6} {d:Nat} (h:Ys p w m B) (hs:w.stack=(st++[a])++[d]) (hm:m.YO=(fs++[g])++[f]) (he:w.en=0) :
  Ys p (xA w) (zd m (fs++[g]) v) B/\zd m (fs++[g]) v=m.top fs (g.push v):=by
 have hl:zd m (fs++[g]) v=m.top fs (g.push v):=by simp [zd,Y2.top]
 rw [hl];refine⟨?_,rfl⟩
 have hlen:fs.length=st.length:=by
  grind[frl]
 rw [xA,if_pos he];refine⟨h.en,h.out,h.tr,h.left,h.Yd,h.cls,h.YT,h.made,h.qAe,h.top,h.dis,h.val,?_,λi q c' f' hi hc hf=>?_,?_,h.fk⟩
 .grind[Y2.top]
 .simp only [hs,List.dropLast_concat] at hi;simp only [Y2.top] at hf;have hil:i<(st++[a]).length:=(gS hi).1;have hi':w.stack[i]?=some q:=qe;rw [wk,bS] at hil;rcases dS i fs.length with h1|h1
  .rw [dX h1] at hf;exact h.frs i q c' f' hi' hc qe
  .obtain rfl:i=fs.length:=qA;rw [kh (qp _),Dx] at hf;simp only [fm,sL] at hf;subst hf;exact (h.frs fs.length q c' g hi' hc qH).Z7 rfl rfl rfl rfl
 grind[Z7]
theorem D2 {n:Nat} {R:YY->Nat->YY×Y6} (hp:Yl p) (hO:bW p n R) (hS:sS p n R) (h:ZW p w m B fs f st a c k) (hn:w.left<n) (hm:jG p w.YR b up) (hcs:cs=aP p w.YR B b up) (hv:vs.length=fH p b) (hvo:∀ v∈vs,ZQ w.YT.length w.YP.length v) (hr:Room 1 w) :
  ∃ m' B',aX p (ze p (m.top fs f) b cs vs) m'/\B <+: B' /\
   (((qx p R w b up vs).1.en≠0/\Ys p (qx p R w b up vs).1 m' B') \/
    ((qx p R w b up vs).1.en=0/\qV p b≠2/\Ys p (qx p R w b up vs).1 (m'.top fs (f.push (qx p R w b up vs).2)) B'/\m'=m'.top fs (f.push (qx p R w b up vs).2)) \/
    ((qx p R w b up vs).1.en=0/\qV p b=2/\Ys p { (qx p R w b up vs).1 with YP:=(qx p R w b up vs).1.YP++[(qx p R w b up vs).1.vars (some w.YR.length)] } (m'.top fs (f.push (3,(qx p R w b up vs).1.YP.length))) B'/\m'=m'.top fs (f.push (3,(qx p R w b up vs).1.YP.length)))):=by
 obtain⟨hB,f0,hf0,hb0,hpc,hst⟩:=N3 hp h.ok h.sim hm hcs hv hvo hr;obtain⟨hW,hG⟩:=kC (p:=p) (b:=b) (up:=up) h.ok hm hvo hr
 have hblk:(qk p w b up vs).YS w.YR.length=b:=by
  simp [YY.YS,qk]
 have hstk:(qk p w b up vs).stack=(st++[a])++[w.YR.length]:=by simp [qk,h.Z7]
 obtain⟨m',B',s1,s2,s3,s4⟩:=hS (qk p w b up vs) w.YR.length (ze p (m.top fs f) b cs vs) _ (fs++[f]) f0 (st++[a]) hW hn h.en hstk hB hf0 (hb0.trans hblk.symm) hpc hst;obtain⟨⟨r1,r2,r3⟩,_⟩:=hO (qk p w b up vs) w.YR.length hW hn gF h.en;have hBB:B <+: B':=(N9 _ _).trans s3;by_cases he:(R (qk p w b up vs) w.YR.length).1.en=0
 .obtain⟨f',t1,t2,t3⟩:=s4 he;have hne:¬ m'.ended:=pB (fs:=fs++[f]) t1 (s2.en.trans he);have hst':=(r3 he).trans hstk;have hfin:=aX.one (p:=p) hne;rw [t3] at hfin;have hen:(qx p R w b up vs).1.en=0:=by grind[qx,xA]
  have hcl:(qx p R w b up vs).1.YP=m'.YP:=by simp only [qx,xA,he,if_true];exact s2.cls.symm
  by_cases hk2:qV p b=2
  .rw [TK,if_pos qH] at hfin;obtain⟨e1,e2⟩:=Ys.pop (v:=(3,(m'.YP.length:Int))) s2 hst' t1 he;rw [e2] at e1;have e3:zd { m' with YP:=m'.YP++[f'.names] } (fs++[f]) (3,(m'.YP.length:Int))={ m' with YP:=m'.YP++[f'.names] }.top fs (f.push (3,(m'.YP.length:Int))):=by simp [zd,Y2.top]
   rw [e3] at hfin;refine⟨_,B',s1.trans hfin,hBB,.inr (.inr ⟨hen,hk2,?_,by rw [hcl];rfl⟩)⟩;rw [hcl]
   have hz:(qk p w b up vs).YR[w.YR.length]?=some ⟨b,up,ef (match p[b]? with|some k=>k.params|none=>[]) vs⟩:=by
    grind[qk]
   obtain⟨cn,hcn,hcnb,_⟩:=r2.YR w.YR.length _ hz
   have hfl:(fs++[f]).length=(st++[a]).length:=by
    grind[Ys.frl]
   have hF:=s2.frs (st++[a]).length w.YR.length cn f' qH hcn qH;have hnm:=hF.names qH
   have hvars:(qx p R w b up vs).1.vars (some w.YR.length)=f'.names:=by
    grind[qx,xA,YY.vars]
   rw [hvars];have e4:(qx p R w b up vs).1=xA (R (qk p w b up vs) w.YR.length).1:=rfl;rw [e4];exact⟨e1.en,e1.out,e1.tr,e1.left,e1.Yd,rfl,e1.YT,e1.made,e1.qAe,e1.top,e1.dis,e1.val,e1.frl,e1.frs,e1.Z7,e1.fk⟩
  .rw [TK,if_neg qH] at hfin;obtain⟨e1,e2⟩:=Ys.pop (v:=(R (qk p w b up vs) w.YR.length).2) s2 hst' t1 he;rw [e2] at e1 hfin;exact⟨_,B',s1.trans hfin,hBB,.inr (.inl ⟨hen,hk2,e1,rfl⟩)⟩
 grind[qx,xA]
end
section
variable {p:YU} {w:YY} {m:Y2} {B:List Nat} {a b o d up:Nat} {c e:Act} {k:Y4} {f:YZ} {x:Int} {fs:List YZ} {vs:List Y6} {cs:List Nat} {st:List Nat} {s:Y5} {n:Nat} {R:YY->Nat->YY×Y6}
theorem xT (h:m.YO=fs++[f]):m.top fs f=m:=by
 cases m<;>grind[Y2.top]
theorem oS {S:List Y6} {v:Y6} {g:YZ} (h:g.stack=S++[v]):g.Yw=v/\g.pop.stack=S:=by
 simp [YZ.Yw,YZ.pop,h]
def G4 (p:YU) (m0:Y2) (B:List Nat) (fs:List YZ) (f:YZ) (S:List Y6) (rest:List (Int×Int)) (W:YY×Y6):Prop :=
 ∃ m' B',aX p m0 m'/\B <+: B'/\Ys p W.1 m' B'/\(W.1.en=0->∃ g,m'=m'.top fs g/\g.YS=f.YS/\g.stack=S++[W.2]/\g.at p rest)
theorem QC (hp:Yl p) (hO:bW p n R) (hS:sS p n R) (h:ZW p w m B fs f st a c k) (hn:w.left<n) (hr:Room 1 w) {S:List Y6} {g:Y6} {args:List Y6} (hst:f.stack=S++(g::args)) (hg:ZQ w.YT.length w.YP.length g) (hv:∀ v∈args,ZQ w.YT.length w.YP.length v) {rest:List (Int×Int)} (ha:f.at p ((17,(args.length:Int))::rest)) :
  G4 p (m.top fs f) B fs f S rest (aQ p R w g args):=by
 obtain⟨h1,h2⟩:=YZ.ZU ha;have hs:=h.step h1;have hn2:ZW p w m B fs f.next st a c k:=h.re rfl rfl rfl rfl;have e0:uq p m fs f.next (17,(args.length:Int))=fj p m fs f.next (17,(args.length:Int)):=aV;rw [e0] at hs;have hlen:f.next.stack.length - args.length - 1=S.length:=sB;have t1:f.next.stack.take S.length=S:=sB;have t2:f.next.stack.getD S.length (0,0)=g:=sB
 have t3:f.next.stack.drop (S.length+1)=args:=by
  simp_all[YZ.next]
 unfold fj at hs;simp only [a6,hlen,t1,t2,t3] at hs;have hn3:ZW p w m B fs { f.next with stack:=S } st a c k:=h.re rfl rfl rfl rfl;by_cases hk:g.1≠2
 .rw [if_pos hk] at hs;unfold aQ;rw [if_pos hk];exact⟨_,B,hs,kE _,hn2.sim.qBG rfl rfl rfl rfl,λe=>mZ⟩
 .rw [if_neg hk] at hs;unfold aQ;rw [if_neg hk];have hk':g.1=2:=qA;have hgl:g.2.toNat<w.YT.length:=by have:=hg.fn hk';have:=hg.num;omega
  obtain⟨q,hq⟩:=gX hgl;have hfu:m.YT=w.YT.map λg=>(g.1,aP p w.YR B g.1 g.2):=h.sim.YT;have hmq:m.YT[g.2.toNat]?=some (q.1,aP p w.YR B q.1 q.2):=qH;rw [hmq] at hs;simp only [hq];simp only at hs;by_cases hpn:fH p q.1≠args.length
  .rw [if_pos hpn] at hs;rw [if_pos hpn];exact⟨_,B,hs,kE _,hn2.sim.qBG rfl rfl rfl rfl,λe=>mZ⟩
  .rw [if_neg hpn] at hs;rw [if_neg hpn]
   have hpn':args.length=fH p q.1:=by
    omega
   have hkq:=h.sim.fk q (gM hq);obtain⟨m',B',s1,s2,s3⟩:=D2 (cs:=aP p w.YR B q.1 q.2) hp hO hS hn3 hn (h.ok.YT _ q hq) rfl hpn' hv hr;rcases s3 with⟨e1,e2⟩|⟨e1,_,e2,e3⟩|⟨_,e2,_⟩
   .exact⟨m',B',hs.trans s1,s2,e2,λe=>absurd e e1⟩
   .exact⟨m',B',hs.trans s1,s2,qe,λ_=>⟨_,e3,rfl,rfl,h2⟩⟩
   .omega
theorem Ml (hp:Yl p) (hO:bW p n R) (hS:sS p n R) (h:ZW p w m B fs f st a c k) (hn:w.left<n) (hr:Room 2 w) (hm:jG p w.YR b a) (hk:qV p b=2) {rest:List (Int×Int)} (ha:f.at p ((16,(b:Int))::rest)) :
  G4 p (m.top fs f) B fs f f.stack rest (wE p R w b a):=by
 obtain⟨h1,h2⟩:=YZ.ZU ha;have hs:=h.step h1;have hn2:ZW p w m B fs f.next st a c k:=h.re rfl rfl rfl rfl;have e0:uq p m fs f.next (16,(b:Int))=ze p (m.top fs f.next) b (uM p f.next b) []:=aV;rw [e0] at hs
 have hpar:(0:Nat)=fH p b:=by
  obtain⟨_,q,_,hq,_,hb0⟩:=hm;have hh:=hp.sh.head b q hq
  grind[qV,fH]
 obtain⟨m',B',s1,s2,s3⟩:=D2 (vs:=[]) hp hO hS hn2 hn hm (Mt hp.sh.Y9 h.ok h.act hn2.fr hm) qA (λv hv=>cp) (hr.mono qA);unfold wE;rcases s3 with⟨e1,e2⟩|⟨_,e1,_⟩|⟨e1,_,e2,e3⟩
 .rw [if_pos e1];exact⟨m',B',hs.trans s1,s2,e2,λe=>absurd e e1⟩
 .omega
 .rw [if_neg (λh=>h e1)];exact⟨m',B',hs.trans s1,s2,qe,λ_=>⟨_,e3,rfl,rfl,h2⟩⟩
theorem QP {v:Y6} (h:¬ v.1≠3):wj w v x=match ju (w.YP.getD v.2.toNat []) x.toNat with|some u=>(w,u)|none=>({ w with en:=7 },(0,0)):=by
 grind[wj,ju]
theorem Ev {l:List Y6} (h:l.length=1):∃ u,l=[u]:=GX.1 h
theorem SY {l:List Y6} (h:l.length=2):∃ u v,l=[u,v]:=by
 match l,h with
 | [u,v],_=>simp
theorem OI (hp:Yl p) (hO:bW p n R) (hS:sS p n R) (h:ZW p w m B fs f st a c k) (hn:w.left<n) (hr:Room 2 w) (hs:s∈k.body) (hsk:0<=s.kind/\s.kind<=6) (hvl:vs.length=s.reads.length) (hvo:∀ v∈vs,ZQ w.YT.length w.YP.length v) {S:List Y6} (hst:f.stack=S++vs) {rest:List (Int×Int)} (ha:f.at p (jH s++rest)) :
  G4 p (m.top fs f) B fs f S rest (yL p R w a s vs):=by
 have hok:=hp.sh.stm c.YS k h.YS s hs
 have hmade:s.kind=3\/s.kind=4->jG p w.YR s.a.toNat a/\qV p s.a.toNat=s.kind - 2/\0<s.a:=λe=>by
  obtain⟨q,h1,h2,h3,h4⟩:=zP.made hok e;exact⟨⟨c,q,h.act,h1,h2,qA⟩,cq,h3⟩
 unfold yL;by_cases k0:s.kind=0
 .rw [if_pos k0];have hw:jH s=[(1,s.a)]:=by simp [jH,k0]
  rw [hw] at ha;obtain⟨h1,h2⟩:=YZ.ZU ha;have hs:=h.step h1;have e0:uq p m fs f.next (1,s.a)=m.top fs (f.next.push (1,s.a)):=aV;rw [e0] at hs;have hv0:vs=[]:=eh mb;exact⟨_,B,hs,kE _,h.sim.qAb (st:=st) rfl rfl rfl rfl,λ_=>⟨_,rfl,rfl,Fk,h2⟩⟩
 rw [if_neg k0];by_cases k2:s.kind=2
 .rw [if_pos k2];have hw:jH s=[(14,0)]:=by simp [jH,k2]
  rw [hw] at ha;obtain⟨h1,h2⟩:=YZ.ZU ha;have hs:=h.step h1;obtain⟨u,v,rfl⟩:=SY (l:=vs) mb;have t1:=oS (g:=f.next) (S:=S++[u]) (v:=v) sB;have t2:=oS (g:=f.next.pop) (S:=S) (v:=u) t1.2;have e0:uq p m fs f.next (14,0)=Jl m fs f.next:=aV;rw [e0,Jl] at hs;simp only [t1.1,t2.1] at hs;unfold a7;simp only [List.getD_cons_zero,List.getD_cons_succ]
  split
  .rename_i hc;rw [if_pos hc] at hs;exact⟨_,B,hs,kE _,h.sim.qBG rfl rfl rfl rfl,λe=>mZ⟩
  .rename_i hc;rw [if_neg hc] at hs;exact⟨_,B,hs,kE _,h.sim.qAb (st:=st) rfl rfl rfl rfl,λ_=>⟨_,rfl,rfl,by grind[YZ.push],h2⟩⟩
 rw [if_neg k2];by_cases k3:s.kind=3
 .rw [if_pos k3];obtain⟨hm,hkn,hpos⟩:=hmade (.inl k3);have hw:jH s=[(15,s.a)]:=by simp [jH,k3]
  rw [hw] at ha;obtain⟨h1,h2⟩:=YZ.ZU ha;have hs:=h.step h1;have e0:uq p m fs f.next (15,s.a)={ m.top fs (f.next.push (2,m.YT.length)) with YT:=m.YT++[(s.a.toNat,uM p f.next s.a.toNat)] }:=aV;rw [e0] at hs;have hv0:vs=[]:=eh mb;have hn2:ZW p w m B fs f.next st a c k:=h.re rfl rfl rfl rfl;have hn3:ZW p w m B fs (f.next.push (2,m.YT.length)) st a c k:=h.re rfl rfl rfl rfl;have hfu:m.YT=w.YT.map λg=>(g.1,aP p w.YR B g.1 g.2):=h.sim.YT;have hfl:m.YT.length=w.YT.length:=qH;have hcap:=Mt hp.sh.Y9 h.ok h.act hn2.fr hm;refine⟨_,B,hs,kE _,?_,λ_=>⟨_,rfl,rfl,Fk,h2⟩⟩;have hR:=hn3.sim;refine⟨hR.en,hR.out,hR.tr,hR.left,hR.Yd,hR.cls,?_,hR.made,hR.qAe,hR.top,hR.dis,hR.val,hR.frl,hR.frs,hR.Z7,λg hg=>?_⟩
  .simp_all
  .rcases cK.1 hg with e|e
   .exact hR.fk g e
   simp_all
 rw [if_neg k3];by_cases k4:s.kind=4
 .grind[jH,Y5.reads,Ml]
 rw [if_neg k4];by_cases k5:s.kind=5
 .rw [if_pos k5]
  have hrl:s.reads.length=1\/s.reads.length=2:=by
   grind[Y5.reads]
  match vs,hvl with
  | [],hvl=>grind
  | g::args,hvl =>
   have hw:jH s=[(17,(args.length:Int))]:=by
    grind[jH]
   rw [hw] at ha;exact QC hp hO hS h hn (hr.mono qA) hst (hvo g List.mem_cons_self) (λv hv=>hvo v (mf _ hv)) ha
 rw [if_neg k5];by_cases k6:s.kind=6
 .rw [if_pos k6];have hw:jH s=[(18,s.b)]:=by simp [jH,k6]
  rw [hw] at ha;obtain⟨h1,h2⟩:=YZ.ZU ha;have hs:=h.step h1;obtain⟨v,rfl⟩:=Ev (l:=vs) mb;have t1:=oS (g:=f.next) (S:=S) (v:=v) hst;have e0:uq p m fs f.next (18,s.b)=iQ m fs f.next (18,s.b):=aV;rw [e0,iQ] at hs;have hcl:m.YP=w.YP:=h.sim.cls;simp only [t1.1,hcl] at hs;simp only [List.getD_cons_zero];by_cases hv3:v.1≠3
  .rw [if_pos hv3] at hs;unfold wj;rw [if_pos hv3];exact⟨_,B,hs,kE _,h.sim.qBG rfl rfl rfl rfl,λe=>mZ⟩
  .rw [if_neg hv3] at hs;rw [QP hv3]
   cases hu:ju (w.YP.getD v.2.toNat []) s.b.toNat with
   | some u =>
    rw [hu] at hs;exact⟨_,B,hs,kE _,h.sim.qAb (st:=st) rfl rfl rfl rfl,λ_=>⟨_,rfl,rfl,by grind[YZ.push],h2⟩⟩
   | none =>
    rw [hu] at hs;exact⟨_,B,hs,kE _,h.sim.qBG rfl rfl rfl rfl,λe=>mZ⟩
 rw [if_neg k6];have k1:s.kind=1:=qA;have hw:jH s=[]:=by simp [jH,k1]
 rw [hw] at ha;obtain⟨v,rfl⟩:=Ev (l:=vs) mb;exact⟨_,B,.refl _,kE _,h.sim,λ_=>⟨f,rfl,rfl,hst,ha⟩⟩
end
@[simp] theorem fM_nine:fM 9=false:=rfl
def QU (p:YU) (r:List AV):Prop:=∃ x2 x3 x4 x5 x6 x7 x8 x9,r=[ZY p,.hs (.c Mn 0 1) 1 0 p.length,x2,x3,x4,x5,x6,x7,x8,x9]
structure ZX (hp:Nm->Option AO) (p:YU) (w:YY):Prop where
 top:∃ r,hp Mn=some (.row 10 [r])/\QU p r
 scs:qAf hp (.c Mn 0 1) p p.length
 bx:∀ k j:Nat,k<w.YT.length->j<4->(hp (.u 8 k j)).isSome=true
 env:∀ (i:Nat) a,w.YR[i]?=some a->hp (En i)=some (.row 3 [yE i a])
 Z4:∀ (i:Nat),i<w.YR.length->∃ ms,hp (.c (En i) 0 1)=some (.map (kL ms))/\ZZ ms (w.Z4 i)
 only:∀ k i j,fM k=true->hp (.u k i j)≠none->(k=1/\i=0/\j=0)\/(k=7/\i<w.YR.length/\j=0)\/(k=8/\i<w.YT.length/\j<4)
theorem QU.mk {p:YU} {x2 x3 x4 x5 x6 x7 x8 x9:AV}:QU p [ZY p,.hs (.c Mn 0 1) 1 0 p.length,x2,x3,x4,x5,x6,x7,x8,x9]:=⟨_,_,_,_,_,_,_,_,rfl⟩
theorem ZX.hp' {hp hp':Nm->Option AO} {p:YU} {w:YY} (h:ZX hp p w) {f:Nm->Option Nm} (hf:∀ m,DM m=true->f m=some m) (hh:∀ m,DM m=true->hp' m=(hp m).map (AO.tr f)):ZX hp' p w:=by
 have hE:∀ i,f (En i)=some (En i):=λi=>hf _ rfl;have hc:∀ j,f (.c Mn 0 j)=some (.c Mn 0 j):=λj=>hf _ rfl;refine⟨?_,⟨?_,λj k hj hk=>?_⟩,λk j hk hj=>?_,λi a ha=>?_,λi hi=>?_,λk i j hk hn=>?_⟩
 .obtain⟨_,h1,x2,x3,x4,x5,x6,x7,x8,x9,rfl⟩:=h.top;refine⟨_,by rw [hh _ rfl,h1];rfl,?_⟩;simp only [dT,sH,Vh,hc];have:AV.tr f (ZY p)=ZY p:=qB
  grind[QU.mk]
 .rw [hh _ rfl,h.scs.top];simp only [bU,AO.tr];rw [CP λj=>hf _ rfl]
 .rw [hh _ rfl,h.scs.sc j k hj hk];simp only [bU,AO.tr,dT,sH,o8];rw [HI λj=>hf _ rfl]
 .rw [hh _ rfl,Option.isSome_map];exact h.bx k j hk hj
 .rw [hh _ rfl,h.env i a ha];have h1:=hf (.c (En i) 0 1) rfl
  simp_all
 .obtain⟨ms,a1,a2⟩:=h.Z4 i hi;exact⟨ms,by rw [hh _ rfl,a1];simp,a2⟩
 .refine h.only k i j hk λe=>hn ?_
  simp_all
theorem ZX.fin {hp:Nm->Option AO} {p:YU} {w:YY} {D:Nm->Bool} {sbs:List (Nm×Nm)} (h:ZX hp p w) (hD:∀ m,D m=true->m.Y3=false:=by first|exact λ_=>qJ|exact λ_=>bE) (hW:∀ m,DM m=true->D m=true:=by intro m hm;first|exact hm|simp [hm]) (hs:∀ q∈sbs,q.1.Y3=true:=by simp [Nm.Y3]):ZX (lO D sbs hp) p w :=
 h.hp' (f:=jY D sbs) (λm hm=>pa hD (hW m hm) hs) (λm hm=>qH)
theorem ZX.sub {hp:Nm->Option AO} {p:YU} {w:YY} (h:ZX hp p w) {D:Nm->Bool} (hD:∀ m,DM m=true->D m=true:=by intro m hm;first|exact hm|simp [hm]):ZX (yb D hp) p w:=by
 refine h.hp' (f:=some) (λ_ _=>rfl) (λm hm=>?_);rw [bQ,if_pos (hD m hm)]
 cases hp m<;>grind[AO.Yg]
theorem YX.qDS {H hp:Nm->Option AO} {F:Nat} {p:YU} {w0 w:YY} (h0:YX H F p w0) (h:ZX hp p w) (ha:w0.YR.length<=w.YR.length) (hf:w0.YT.length<=w.YT.length):∀ k i j,(H (.u k i j)).isSome=true->DM (.u k i j)=false\/(yb DM hp) (.u k i j)≠none:=by
 intro k i j hs
 cases hD:fM k with
 | false=>simp_all
 | true =>
  right;have hd:DM (.u k i j)=true:=hD;rw [bQ,if_pos hd];rcases h0.only k i j hD qe with⟨rfl,rfl,rfl⟩|⟨rfl,hi,rfl⟩|⟨rfl,hi,hj⟩
  .grind[ZX.top]
  .obtain⟨a,ha'⟩:∃ a,w.YR[i]?=some a:=⟨_,gE qA⟩;rw [h.env i a ha'];simp
  .have:=h.bx i j qA hj
   grind
theorem JU {f:Nm->Option Nm} {l:List Nat} (h:∀ i∈l,f (En i)=some (En i)):(zC l).map (λr=>r.map (AV.tr f))=zC l:=by
 simp_all[zC]
theorem YX.mv9 {hp:Nm->Option AO} {F:Nat} {p:YU} {w:YY} (h:YX hp F p w):ZX hp p w:=by
 refine⟨⟨_,h.top,.mk⟩,h.scs,λk j hk hj=>?_,h.env,h.Z4,h.only⟩;obtain⟨g,hg⟩:=gX hk;obtain⟨a1,a2,a3,a4⟩:=h.bx k g hg
 grind
section
variable {P:Program} {C:Nat->Prop} {wd:World} {g0:Gh} {H:Nm->Option AO} {n:Nat} {gl:Nat->Option (List AV)} {st:St} {K:St->Prop} {E:AV->St->Prop} {d f:Nat} {ty:TypeId} {pos:String} {aft:Array Edge} {g:Option (Nat×Bool)} {args:Array Operand} {Ts:Array TypeId} {az:List AV} {R:Nm->AV->(Nm->Option AO)->Prop} {F:Nat} {p:YU} {w0 w:YY}
theorem RG (h0:YX H F p w0) (hO:ZX st.hp p w) (hl:w0.YR.length<=w.YR.length) (hf:w0.YT.length<=w.YT.length) (hd:d<n:=by first|(simp;done)|fail) (ha:args.toList.map (ev st)=az:=by simp [fx];first|done|rfl)
  (hF:ZX (yb DM st.hp) p w->Yc P gl f DM az (yb DM st.hp) R Yz) (h:∀ y H',R (.s d) y H'->K ((st.call d DM (yb DM st.hp) H').put (some d) y)) :
  qO (bz P C wd g0 H n gl) ⟨some d,.call ⟨.value (.func f),args,Ts⟩,ty,pos,aft,g⟩ K E st:=iV DM (λ_=>qJ) (λk i j he=>h0.qDS hO hl hf k i j he) hd ha (hF hO.sub) h
end
structure qAC (s:List Nat) (w:YY):Prop where
 pre:s <+: w.stack
 asc:w.stack.Pairwise (·<·)
def EA (p:YU) (n:Nat) (R:YY->Nat->YY×Y6):Prop:=∀ (w:YY) (a:Nat),Yx p w->w.left<n->a<w.YR.length->w.en=0->w.stack.Pairwise (·<·)->qAC w.stack (R w a).1
section
variable {p:YU} {n:Nat} {R:YY->Nat->YY×Y6} {w:YY} {a b up:Nat} {vs:List Y6} {s:Y5} {k:Y4}
theorem qAC.refl (h:w.stack.Pairwise (·<·)):qAC w.stack w:=⟨kE _,h⟩
theorem tx (hO:bW p n R) (hS:EA p n R) (h:Yx p w) (hn:w.left<n) (h0:w.en=0) (hm:jG p w.YR b up) (hv:∀ v∈vs,ZQ w.YT.length w.YP.length v) (hr:Room 1 w) (hp:w.stack.Pairwise (·<·)):qAC w.stack (qx p R w b up vs).1:=by
 obtain⟨h1,h2⟩:=kC (p:=p) (b:=b) (up:=up) h hm hv hr
 have hpw:(qk p w b up vs).stack.Pairwise (·<·):=by
  simp only [qk];refine List.pairwise_append.2 ⟨hp,qB,λu hu v hv=>?_⟩;simp only [kg] at hv;subst hv;exact h.Z7 u hu
 obtain⟨⟨r1,r2,r3⟩,_⟩:=hO (qk p w b up vs) w.YR.length h1 hn gF h0;obtain⟨s1,s2⟩:=hS (qk p w b up vs) w.YR.length h1 hn gF h0 hpw;unfold qx xA
 split
 .rename_i he;have e:(R (qk p w b up vs) w.YR.length).1.stack=w.stack++[w.YR.length]:=r3 he;refine⟨?_,?_⟩<;>grind
 .exact⟨(N9 _ _).trans s1,s2⟩
theorem DA {x:Int}:(jM p w a x).1.stack=w.stack:=by
 grind[jM]
theorem KJ {vs:List Y6} (hO:bW p n R) (hS:EA p n R) (h:Yx p w) (hn:w.left<n) (h0:w.en=0) (ha:a<w.YR.length) (hs:zP p (w.YS a) k s=true) (hv:∀ v∈vs,ZQ w.YT.length w.YP.length v) (hr:Room 2 w) (hp:w.stack.Pairwise (·<·)):qAC w.stack (yL p R w a s vs).1:=by
 obtain⟨c,hc⟩:=gX ha
 have hmade:s.kind=3\/s.kind=4->jG p w.YR s.a.toNat a:=λe=>by
  obtain⟨q,h1,h2,h3,_⟩:=zP.made hs e;exact⟨c,q,hc,h1,mX,qA⟩
 have hR:=qAC.refl hp;unfold yL
 split
 .exact hR
 .split
  .have:∀ {a b:Y6},(a7 w a b).1.stack=w.stack:=by
    grind[a7]
   exact⟨qH,qH⟩
  .split
   .exact⟨hR.pre,hp⟩
   .split
    .rename_i e;have:=tx (vs:=[]) hO hS h hn h0 (hmade (.inr e)) (λv hv=>cp) (hr.mono qA) hp;unfold wE
     split
     .exact this
     .exact⟨this.pre,this.asc⟩
    .split
     .unfold aQ
      split
      .exact⟨hR.pre,hp⟩
      .split
       .rename_i g hg
        split
        .exact⟨hR.pre,hp⟩
        .exact tx hO hS h hn h0 (h.YT _ g hg) (λv hv'=>hv v (List.mem_of_mem_tail hv')) (hr.mono qA) hp
       .exact hR
     .split
      .have:∀ {v:Y6} {x:Int},(wj w v x).1.stack=w.stack:=by
        intro v x;unfold wj
        repeat' split
        all_goals rfl
       exact⟨qH,qH⟩
      .exact hR
theorem Ob (hO:bW p n R) (hS:EA p n R) (h:Yx p w) (hn:w.left<n) (h0:w.en=0) (ha:a<w.YR.length) (hs:zP p (w.YS a) k s=true) (hr:Room 2 w) (hp:w.stack.Pairwise (·<·)):qAC w.stack (lh p R w a s):=by
 have hR:=qAC.refl hp
 have hval:qAC w.stack (jc p R w a s).1:=by
  unfold jc;obtain⟨h1,h2,h3,_⟩:=kx (a:=a) (l:=s.reads) h
  split
  .exact⟨qe,qe⟩
  grind[KJ]
 have yF:∀ {w:YY} {l:Option Nat} {x:Int} {t:Yj},(w.set l x t).stack=w.stack:=by
  intro w l x t
  cases l <;> rfl
 unfold lh
 split
 .exact hR
 .split
  .have:(fb p w a s.to).stack=w.stack:=by
    grind[fb]
   exact⟨qH,qH⟩
  .split
   .exact hval
   .split
    .exact⟨hval.pre,hval.asc⟩
    .exact⟨by grind[b5,qAC.pre],by grind[b5,qAC.asc]⟩
theorem Dj (hO:bW p n R) (hS:EA p n R):∀ {l:List Y5} {w:YY} {i:Nat},Yx p w->w.left<n+1->w.en=0->a<w.YR.length->(∀ s∈l,zP p (w.YS a) k s=true)->w.stack.Pairwise (·<·)->qAC w.stack (uA p R a w i l).1
 | [],w,i,_,_,_,_,_,hp=>.refl hp
 | s::l,w,i,h,hn,h0,ha,hs,hp=>by
  simp only [uA]
  split
  .exact⟨kE _,hp⟩
  .rename_i hl;obtain⟨t1,t2⟩:=fA (a:=a) (i:=i) h hl;have tn:(zF w a i).left<n:=rF
   split
   .exact⟨by rw [DA];exact kE _,by rw [DA];exact hp⟩
   .have hst:=lg hO t1 tn h0 ha (hs s qB) t2;have hsk:=Ob hO hS t1 tn h0 ha (hs s qB) t2 hp
    split
    .exact⟨hsk.pre,hsk.asc⟩
    .rename_i he;have he':(lh p R (zF w a i) a s).en=0:=qA;have hA:=hst.tick hl;obtain⟨c,hc⟩:=gX ha;have hb:=hA.grow.YS hc;have:=Dj hO hS (l:=l) (i:=i+1) hA.ok An he' (ac ha hA.grow.Zl) (λs' hs'=>qH) hsk.asc;exact⟨hsk.pre.trans this.pre,this.asc⟩
theorem Gz (hp:Y1 p):∀ n,EA p n (jv p n)
 | 0=>λw a _ h=>absurd h qA
 | n+1=>by
  intro w a h hn ha h0 hpw;simp only [jv];obtain⟨c,hc⟩:=gX ha;have hb:=h.Zs a c hc;obtain⟨k,hk⟩:=gX hb;rw [jq hc,hk];exact Dj (aC hp n) (Gz hp n) (k:=k) h hn h0 ha (λs hs=>FR) hpw
theorem tY (hp:Y1 p) {f:Nat} (hf:f<=150):qAC [0] (ji p f) :=
 Gz hp 151 (zg f) 0 (b6 hp hf) mS ce rfl ce
end
section
variable {p:YU} {w:YY} {m:Y2} {B:List Nat} {a b o d up:Nat} {c e:Act} {k:Y4} {f:YZ} {x:Int} {fs:List YZ} {vs:List Y6} {cs:List Nat} {st:List Nat} {s:Y5} {n:Nat} {R:YY->Nat->YY×Y6}
theorem JA:∀ {l:List Int} {w:YY},(qf p w a l).1.en=0->(qf p w a l).2.length=l.length
 := by intro x0;induction x0<;>grind[qf]
def VS (p:YU) (m0:Y2) (B:List Nat) (fs:List YZ) (f:YZ) (rest:List (Int×Int)) (W:YY):Prop :=
 ∃ m' B',aX p m0 m'/\B <+: B'/\Ys p W m' B'/\(W.en=0->∃ g,m'=m'.top fs g/\g.YS=f.YS/\g.stack=f.stack/\g.at p rest)
theorem K3 (hp:Y1 p) (h:ZW p w m B fs f st a c k) (hu:x∈k.us) {S:List Y6} {v:Y6} (hst:f.stack=S++[v]) {rest:List (Int×Int)} (ha:f.at p (qm p c.YS x 1::rest)) :
  ∃ m',aX p (m.top fs f) m'/\Ys p (b5 p w a x v) m' B/\∃ g,m'=m'.top fs g/\g.YS=f.YS/\g.stack=S/\g.at p rest:=by
 obtain⟨h1,h2⟩:=YZ.ZU ha;have hs:=h.step h1;rw [ni hp h.YS hu (.inr (.inl rfl)),if_neg qL,if_pos rfl] at hs;have t1:=oS (g:=f.next) (S:=S) (v:=v) hst;rw [oT,t1.1] at hs;obtain⟨s1,g',s2,s3,s4,s5⟩:=Kn (g:=f.next.pop) (s:=some v) (v:=1) hp h.ok h.sim h.Z7 h.act h.YS hu qL rfl rfl rfl rfl;refine⟨_,hs,s1,g',(xT s2).symm,s3,s5.trans t1.2,?_⟩;unfold YZ.at at h2 ⊢;rw [s3,s4];exact h2
theorem RW (hp:Yl p) (hO:bW p n R) (hS:sS p n R) (h:ZW p w m B fs f st a c k) (hn:w.left<n) (hr:Room 2 w) (hs:s∈k.body) (h8:s.kind≠8) {rest:List (Int×Int)} (ha:f.at p (kK p c.YS s++(jH s++(b7 p c.YS s++rest)))) :
  VS p (m.top fs f) B fs f rest (lh p R w a s):=by
 have hkm:=gM h.YS;have hnm:=hp.sh.names k hkm;have hkd:=hnm.kinds s hs;have hok:=hp.sh.stm c.YS k h.YS s hs;have hb:=jq h.act;have hal:=(gS h.act).1;have hok':zP p (w.YS a) k s=true:=qH;unfold lh;by_cases k9:s.kind=9\/s.kind=10
 .rw [if_pos k9];have e1:kK p c.YS s=[]:=Fd;have e2:jH s=[]:=by grind[jH]
  have e3:b7 p c.YS s=[]:=by grind[b7]
  rw [e1,e2,e3] at ha;exact⟨_,B,.refl _,kE _,h.sim,λ_=>⟨f,rfl,rfl,rfl,ha⟩⟩
 rw [if_neg k9];by_cases k11:s.kind=11
 .rw [if_pos k11];have e1:kK p c.YS s=[]:=Fd;have e2:jH s=[]:=by grind[jH]
  have e3:b7 p c.YS s=[qm p c.YS s.to 2]:=by grind[b7]
  have hu:=RN hnm hs (.inr k11);rw [e1,e2,e3] at ha;obtain⟨h1,h2⟩:=YZ.ZU ha;have hst:=h.step h1;rw [ni hp.sh h.YS hu (.inr (.inr rfl)),if_neg qL,if_neg qL] at hst;have hn2:ZW p w m B fs f.next st a c k:=h.re rfl rfl rfl rfl;obtain⟨g1,g2⟩:=MT (x:=s.to) (v:=2) hp.sh h.ok h.sim h.act hn2.fr h.YS hu qL;have g1:gq m f.next (qm p c.YS s.to 2)=w.get (w.loc p a s.to) s.to:=g1;unfold EF at hst;unfold fb;rw [g1] at hst
  cases hg:w.get (w.loc p a s.to) s.to with
  | some v =>
   rw [hg] at hst;obtain⟨s1,g',s2,s3,s4,s5⟩:=Kn (g:=f.next) (s:=none) (v:=2) hp.sh h.ok h.sim h.Z7 h.act h.YS hu qL rfl rfl rfl rfl;refine⟨_,B,hst,kE _,s1,λ_=>⟨g',(xT s2).symm,s3,s5,?_⟩⟩
   simp_all[YZ.at]
  | none =>
   rw [hg] at hst;simp only [g2] at hst;rw [hb];exact⟨_,B,hst,kE _,h.sim.qBG rfl rfl rfl rfl,λe=>absurd e go⟩
 rw [if_neg k11];have hus:∀ y∈s.reads,y∈k.us:=λy hy=>xv hnm hs hy;have hvw:(jc p R w a s)=if (qf p w a s.reads).1.en≠0 then ((qf p w a s.reads).1,(0,0)) else yL p R (qf p w a s.reads).1 a s (qf p w a s.reads).2:=rfl
 obtain⟨hl1,hl2,_,_⟩:=kx (a:=a) (l:=s.reads) h.ok;rcases Cz hp.sh s.reads f h hus ha with⟨i1,g,i2,i3,i4,i5,i6,i7,i8⟩|⟨i1,m',i2,i3⟩
 .have i0:¬ (qf p w a s.reads).1.en≠0:=by grind[ZW.en]
  rw [if_neg i0,i1] at hvw;have hvl:=JA (p:=p) (a:=a) (l:=s.reads) (w:=w) qA;have hvo:=hl2;have hg:ZW p w m B fs g st a c k:=h.re i4 i5 i6 i7;by_cases k7:s.kind=7
  .have hw7:jc p R w a s=(w,(qf p w a s.reads).2.getD 0 (0,0)):=by grind[yL]
   rw [hw7];simp only [if_neg (λe=>e h.en:¬ w.en≠0),if_pos k7];have e2:jH s=[(19,0)]:=by simp [jH,k7]
   have e3:b7 p c.YS s=[]:=by simp [b7,k7]
   rw [e2,e3] at i3;obtain⟨h1,h2⟩:=YZ.ZU i3;have hst:=hg.step h1;obtain⟨v,hv⟩:=Ev (l:=(qf p w a s.reads).2) mb;have t1:=oS (g:=g.next) (S:=f.stack) (v:=v) (by rw [<- hv];exact i8);have e0:uq p m fs g.next (19,0)={ m.top fs g.next.pop with out:=m.out++[shown g.next.Yw] }:=aV;rw [e0,t1.1] at hst;rw [hv];have hR:=hg.sim.qAb (st:=st) (g:=g.next.pop) rfl rfl rfl rfl;have hout:m.out=w.out:=h.sim.out;refine⟨_,B,i2.trans hst,kE _,⟨hR.en,by simp [hout],hR.tr,hR.left,hR.Yd,hR.cls,hR.YT,hR.made,hR.qAe,hR.top,hR.dis,hR.val,hR.frl,hR.frs,hR.Z7,hR.fk⟩,λ_=>⟨g.next.pop,rfl,i4,t1.2,h2⟩⟩
  .have hk6:0<=s.kind/\s.kind<=6:=qA;obtain⟨m1,B1,w1,w2,w3,w4⟩:=OI hp hO hS hg hn hr hs hk6 hvl hvo i8 i3;rw [<- hvw] at w3 w4;obtain⟨hA,hV⟩:=oQ hO h.ok hn h.en hal hok' hr;by_cases he:(jc p R w a s).1.en=0
   .rw [if_neg (λe=>e he),if_neg k7];obtain⟨g1,e1,e2,e3,e4⟩:=w4 he;have w3':Ys p (jc p R w a s).1 (m1.top fs g1) B1:=qe;have w1':aX p (m.top fs g) (m1.top fs g1):=qe;obtain⟨c1,d1,d2,d3⟩:=hA.grow.YR a c h.act;have hH:ZW p (jc p R w a s).1 m1 B1 fs g1 st a c1 k:=⟨w3',hA.ok,he,(hA.Z7 he).trans h.Z7,d1,by grind[ZW.YS]⟩
    have e5:b7 p c.YS s=[qm p c1.YS s.to 1]:=by
     grind[b7]
    rw [e5] at e4;obtain⟨m2,q1,q2,g2,q3,q4,q5,q6⟩:=K3 hp.sh hH (RN hnm hs (.inl hk6)) e3 e4;exact⟨m2,B1,(i2.trans w1').trans q1,w2,q2,λ_=>⟨g2,q3,q4.trans (e2.trans i4),q5,q6⟩⟩
   .rw [if_pos he];exact⟨m1,B1,i2.trans w1,w2,w3,λe=>absurd e he⟩
 .rw [if_pos i1] at hvw;rw [hvw];simp only [if_pos i1];exact⟨m',B,i2,kE _,i3,λe=>absurd e i1⟩
theorem N1 {l l':List Y5}:vb p b (l++l')=vb p b l++vb p b l':=by simp [vb]
theorem Hv (hp:Yl p) (hO:bW p n R) (hS:sS p n R):∀ (l:List Y5) (w:YY) (m:Y2) (B:List Nat) (f:YZ) (c:Act) (i:Nat),ZW p w m B fs f st a c k->w.left<n+1->k.body=k.body.take i++l->i<=k.body.length->f.stack=[]->f.at p (vb p c.YS l) ->
  ∃ m' B',aX p (m.top fs f) m'/\Ys p (uA p R a w i l).1 m' B'/\B <+: B'/\((uA p R a w i l).1.en=0->∃ f',m'.YO=fs++[f']/\f'.YS=f.YS/\wZ p m'=TK p m' fs f' (uA p R a w i l).2)
 | [],w,m,B,f,c,i,h,hn,hb,hi,hst,ha=>by
  refine⟨_,B,.refl _,h.sim,kE _,λ_=>⟨f,rfl,rfl,?_⟩⟩;rw [step_end (f:=f) (fs:=fs) rfl (YZ.qC5 ha)]
  rfl
 | s::l,w,m,B,f,c,i,h,hn,hb,hi,hst,ha=>by
  have hil:i<k.body.length:=by
   grind
  have hsm:s∈k.body:=qe
  have hat:f.at p ((0,0)::(kK p c.YS s++(jH s++(b7 p c.YS s++vb p c.YS l)))):=by
   grind[vb,dQ]
  obtain⟨h1,h2⟩:=YZ.ZU hat;have hs:=h.step h1;have hfb:f.YS=c.YS:=h.fr.YS;have hbw:=jq h.act;have hlw:m.left=w.left:=h.sim.left;have e0:uq p m fs f.next (0,0)=bI p m fs f.next:=by simp [uq]
  rw [e0,bI] at hs;simp only [uA];by_cases hl0:w.left=0
  .rw [if_pos (hlw.trans hl0)] at hs;rw [if_pos hl0];exact⟨_,B,hs,h.sim.qBG rfl rfl rfl rfl,kE _,λe=>mZ⟩
  rw [if_neg qA] at hs;rw [if_neg hl0]
  have hticks:uC ((yg p f.YS).take f.pc)=i:=by
   have e1:yg p f.YS=vb p c.YS (k.body.take i)++vb p c.YS (s::l):=by
    rw [hfb,yg,h.YS]
    grind[N1]
   have e2:(yg p f.YS).take f.pc++(yg p f.YS).drop f.pc=vb p c.YS (k.body.take i)++vb p c.YS (s::l):=by
    grind[List.take_append_drop]
   have e3:(yg p f.YS).drop f.pc=vb p c.YS (s::l):=ha
   grind[List.append_cancel_right,tD]
  have hpc:f.next.pc - 1=f.pc:=rfl;have hnb:f.next.YS=c.YS:=hfb;rw [hpc,hnb] at hs;rw [hfb] at hticks;rw [hticks] at hs;obtain⟨t1,t2⟩:=fA (a:=a) (i:=i) h.ok hl0;have tn:(zF w a i).left<n:=rF;have hR:=h.sim.qAb (st:=st) (g:=f.next) rfl rfl rfl rfl;have htr:m.trace=w.trace:=h.sim.tr
  have hH:ZW p (zF w a i) { m with left:=m.left - 1,trace:=m.trace++[(c.YS,i)] } B fs f.next st a c k:=by
   refine⟨⟨hR.en,hR.out,?_,?_,hR.Yd,hR.cls,hR.YT,hR.made,hR.qAe,hR.top,hR.dis,hR.val,hR.frl,hR.frs,hR.Z7,hR.fk⟩,t1,h.en,h.Z7,h.act,h.YS⟩<;>grind[Y2.top,zF]
  have hs':aX p (m.top fs f) (({ m with left:=m.left - 1,trace:=m.trace++[(c.YS,i)] }:Y2).top fs f.next):=hs;generalize hm1:({ m with left:=m.left - 1,trace:=m.trace++[(c.YS,i)] }:Y2)=m1 at hH hs';by_cases k8:s.kind=8
  .rw [if_pos k8];have hok:=hp.sh.stm c.YS k h.YS s hsm
   have hk1:k.kind=1:=by
    grind[zP]
   have e1:kK p c.YS s=[qm p c.YS s.a 0]:=Fd;have e2:jH s=[(20,0)]:=by simp [jH,k8]
   have e3:b7 p c.YS s=[]:=by simp [b7,k8]
   rw [e1,e2,e3] at h2;obtain⟨g1,g2⟩:=YZ.ZU h2;have hu:s.a∈k.us:=xv (hp.sh.names k (gM h.YS)) hsm (by simp [Y5.reads,k8]);have hs2:=hH.step g1;rw [ni hp.sh h.YS hu (.inl rfl),if_pos rfl] at hs2;have hn2:ZW p (zF w a i) m1 B fs f.next.next st a c k:=hH.re rfl rfl rfl rfl;rcases HR (x:=s.a) hp.sh hn2 hu with⟨q1,q2⟩|⟨q1,q2,q3⟩
   .rw [q2] at hs2;rw [q1];have hn3:ZW p (zF w a i) m1 B fs (f.next.next.push (jM p (zF w a i) a s.a).2) st a c k:=hH.re rfl rfl rfl rfl;have hat3:(f.next.next.push (jM p (zF w a i) a s.a).2).at p ((20,0)::([]++vb p c.YS l)):=g2;obtain⟨r1,r2⟩:=YZ.ZU hat3;refine⟨_,B,hs'.trans hs2,hn3.sim,kE _,λ_=>⟨_,rfl,rfl,?_⟩⟩;rw [Zz (f:=f.next.next.push (jM p (zF w a i) a s.a).2) (fs:=fs) rfl r1];have hka:¬ qV p f.YS=2:=by rw [hfb];simp [qV,h.YS,hk1]
    grind[TK,uq,yd,YZ.push,YZ.Yw,YZ.next]
   .rw [q3] at hs2;refine⟨_,B,hs'.trans hs2,?_,kE _,λe=>absurd e q1⟩;rw [q2];exact hn2.sim.qBG rfl rfl rfl rfl
  rw [if_neg k8];obtain⟨m2,B2,s1,s2,s3,s4⟩:=RW hp hO hS hH tn t2 hsm k8 h2;have hal:=(gS h.act).1
  have hok':zP p ((zF w a i).YS a) k s=true:=by
   have:=hp.sh.stm c.YS k h.YS s hsm;rw [<- hbw] at this;exact this
  have hA:=lg hO t1 tn h.en hal hok' t2;by_cases he:(lh p R (zF w a i) a s).en≠0
  .rw [if_pos he];exact⟨m2,B2,hs'.trans s1,s3,s2,λe=>absurd e he⟩
  .rw [if_neg he];have he':(lh p R (zF w a i) a s).en=0:=qA;obtain⟨g,g1,g2,g3,g4⟩:=s4 he';have s3':Ys p (lh p R (zF w a i) a s) (m2.top fs g) B2:=qe;have s1':aX p (m1.top fs f.next) (m2.top fs g):=qe;obtain⟨c1,d1,d2,d3⟩:=hA.grow.YR a c h.act;have hH2:ZW p (lh p R (zF w a i) a s) m2 B2 fs g st a c1 k:=⟨s3',hA.ok,he',(hA.Z7 he').trans h.Z7,d1,by grind[ZW.YS]⟩
   have hb2:k.body=k.body.take (i+1)++l:=by
    grind
   have hlft:=hA.grow.left;have hlt:(zF w a i).left=w.left - 1:=rfl;obtain⟨m3,B3,r1,r2,r3,r4⟩:=Hv hp hO hS l _ m2 B2 g c1 (i+1) hH2 qA hb2 qA (g3.trans hst) qe;refine⟨m3,B3,(hs'.trans s1').trans r1,r2,s2.trans r3,λe=>?_⟩
   grind
theorem LB (hp:Yl p):∀ n,sS p n (jv p n)
 | 0=>λw a m B fs f st _ h=>absurd h qA
 | n+1=>by
  intro w a m B fs f st hW hn he hst hR hf hb hpc hstk;simp only [jv];have hal:a<w.YR.length:=hW.Z7 a qH;obtain⟨c,hc⟩:=gX hal;have Ym:=hW.Zs a c hc;obtain⟨k,hk⟩:=gX Ym;rw [jq hc,hk];have hm:m.top fs f=m:=xT hf;have hH:ZW p w m B fs f st a c k:=⟨qH,hW,he,hst,hc,hk⟩
  have hat:f.at p (vb p c.YS k.body):=by
   grind[YZ.at,jq,yg]
  have:=Hv hp (aC hp.sh n) (LB hp n) k.body w m B f c 0 hH hn qB qA hstk hat
  simp_all
end
end Go.Hm
end
