import Derived.Test.YtdnebaieamppbaaGreatDoorF15
import Derived.Recover
set_option linter.unusedSimpArgs false
set_option linter.unusedVariables false
set_option maxRecDepth 100000
set_option maxHeartbeats 4000000

section
namespace Go.Hm
open Go Go.RowKit
def c45 (p:YU) (tr:List (Nat×Nat)):Nat:=sV p 4 tr+sV p 5 tr
structure Ac (p:YU) (a:Nat) (w w':YY):Prop where
 le:w'.YR.length+c45 p w.trace<=w.YR.length+c45 p w'.trace+a
def Nj (p:YU) (n:Nat) (R:YY->Nat->YY×Y6):Prop:=∀ (w:YY) (a:Nat),Yx p w->w.left<n->a<w.YR.length->w.en=0->Ac p 0 w (R w a).1
section
variable {p:YU} {n:Nat} {R:YY->Nat->YY×Y6} {w:YY} {a b up:Nat} {vs:List Y6} {s:Y5} {k:Y4}
theorem Ac.same {w':YY} {e:Nat} (h1:w'.YR.length=w.YR.length) (h2:w'.trace=w.trace):Ac p e w w':=⟨qH⟩
theorem D3 (hS:Nj p n R) (h:Yx p w) (hn:w.left<n) (h0:w.en=0) (hm:jG p w.YR b up) (hv:∀ v∈vs,ZQ w.YT.length w.YP.length v) (hr:Room 1 w):Ac p 1 w (qx p R w b up vs).1:=by
 obtain⟨h1,h2⟩:=kC (p:=p) (b:=b) (up:=up) h hm hv hr;have:=(hS (qk p w b up vs) w.YR.length h1 hn gF h0).le;constructor<;>grind[qk,qx,xA]
theorem Ls {x:Int}:(jM p w a x).1.YR=w.YR/\(jM p w a x).1.trace=w.trace:=by
 grind[jM]
theorem RH (hS:Nj p n R) (h:Yx p w) (hn:w.left<n) (h0:w.en=0) (ha:a<w.YR.length) (hs:zP p (w.YS a) k s=true) (hv:∀ v∈vs,ZQ w.YT.length w.YP.length v) (hr:Room 2 w):Ac p (if s.kind=4\/s.kind=5 then 1 else 0) w (yL p R w a s vs).1:=by
 obtain⟨c,hc⟩:=gX ha
 have hmade:s.kind=3\/s.kind=4->jG p w.YR s.a.toNat a:=λe=>by
  obtain⟨q,h1,h2,h3,_⟩:=zP.made hs e;exact⟨c,q,hc,h1,mX,qA⟩
 obtain⟨z,hz⟩:∃ z,z=(if s.kind=4\/s.kind=5 then 1 else 0):=⟨_,rfl⟩;rw [<- hz];unfold yL
 split
 .grind[Ac.same]
 .split
  .grind[a7,Ac.same]
  .split
   .grind[Ac.same]
   .split
    .rename_i e;rw [if_pos (.inl e)] at hz;subst hz;have:=(D3 (vs:=[]) hS h hn h0 (hmade (.inr e)) (λv hv=>cp) (hr.mono qA)).le;constructor<;>grind[wE]
    .split
     .rename_i e;rw [if_pos (.inr e)] at hz;subst hz;unfold aQ
      split
      .grind[Ac.same]
      .split
       .rename_i g hg
        split
        .grind[Ac.same]
        .exact D3 hS h hn h0 (h.YT _ g hg) (λv hv'=>hv v (List.mem_of_mem_tail hv')) (hr.mono qA)
       grind[Ac.same]
     .split
      .unfold wj
       repeat' split
       all_goals grind[Ac.same]
      grind[Ac.same]
theorem Tu (hS:Nj p n R) (h:Yx p w) (hn:w.left<n) (h0:w.en=0) (ha:a<w.YR.length) (hs:zP p (w.YS a) k s=true) (hr:Room 2 w):Ac p (if s.kind=4\/s.kind=5 then 1 else 0) w (lh p R w a s):=by
 have yF:∀ {w:YY} {l:Option Nat} {x:Int} {t:Yj},(w.set l x t).trace=w.trace:=by
  intro w l x t
  cases l <;> rfl
 have hwk:=λvs hv=>RH (vs:=vs) hS h hn h0 ha hs hv hr;obtain⟨z,hz⟩:∃ z,z=(if s.kind=4\/s.kind=5 then 1 else 0):=⟨_,rfl⟩;rw [<- hz] at hwk ⊢
 have hval:Ac p z w (jc p R w a s).1:=by
  grind[jc,kx,Ac.same]
 unfold lh
 split
 .grind[Ac.same]
 .split
  .grind[fb,Ac.same,gR]
  .split
   .exact hval
   .split
    .exact⟨hval.le⟩
    .refine⟨?_⟩
     simp_all[b5,gR,Ac.le]
theorem NX (hO:bW p n R) (hS:Nj p n R) {bd:List Y5}:∀ {l:List Y5} {w:YY} {i:Nat},Yx p w->w.left<n+1->w.en=0->a<w.YR.length->p[w.YS a]?=some k->k.body.drop i=l->(∀ s∈l,zP p (w.YS a) k s=true)->Ac p 0 w (uA p R a w i l).1
 | [],w,i,_,_,_,_,_,_,_=>.same rfl rfl
 | s::l,w,i,h,hn,h0,ha,hk,hd,hs=>by
  simp only [uA]
  have hsi:k.body[i]?=some s:=by
   have:=congrArg (λl=>l[0]?) hd
   grind
  have hd2:k.body.drop (i+1)=l:=by
   grind[List.tail_drop]
  split
  .grind[Ac.same]
  .rename_i hl;obtain⟨t1,t2⟩:=fA (a:=a) (i:=i) h hl;have tn:(zF w a i).left<n:=rF;have hK:TI p (w.YS a,i)=s.kind:=by grind[TI,K0]
   have hct:c45 p (zF w a i).trace=c45 p w.trace+if s.kind=4\/s.kind=5 then 1 else 0:=by
    grind[c45,zF,Pw,Pv]
   have hta:(zF w a i).YR=w.YR:=rfl
   split
   .constructor<;>grind[Ls]
   .have hst:=lg hO t1 tn h0 ha (hs s qB) t2;have hsk:=(Tu hS t1 tn h0 ha (hs s qB) t2).le;rw [hta] at hsk
    split
    .exact⟨qe⟩
    .rename_i he;have he':(lh p R (zF w a i) a s).en=0:=qA;have hA:=hst.tick hl;obtain⟨c,hc⟩:=gX ha;have hb:=hA.grow.YS hc;have:=(NX hO hS (bd:=bd) (l:=l) (i:=i+1) hA.ok An he' (ac ha hA.grow.Zl) qH hd2 (λs' hs'=>qH)).le;exact⟨qA⟩
theorem LC (hp:Y1 p):∀ n,Nj p n (jv p n)
 | 0=>λw a _ h=>absurd h qA
 | n+1=>by
  intro w a h hn ha h0;simp only [jv];obtain⟨c,hc⟩:=gX ha;have hb:=h.Zs a c hc;obtain⟨k,hk⟩:=gX hb;rw [jq hc,hk];exact NX (bd:=[]) (aC hp n) (LC hp n) (k:=k) h hn h0 ha mX qB (λs hs=>FR)
theorem SQ (hp:Y1 p) {f:Nat} (hf:f<=150):(ji p f).YR.length<=1+c45 p (ji p f).trace:=by
 have:=(LC hp 151 (zg f) 0 (b6 hp hf) mS ce rfl).le
 grind[zg,ji]
end
def vW (p:YU) (m:Y2) (f:YZ) (x:Int):Yj :=
 if f.YS=0 then ju m.globals x.toNat else if qV p f.YS=2 then ju f.names x.toNat
 else if x∈qG p f.YS then ju f.YV (qq (qG p f.YS) x).toNat else ju m.cells (f.cells.getD (vM p f.YS x).toNat 0)
def dP (p:YU) (m:Y2) (f:YZ):Vw :=
 let l:=(yp p f.YS).map λx=>(x,vW p m f x)
 ⟨f.YS,uc l,bZ l⟩
def kO (p:YU) (m:Y2):List Vw:=match m.YO with
 | []=>let l:=oA.map λx=>(x,ju m.globals x.toNat);[⟨0,uc l,bZ l⟩]
 | _=>m.YO.map (dP p m)
section
variable {p:YU} {w:YY} {m:Y2} {B:List Nat} {a n:Nat} {c:Act} {f:YZ} {x:Int}
theorem Og (hp:Yl p) (hW:Yx p w) (hR:Ys p w m B) (hc:w.YR[a]?=some c) (hF:Zp p w.YR B a c f) (hx:x∈yp p c.YS):vW p m f x=gQ p w a x:=by
 have hb:=jq hc;have hh:=hp.sh.Y9;have Ym:=hW.Zs a c hc;obtain⟨k,hk⟩:=gX Ym;have hka:qV p c.YS=k.kind:=kS;unfold vW gQ;rw [hF.YS,hb,hR.Yd];by_cases h0:c.YS=0
 .rw [if_pos h0,if_pos h0]
  rfl
 rw [if_neg h0,if_neg h0];by_cases h2:qV p c.YS=2
 .rw [if_pos h2,if_pos h2,hF.names h2];simp only [YY.get,YY.vars,hc]
  rfl
 rw [if_neg h2,if_neg h2]
 have hk1:k.kind=1:=by
  have:=hp.sh.head c.YS k hk
  grind
 have hk1':qV p c.YS=1:=qA;have hrng:=ik hx
 have own:∀ s,qr c.YS k x=true->ju c.vars x.toNat=s->w.get (some (ua w.YR (fi p c.YS x) a a)) x=s:=by
  intro s hl hs;have:fi p c.YS x=c.YS:=by grind[fi]
  rw [this,jF hc rfl,<- hs];simp only [YY.get,YY.vars,hc]
  rfl
 by_cases hf:x∈qG p c.YS
 .grind[zQ,qG,j6,yI,Zp.YV,ju]
 rw [if_neg hf];by_cases hcl:x∈qC p c.YS
 .obtain⟨i,hi1,hi2,hi3⟩:=zQ hcl;rw [own _ (mF hcl hk).1 rfl,vM,if_pos hcl,hi1,a6,nh hF hi2,xa (hR.val a i c x hc hi3)]
 .have hfr:x∈qN p c.YS:=by
   grind[yp,mem_sorted]
  have hnl:qr c.YS k x=false:=by
   grind[qG,j6,yI]
  obtain⟨i,hi1,hi2,hi3⟩:=zQ hfr;obtain⟨o,d,q,j,g0,hou,hi',hne,hd,hq,hqb,hcl',hj,hcn⟩:=A5 (B:=B) hh hW hc hk hfr;have hho:fi p c.YS x=o:=by grind[fi]
  rw [vM,if_neg hcl,hi1];have e:(((qC p c.YS).length:Int)+(i:Int)).toNat=(qC p c.YS).length+i:=qA;rw [e,c9 hF hi3,hou,a6,hcn,xa (hR.val d j q x hq qH),hho,<- hd];simp only [YY.get,YY.vars,hq]
  rfl
theorem KO (hp:Yl p) (hn:n<=150):kO p (aY p n)=iY p (ji p n):=by
 obtain⟨_,hC⟩:=LH hp hn;have hA:=iy hp.sh hn;have hl:=hp.sh.len;obtain⟨k,hk⟩:∃ k,p[0]?=some k:=⟨_,gE qA⟩;have hk0:=(hp.sh.Ze hk).2 rfl;have hka:qV p 0=0:=cq;by_cases he:(ji p n).en=0
 .have hf:=hC.fin he;have hs:=hA.Z7 he;obtain⟨a0,h1,h2⟩:=hA.ok.a0;have hb:(ji p n).YS 0=0:=mX;have hse:yp p 0=oA:=by grind[yp]
  unfold kO iY;rw [hf,hs,hC.Yd];simp only [zg,dT,sH,Bq,hb,hse]
  have:∀ x,gQ p (ji p n) 0 x=ju (ji p n).globals x.toNat:=λx=>by
   unfold gQ;rw [hb,if_pos rfl]
   rfl
  simp_all
 .obtain⟨B,hR⟩:=hC.err he;have hstk:=tY hp.sh hn;obtain⟨tl,htl⟩:=hstk.pre;have hfl:=hR.frl
  have hne:(aY p n).YO≠[]:=by
   grind
  have e1:kO p (aY p n)=(aY p n).YO.map (dP p (aY p n)):=by
   grind[kO]
  rw [e1,iY];apply aW;intro i;rw [kU,kU]
  cases hi:(ji p n).stack[i]? with
  | none =>
   simp_all
  | some a =>
   have hil:=(gS hi).1;obtain⟨f,hf⟩:∃ f,(aY p n).YO[i]?=some f:=⟨_,gE qA⟩;have hal:=hA.ok.Z7 a (gM hi);obtain⟨c,hc⟩:=gX hal;have hF:=hR.frs i a c f hi hc hf;rw [hf,bU,bU];have hb:=jq hc
   grind[lZ,Og,Zr.ok,dP,Bq,Zp.YS]
end
end Go.Hm
end
section

end
section

end
section
namespace Go.Hm
open Go Go.RowKit
def yF (S:Nm->Bool) (H:Nm->Option AO):Nm->Option AO:=λn=>if S n=true then none else H n
section
variable {own:Nat->Prop} {C C':Nat->Prop} {w w':World} {g g':Gh} {D:Nm->Bool} {root:Nm} {H H':Nm->Option AO}
def V5 (S:Nm->Bool) (C:Nat->Prop) (g:Gh) (H:Nm->Option AO) (b:Nat):Prop:=C b\/∃ n o,S n=true/\H n=some o/\g.φ n=some b
theorem qAP.settle (h:qAP own C w g D root H H' C' g' w') (S:Nm->Bool) (hw:∀ n,H n≠none->D n=true):qAP own C w g D root H (yF S H') (V5 S C' g' H') (g'.more (V5 S C' g' H')) w':=by
 have hC:∀ b,g'.C b->V5 S C' g' H' b:=λb hb=>.inl (h.inv.hC ▸ hb)
 have old:∀ n o,yF S H' n=some o->H' n=some o/\S n≠true:=by
  grind[yF]
 refine⟨λb hb=>.inl (h.mono b hb),?_,⟨h.inv.os,h.inv.tape,h.inv.output,h.inv.size,h.inv.qAQ,rfl,?_,?_,?_,?_⟩,?_,h.same,h.ust⟩
 .rintro b (hb|⟨n,o,_,ho,hk⟩)
  .exact h.new b hb
  .exact .inr (h.inv.YS n o b ho hk).2.1
 .rintro b (hb|⟨n,o,_,ho,hk⟩)
  .exact h.inv.clt b hb
  .exact (h.inv.YS n o b ho hk).2.2
 .intro n o e;have:=(h.inv.obj n o (old n o e).1).tr (g':=g'.more (V5 S C' g' H')) (w':=w') (n':=n) (f:=some) hC (λ_ _=>rfl) (λk k' e=>by obtain rfl:=sI e;exact⟨rfl,rfl⟩) rfl (λ_ _=>rfl)
  grind[AO.Yg]
 .intro n o b e hk;obtain⟨e1,e2⟩:=old n o e;obtain⟨x1,x2,x3⟩:=h.inv.YS n o b e1 hk;refine⟨?_,x2,x3⟩;rintro (hb|⟨n',o',hs,ho',hk'⟩)
  .exact x1 hb
  .exact e2 (h.inv.inj n' n o' o b ho' e1 hk' hk ▸ hs)
 .intro n n' o o' b e e' hk hk';exact h.inv.inj n n' o o' b (old n o e).1 (old n' o' e').1 hk hk'
 .intro n hn;refine h.dom n λe=>hn ?_
  grind[yF]
end
section
variable {P:Program} {gl:Nat->Option (List AV)} {f:FuncId} {D:Nm->Bool} {az:List AV} {H:Nm->Option AO} {R R':Nm->AV->(Nm->Option AO)->Prop}
theorem Yc.settle (S:Nm->Nm->Bool) (h:Yc P gl f D az H R Yz) (hR:∀ r y H',R r y H'->∃ y',Bw H' (λn=>!S r n) y y'/\R' r y' (yF (S r) H')):Yc P gl f D az H R' Yz:=by
 refine⟨h.1,λroot C w g args h1 h2 h3 h4 h5 h6 h7=>?_⟩;refine (h.2 root C w g args h1 h2 h3 h4 h5 h6 h7).mono λe w' he=>?_
 cases e with
 | returned v =>
  obtain⟨C',g',H',x,hA,hv,hr⟩:=he;obtain⟨y',hb,hr'⟩:=hR _ _ _ hr;refine⟨_,_,_,y',hA.settle (S root) h3,?_,hr'⟩;exact RV.bw hA.inv (λb hb=>.inl hb) (λn o b hS ho hk=>.inr ⟨n,o,qH,ho,hk⟩) hb hv
 | panicked ch =>
  omega
 | outgrown=>omega
theorem qX.settle (h:qX P gl f az R) {S:AV->Prop} (hR:∀ r y H',R r y H'->∃ y',Bw H' Z5 y y'/\S y'):qX P gl f az (λ_ y _=>S y) :=
 Yc.settle (λ_ _=>true) h λr y H' hr=>by
  obtain⟨y',h1,h2⟩:=hR r y H' hr;exact⟨y',h1,h2⟩
end
abbrev Xn:Nm:=.u 1 0 0
def u5 (p:YU) (f:YZ):Int:=(uC ((yg p f.YS).take f.pc):Int) - 1
def zy (p:YU) (n:Nm) (i:Nat) (f:YZ):List AV:=[iv f.YS,iv f.pc,iv (u5 p f),.hs (.c n i 3) 3 0 f.YV.length,ZD (zu f.cells),.hs (.c n i 5) 3 0 8,.hs (.c n i 6) 2 0 f.stack.length]
def qt (p:YU) (n:Nm) (l:List YZ):List (List AV):=l.mapIdx λi f=>zy p n i f
section
variable {p:YU} {n m:Nm} {i:Nat} {f g:YZ} {l:List YZ} {r:Nm->Option Nm}
@[simp] theorem frmRow_len:(zy p n i f).length=7:=rfl
@[simp] theorem frmRow_0:(zy p n i f)[0]?=some (iv f.YS):=rfl
@[simp] theorem frmRow_1:(zy p n i f)[1]?=some (iv f.pc):=rfl
@[simp] theorem frmRow_2:(zy p n i f)[2]?=some (iv (u5 p f)):=rfl
@[simp] theorem frmRow_3:(zy p n i f)[3]?=some (.hs (.c n i 3) 3 0 f.YV.length):=rfl
@[simp] theorem frmRow_4:(zy p n i f)[4]?=some (ZD (zu f.cells)):=rfl
@[simp] theorem frmRow_5:(zy p n i f)[5]?=some (.hs (.c n i 5) 3 0 8):=rfl
@[simp] theorem frmRow_6:(zy p n i f)[6]?=some (.hs (.c n i 6) 2 0 f.stack.length):=rfl
@[simp] theorem frmRows_len:(qt p n l).length=l.length:=by simp [qt]
@[simp] theorem yG:(qt p n l)[i]?=(l[i]?).map λf=>zy p n i f:=by simp [qt]
@[simp] theorem frmRows_getE {h:i<(qt p n l).length}:(qt p n l)[i]=zy p n i (l[i]' ct):=by simp [qt]
@[simp] theorem frmRows_nil:qt p n []=[]:=rfl
theorem MZ (h3:r (.c n i 3)=some (.c m i 3)) (h5:r (.c n i 5)=some (.c m i 5)) (h6:r (.c n i 6)=some (.c m i 6)):(zy p n i f).map (AV.tr r)=zy p m i f:=by simp_all[zy]
theorem tq (h:∀ i j,i<l.length->r (.c n i j)=some (.c m i j)):(qt p n l).map (λx=>x.map (AV.tr r))=qt p m l:=by
 apply aW;intro j;rw [kU,yG,yG]
 grind[MZ]
@[simp] theorem frmRows_fix (h:∀ i j,r (.c n i j)=some (.c n i j)):(qt p n l).map (λx=>x.map (AV.tr r))=qt p n l:=tq λi j _=>h i j
theorem pU {k:List AV->List AV} (h:∀ (i:Nat) f,l[i]?=some f->k (zy p n i f)=zy p m i f):(qt p n l).map k=qt p m l:=by
 apply aW
 grind[yG]
theorem pV:qt p n l++[zy p n l.length f]=qt p n (l++[f]):=by simp [qt]
theorem nD {k:Nat}:(qt p n l).take k=qt p n (l.take k):=by
 apply aW
 grind[yG]
theorem pT {off:Nat} {vals:List AV} (hi:l[i]?=some f) (h:(zy p n i f).take off++vals++(zy p n i f).drop (off+vals.length)=zy p n i g):qY (qt p n l) i off vals=qt p n (l.set i g):=by
 have hl:=(gS hi).1;apply aW
 grind[qY,yG]
end
def wT (l:List (Nat×List Nat)):List (List AV):=l.map λg=>[iv g.1,ZD (zu g.2)]
def yV (l:List (List Yj)):List (List AV):=l.map λc=>[.sl 3 (qU c)]
abbrev QB:AV:=.bot
def ub (x:AV) (p:YU):List (List AV):=[x]::(List.range (p.length - 1)).map λb=>[ZD (z8 p (b+1))]
section
variable {l:List (Nat×List Nat)} {cs:List (List Yj)} {i:Nat} {r:Nm->Option Nm} {g:Nat×List Nat} {c:List Yj} {x:AV} {p:YU}
@[simp] theorem fnRows_len:(wT l).length=l.length:=rJ
@[simp] theorem fnRows_getE {h:i<(wT l).length}:(wT l)[i]=[iv (l[i]' ct).1,ZD (zu (l[i]' ct).2)]:=rJ
@[simp] theorem fnRows_tr:(wT l).map (λy=>y.map (AV.tr r))=wT l:=rJ
@[simp] theorem fnRows_take {k:Nat}:(wT l).take k=wT (l.take k):=rJ
theorem JR:wT l++[[iv g.1,ZD (zu g.2)]]=wT (l++[g]):=rJ
@[simp] theorem fnRows_nil:wT []=[]:=rfl
@[simp] theorem clzRows_len:(yV cs).length=cs.length:=by simp [yV]
@[simp] theorem clzRows_getE {h:i<(yV cs).length}:(yV cs)[i]=[AV.sl 3 (qU (cs[i]' ct))]:=by simp [yV]
@[simp] theorem clzRows_tr:(yV cs).map (λy=>y.map (AV.tr r))=yV cs:=by
 simp only [yV,sJ];apply lZ;intro c _;simp [lc,AV.tr]
@[simp] theorem clzRows_take {k:Nat}:(yV cs).take k=yV (cs.take k):=by simp [yV]
theorem FK:yV cs++[[.sl 3 (qU c)]]=yV (cs++[c]):=by simp [yV]
@[simp] theorem clzRows_nil:yV []=[]:=rfl
theorem rA (h:0<p.length):(ub x p).length=p.length:=by grind[ub]
theorem FQ (h:0<i) (hl:i<p.length):(ub x p)[i]?=some [ZD (z8 p i)]:=by
 grind[ub]
@[simp] theorem capRows_tr:(ub x p).map (λy=>y.map (AV.tr r))=ub (x.tr r) p:=by simp [ub]
end
structure qAp (hp:Nm->Option AO) (p:YU) (n:Nm) (l:List YZ):Prop where
 top:∃ js,hp n=some (.row 7 (qt p n (l++js)))
 YV:∀ (i:Nat) f,l[i]?=some f->hp (.c n i 3)=some (.row 3 (qU f.YV))
 names:∀ (i:Nat) f,l[i]?=some f->hp (.c n i 5)=some (.row 3 (qU f.names))
 stack:∀ (i:Nat) f,l[i]?=some f->∃ j,hp (.c n i 6)=some (.row 2 (zf (f.stack++j)))
def vg (p:YU) (n:Nm) (m:Y2) (dp:Nat):List AV:=[csl (qg p p.length),.hs (.c Xn 0 1) 1 0 p.length,.hs (.c Xn 0 2) 3 0 m.cells.length,.hs (.c Xn 0 3) 3 0 8,.hs (.c Xn 0 4) 2 0 m.YT.length,.hs (.c Xn 0 5) 1 0 m.YP.length,.hs n 7 0 m.YO.length,iv m.made,iv dp,.hs (.c Xn 0 9) 1 0 m.out.length,.hs (.c Xn 0 10) 2 0 m.trace.length,iv m.en,iv m.left]
structure YW (hp:Nm->Option AO) (p:YU) (n:Nm) (m:Y2) (dp:Nat):Prop where
 top:hp Xn=some (.row 13 [vg p n m dp])
 ZP:hp (.c Xn 0 1)=some (.row 1 (ub QB p))
 cells:hp (.c Xn 0 2)=some (.row 3 (qU m.cells))
 Yd:hp (.c Xn 0 3)=some (.row 3 (qU m.globals))
 YT:hp (.c Xn 0 4)=some (.row 2 (wT m.YT))
 Yt:hp (.c Xn 0 5)=some (.row 1 (yV m.YP))
 out:hp (.c Xn 0 9)=some (.row 1 (qS m.out))
 Zb:hp (.c Xn 0 10)=some (.row 2 (vv m.trace))
 fr:qAp hp p n m.YO
section
variable {hp hp':Nm->Option AO} {p:YU} {n n':Nm} {m m':Y2} {dp dp':Nat} {l l':List YZ}
theorem qAp.re (h:qAp hp p n l)
  (h0:∀ js,hp n=some (.row 7 (qt p n (l++js)))->hp' n=some (.row 7 (qt p n (l++js))):=by intro js hj;simp [hj])
  (h1:∀ (i:Nat) f,l[i]?=some f->hp (.c n i 3)=some (.row 3 (qU f.YV))->hp' (.c n i 3)=some (.row 3 (qU f.YV)):=by intro i f _ hf;simp [hf])
  (h2:∀ (i:Nat) f,l[i]?=some f->hp (.c n i 5)=some (.row 3 (qU f.names))->hp' (.c n i 5)=some (.row 3 (qU f.names)):=by intro i f _ hf;simp [hf])
  (h3:∀ (i:Nat) f j,l[i]?=some f->hp (.c n i 6)=some (.row 2 (zf (f.stack++j)))->hp' (.c n i 6)=some (.row 2 (zf (f.stack++j))):=by intro i f j _ hf;simp [hf]):qAp hp' p n l:=by
 obtain⟨js,hj⟩:=h.top;exact⟨⟨js,h0 js hj⟩,λi f hf=>h1 i f hf (h.YV i f hf),λi f hf=>h2 i f hf (h.names i f hf),λi f hf=>by obtain⟨j,hj⟩:=h.stack i f hf;grind⟩
theorem YW.re (h:YW hp p n m dp)
  (h0:hp' Xn=some (.row 13 [vg p n' m' dp']):=by simp [h.top,vg])
  (h1:hp' (.c Xn 0 1)=some (.row 1 (ub QB p)):=by simp [h.ZP])
  (h2:hp' (.c Xn 0 2)=some (.row 3 (qU m'.cells)):=by simp [h.cells])
  (h3:hp' (.c Xn 0 3)=some (.row 3 (qU m'.globals)):=by simp [h.Yd])
  (h4:hp' (.c Xn 0 4)=some (.row 2 (wT m'.YT)):=by simp [h.YT])
  (h5:hp' (.c Xn 0 5)=some (.row 1 (yV m'.YP)):=by simp [h.Yt])
  (h6:hp' (.c Xn 0 9)=some (.row 1 (qS m'.out)):=by simp [h.out])
  (h7:hp' (.c Xn 0 10)=some (.row 2 (vv m'.trace)):=by simp [h.Zb])
  (h8:qAp hp' p n' m'.YO:=by exact h.fr.re):YW hp' p n' m' dp' :=
 ⟨h0,h1,h2,h3,h4,h5,h6,h7,h8⟩
theorem qAp.Yq (h:qAp hp p n l) {f:Nm->Option Nm} (hf:∀ k,Nm.under n k=true->f k=some k) (hh:∀ k,Nm.under n k=true->hp' k=(hp k).map (AO.tr f)):qAp hp' p n l:=by
 have hu:∀ i j,Nm.under n (.c n i j)=true:=λi j=>qB;refine⟨h.top.imp λjs hj=>?_,λi g hg=>?_,λi g hg=>?_,λi g hg=>(h.stack i g hg).imp λj hj=>?_⟩
 .simp_all
 .rw [hh _ (hu i 3),h.YV i g hg];simp
 .rw [hh _ (hu i 5),h.names i g hg];simp
 simp_all
theorem YW.Yq (h:YW hp p n m dp) {f:Nm->Option Nm} (hn:Nm.under Xn n=true\/n=.u 2 0 0) (hf:∀ k,ZK k=true->f k=some k) (hh:∀ k,ZK k=true->hp' k=(hp k).map (AO.tr f)):YW hp' p n m dp:=by
 have hc:∀ j,ZK (.c Xn 0 j)=true:=λj=>qB
 have hD:∀ k,Nm.under n k=true->ZK k=true:=by
  grind[IE,Nm.ZA]
 have hnn:f n=some n:=hf _ (hD n (Nm.Y0 n));refine⟨?_,?_,?_,?_,?_,?_,?_,?_,h.fr.Yq (λk hk=>hf k (hD k hk)) λk hk=>hh k (hD k hk)⟩
 .rw [hh _ qB,h.top]
  simp_all[vg]
 .rw [hh _ (hc 1),h.ZP];simp
 .rw [hh _ (hc 2),h.cells];simp
 .rw [hh _ (hc 3),h.Yd];simp
 .rw [hh _ (hc 4),h.YT];simp
 .rw [hh _ (hc 5),h.Yt];simp
 .rw [hh _ (hc 9),h.out];simp
 .rw [hh _ (hc 10),h.Zb];simp
end
section
variable {p:YU} {m M:Y2} {b d n i j N t:Nat} {fs:List YZ} {f g:YZ} {o:Int×Int} {v:Y6} {k:Y4} {x:Int}
structure StD (m m':Y2):Prop where
 dp:m'.deep=max m.deep m'.YO.length
 gr:m'.YO.length<=m.YO.length\/(m'.en=m.en/\m'.YO≠[])
theorem StD.of (h:m.YO.length<=m.deep) (h1:M.YO.length<=m.YO.length) (h2:M.deep=m.deep):StD m M:=⟨qA,.inl h1⟩
theorem RX (h:m.YO.length<=m.deep) (hl:fs.length+1=m.YO.length):StD m (m.top fs f):=.of h mO rfl
theorem Gr {s:Yj} (h:m.YO.length<=m.deep) (hl:fs.length+1=m.YO.length):StD m (Yy m fs f o s):=by
 grind[Yy,StD.of,Y2.top]
theorem Ka {cs:List Nat} {vs:List Y6} (h:m.YO.length<=m.deep) (hl:fs.length+1=m.YO.length):StD m (ze p (m.top fs f) b cs vs):=by
 unfold ze
 split
 .constructor<;>grind[Y2.top]
 constructor<;>grind[Y2.top]
theorem CC (h:m.YO.length<=m.deep) (hl:fs.length+1=m.YO.length) (h1:M.deep=m.deep) (h2:M.YO=m.YO):StD m (zd M fs v):=by
 grind[zd,StD.of]
theorem Gq (h:m.YO.length<=m.deep):StD m (wZ p m):=by
 unfold wZ
 split
 .rename_i f hf
  have hl:m.YO.dropLast.length+1=m.YO.length:=by
   grind
  have hT:∀ F:YZ,StD m (m.top m.YO.dropLast F):=λF=>RX h hl;have hS:∀ (F:YZ) (E:Int),StD m (m.stop m.YO.dropLast F E):=λF E=>.of h (by grind[Y2.stop,Y2.top]) rfl
  split
  .rename_i o ho;unfold uq
   split
   .grind[bI,StD.of,Y2.top]
   .split
    .split
     .grind[vw]
     .split
      .exact Gr h hl
      grind[EF,Gr]
    grind[yd,Jl,StD.of,Y2.top,Ka,fj,iQ,CC]
  grind[D5,CC]
 grind[StD.of]
def ff (p:YU):Nat->Y2->Nat->Nat
 | 0,_,d=>d
 | i+1,m,d=>if m.ended then d else ff p i (wZ p m) (max d m.YO.length)
theorem tW (ht:∀ b,(qC p b).length<=t):∀ (i:Nat) {m:Y2} {d:Nat},Zt p t m->m.deep=max d m.YO.length->(yf p i m).deep=max (ff p i m d) (yf p i m).YO.length
 | 0,m,d,_,hd=>hd
 | i+1,m,d,h,hd=>by
  rw [yf,ff]
  split
  .exact hd
  .exact tW ht i (HX ht h) (by grind[StD.dp,Gq])
theorem og:∀ (i:Nat) {m:Y2},¬ (yf p i m).ended->yf p (i+1) m=wZ p (yf p i m)
 := by intro x0;induction x0<;>grind[yf]
theorem tV:∀ (i:Nat) {m:Y2} {d:Nat},¬ (yf p i m).ended->ff p (i+1) m d=max (ff p i m d) (yf p i m).YO.length
 := by intro x0;induction x0<;>grind[yf,ff]
theorem L5 (ht:∀ b,(qC p b).length<=t) (h:Zt p t m) (hd:m.deep=max d m.YO.length) (hN:¬ (yf p N m).ended) (he:(yf p (N+1) m).ended):ff p (N+1) m d=(yf p (N+1) m).deep:=by
 have h1:=tW ht (N+1) h hd;have h2:=tV (d:=d) N hN;have hI:=Ez ht N h;have h3:=(Gq (p:=p) hI.fr).gr
 grind[og,Y2.ended]
end
def Yo (l:List AV) (off:Nat) (vals:List AV):List AV:=l.take off++vals++l.drop (off+vals.length)
section
variable {P X S vals l:List AV} {k off j i n z:Nat} {c c':Nat->List AV}
theorem R3 (h:off+vals.length<=l.length):(Yo l off vals).length=l.length:=by grind[Yo]
theorem li (hk:k+vals.length<=X.length):Yo (P++(X++S)) (P.length+k) vals=P++(Yo X k vals++S):=by
 unfold Yo;rw [BT,List.drop_append,BT,List.drop_append,bC (Nat.le_add_right _ _)];have e1:P.length+k - P.length=k:=qA;have e2:P.length+k+vals.length - P.length=k+vals.length:=qA;have e3:k - X.length=0:=qA
 simp_all<;>omega
theorem Kg (hk:k+vals.length<=X.length):Yo (X++S) k vals=Yo X k vals++S:=by
 grind[Yo]
theorem Oe (hk:k+vals.length<=X.length):Yo (P++X) (P.length+k) vals=P++Yo X k vals:=by
 have:=li (P:=P) (S:=[]) hk
 simp_all
theorem Sh (hk:k<X.length):(P++(X++S))[P.length+k]?=X[k]?:=by
 grind
theorem FG (hk:k+n<=X.length):((P++(X++S)).drop (P.length+k)).take n=(X.drop k).take n:=by
 simp_all<;>grind
def cat (c:Nat->List AV) (n:Nat):List AV:=(List.range n).flatMap c
theorem cd:cat c (n+1)=cat c n++c n:=by simp [cat,BU]
theorem eI (hc:∀ i,(c i).length=z):(cat c n).length=z * n:=by
 induction n<;>grind[cat,cd]
theorem Df (h:∀ i,i<n->c' i=c i):cat c' n=cat c n:=by
 induction n with
 | zero=>rfl
 | succ n ih=>grind[cd]
theorem De (hi:i<n):∃ S,cat c n=cat c i++(c i++S):=by
 induction n with
 | zero=>omega
 | succ n ih =>
  rw [cd];by_cases e:i=n
  .simp_all
  grind
theorem Mr (hc:∀ i,(c i).length=z) (hi:i<n) (hj:j<z):(cat c n)[z * i+j]?=(c i)[j]?:=by
 obtain⟨S,hS⟩:=De (c:=c) hi
 grind[eI]
theorem Ms (hc:∀ i,(c i).length=z) (hi:i<n) (hj:j+k<=z):((cat c n).drop (z * i+j)).take k=((c i).drop j).take k:=by
 obtain⟨S,hS⟩:=De (c:=c) hi
 grind[eI,FG]
theorem Mq (hc:∀ i,(c i).length=z) (hi:i<n) (hj:j+vals.length<=z) (h:∀ k,k≠i->c' k=c k) (hx:Yo (c i) j vals=c' i):Yo (cat c n) (z * i+j) vals=cat c' n:=by
 induction n with
 | zero=>omega
 | succ n ih =>
  rw [cd,cd];by_cases e:i=n
  .grind[eI,Oe,Df]
  .rw [Kg,ih qA,h n (λe'=>e e'.symm)];rw [eI hc];have:z * (i+1)<=z * n:=Nat.mul_le_mul_left z qA
   grind
theorem Hk {f:Nm->Option Nm} (h:∀ i,i<n->(c i).map (AV.tr f)=c' i):(cat c n).map (AV.tr f)=cat c' n:=by
 induction n with
 | zero=>rfl
 | succ n ih=>grind[cd]
end
def kI (l:List Yj):List AV:=cat (λi=>jJ (ju l i)) 8
section
variable {l:List Yj} {i j:Nat} {s:Yj} {f:Nm->Option Nm}
@[simp] theorem A6:(kI l).length=24:=eI (z:=3) λ_=>df
@[simp] theorem pZ:(kI l).map (AV.tr f)=kI l:=Hk λ_ _=>Gs
theorem Hd (hi:i<8) (hj:j<3):(kI l)[3 * i+j]?=(jJ (ju l i))[j]?:=Mr (λ_=>df) hi hj
theorem A7 (hi:i<8):((kI l).drop (3 * i)).take 3=jJ (ju l i):=by
 have:=Ms (c:=λi=>jJ (ju l i)) (j:=0) (k:=3) (λ_=>df) hi qA
 grind[kI,df]
theorem Hc (hl:l.length=8) (hi:i<8):Yo (kI l) (3 * i) (jJ s)=kI (l.set i s):=by
 have:=Mq (c:=λi=>jJ (ju l i)) (c':=λk=>jJ (ju (l.set i s) k)) (n:=8) (i:=i) (j:=0) (vals:=jJ s) (z:=3) (λ_=>df) hi qB (λk hk=>by
  grind[fC]) (by
  simp_all[ju,Yo])
 grind[kI]
end
abbrev Yn:Nm:=.u 1 0 0
def yA (p:YU) (m:Y2):List AV:=[csl (qg p p.length),.hs (.c Yn 0 1) 1 0 p.length,iv m.left,iv m.en,.hs (.c Yn 0 4) 1 0 m.out.length,.hs (.c Yn 0 5) 2 0 m.trace.length]
def yB (m:Y2):List AV:=[.hs (.c Yn 0 30) 2 0 m.YT.length,.hs (.c Yn 0 31) 24 0 m.YP.length]
def yZ (m:Y2) (h:Nat):List AV:=[iv h,iv m.deep,iv m.made,iv m.cells.length]
def zJ (p:YU) (m:Y2) (h:Nat) (c:Nat->List AV):List AV:=yA p m++(kI m.globals++(yB m++(cat c 151++yZ m h)))
def Zy (i:Nat) (f:YZ):List AV:=[iv f.YS,iv f.pc,.hs (.c Yn 0 (32+29 * i+2)) 3 0 f.YV.length,.hs (.c Yn 0 (32+29 * i+3)) 1 0 f.cells.length]++(kI f.names++[.hs (.c Yn 0 (32+29 * i+28)) 2 0 f.stack.length])
def yc (fs:List YZ) (J:Nat->List AV) (i:Nat):List AV:=match fs[i]? with|some f=>Zy i f|none=>J i
section
variable {p:YU} {m:Y2} {h h' i j k x:Nat} {c c' J:Nat->List AV} {fs:List YZ} {f g:YZ} {s:Yj} {vals:List AV} {e:Int} {r:Nm->Option Nm}
@[simp] theorem yfr_len:(Zy i f).length=29:=by simp [Zy]
theorem wP (hJ:∀ i,(J i).length=29) (i:Nat):(yc fs J i).length=29:=by
 unfold yc
 split<;>simp_all
theorem ae (hc:∀ i,(c i).length=29):(zJ p m h c).length=4415:=by simp [zJ,yA,yB,yZ,eI hc]
@[simp] theorem Gc:(zJ p m h c)[0]?=some (csl (qg p p.length)):=rfl
@[simp] theorem T8:(zJ p m h c)[1]?=some (.hs (.c Yn 0 1) 1 0 p.length):=rfl
@[simp] theorem T7:(zJ p m h c)[2]?=some (iv m.left):=rfl
@[simp] theorem T6:(zJ p m h c)[3]?=some (iv m.en):=rfl
@[simp] theorem T5:(zJ p m h c)[4]?=some (.hs (.c Yn 0 4) 1 0 m.out.length):=rfl
@[simp] theorem T4:(zJ p m h c)[5]?=some (.hs (.c Yn 0 5) 2 0 m.trace.length):=rfl
theorem Bk {P X S:List AV} {q:Nat} (hq:q=P.length+k) (hk:k<X.length) (hR:zJ p m h c=P++(X++S)):(zJ p m h c)[q]?=X[k]?:=qe
theorem Ta {P X S:List AV} {q n:Nat} (hq:q=P.length+k) (hk:k+n<=X.length) (hR:zJ p m h c=P++(X++S)):((zJ p m h c).drop q).take n=(X.drop k).take n:=by grind[FG]
theorem Bj {P X S:List AV} {q:Nat} (hq:q=P.length+k) (hk:k+vals.length<=X.length) (hR:zJ p m h c=P++(X++S)):Yo (zJ p m h c) q vals=P++(Yo X k vals++S):=by grind[li]
theorem Vb:zJ p m h c=yA p m++(kI m.globals++(yB m++(cat c 151++yZ m h))):=rfl
theorem Q1:zJ p m h c=(yA p m++kI m.globals)++(yB m++(cat c 151++yZ m h)):=by simp [zJ]
theorem VZ:zJ p m h c=(yA p m++(kI m.globals++yB m))++(cat c 151++yZ m h):=by simp [zJ]
theorem Jo:zJ p m h c=(yA p m++(kI m.globals++(yB m++cat c 151)))++(yZ m h++[]):=by simp [zJ]
theorem X6:(yA p m).length=6:=rfl
theorem V4:(yA p m++kI m.globals).length=30:=by simp [yA]
theorem X5:(yA p m++(kI m.globals++yB m)).length=32:=by simp [yA,yB]
theorem Xy (hc:∀ i,(c i).length=29):(yA p m++(kI m.globals++(yB m++cat c 151))).length=4411:=by simp [yA,yB,eI hc]
@[simp] theorem RB:(zJ p m h c)[30]?=some (.hs (.c Yn 0 30) 2 0 m.YT.length):=by rw [Bk (k:=0) (by rw [V4]) (by simp [yB]) Q1];rfl
@[simp] theorem RA:(zJ p m h c)[31]?=some (.hs (.c Yn 0 31) 24 0 m.YP.length):=by rw [Bk (k:=1) (by rw [V4]) (by simp [yB]) Q1];rfl
theorem dY (hc:∀ i,(c i).length=29):(zJ p m h c)[4411]?=some (iv h):=by rw [Bk (k:=0) eb eT Jo];rfl
theorem KG (hc:∀ i,(c i).length=29):(zJ p m h c)[4412]?=some (iv m.deep):=by rw [Bk (k:=1) eb eT Jo];rfl
theorem KF (hc:∀ i,(c i).length=29):(zJ p m h c)[4413]?=some (iv m.made):=by rw [Bk (k:=2) eb eT Jo];rfl
theorem KE (hc:∀ i,(c i).length=29):(zJ p m h c)[4414]?=some (iv m.cells.length):=by rw [Bk (k:=3) eb eT Jo];rfl
theorem T3 (hx:x<8) (hj:j<3):(zJ p m h c)[6+(3 * x+j)]?=(jJ (ju m.globals x))[j]?:=by
 rw [Bk (k:=3 * x+j) (by rw [X6]) qv Vb];exact Hd hx hj
theorem KD:((zJ p m h c).drop 6).take 24=kI m.globals:=by
 rw [Ta (k:=0) (n:=24) (by rw [X6]) qB Vb]
 simp_all[bC]
theorem Xl (hc:∀ i,(c i).length=29) (hi:i<151) (hj:j<29):(zJ p m h c)[32+(29 * i+j)]?=(c i)[j]?:=by
 rw [Bk (k:=29 * i+j) (by rw [X5]) GF VZ]
 simp_all[Mr]
theorem T9 (hc:∀ i,(c i).length=29) (hi:i<151) (hj:j+k<=29):((zJ p m h c).drop (32+(29 * i+j))).take k=((c i).drop j).take k:=by
 rw [Ta (k:=29 * i+j) (n:=k) (by rw [X5]) GF VZ]
 simp_all[Ms]
theorem T0:Yo (zJ p m h c) 2 [iv x]=zJ p { m with left:=x } h c:=rfl
theorem TZ:Yo (zJ p m h c) 3 [iv e]=zJ p { m with en:=e } h c:=rfl
theorem TY {o:List Int}:Yo (zJ p m h c) 4 [.hs (.c Yn 0 4) 1 0 o.length]=zJ p { m with out:=o } h c:=rfl
theorem TX {o:List (Nat×Nat)}:Yo (zJ p m h c) 5 [.hs (.c Yn 0 5) 2 0 o.length]=zJ p { m with trace:=o } h c:=rfl
theorem Qx {o:List (Nat×List Nat)}:Yo (zJ p m h c) 30 [.hs (.c Yn 0 30) 2 0 o.length]=zJ p { m with YT:=o } h c:=by
 rw [Bj (k:=0) (by rw [V4]) (by simp [yB]) Q1,Q1]
 rfl
theorem Qw {o:List (List Yj)}:Yo (zJ p m h c) 31 [.hs (.c Yn 0 31) 24 0 o.length]=zJ p { m with YP:=o } h c:=by
 rw [Bj (k:=1) (by rw [V4]) (by simp [yB]) Q1,Q1]
 rfl
theorem QZ (hc:∀ i,(c i).length=29):Yo (zJ p m h c) 4411 [iv h']=zJ p m h' c:=by
 rw [Bj (k:=0) eb eT Jo,Jo]
 rfl
theorem TV (hc:∀ i,(c i).length=29):Yo (zJ p m h c) 4412 [iv x]=zJ p { m with deep:=x } h c:=by
 rw [Bj (k:=1) eb eT Jo,Jo]
 rfl
theorem TT (hc:∀ i,(c i).length=29):Yo (zJ p m h c) 4413 [iv x]=zJ p { m with made:=x } h c:=by
 rw [Bj (k:=2) eb eT Jo,Jo]
 rfl
theorem TW (hc:∀ i,(c i).length=29) {o:List Yj}:Yo (zJ p m h c) 4414 [iv o.length]=zJ p { m with cells:=o } h c:=by
 rw [Bj (k:=3) eb eT Jo,Jo]
 rfl
theorem TU (hl:m.globals.length=8) (hx:x<8):Yo (zJ p m h c) (6+3 * x) (jJ s)=zJ p { m with globals:=m.globals.set x s } h c:=by
 rw [Bj (k:=3 * x) (by rw [X6]) qv Vb,Hc hl hx]
 rfl
theorem Gb (hc:∀ i,(c i).length=29) (hi:i<151) (hj:j+vals.length<=29) (hk:∀ k,k≠i->c' k=c k) (hx:Yo (c i) j vals=c' i):Yo (zJ p m h c) (32+(29 * i+j)) vals=zJ p m h c':=by
 rw [Bj (k:=29 * i+j) (by rw [X5]) GF VZ,Mq hc hi hj hk hx,VZ]
theorem TS (hi:i<fs.length) (hk:k≠i):yc (fs.set i g) J k=yc fs J k:=by
 grind[yc]
theorem Bi (hi:fs[i]?=some f):yc fs J i=Zy i f:=by simp [yc,hi]
theorem Ga (hJ:∀ i,(J i).length=29) (hf:fs[i]?=some f) (hi:i<151) (hj:j+vals.length<=29) (hx:Yo (Zy i f) j vals=Zy i g):Yo (zJ p m h (yc fs J)) (32+(29 * i+j)) vals=zJ p m h (yc (fs.set i g) J):=by
 grind[Gb,wP,TS,Bi]
end
def yj (l:List (Nat×List Nat)):List (List AV):=l.map λg=>[iv g.1,.sl 1 (zC g.2)]
def uL (l:List (List Yj)):List (List AV):=l.map kI
def vD (p:YU) (n:Nat):List (List AV):=(List.range n).map λb=>[ZD (z8 p b)]
section
variable {l:List (Nat×List Nat)} {cs:List (List Yj)} {i n:Nat} {r:Nm->Option Nm} {g:Nat×List Nat} {c:List Yj} {p:YU}
@[simp] theorem fyRows_len:(yj l).length=l.length:=by simp [yj]
@[simp] theorem fyRows_getE {h:i<(yj l).length}:(yj l)[i]=[iv (l[i]' ct).1,.sl 1 (zC (l[i]' ct).2)]:=by simp [yj]
@[simp] theorem JN (h:∀ i,r (En i)=some (En i)):(yj l).map (λy=>y.map (AV.tr r))=yj l:=by
 simp only [yj,sJ];apply lZ;intro g _;have:(zC g.2).map (λy=>y.map (AV.tr r))=zC g.2:=bt h;simp [AV.tr,lc,this]
@[simp] theorem fyRows_take {k:Nat}:(yj l).take k=yj (l.take k):=by simp [yj]
theorem JO:yj l++[[iv g.1,.sl 1 (zC g.2)]]=yj (l++[g]):=by simp [yj]
@[simp] theorem fyRows_nil:yj []=[]:=rfl
@[simp] theorem cyRows_len:(uL cs).length=cs.length:=rz
@[simp] theorem cyRows_getE {h:i<(uL cs).length}:(uL cs)[i]=kI (cs[i]' ct):=rz
@[simp] theorem cyRows_tr:(uL cs).map (λy=>y.map (AV.tr r))=uL cs:=rz
@[simp] theorem cyRows_take {k:Nat}:(uL cs).take k=uL (cs.take k):=rz
theorem J0:uL cs++[kI c]=uL (cs++[c]):=rz
@[simp] theorem cyRows_nil:uL []=[]:=rfl
@[simp] theorem cpRows_len:(vD p n).length=n:=by simp [vD]
@[simp] theorem cpRows_getE {h:i<(vD p n).length}:(vD p n)[i]=[ZD (z8 p i)]:=by simp [vD]
@[simp] theorem cpRows_tr:(vD p n).map (λy=>y.map (AV.tr r))=vD p n:=by simp [vD]
theorem J1:vD p n++[[ZD (z8 p n)]]=vD p (n+1):=by simp [vD,BU]
@[simp] theorem cpRows_zero:vD p 0=[]:=rfl
end
section
variable {i n k:Nat} {f:YZ} {r:Nm->Option Nm} {p:YU} {m:Y2} {h:Nat} {c:Nat->List AV}
theorem TR:Yo (Zy i f) 1 [iv n]=Zy i { f with pc:=n }:=rfl
theorem Ju {l:List Y6}:Yo (Zy i f) 28 [.hs (.c Yn 0 (32+29 * i+28)) 2 0 l.length]=Zy i { f with stack:=l }:=by
 have h1:(Zy i f).take 28=[iv f.YS,iv f.pc,.hs (.c Yn 0 (32+29 * i+2)) 3 0 f.YV.length,.hs (.c Yn 0 (32+29 * i+3)) 1 0 f.cells.length]++kI f.names:=by
  grind[Zy,A6]
 simp_all[Zy,Yo]
theorem Jv {x:Nat} {s:Yj} (hl:f.names.length=8) (hx:x<8):Yo (Zy i f) (4+3 * x) (jJ s)=Zy i { f with names:=f.names.set x s }:=by
 have h4:∀ a b d e:AV,[a,b,d,e].length=4:=λ_ _ _ _=>rfl;have:=li (P:=[iv f.YS,iv f.pc,.hs (.c Yn 0 (32+29 * i+2)) 3 0 f.YV.length,.hs (.c Yn 0 (32+29 * i+3)) 1 0 f.cells.length]) (X:=kI f.names) (S:=[.hs (.c Yn 0 (32+29 * i+28)) 2 0 f.stack.length]) (k:=3 * x) (vals:=jJ s) qv;rw [h4,Hc hl hx] at this;exact this
@[simp] theorem OC:(Zy i f)[0]?=some (iv f.YS):=rfl
@[simp] theorem yfr_get1:(Zy i f)[1]?=some (iv f.pc):=rfl
@[simp] theorem OB:(Zy i f)[2]?=some (.hs (.c Yn 0 (32+29 * i+2)) 3 0 f.YV.length):=rfl
@[simp] theorem OA:(Zy i f)[3]?=some (.hs (.c Yn 0 (32+29 * i+3)) 1 0 f.cells.length):=rfl
@[simp] theorem Jw:(Zy i f)[28]?=some (.hs (.c Yn 0 (32+29 * i+28)) 2 0 f.stack.length):=by
 simp_all[Zy]
theorem Nz {x j:Nat} (hx:x<8) (hj:j<3):(Zy i f)[4+(3 * x+j)]?=(jJ (ju f.names x))[j]?:=by
 have:=Sh (P:=[iv f.YS,iv f.pc,.hs (.c Yn 0 (32+29 * i+2)) 3 0 f.YV.length,.hs (.c Yn 0 (32+29 * i+3)) 1 0 f.cells.length]) (X:=kI f.names) (S:=[.hs (.c Yn 0 (32+29 * i+28)) 2 0 f.stack.length]) (k:=3 * x+j) qv;rw [Hd hx hj] at this;exact this
theorem Bg:((Zy i f).drop 4).take 24=kI f.names:=by
 have:=FG (P:=[iv f.YS,iv f.pc,.hs (.c Yn 0 (32+29 * i+2)) 3 0 f.YV.length,.hs (.c Yn 0 (32+29 * i+3)) 1 0 f.cells.length]) (X:=kI f.names) (S:=[.hs (.c Yn 0 (32+29 * i+28)) 2 0 f.stack.length]) (k:=0) (n:=24) qB;rw [List.drop_zero] at this;exact this.trans (bC qB)
theorem Qu (hr:∀ j,r (.c Yn 0 j)=some (.c Yn 0 j)):(Zy i f).map (AV.tr r)=Zy i f:=by simp [Zy,hr]
end
structure YQ (hp:Nm->Option AO) (p:YU) (m:Y2):Prop where
 top:∃ J:Nat->List AV,(∀ i,(J i).length=29)/\hp Yn=some (.row 4415 [zJ p m m.YO.length (yc m.YO J)])
 ZP:hp (.c Yn 0 1)=some (.row 1 (vD p p.length))
 out:hp (.c Yn 0 4)=some (.row 1 (qS m.out))
 Zb:hp (.c Yn 0 5)=some (.row 2 (vv m.trace))
 YT:hp (.c Yn 0 30)=some (.row 2 (yj m.YT))
 Yt:hp (.c Yn 0 31)=some (.row 24 (uL m.YP))
 YV:∀ (i:Nat) f,m.YO[i]?=some f->hp (.c Yn 0 (32+29 * i+2))=some (.row 3 (qU f.YV))
 cls:∀ (i:Nat) f,m.YO[i]?=some f->hp (.c Yn 0 (32+29 * i+3))=some (.row 1 (zC f.cells))
 stack:∀ (i:Nat) f,m.YO[i]?=some f->∃ j,hp (.c Yn 0 (32+29 * i+28))=some (.row 2 (zf (f.stack++j)))
 cell:∀ (c:Nat) s,m.cells[c]?=some s->hp (En c)=some (.row 3 [jJ s])
 only:∀ k i j,fM k=true->hp (.u k i j)≠none->(k=1/\i=0/\j=0)\/(k=7/\i<m.cells.length/\j=0)
section
variable {hp hp' H:Nm->Option AO} {p:YU} {m m' m0:Y2}
theorem YQ.re (h:YQ hp p m)
  (h0:∀ J:Nat->List AV,(∀ i,(J i).length=29)->hp Yn=some (.row 4415 [zJ p m m.YO.length (yc m.YO J)])->hp' Yn=some (.row 4415 [zJ p m m.YO.length (yc m.YO J)]):=by intro J _ hJ;simp [hJ])
  (h1:hp' (.c Yn 0 1)=some (.row 1 (vD p p.length)):=by simp [h.ZP])
  (h2:hp' (.c Yn 0 4)=some (.row 1 (qS m.out)):=by simp [h.out])
  (h3:hp' (.c Yn 0 5)=some (.row 2 (vv m.trace)):=by simp [h.Zb])
  (h4:hp' (.c Yn 0 30)=some (.row 2 (yj m.YT)):=by simp [h.YT])
  (h5:hp' (.c Yn 0 31)=some (.row 24 (uL m.YP)):=by simp [h.Yt])
  (h6:∀ (i:Nat) f,m.YO[i]?=some f->hp (.c Yn 0 (32+29 * i+2))=some (.row 3 (qU f.YV))->hp' (.c Yn 0 (32+29 * i+2))=some (.row 3 (qU f.YV)):=by intro i f _ hf;simp [hf])
  (h7:∀ (i:Nat) f,m.YO[i]?=some f->hp (.c Yn 0 (32+29 * i+3))=some (.row 1 (zC f.cells))->hp' (.c Yn 0 (32+29 * i+3))=some (.row 1 (zC f.cells)):=by intro i f _ hf;simp [hf])
  (h8:∀ (i:Nat) f j,m.YO[i]?=some f->hp (.c Yn 0 (32+29 * i+28))=some (.row 2 (zf (f.stack++j)))->hp' (.c Yn 0 (32+29 * i+28))=some (.row 2 (zf (f.stack++j))):=by intro i f j _ hf;simp [hf])
  (h9:∀ (c:Nat) s,m.cells[c]?=some s->hp' (En c)=some (.row 3 [jJ s]):=by intro c s hc;simp [h.cell c s hc])
  (hA:∀ k i j,fM k=true->¬ (k=1/\i=0/\j=0)->hp' (.u k i j)≠none->hp (.u k i j)≠none:=by intro k i j hk e hn;simpa [hk,e] using hn):YQ hp' p m :=
 ⟨by grind[top],h1,h2,h3,h4,h5,λi f hf=>h6 i f hf (h.YV i f hf),λi f hf=>h7 i f hf (h.cls i f hf),λi f hf=>(h.stack i f hf).imp λj hj=>h8 i f j hf hj,h9,
   λk i j hk hn=>if e:k=1/\i=0/\j=0 then .inl e else h.only k i j hk (hA k i j hk e hn)⟩
theorem YQ.Yq (h:YQ hp p m) {f:Nm->Option Nm} (hf:∀ k,DM k=true->f k=some k) (hh:∀ k,DM k=true->hp' k=(hp k).map (AO.tr f)):YQ hp' p m:=by
 have hE:∀ i,f (En i)=some (En i):=λi=>hf _ rfl;have hc:∀ j,f (.c Yn 0 j)=some (.c Yn 0 j):=λj=>hf _ rfl;refine⟨?_,?_,?_,?_,?_,?_,λi g hg=>?_,λi g hg=>?_,λi g hg=>(h.stack i g hg).imp λj hj=>?_,λc s hs=>?_,λk i j hk hn=>?_⟩
 .obtain⟨J,hJ,e⟩:=h.top;refine⟨λi=>(J i).map (AV.tr f),λi=>eL,?_⟩;rw [hh _ rfl,e]
  have h1:(cat (yc m.YO J) 151).map (AV.tr f)=cat (yc m.YO λi=>(J i).map (AV.tr f)) 151:=Hk λi _=>by
   unfold yc
   split<;>grind[Qu]
  simp_all[zJ,yA,yB,yZ]
 .rw [hh _ rfl,h.ZP];simp
 .rw [hh _ rfl,h.out];simp
 .rw [hh _ rfl,h.Zb];simp
 .rw [hh _ rfl,h.YT]
  simp_all
 .rw [hh _ rfl,h.Yt];simp
 .rw [hh _ rfl,h.YV i g hg];simp
 .rw [hh _ rfl,h.cls i g hg]
  simp_all
 .rw [hh _ rfl,hj];simp
 .rw [hh _ rfl,h.cell c s hs];simp
 .refine h.only k i j hk λe=>hn ?_
  simp_all
theorem YQ.sub (h:YQ hp p m) {D:Nm->Bool} (hD:∀ k,DM k=true->D k=true:=by intro m hm;first|exact hm|simp [hm]):YQ (yb D hp) p m:=by
 refine h.Yq (f:=some) (λ_ _=>rfl) (λk hk=>?_);rw [bQ,if_pos (hD k hk)]
 cases hp k<;>grind[AO.Yg]
theorem YQ.ext (h0:YQ H p m0) (h:YQ hp p m) (hc:m0.cells.length<=m.cells.length):∀ k i j,(H (.u k i j)).isSome=true->DM (.u k i j)=false\/(yb DM hp) (.u k i j)≠none:=by
 intro k i j hs
 cases hD:fM k with
 | false=>simp_all
 | true =>
  right;have hd:DM (.u k i j)=true:=hD;rw [bQ,if_pos hd];rcases h0.only k i j hD qe with⟨rfl,rfl,rfl⟩|⟨rfl,hi,rfl⟩
  .grind[top]
  .have hi':i<m.cells.length:=qA;rw [h.cell i _ (gE hi')];simp
end
section
variable {hp:Nm->Option AO} {p:YU} {m:Y2} {n:Nm} {dp:Nat} {D:Nm->Bool} {sbs:List (Nm×Nm)}
theorem YQ.fin (h:YQ hp p m) (hD:∀ k,D k=true->k.Y3=false:=by exact λ_=>qJ) (hW:∀ k,DM k=true->D k=true:=by exact λ_ h=>h) (hs:∀ q∈sbs,q.1.Y3=true:=by simp [Nm.Y3]):YQ (lO D sbs hp) p m :=
 h.Yq (f:=jY D sbs) (λk hk=>pa hD (hW k hk) hs) (λk hk=>qH)
theorem YW.fin (h:YW hp p n m dp) (hn:Nm.under Xn n=true\/n=.u 2 0 0) (hD:∀ k,D k=true->k.Y3=false:=by exact λ_=>zi) (hW:∀ k,ZK k=true->D k=true:=by exact λ_ h=>h) (hs:∀ q∈sbs,q.1.Y3=true:=by simp [Nm.Y3]):YW (lO D sbs hp) p n m dp :=
 h.Yq hn (f:=jY D sbs) (λk hk=>pa hD (hW k hk) hs) (λk hk=>qH)
end
abbrev Txt:=List UInt8
def Qa (s:Y5):List Int :=
 if s.kind=0\/s.kind=1\/s.kind=3\/s.kind=4 then [s.to,s.a]
 else if s.kind=2\/s.kind=6 then [s.to,s.a,s.b]
 else if s.kind=5 then (if s.b=-1 then [s.to,s.a] else [s.to,s.a,s.b])
 else if s.kind=7\/s.kind=8 then [s.a] else [s.to]
section
variable {s:Y5} {k:Y4} {p q:YU} {l w:Txt} {ns:List Int} {ks:List Nat} {ls ws:List Txt} {i n:Nat}
def B6 (ns:List Int):Prop:=∀ n∈ns,0<=n/\n<=99
structure Zj (s:Y5):Prop where
 kind:0<=s.kind/\s.kind<=11
 nums:B6 (Qa s)
 to:s.kind=7\/s.kind=8->s.to=0/\s.b=0
 b:s.kind=0\/s.kind=1\/s.kind=3\/s.kind=4->s.b=0
 a:9<=s.kind->s.a=0/\s.b=0
end
section
variable {s:Y5} {k:Y4} {p q:YU} {l w:Txt} {ns:List Int} {ls ws rest:List Txt} {i n:Nat} {body:List Y5} {ks:List Y4}
structure qDV (k:Y4):Prop where
 kind:k.kind=1\/k.kind=2
 parent:0<=k.parent/\k.parent<=99
 params:B6 k.params
 cls:k.kind=2->k.params=[]
end
section
variable {s:Y5} {k k0:Y4} {p q P:YU} {l t:Txt} {ls rest:List Txt} {i n:Nat} {body:List Y5} {ks:List Y4}
structure qC9 (p:YU):Prop where
 head:∃ b ks,p=⟨0,-1,[],b⟩::ks
 Y9:∀ (i:Nat) k,p[i]?=some k->0<i->qDV k
 qBZ:∀ k∈p,∀ s∈k.body,Zj s
end
end Go.Hm
end
section

end
section

end
section

end
section

end
section

end
section

end
section

end
section

end
section

end
section
namespace Go.Hm
open Go Go.RowKit
section
variable {P:Program} {own:Nat->Prop} {C:Nat->Prop} {w0:World} {g:Gh} {st:St} {a:Go.Act} {w:World}
def VO (T:TypeId) (d:Nat) (st:St):St :=
 ((st.kill (.s d)).Yf (.s d) (.qAi T 2 true [[.sc (.pointer none),.sc (.slice none 0 0)]])).put (some d) (.pt (.s d) 0)
theorem Dn {o:Oper} {T:TypeId} {d:Nat} (h:Rg P own C w0 g st a w) (ho:o.op=.alloc T) (hd:o.dst=some d) (hn:d<st.n) (hq:yN P T=some [.sc (.pointer none),.sc (.slice none 0 0)]) :
  EC P o a w λa' w'=>Rel P own C w0 g (VO T d st) a' w':=by
 obtain⟨i,z,q1,q2,q3,q4,q5⟩:=l0 hq
 have hz:z.cells=#[.pointer none,.slice none 0 0]:=by
  have h2:z.cells.toList=[.pointer none,.slice none 0 0]:=by
   rcases hl:z.cells.toList with _|⟨x,_|⟨y,_|⟨u,tl⟩⟩⟩ <;> rw [hl] at q4 <;> simp at q4
   simp_all
  grind
 refine .inl ⟨.pointer (some ⟨w.heap.size,0,none⟩),w.alloc (.cells z.cells T),?_,?_⟩
 .simp [execOp,ho,Instr.alloc,zeroValue,typeInfo,q1,q2,newVar,newRow]
 .rw [hd,hz]
  have hm:=h.made (.s d) (.qAi T 2 true [[.sc (.pointer none),.sc (.slice none 0 0)]]) w.heap.size 1 (w.alloc (.cells #[.pointer none,.slice none 0 0] T)) [] (λp hp=>by cases hp) (λ_=>false) rfl rfl rfl qB (.inl (qp _)) qB (λb' _ hb'=>kD _ hb') (by
   simp only [Zu,(zI (g:=g) (.s d) (some w.heap.size) 1).1,(zI (g:=g) (.s d) (some w.heap.size) 1).2];refine⟨⟨_,heap_alloc_new w _,qB,qL,qB,qB,?_,?_⟩,λ_=>rfl,λe=>uN⟩
   .intro j hj
    match j,hj with
    | 0,_=>rfl
    | 1,_=>rfl
   .intro i row hrow j x hx
    match i,hrow with
    | 0,hrow =>
     obtain rfl:=sI hrow
     match j,hx with
     | 0,hx=>obtain rfl:=sI hx;exact .sc _
     | 1,hx=>obtain rfl:=sI hx;exact .sc _)
  have ek:(st.nm (kl (.s d)) (λm=>if (λ_=>false:Nm->Bool) m then none else hkl (.s d) st.hp m))=st.kill (.s d):=iI;rw [ek] at hm
  have hp:=hm.put (d:=some d) (v:=.pointer (some ⟨w.heap.size,0,none⟩)) (x:=.pt (.s d) 0) (λt et=>by
   obtain rfl:=sI et;exact hn) (.pt _ _ _ (zI _ _ _).1)
  exact⟨_,Ust.fresh rfl,hp⟩
end
section
variable {X:Ctx} {st:St} {K:St->Prop} {E:AV->St->Prop} {ty:TypeId} {pos:String} {aft:Array Edge} {g:Option (Nat×Bool)} {d:Nat} {T:TypeId}
theorem Gf (hd:d<X.n:=by first|(simp;done)|fail) (hq:yN X.P T=some [.sc (.pointer none),.sc (.slice none 0 0)]) (h:K (VO T d st)):qO X ⟨some d,.alloc T,ty,pos,aft,g⟩ K E st :=
 .Za (λ_ _ _ _ e' h=>Dn h rfl rfl (e' ▸ hd) hq) ⟨rfl,rfl⟩ h
end
end Go.Hm
end
section

end
section

end
section

end
section
namespace Go.Hm
open Go Go.RowKit
def wd (a:Go.Act):Go.Act:={ a with defers:=[] }
end Go.Hm
end
section

end
section

end
