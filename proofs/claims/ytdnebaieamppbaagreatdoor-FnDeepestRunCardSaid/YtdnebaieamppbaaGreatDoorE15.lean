import Derived.Test.YtdnebaieamppbaaGreatDoorE14
set_option linter.unusedSimpArgs false
set_option linter.unusedVariables false
set_option maxRecDepth 100000
set_option maxHeartbeats 4000000

section
namespace Go.Hm
open Go Go.RowKit
section
variable {p:Z0} {w:Z5} {m:Zb} {B:List Nat} {a b o d up:Nat} {c e:Act} {k:Za} {f:Z8} {x:Int} {fs:List Z8} {vs:List Zd} {cs:List Nat} {st:List Nat} {s:Z9}
def Z8.at (p:Z0) (f:Z8) (l:List (Int×Int)):Prop:=(vI p f.Z1).drop f.pc=l
def Z8.next (f:Z8):Z8:={ f with pc:=f.pc+1 }
theorem Z8.qA4 {o:Int×Int} {l:List (Int×Int)} (h:f.at p (o::l)):(vI p f.Z1)[f.pc]?=some o/\f.next.at p l:=by
 unfold Z8.at at h ⊢;refine⟨?_,?_⟩
 .have:=congrArg (λl=>l[0]?) h
  grind
 grind[next,List.tail_drop]
theorem Z8.qDw (h:f.at p []):(vI p f.Z1)[f.pc]?=none:=by
 unfold Z8.at at h
 simp_all
structure qA7 (p:Z0) (w:Z5) (m:Zb) (B:List Nat) (fs:List Z8) (f:Z8) (st:List Nat) (a:Nat) (c:Act) (k:Za):Prop where
 sim:qAC p w (m.top fs f) B
 ok:Zy p w
 en:w.en=0
 stk:w.stack=st++[a]
 act:w.ZX[a]?=some c
 Z1:p[c.Z1]?=some k
theorem qA7.fr (h:qA7 p w m B fs f st a c k):qBS p w.ZX B a c f:=(h.sim.qAj h.stk h.act).2
theorem qA7.re {g:Z8} (h:qA7 p w m B fs f st a c k) (h1:g.Z1=f.Z1) (h2:g.cells=f.cells) (h3:g.Z3=f.Z3) (h4:g.names=f.names):qA7 p w m B fs g st a c k :=
 ⟨h.sim.qBt (st:=st) h1 h2 h3 h4,h.ok,h.en,h.stk,h.act,h.Z1⟩
theorem qA7.step {o:Int×Int} (h:qA7 p w m B fs f st a c k) (ho:(vI p f.Z1)[f.pc]?=some o):b8 p (m.top fs f) (kM p m fs f.next o):=by
 have he:(m.top fs f).en=0:=h.sim.en.trans h.en;exact Ld (m:=m.top fs f) (fs:=fs) rfl he ho
theorem pY (hp:Z7 p) (hk:p[b]?=some k) (hu:x∈k.us) {v:Int} (hv:v=0\/v=1\/v=2) :
  kM p m fs f (qx p b x v)=(if v=0 then vj p m fs f (qx p b x v) else if v=1 then rB m fs f (qx p b x v) else AL p m fs f (qx p b x v)):=by
 grind[kM,qx]
theorem PF (hp:Z7 p) (hk:p[b]?=some k) (hu:x∈k.us) {v:Int} (hv:0<=v/\v<=2) (h:fH p f (qx p b x v)=4):(qx p b x v).2=x:=by
 grind[fH,qx]
theorem IT (hp:Z7 p) (h:qA7 p w m B fs f st a c k) (hu:x∈k.us) :
  ((zk p w a x).1=w/\vj p m fs f (qx p c.Z1 x 0)=m.top fs (f.push (zk p w a x).2)) \/
  ((zk p w a x).1.en≠0/\(zk p w a x).1={ w with en:=(zk p w a x).1.en }/\vj p m fs f (qx p c.Z1 x 0)=m.stop fs f (zk p w a x).1.en):=by
 obtain⟨h1,h2⟩:=NK (v:=0) hp h.ok h.sim h.act h.fr h.Z1 hu qO;have hb:=jq h.act;have hg:m.globals=w.globals:=h.sim.Zg;have h1:ft m f (qx p c.Z1 x 0)=w.get (w.loc p a x) x:=h1;unfold zk vj;rw [h1,h2,hb]
 cases hget:w.get (w.loc p a x) x with
 | some v=>simp
 | none =>
  by_cases h4:qAG p c.Z1 (q7 p c.Z1 x)=4
  .have hx:=PF (f:=f) hp h.Z1 hu (v:=0) qO (h2.trans h4);simp only [if_pos h4,hx];have hgx:uE m.globals x.toNat=w.get none x:=by rw [hg];rfl
   grind
  grind[lJ]
theorem Do (hp:Z7 p) {rest:List (Int×Int)}:∀ (l:List Int) (f:Z8),qA7 p w m B fs f st a c k->(∀ x∈l,x∈k.us)->f.at p (l.map (λx=>qx p c.Z1 x 0)++rest) ->
  ((qY p w a l).1=w/\∃ g,b8 p (m.top fs f) (m.top fs g)/\g.at p rest/\g.Z1=f.Z1/\g.cells=f.cells/\g.Z3=f.Z3/\g.names=f.names/\g.stack=f.stack++(qY p w a l).2) \/
  ((qY p w a l).1.en≠0/\∃ m',b8 p (m.top fs f) m'/\qAC p (qY p w a l).1 m' B)
 | [],f,h,_,ha=>.inl ⟨rfl,f,.refl _,ha,rfl,rfl,rfl,rfl,by simp [qY]⟩
 | x::l,f,h,hu,ha=>by
  obtain⟨h1,h2⟩:=Z8.qA4 ha;have hs:=h.step h1;rw [pY hp h.Z1 (hu x HR) (.inl rfl),if_pos rfl] at hs;have hn:qA7 p w m B fs f.next st a c k:=h.re rfl rfl rfl rfl;have e0:¬ w.en≠0:=λe=>e h.en;rcases IT (x:=x) hp hn (hu x HR) with⟨g1,g2⟩|⟨g1,g2,g3⟩
  .rw [g2] at hs;have hn2:qA7 p w m B fs (f.next.push (zk p w a x).2) st a c k:=h.re rfl rfl rfl rfl;have hat:(f.next.push (zk p w a x).2).at p (l.map (λx=>qx p c.Z1 x 0)++rest):=h2;simp only [qY,if_neg e0,g1];rcases Do hp l _ hn2 (λy hy=>hu y (lj _ hy)) hat with⟨i1,g,i2,i3,i4,i5,i6,i7,i8⟩|⟨i1,m',i2,i3⟩
   .exact .inl ⟨i1,g,hs.trans i2,i3,i4,i5,i6,i7,Gp⟩
   .exact .inr ⟨i1,m',hs.trans i2,i3⟩
  .rw [g3] at hs
   have hl:(qY p (zk p w a x).1 a l).1=(zk p w a x).1:=by
    cases l<;>grind[qY]
   simp only [qY,if_neg e0,hl];refine .inr ⟨g1,_,hs,?_⟩;rw [g2];exact hn.sim.qC8 rfl rfl rfl rfl
def US (p:Z0) (m:Zb) (fs:List Z8) (f:Z8) (v:Zd):Zb:=if qg p f.Z1=2 then zW { m with ZV:=m.ZV++[f.names] } fs (3,m.ZV.length) else zW m fs v
def xI (p:Z0) (n:Nat) (R:Z5->Nat->Z5×Zd):Prop:=∀ (w:Z5) (a:Nat) (m:Zb) (B:List Nat) (fs:List Z8) (f:Z8) (st:List Nat),
 Zy p w->w.left<n->w.en=0->w.stack=st++[a]->qAC p w m B->m.ZW=fs++[f]->f.Z1=w.Z1 a->f.pc=0->f.stack=[] ->
 ∃ m' B',b8 p m m'/\qAC p (R w a).1 m' B'/\B <+: B'/\((R w a).1.en=0->∃ f',m'.ZW=fs++[f']/\f'.Z1=f.Z1/\uS p m'=US p m' fs f' (R w a).2)
theorem qAC.pop {g:Z8} {v:Zd} {d:Nat} (h:qAC p w m B) (hs:w.stack=(st++[a])++[d]) (hm:m.ZW=(fs++[g])++[f]) (he:w.en=0) :
  qAC p (nh w) (zW m (fs++[g]) v) B/\zW m (fs++[g]) v=m.top fs (g.push v):=by
 have hl:zW m (fs++[g]) v=m.top fs (g.push v):=by simp [zW,Zb.top]
 rw [hl];refine⟨?_,rfl⟩
 have hlen:fs.length=st.length:=by
  grind[frl]
 rw [nh,if_pos he];refine⟨h.en,h.out,h.tr,h.left,h.Zg,h.cls,h.ZZ,h.made,h.qBy,h.top,h.dis,h.val,?_,λi q c' f' hi hc hf=>?_,?_,h.fk⟩
 .grind[Zb.top]
 .simp only [hs,List.dropLast_concat] at hi;simp only [Zb.top] at hf;have hil:i<(st++[a]).length:=(gS hi).1;have hi':w.stack[i]?=some q:=qj;rw [am,dU] at hil;rcases fF i fs.length with h1|h1
  .rw [uW h1] at hf;exact h.frs i q c' f' hi' hc qj
  .obtain rfl:i=fs.length:=qA;rw [b7 (qf _),Ej] at hf;simp only [iU,oY] at hf;subst hf;exact (h.frs fs.length q c' g hi' hc qH).stk rfl rfl rfl rfl
 grind[stk]
theorem EK {n:Nat} {R:Z5->Nat->Z5×Zd} (hp:Zm p) (hO:cZ p n R) (hS:xI p n R) (h:qA7 p w m B fs f st a c k) (hn:w.left<n) (hm:jZ p w.ZX b up) (hcs:cs=cM p w.ZX B b up) (hv:vs.length=cp p b) (hvo:∀ v∈vs,VOk w.ZZ.length w.ZV.length v) (hr:Room 1 w) :
  ∃ m' B',b8 p (z8 p (m.top fs f) b cs vs) m'/\B <+: B' /\
   (((qm p R w b up vs).1.en≠0/\qAC p (qm p R w b up vs).1 m' B') \/
    ((qm p R w b up vs).1.en=0/\qg p b≠2/\qAC p (qm p R w b up vs).1 (m'.top fs (f.push (qm p R w b up vs).2)) B'/\m'=m'.top fs (f.push (qm p R w b up vs).2)) \/
    ((qm p R w b up vs).1.en=0/\qg p b=2/\qAC p { (qm p R w b up vs).1 with ZV:=(qm p R w b up vs).1.ZV++[(qm p R w b up vs).1.vars (some w.ZX.length)] } (m'.top fs (f.push (3,(qm p R w b up vs).1.ZV.length))) B'/\m'=m'.top fs (f.push (3,(qm p R w b up vs).1.ZV.length)))):=by
 obtain⟨hB,f0,hf0,hb0,hpc,hst⟩:=OZ hp h.ok h.sim hm hcs hv hvo hr;obtain⟨hW,hG⟩:=ko (p:=p) (b:=b) (up:=up) h.ok hm hvo hr
 have hblk:(qn p w b up vs).Z1 w.ZX.length=b:=by
  simp [Z5.Z1,qn]
 have hstk:(qn p w b up vs).stack=(st++[a])++[w.ZX.length]:=by simp [qn,h.stk]
 obtain⟨m',B',s1,s2,s3,s4⟩:=hS (qn p w b up vs) w.ZX.length (z8 p (m.top fs f) b cs vs) _ (fs++[f]) f0 (st++[a]) hW hn h.en hstk hB hf0 (hb0.trans hblk.symm) hpc hst;obtain⟨⟨r1,r2,r3⟩,_⟩:=hO (qn p w b up vs) w.ZX.length hW hn eP h.en;have hBB:B <+: B':=(List.prefix_append _ _).trans s3;by_cases he:(R (qn p w b up vs) w.ZX.length).1.en=0
 .obtain⟨f',t1,t2,t3⟩:=s4 he;have hne:¬ m'.ended:=rt (fs:=fs++[f]) t1 (s2.en.trans he);have hst':=(r3 he).trans hstk;have hfin:=b8.one (p:=p) hne;rw [t3] at hfin;have hen:(qm p R w b up vs).1.en=0:=by grind[qm,nh]
  have hcl:(qm p R w b up vs).1.ZV=m'.ZV:=by simp only [qm,nh,he,if_true];exact s2.cls.symm
  by_cases hk2:qg p b=2
  .rw [US,if_pos qH] at hfin;obtain⟨e1,e2⟩:=qAC.pop (v:=(3,(m'.ZV.length:Int))) s2 hst' t1 he;rw [e2] at e1;have e3:zW { m' with ZV:=m'.ZV++[f'.names] } (fs++[f]) (3,(m'.ZV.length:Int))={ m' with ZV:=m'.ZV++[f'.names] }.top fs (f.push (3,(m'.ZV.length:Int))):=by simp [zW,Zb.top]
   rw [e3] at hfin;refine⟨_,B',s1.trans hfin,hBB,.inr (.inr ⟨hen,hk2,?_,by rw [hcl];rfl⟩)⟩;rw [hcl]
   have hz:(qn p w b up vs).ZX[w.ZX.length]?=some ⟨b,up,wD (match p[b]? with|some k=>k.params|none=>[]) vs⟩:=by
    grind[qn]
   obtain⟨cn,hcn,hcnb,_⟩:=r2.ZX w.ZX.length _ hz
   have hfl:(fs++[f]).length=(st++[a]).length:=by
    grind[qAC.frl]
   have hF:=s2.frs (st++[a]).length w.ZX.length cn f' qH hcn qH;have hnm:=hF.names qH
   have hvars:(qm p R w b up vs).1.vars (some w.ZX.length)=f'.names:=by
    grind[qm,nh,Z5.vars]
   rw [hvars];have e4:(qm p R w b up vs).1=nh (R (qn p w b up vs) w.ZX.length).1:=rfl;rw [e4];exact⟨e1.en,e1.out,e1.tr,e1.left,e1.Zg,rfl,e1.ZZ,e1.made,e1.qBy,e1.top,e1.dis,e1.val,e1.frl,e1.frs,e1.stk,e1.fk⟩
  .rw [US,if_neg qH] at hfin;obtain⟨e1,e2⟩:=qAC.pop (v:=(R (qn p w b up vs) w.ZX.length).2) s2 hst' t1 he;rw [e2] at e1 hfin;exact⟨_,B',s1.trans hfin,hBB,.inr (.inl ⟨hen,hk2,e1,rfl⟩)⟩
 grind[qm,nh]
end
section
variable {p:Z0} {w:Z5} {m:Zb} {B:List Nat} {a b o d up:Nat} {c e:Act} {k:Za} {f:Z8} {x:Int} {fs:List Z8} {vs:List Zd} {cs:List Nat} {st:List Nat} {s:Z9} {n:Nat} {R:Z5->Nat->Z5×Zd}
theorem A8 (h:m.ZW=fs++[f]):m.top fs f=m:=by
 cases m<;>grind[Zb.top]
theorem pr {S:List Zd} {v:Zd} {g:Z8} (h:g.stack=S++[v]):g.tos=v/\g.pop.stack=S:=by
 simp [Z8.tos,Z8.pop,h]
def HX (p:Z0) (m0:Zb) (B:List Nat) (fs:List Z8) (f:Z8) (S:List Zd) (rest:List (Int×Int)) (W:Z5×Zd):Prop :=
 ∃ m' B',b8 p m0 m'/\B <+: B'/\qAC p W.1 m' B'/\(W.1.en=0->∃ g,m'=m'.top fs g/\g.Z1=f.Z1/\g.stack=S++[W.2]/\g.at p rest)
theorem Qy (hp:Zm p) (hO:cZ p n R) (hS:xI p n R) (h:qA7 p w m B fs f st a c k) (hn:w.left<n) (hr:Room 1 w) {S:List Zd} {g:Zd} {args:List Zd} (hst:f.stack=S++(g::args)) (hg:VOk w.ZZ.length w.ZV.length g) (hv:∀ v∈args,VOk w.ZZ.length w.ZV.length v) {rest:List (Int×Int)} (ha:f.at p ((17,(args.length:Int))::rest)) :
  HX p (m.top fs f) B fs f S rest (u6 p R w g args):=by
 obtain⟨h1,h2⟩:=Z8.qA4 ha;have hs:=h.step h1;have hn2:qA7 p w m B fs f.next st a c k:=h.re rfl rfl rfl rfl;have e0:kM p m fs f.next (17,(args.length:Int))=dK p m fs f.next (17,(args.length:Int)):=bX;rw [e0] at hs;have hlen:f.next.stack.length - args.length - 1=S.length:=tR;have t1:f.next.stack.take S.length=S:=tR;have t2:f.next.stack.getD S.length (0,0)=g:=tR
 have t3:f.next.stack.drop (S.length+1)=args:=by
  simp_all[Z8.next]
 unfold dK at hs;simp only [b6,hlen,t1,t2,t3] at hs;have hn3:qA7 p w m B fs { f.next with stack:=S } st a c k:=h.re rfl rfl rfl rfl;by_cases hk:g.1≠2
 .rw [if_pos hk] at hs;unfold u6;rw [if_pos hk];exact⟨_,B,hs,aG _,hn2.sim.qC8 rfl rfl rfl rfl,λe=>oH⟩
 .rw [if_neg hk] at hs;unfold u6;rw [if_neg hk];have hk':g.1=2:=qA;have hgl:g.2.toNat<w.ZZ.length:=by have:=hg.fn hk';have:=hg.num;omega
  obtain⟨q,hq⟩:=gX hgl;have hfu:m.ZZ=w.ZZ.map λg=>(g.1,cM p w.ZX B g.1 g.2):=h.sim.ZZ;have hmq:m.ZZ[g.2.toNat]?=some (q.1,cM p w.ZX B q.1 q.2):=qH;rw [hmq] at hs;simp only [hq];simp only at hs;by_cases hpn:cp p q.1≠args.length
  .rw [if_pos hpn] at hs;rw [if_pos hpn];exact⟨_,B,hs,aG _,hn2.sim.qC8 rfl rfl rfl rfl,λe=>oH⟩
  .rw [if_neg hpn] at hs;rw [if_neg hpn]
   have hpn':args.length=cp p q.1:=by
    omega
   have hkq:=h.sim.fk q (gM hq);obtain⟨m',B',s1,s2,s3⟩:=EK (cs:=cM p w.ZX B q.1 q.2) hp hO hS hn3 hn (h.ok.ZZ _ q hq) rfl hpn' hv hr;rcases s3 with⟨e1,e2⟩|⟨e1,_,e2,e3⟩|⟨_,e2,_⟩
   .exact⟨m',B',hs.trans s1,s2,e2,λe=>absurd e e1⟩
   .exact⟨m',B',hs.trans s1,s2,qj,λ_=>⟨_,e3,rfl,rfl,h2⟩⟩
   .omega
theorem Nd (hp:Zm p) (hO:cZ p n R) (hS:xI p n R) (h:qA7 p w m B fs f st a c k) (hn:w.left<n) (hr:Room 2 w) (hm:jZ p w.ZX b a) (hk:qg p b=2) {rest:List (Int×Int)} (ha:f.at p ((16,(b:Int))::rest)) :
  HX p (m.top fs f) B fs f f.stack rest (kI p R w b a):=by
 obtain⟨h1,h2⟩:=Z8.qA4 ha;have hs:=h.step h1;have hn2:qA7 p w m B fs f.next st a c k:=h.re rfl rfl rfl rfl;have e0:kM p m fs f.next (16,(b:Int))=z8 p (m.top fs f.next) b (uk p f.next b) []:=bX;rw [e0] at hs
 have hpar:(0:Nat)=cp p b:=by
  obtain⟨_,q,_,hq,_,hb0⟩:=hm;have hh:=hp.sh.head b q hq
  grind[qg,cp]
 obtain⟨m',B',s1,s2,s3⟩:=EK (vs:=[]) hp hO hS hn2 hn hm (Nl hp.sh.Zc h.ok h.act hn2.fr hm) qA (λv hv=>eJ) (hr.mono qA);unfold kI;rcases s3 with⟨e1,e2⟩|⟨_,e1,_⟩|⟨e1,_,e2,e3⟩
 .rw [if_pos e1];exact⟨m',B',hs.trans s1,s2,e2,λe=>absurd e e1⟩
 .omega
 .rw [if_neg (λh=>h e1)];exact⟨m',B',hs.trans s1,s2,qj,λ_=>⟨_,e3,rfl,rfl,h2⟩⟩
theorem RJ {v:Zd} (h:¬ v.1≠3):kN w v x=match uE (w.ZV.getD v.2.toNat []) x.toNat with|some u=>(w,u)|none=>({ w with en:=7 },(0,0)):=by
 grind[kN,uE]
theorem Fi {l:List Zd} (h:l.length=1):∃ u,l=[u]:=E9.1 h
theorem Tc {l:List Zd} (h:l.length=2):∃ u v,l=[u,v]:=by
 match l,h with
 | [u,v],_=>simp
theorem PE (hp:Zm p) (hO:cZ p n R) (hS:xI p n R) (h:qA7 p w m B fs f st a c k) (hn:w.left<n) (hr:Room 2 w) (hs:s∈k.body) (hsk:0<=s.kind/\s.kind<=6) (hvl:vs.length=s.reads.length) (hvo:∀ v∈vs,VOk w.ZZ.length w.ZV.length v) {S:List Zd} (hst:f.stack=S++vs) {rest:List (Int×Int)} (ha:f.at p (j5 s++rest)) :
  HX p (m.top fs f) B fs f S rest (ju p R w a s vs):=by
 have hok:=hp.sh.stm c.Z1 k h.Z1 s hs
 have hmade:s.kind=3\/s.kind=4->jZ p w.ZX s.a.toNat a/\qg p s.a.toNat=s.kind - 2/\0<s.a:=λe=>by
  obtain⟨q,h1,h2,h3,h4⟩:=zN.made hok e;exact⟨⟨c,q,h.act,h1,h2,qA⟩,eQ,h3⟩
 unfold ju;by_cases k0:s.kind=0
 .rw [if_pos k0];have hw:j5 s=[(1,s.a)]:=by simp [j5,k0]
  rw [hw] at ha;obtain⟨h1,h2⟩:=Z8.qA4 ha;have hs:=h.step h1;have e0:kM p m fs f.next (1,s.a)=m.top fs (f.next.push (1,s.a)):=bX;rw [e0] at hs;have hv0:vs=[]:=gj oC;exact⟨_,B,hs,aG _,h.sim.qBt (st:=st) rfl rfl rfl rfl,λ_=>⟨_,rfl,rfl,Gp,h2⟩⟩
 rw [if_neg k0];by_cases k2:s.kind=2
 .rw [if_pos k2];have hw:j5 s=[(14,0)]:=by simp [j5,k2]
  rw [hw] at ha;obtain⟨h1,h2⟩:=Z8.qA4 ha;have hs:=h.step h1;obtain⟨u,v,rfl⟩:=Tc (l:=vs) oC;have t1:=pr (g:=f.next) (S:=S++[u]) (v:=v) tR;have t2:=pr (g:=f.next.pop) (S:=S) (v:=u) t1.2;have e0:kM p m fs f.next (14,0)=HU m fs f.next:=bX;rw [e0,HU] at hs;simp only [t1.1,t2.1] at hs;unfold uw;simp only [List.getD_cons_zero,List.getD_cons_succ]
  split
  .rename_i hc;rw [if_pos hc] at hs;exact⟨_,B,hs,aG _,h.sim.qC8 rfl rfl rfl rfl,λe=>oH⟩
  .rename_i hc;rw [if_neg hc] at hs;exact⟨_,B,hs,aG _,h.sim.qBt (st:=st) rfl rfl rfl rfl,λ_=>⟨_,rfl,rfl,by grind[Z8.push],h2⟩⟩
 rw [if_neg k2];by_cases k3:s.kind=3
 .rw [if_pos k3];obtain⟨hm,hkn,hpos⟩:=hmade (.inl k3);have hw:j5 s=[(15,s.a)]:=by simp [j5,k3]
  rw [hw] at ha;obtain⟨h1,h2⟩:=Z8.qA4 ha;have hs:=h.step h1;have e0:kM p m fs f.next (15,s.a)={ m.top fs (f.next.push (2,m.ZZ.length)) with ZZ:=m.ZZ++[(s.a.toNat,uk p f.next s.a.toNat)] }:=bX;rw [e0] at hs;have hv0:vs=[]:=gj oC;have hn2:qA7 p w m B fs f.next st a c k:=h.re rfl rfl rfl rfl;have hn3:qA7 p w m B fs (f.next.push (2,m.ZZ.length)) st a c k:=h.re rfl rfl rfl rfl;have hfu:m.ZZ=w.ZZ.map λg=>(g.1,cM p w.ZX B g.1 g.2):=h.sim.ZZ;have hfl:m.ZZ.length=w.ZZ.length:=qH;have hcap:=Nl hp.sh.Zc h.ok h.act hn2.fr hm;refine⟨_,B,hs,aG _,?_,λ_=>⟨_,rfl,rfl,Gp,h2⟩⟩;have hR:=hn3.sim;refine⟨hR.en,hR.out,hR.tr,hR.left,hR.Zg,hR.cls,?_,hR.made,hR.qBy,hR.top,hR.dis,hR.val,hR.frl,hR.frs,hR.stk,λg hg=>?_⟩
  .simp_all
  .rcases dY.1 hg with e|e
   .exact hR.fk g e
   simp_all
 rw [if_neg k3];by_cases k4:s.kind=4
 .grind[j5,Z9.reads,Nd]
 rw [if_neg k4];by_cases k5:s.kind=5
 .rw [if_pos k5]
  have hrl:s.reads.length=1\/s.reads.length=2:=by
   grind[Z9.reads]
  match vs,hvl with
  | [],hvl=>grind
  | g::args,hvl =>
   have hw:j5 s=[(17,(args.length:Int))]:=by
    grind[j5]
   rw [hw] at ha;exact Qy hp hO hS h hn (hr.mono qA) hst (hvo g HR) (λv hv=>hvo v (lj _ hv)) ha
 rw [if_neg k5];by_cases k6:s.kind=6
 .rw [if_pos k6];have hw:j5 s=[(18,s.b)]:=by simp [j5,k6]
  rw [hw] at ha;obtain⟨h1,h2⟩:=Z8.qA4 ha;have hs:=h.step h1;obtain⟨v,rfl⟩:=Fi (l:=vs) oC;have t1:=pr (g:=f.next) (S:=S) (v:=v) hst;have e0:kM p m fs f.next (18,s.b)=ge m fs f.next (18,s.b):=bX;rw [e0,ge] at hs;have hcl:m.ZV=w.ZV:=h.sim.cls;simp only [t1.1,hcl] at hs;simp only [List.getD_cons_zero];by_cases hv3:v.1≠3
  .rw [if_pos hv3] at hs;unfold kN;rw [if_pos hv3];exact⟨_,B,hs,aG _,h.sim.qC8 rfl rfl rfl rfl,λe=>oH⟩
  .rw [if_neg hv3] at hs;rw [RJ hv3]
   cases hu:uE (w.ZV.getD v.2.toNat []) s.b.toNat with
   | some u =>
    rw [hu] at hs;exact⟨_,B,hs,aG _,h.sim.qBt (st:=st) rfl rfl rfl rfl,λ_=>⟨_,rfl,rfl,by grind[Z8.push],h2⟩⟩
   | none =>
    rw [hu] at hs;exact⟨_,B,hs,aG _,h.sim.qC8 rfl rfl rfl rfl,λe=>oH⟩
 rw [if_neg k6];have k1:s.kind=1:=qA;have hw:j5 s=[]:=by simp [j5,k1]
 rw [hw] at ha;obtain⟨v,rfl⟩:=Fi (l:=vs) oC;exact⟨_,B,.refl _,aG _,h.sim,λ_=>⟨f,rfl,rfl,hst,ha⟩⟩
end
end Go.Hm
end
section

end
section
namespace Go.Hm
open Go Go.RowKit
section
variable {p:Z0} {w:Z5} {m:Zb} {B:List Nat} {a b o d up:Nat} {c e:Act} {k:Za} {f:Z8} {x:Int} {fs:List Z8} {vs:List Zd} {cs:List Nat} {st:List Nat} {s:Z9} {n:Nat} {R:Z5->Nat->Z5×Zd}
theorem KA:∀ {l:List Int} {w:Z5},(qY p w a l).1.en=0->(qY p w a l).2.length=l.length
 := by intro x0;induction x0<;>grind[qY]
def WR (p:Z0) (m0:Zb) (B:List Nat) (fs:List Z8) (f:Z8) (rest:List (Int×Int)) (W:Z5):Prop :=
 ∃ m' B',b8 p m0 m'/\B <+: B'/\qAC p W m' B'/\(W.en=0->∃ g,m'=m'.top fs g/\g.Z1=f.Z1/\g.stack=f.stack/\g.at p rest)
theorem L7 (hp:Z7 p) (h:qA7 p w m B fs f st a c k) (hu:x∈k.us) {S:List Zd} {v:Zd} (hst:f.stack=S++[v]) {rest:List (Int×Int)} (ha:f.at p (qx p c.Z1 x 1::rest)) :
  ∃ m',b8 p (m.top fs f) m'/\qAC p (wm p w a x v) m' B/\∃ g,m'=m'.top fs g/\g.Z1=f.Z1/\g.stack=S/\g.at p rest:=by
 obtain⟨h1,h2⟩:=Z8.qA4 ha;have hs:=h.step h1;rw [pY hp h.Z1 hu (.inr (.inl rfl)),if_neg qO,if_pos rfl] at hs;have t1:=pr (g:=f.next) (S:=S) (v:=v) hst;rw [rB,t1.1] at hs;obtain⟨s1,g',s2,s3,s4,s5⟩:=Lr (g:=f.next.pop) (s:=some v) (v:=1) hp h.ok h.sim h.stk h.act h.Z1 hu qO rfl rfl rfl rfl;refine⟨_,hs,s1,g',(A8 s2).symm,s3,s5.trans t1.2,?_⟩;unfold Z8.at at h2 ⊢;rw [s3,s4];exact h2
theorem Sb (hp:Zm p) (hO:cZ p n R) (hS:xI p n R) (h:qA7 p w m B fs f st a c k) (hn:w.left<n) (hr:Room 2 w) (hs:s∈k.body) (h8:s.kind≠8) {rest:List (Int×Int)} (ha:f.at p (wA p c.Z1 s++(j5 s++(cg p c.Z1 s++rest)))) :
  WR p (m.top fs f) B fs f rest (cd p R w a s):=by
 have hkm:=gM h.Z1;have hnm:=hp.sh.names k hkm;have hkd:=hnm.kinds s hs;have hok:=hp.sh.stm c.Z1 k h.Z1 s hs;have hb:=jq h.act;have hal:=(gS h.act).1;have hok':zN p (w.Z1 a) k s=true:=qH;unfold cd;by_cases k9:s.kind=9\/s.kind=10
 .rw [if_pos k9];have e1:wA p c.Z1 s=[]:=GI;have e2:j5 s=[]:=by grind[j5]
  have e3:cg p c.Z1 s=[]:=by grind[cg]
  rw [e1,e2,e3] at ha;exact⟨_,B,.refl _,aG _,h.sim,λ_=>⟨f,rfl,rfl,rfl,ha⟩⟩
 rw [if_neg k9];by_cases k11:s.kind=11
 .rw [if_pos k11];have e1:wA p c.Z1 s=[]:=GI;have e2:j5 s=[]:=by grind[j5]
  have e3:cg p c.Z1 s=[qx p c.Z1 s.to 2]:=by grind[cg]
  have hu:=LP hnm hs (.inr k11);rw [e1,e2,e3] at ha;obtain⟨h1,h2⟩:=Z8.qA4 ha;have hst:=h.step h1;rw [pY hp.sh h.Z1 hu (.inr (.inr rfl)),if_neg qO,if_neg qO] at hst;have hn2:qA7 p w m B fs f.next st a c k:=h.re rfl rfl rfl rfl;obtain⟨g1,g2⟩:=NK (x:=s.to) (v:=2) hp.sh h.ok h.sim h.act hn2.fr h.Z1 hu qO;have g1:ft m f.next (qx p c.Z1 s.to 2)=w.get (w.loc p a s.to) s.to:=g1;unfold AL at hst;unfold bb;rw [g1] at hst
  cases hg:w.get (w.loc p a s.to) s.to with
  | some v =>
   rw [hg] at hst;obtain⟨s1,g',s2,s3,s4,s5⟩:=Lr (g:=f.next) (s:=none) (v:=2) hp.sh h.ok h.sim h.stk h.act h.Z1 hu qO rfl rfl rfl rfl;refine⟨_,B,hst,aG _,s1,λ_=>⟨g',(A8 s2).symm,s3,s5,?_⟩⟩
   simp_all[Z8.at]
  | none =>
   rw [hg] at hst;simp only [g2] at hst;rw [hb];exact⟨_,B,hst,aG _,h.sim.qC8 rfl rfl rfl rfl,λe=>absurd e lJ⟩
 rw [if_neg k11];have hus:∀ y∈s.reads,y∈k.us:=λy hy=>mL hnm hs hy;have hvw:(zo p R w a s)=if (qY p w a s.reads).1.en≠0 then ((qY p w a s.reads).1,(0,0)) else ju p R (qY p w a s.reads).1 a s (qY p w a s.reads).2:=rfl
 obtain⟨hl1,hl2,_,_⟩:=ww (a:=a) (l:=s.reads) h.ok;rcases Do hp.sh s.reads f h hus ha with⟨i1,g,i2,i3,i4,i5,i6,i7,i8⟩|⟨i1,m',i2,i3⟩
 .have i0:¬ (qY p w a s.reads).1.en≠0:=by grind[qA7.en]
  rw [if_neg i0,i1] at hvw;have hvl:=KA (p:=p) (a:=a) (l:=s.reads) (w:=w) qA;have hvo:=hl2;have hg:qA7 p w m B fs g st a c k:=h.re i4 i5 i6 i7;by_cases k7:s.kind=7
  .have hw7:zo p R w a s=(w,(qY p w a s.reads).2.getD 0 (0,0)):=by grind[ju]
   rw [hw7];simp only [if_neg (λe=>e h.en:¬ w.en≠0),if_pos k7];have e2:j5 s=[(19,0)]:=by simp [j5,k7]
   have e3:cg p c.Z1 s=[]:=by simp [cg,k7]
   rw [e2,e3] at i3;obtain⟨h1,h2⟩:=Z8.qA4 i3;have hst:=hg.step h1;obtain⟨v,hv⟩:=Fi (l:=(qY p w a s.reads).2) oC;have t1:=pr (g:=g.next) (S:=f.stack) (v:=v) (by rw [<- hv];exact i8);have e0:kM p m fs g.next (19,0)={ m.top fs g.next.pop with out:=m.out++[shown g.next.tos] }:=bX;rw [e0,t1.1] at hst;rw [hv];have hR:=hg.sim.qBt (st:=st) (g:=g.next.pop) rfl rfl rfl rfl;have hout:m.out=w.out:=h.sim.out;refine⟨_,B,i2.trans hst,aG _,⟨hR.en,by simp [hout],hR.tr,hR.left,hR.Zg,hR.cls,hR.ZZ,hR.made,hR.qBy,hR.top,hR.dis,hR.val,hR.frl,hR.frs,hR.stk,hR.fk⟩,λ_=>⟨g.next.pop,rfl,i4,t1.2,h2⟩⟩
  .have hk6:0<=s.kind/\s.kind<=6:=qA;obtain⟨m1,B1,w1,w2,w3,w4⟩:=PE hp hO hS hg hn hr hs hk6 hvl hvo i8 i3;rw [<- hvw] at w3 w4;obtain⟨hA,hV⟩:=fK hO h.ok hn h.en hal hok' hr;by_cases he:(zo p R w a s).1.en=0
   .rw [if_neg (λe=>e he),if_neg k7];obtain⟨g1,e1,e2,e3,e4⟩:=w4 he;have w3':qAC p (zo p R w a s).1 (m1.top fs g1) B1:=qj;have w1':b8 p (m.top fs g) (m1.top fs g1):=qj;obtain⟨c1,d1,d2,d3⟩:=hA.grow.ZX a c h.act;have hH:qA7 p (zo p R w a s).1 m1 B1 fs g1 st a c1 k:=⟨w3',hA.ok,he,(hA.stk he).trans h.stk,d1,by grind[qA7.Z1]⟩
    have e5:cg p c.Z1 s=[qx p c1.Z1 s.to 1]:=by
     grind[cg]
    rw [e5] at e4;obtain⟨m2,q1,q2,g2,q3,q4,q5,q6⟩:=L7 hp.sh hH (LP hnm hs (.inl hk6)) e3 e4;exact⟨m2,B1,(i2.trans w1').trans q1,w2,q2,λ_=>⟨g2,q3,q4.trans (e2.trans i4),q5,q6⟩⟩
   .rw [if_pos he];exact⟨m1,B1,i2.trans w1,w2,w3,λe=>absurd e he⟩
 .rw [if_pos i1] at hvw;rw [hvw];simp only [if_pos i1];exact⟨m',B,i2,aG _,i3,λe=>absurd e i1⟩
theorem OW {l l':List Z9}:uP p b (l++l')=uP p b l++uP p b l':=by simp [uP]
theorem Ir (hp:Zm p) (hO:cZ p n R) (hS:xI p n R):∀ (l:List Z9) (w:Z5) (m:Zb) (B:List Nat) (f:Z8) (c:Act) (i:Nat),qA7 p w m B fs f st a c k->w.left<n+1->k.body=k.body.take i++l->i<=k.body.length->f.stack=[]->f.at p (uP p c.Z1 l) ->
  ∃ m' B',b8 p (m.top fs f) m'/\qAC p (vK p R a w i l).1 m' B'/\B <+: B'/\((vK p R a w i l).1.en=0->∃ f',m'.ZW=fs++[f']/\f'.Z1=f.Z1/\uS p m'=US p m' fs f' (vK p R a w i l).2)
 | [],w,m,B,f,c,i,h,hn,hb,hi,hst,ha=>by
  refine⟨_,B,.refl _,h.sim,aG _,λ_=>⟨f,rfl,rfl,?_⟩⟩;rw [step_end (f:=f) (fs:=fs) rfl (Z8.qDw ha)]
  rfl
 | s::l,w,m,B,f,c,i,h,hn,hb,hi,hst,ha=>by
  have hil:i<k.body.length:=by
   grind
  have hsm:s∈k.body:=qj
  have hat:f.at p ((0,0)::(wA p c.Z1 s++(j5 s++(cg p c.Z1 s++uP p c.Z1 l)))):=by
   grind[uP,fC]
  obtain⟨h1,h2⟩:=Z8.qA4 hat;have hs:=h.step h1;have hfb:f.Z1=c.Z1:=h.fr.Z1;have hbw:=jq h.act;have hlw:m.left=w.left:=h.sim.left;have e0:kM p m fs f.next (0,0)=bE p m fs f.next:=by simp [kM]
  rw [e0,bE] at hs;simp only [vK];by_cases hl0:w.left=0
  .rw [if_pos (hlw.trans hl0)] at hs;rw [if_pos hl0];exact⟨_,B,hs,h.sim.qC8 rfl rfl rfl rfl,aG _,λe=>oH⟩
  rw [if_neg qA] at hs;rw [if_neg hl0]
  have hticks:ub ((vI p f.Z1).take f.pc)=i:=by
   have e1:vI p f.Z1=uP p c.Z1 (k.body.take i)++uP p c.Z1 (s::l):=by
    rw [hfb,vI,h.Z1]
    grind[OW]
   have e2:(vI p f.Z1).take f.pc++(vI p f.Z1).drop f.pc=uP p c.Z1 (k.body.take i)++uP p c.Z1 (s::l):=by
    grind[List.take_append_drop]
   have e3:(vI p f.Z1).drop f.pc=uP p c.Z1 (s::l):=ha
   grind[List.append_cancel_right,xf]
  have hpc:f.next.pc - 1=f.pc:=rfl;have hnb:f.next.Z1=c.Z1:=hfb;rw [hpc,hnb] at hs;rw [hfb] at hticks;rw [hticks] at hs;obtain⟨t1,t2⟩:=gq (a:=a) (i:=i) h.ok hl0;have tn:(qq w a i).left<n:=by grind[qq]
  have hR:=h.sim.qBt (st:=st) (g:=f.next) rfl rfl rfl rfl;have htr:m.trace=w.trace:=h.sim.tr
  have hH:qA7 p (qq w a i) { m with left:=m.left - 1,trace:=m.trace++[(c.Z1,i)] } B fs f.next st a c k:=by
   refine⟨⟨hR.en,hR.out,?_,?_,hR.Zg,hR.cls,hR.ZZ,hR.made,hR.qBy,hR.top,hR.dis,hR.val,hR.frl,hR.frs,hR.stk,hR.fk⟩,t1,h.en,h.stk,h.act,h.Z1⟩<;>grind[Zb.top,qq]
  have hs':b8 p (m.top fs f) (({ m with left:=m.left - 1,trace:=m.trace++[(c.Z1,i)] }:Zb).top fs f.next):=hs;generalize hm1:({ m with left:=m.left - 1,trace:=m.trace++[(c.Z1,i)] }:Zb)=m1 at hH hs';by_cases k8:s.kind=8
  .rw [if_pos k8];have hok:=hp.sh.stm c.Z1 k h.Z1 s hsm
   have hk1:k.kind=1:=by
    grind[zN]
   have e1:wA p c.Z1 s=[qx p c.Z1 s.a 0]:=GI;have e2:j5 s=[(20,0)]:=by simp [j5,k8]
   have e3:cg p c.Z1 s=[]:=by simp [cg,k8]
   rw [e1,e2,e3] at h2;obtain⟨g1,g2⟩:=Z8.qA4 h2;have hu:s.a∈k.us:=mL (hp.sh.names k (gM h.Z1)) hsm (by simp [Z9.reads,k8]);have hs2:=hH.step g1;rw [pY hp.sh h.Z1 hu (.inl rfl),if_pos rfl] at hs2;have hn2:qA7 p (qq w a i) m1 B fs f.next.next st a c k:=hH.re rfl rfl rfl rfl;rcases IT (x:=s.a) hp.sh hn2 hu with⟨q1,q2⟩|⟨q1,q2,q3⟩
   .rw [q2] at hs2;rw [q1];have hn3:qA7 p (qq w a i) m1 B fs (f.next.next.push (zk p (qq w a i) a s.a).2) st a c k:=hH.re rfl rfl rfl rfl;have hat3:(f.next.next.push (zk p (qq w a i) a s.a).2).at p ((20,0)::([]++uP p c.Z1 l)):=g2;obtain⟨r1,r2⟩:=Z8.qA4 hat3;refine⟨_,B,hs'.trans hs2,hn3.sim,aG _,λ_=>⟨_,rfl,rfl,?_⟩⟩;rw [qBM (f:=f.next.next.push (zk p (qq w a i) a s.a).2) (fs:=fs) rfl r1];have hka:¬ qg p f.Z1=2:=by rw [hfb];simp [qg,h.Z1,hk1]
    grind[US,kM,ya,Z8.push,Z8.tos,Z8.next]
   .rw [q3] at hs2;refine⟨_,B,hs'.trans hs2,?_,aG _,λe=>absurd e q1⟩;rw [q2];exact hn2.sim.qC8 rfl rfl rfl rfl
  rw [if_neg k8];obtain⟨m2,B2,s1,s2,s3,s4⟩:=Sb hp hO hS hH tn t2 hsm k8 h2;have hal:=(gS h.act).1
  have hok':zN p ((qq w a i).Z1 a) k s=true:=by
   have:=hp.sh.stm c.Z1 k h.Z1 s hsm;rw [<- hbw] at this;exact this
  have hA:=nL hO t1 tn h.en hal hok' t2;by_cases he:(cd p R (qq w a i) a s).en≠0
  .rw [if_pos he];exact⟨m2,B2,hs'.trans s1,s3,s2,λe=>absurd e he⟩
  .rw [if_neg he];have he':(cd p R (qq w a i) a s).en=0:=qA;obtain⟨g,g1,g2,g3,g4⟩:=s4 he';have s3':qAC p (cd p R (qq w a i) a s) (m2.top fs g) B2:=qj;have s1':b8 p (m1.top fs f.next) (m2.top fs g):=qj;obtain⟨c1,d1,d2,d3⟩:=hA.grow.ZX a c h.act;have hH2:qA7 p (cd p R (qq w a i) a s) m2 B2 fs g st a c1 k:=⟨s3',hA.ok,he',(hA.stk he').trans h.stk,d1,by grind[qA7.Z1]⟩
   have hb2:k.body=k.body.take (i+1)++l:=by
    grind
   have hlft:=hA.grow.left;have hlt:(qq w a i).left=w.left - 1:=rfl;obtain⟨m3,B3,r1,r2,r3,r4⟩:=Ir hp hO hS l _ m2 B2 g c1 (i+1) hH2 qA hb2 qA (g3.trans hst) qj;refine⟨m3,B3,(hs'.trans s1').trans r1,r2,s2.trans r3,λe=>?_⟩
   grind
theorem MG (hp:Zm p):∀ n,xI p n (zY p n)
 | 0=>λw a m B fs f st _ h=>absurd h qA
 | n+1=>by
  intro w a m B fs f st hW hn he hst hR hf hb hpc hstk;simp only [zY];have hal:a<w.ZX.length:=hW.stk a qH;obtain⟨c,hc⟩:=gX hal;have Zs:=hW.qBC a c hc;obtain⟨k,hk⟩:=gX Zs;rw [jq hc,hk];have hm:m.top fs f=m:=A8 hf;have hH:qA7 p w m B fs f st a c k:=⟨qH,hW,he,hst,hc,hk⟩
  have hat:f.at p (uP p c.Z1 k.body):=by
   grind[Z8.at,jq,vI]
  have:=Ir hp (kT hp.sh n) (MG hp n) k.body w m B f c 0 hH hn qB qA hstk hat
  simp_all
end
section
variable {p:Z0} {m:Zb} {n i j:Nat}
theorem kU:∀ (i:Nat) (m:Zb),j7 p (i+1) m=if (j7 p i m).ended then j7 p i m else uS p (j7 p i m)
 := by intro x0;induction x0<;>grind[j7]
theorem fW (h:(j7 p i m).ended) (hij:i<=j):j7 p j m=j7 p i m:=by
 induction hij<;>grind[kU]
structure qBW (p:Z0) (w:Z5) (m:Zb):Prop where
 en:m.en=w.en
 out:m.out=w.out
 tr:m.trace=w.trace
 left:m.left=w.left
 Zg:m.globals=w.globals
 made:m.made=w.ZX.length
 fin:w.en=0->m.ZW=[]
 err:w.en≠0->∃ B,qAC p w m B
theorem Cw (hp:Zm p):qAC p (zK n) (q8 p n) [0]/\∃ f,(q8 p n).ZW=[]++[f]/\f.Z1=0/\f.pc=0/\f.stack=[]:=by
 have hl:=hp.sh.len;obtain⟨k,hk⟩:∃ k,p[0]?=some k:=⟨_,gE qA⟩;have hk0:=(hp.sh.qAx hk).2 rfl;have hka:qg p 0=0:=eQ;have hc0:qF p 0=[]:=by grind[qF]
 have hf0:qP p 0=[]:=by grind[qP]
 have hps:(zC p 0).params=[]:=by
  have:=hp.sh.head 0 k hk
  grind[zC]
 have hM:q8 p n=⟨[],q9,[],[],[⟨0,0,[],[],q9,[]⟩],1,1,[],[],0,n⟩:=by
  unfold q8 z8
  simp_all[z6]
 rw [hM]
 have hone:∀ (i:Nat) c,(zK n).ZX[i]?=some c->i=0/\c=⟨0,0,q9⟩:=by
  grind[zK]
 refine⟨⟨rfl,rfl,rfl,rfl,rfl,rfl,rfl,rfl,rfl,λa c hc=>?_,λa a' c h1 h2 hc=>?_,λa j c x hc hx=>?_,rfl,λi a c f hi hc hf=>?_,gF,λg hg=>tW⟩,_,rfl,rfl,rfl,rfl⟩
 .grind
 .simp_all
 .grind
 .obtain⟨rfl,rfl⟩:=hone a c hc;have hil:=(gS hf).1;constructor<;>grind[kw,AS]
theorem Qs (hp:Zm p) (hn:n<=150):∃ N,(j7 p N (q8 p n)).ended/\qBW p (yI p n) (j7 p N (q8 p n)):=by
 obtain⟨hR,f,hf,hb,hpc,hst⟩:=Cw (n:=n) hp;have hl:=hp.sh.len;obtain⟨k,hk⟩:∃ k,p[0]?=some k:=⟨_,gE qA⟩;have hk0:=(hp.sh.qAx hk).2 rfl;have hka:qg p 0=0:=eQ;obtain⟨m',B',⟨N,s1⟩,s2,_,s4⟩:=MG hp 151 (zK n) 0 (q8 p n) [0] [] f [] (ce hp.sh hn) tW rfl rfl hR hf (by rw [hb];rfl) hpc hst;have hm:(zY p 151 (zK n) 0).1=yI p n:=rfl;rw [hm] at s2 s4;by_cases he:(yI p n).en=0
 .obtain⟨f',t1,t2,t3⟩:=s4 he;have hne:¬ m'.ended:=rt (fs:=[]) t1 (s2.en.trans he);rw [US,if_neg qH] at t3;have hlv:∀ v,zW m' [] v={ m' with ZW:=[] }:=λ_=>rfl;rw [hlv] at t3
  have hr:j7 p (N+1) (q8 p n)={ m' with ZW:=[] }:=by
   grind[j7]
  refine⟨N+1,?_,?_⟩
  .constructor<;>grind
  constructor<;>grind[qAC.en,qAC.out,qAC.tr,qAC.left,qAC.Zg,qAC.made]
 .have hE:m'.ended:=.inr (by grind[qAC.en])
  have hr:j7 p N (q8 p n)=m':=by
   have:=s1 0;rw [C4] at this;exact this
  refine⟨N,qH,?_⟩;constructor<;>grind[qAC.en,qAC.out,qAC.tr,qAC.left,qAC.Zg,qAC.made]
end
def v7:List (Int×Int)->Nat
 | []=>0
 | o::l=>if o.1=0 then 0 else (if o.1=15\/o.1=16\/o.1=17\/o.1=19 then 1 else 0)+v7 l
def zu:Nat->List (Int×Int)->Prop
 | h,[]=>h=0
 | h,o::l =>
  if o.1=0 then h=0/\v7 l<=1/\zu 0 l
  else if o.1=1\/o.1=2\/o.1=5\/o.1=8\/o.1=11\/o.1=15\/o.1=16 then zu (h+1) l
  else if o.1=3\/o.1=6\/o.1=9\/o.1=12\/o.1=19\/o.1=20 then 1<=h/\zu (h - 1) l
  else if o.1=14 then 2<=h/\zu (h - 1) l
  else if o.1=17 then o.2.toNat+1<=h/\zu (h - o.2.toNat) l
  else if o.1=18 then 1<=h/\zu h l
  else zu h l
structure qC3 (p:Z0) (b:Nat) (o:Int×Int):Prop where
 code:0<=o.1/\o.1<=20
 arg:0<=o.2/\o.2<=1000
 qEW:2<=o.1->o.1<=4->o.2<(qP p b).length
 cell:5<=o.1->o.1<=7->o.2<((qF p b).length:Int)+(qd p b).length
 name:8<=o.1->o.1<=13->o.2<=7
 attr:o.1=18->o.2<=7
 Z1:o.1=15\/o.1=16->∃ q,p[o.2.toNat]?=some q/\q.parent=b/\0<o.2/\q.kind=o.1 - 14
 call:o.1=17->o.2<=1
 ret:o.1=20->qg p b=1
section
variable {p:Z0} {b:Nat} {k:Za} {s:Z9} {x:Int} {h:Nat} {l:List (Int×Int)}
theorem nV (hr:zu (h+1) l):zu h (qx p b x 0::l):=by
 grind[zu,qx]
theorem QN (hr:zu h l):zu (h+1) (qx p b x 1::l):=by
 have key:∀ c:Int,c=9\/c=12\/c=3\/c=6->∀ a,zu (h+1) ((c,a)::l):=by
  simp_all[zu]
 grind[qx]
theorem Vt (hr:zu h l):zu h (qx p b x 2::l):=by
 have key:∀ c:Int,c=10\/c=13\/c=4\/c=7->∀ a,zu h ((c,a)::l):=by
  intro c hc a;rcases hc with rfl|rfl|rfl|rfl <;> simpa [zu] using hr
 grind[qx]
theorem rb {v:Int} (hv:v=0\/v=1\/v=2):v7 (qx p b x v::l)=v7 l:=by
 grind[v7,qx]
structure qBq (l:List (Int×Int)):Prop where
 ok:zu 0 l
 qBl:v7 l=0
theorem Sa (hk:0<=s.kind/\s.kind<=11) (hl:qBq l):qBq (fC p b s++l):=by
 obtain⟨h1,h2⟩:=hl;have e:fC p b s++l=(0,0)::(wA p b s++(j5 s++(cg p b s++l))):=by simp [fC]
 rw [e];refine⟨?_,eR⟩
 have g:v7 (wA p b s++(j5 s++(cg p b s++l)))<=1/\zu 0 (wA p b s++(j5 s++(cg p b s++l))):=by
  obtain⟨kd,to,a,c⟩:=s;simp only at hk;have p0:=λx l=>rb (p:=p) (b:=b) (x:=x) (l:=l) (v:=0) (.inl rfl);have p1:=λx l=>rb (p:=p) (b:=b) (x:=x) (l:=l) (v:=1) (.inr (.inl rfl));have p2:=λx l=>rb (p:=p) (b:=b) (x:=x) (l:=l) (v:=2) (.inr (.inr rfl));have s1:zu 1 (qx p b to 1::l):=QN h1;have q1:∀ (a:Int) (l:List (Int×Int)),v7 ((1,a)::l)=v7 l:=λa l=>eR;have q14:∀ (a:Int) (l:List (Int×Int)),v7 ((14,a)::l)=v7 l:=λa l=>eR;have q18:∀ (a:Int) (l:List (Int×Int)),v7 ((18,a)::l)=v7 l:=λa l=>eR;have q20:∀ (a:Int) (l:List (Int×Int)),v7 ((20,a)::l)=v7 l:=λa l=>eR;have q15:∀ (a:Int) (l:List (Int×Int)),v7 ((15,a)::l)=1+v7 l:=λa l=>eR;have q16:∀ (a:Int) (l:List (Int×Int)),v7 ((16,a)::l)=1+v7 l:=λa l=>eR;have q17:∀ (a:Int) (l:List (Int×Int)),v7 ((17,a)::l)=1+v7 l:=λa l=>eR;have q19:∀ (a:Int) (l:List (Int×Int)),v7 ((19,a)::l)=1+v7 l:=λa l=>eR;have hd:kd=0\/kd=1\/kd=2\/kd=3\/kd=4\/kd=5\/kd=6\/kd=7\/kd=8\/kd=9\/kd=10\/kd=11:=qA;rcases hd with rfl|rfl|rfl|rfl|rfl|rfl|rfl|rfl|rfl|rfl|rfl|rfl
  .grind[wA,Z9.reads,j5,cg,zu]
  .grind[wA,Z9.reads,j5,cg,nV]
  .grind[wA,Z9.reads,j5,cg,nV,zu]
  .grind[wA,Z9.reads,j5,cg,zu]
  .grind[wA,Z9.reads,j5,cg,zu]
  .grind[wA,Z9.reads,j5,cg,nV,zu]
  .grind[wA,Z9.reads,j5,cg,nV,zu]
  .grind[wA,Z9.reads,j5,cg,nV,zu]
  .grind[wA,Z9.reads,j5,cg,nV,zu]
  .grind[wA,Z9.reads,j5,cg]
  .grind[wA,Z9.reads,j5,cg]
  grind[wA,Z9.reads,j5,cg,Vt]
 grind[zu]
theorem OS:∀ ss:List Z9,(∀ s∈ss,0<=s.kind/\s.kind<=11)->qBq (uP p b ss)
 | [],_=>⟨rfl,rfl⟩
 | s::ss,h=>by
  have e:uP p b (s::ss)=fC p b s++uP p b ss:=by simp [uP]
  rw [e];exact Sa (h s qB) (OS ss λt ht=>h t oI)
theorem Vr (hp:Z7 p) (hk:p[b]?=some k):qBq (vI p b):=by
 rw [vI,hk];exact OS _ (hp.names k (gM hk)).kinds
theorem Dg (hp:Z7 p) (hk:p[b]?=some k) (hu:x∈k.us) {v:Int} (h0:0<=v) (h2:v<=2):qC3 p b (qx p b x v):=by
 have hx:0<=x/\x<=7:=by
  grind[Za.us,mem_sorted]
 have f1:=w5 (p:=p) (b:=b);have f2:=jo (p:=p) (b:=b);have f3:=yY (p:=p) (b:=b);rcases nZ (w:=v) hp hk hu with⟨_,e⟩|⟨_,e⟩|⟨_,i,e,hi,_⟩|⟨_,i,e,hi,_⟩|⟨_,i,e,hi,_⟩ <;> rw [e] <;> refine⟨?_,?_,?_,?_,?_,?_,?_,?_,?_⟩ <;> simp only [] <;> omega
theorem IK (hp:Z7 p) (hk:p[b]?=some k):∀ o∈vI p b,qC3 p b o:=by
 have hn:=hp.names k (gM hk);intro o ho;simp only [vI,hk,uP,List.mem_flatMap] at ho;obtain⟨s,hs,ho⟩:=ho;have hst:=hp.stm b k hk s hs;have hkd:=hn.kinds s hs;have hka:qg p b=k.kind:=bY;simp only [fC,aH,dY] at ho;rcases ho with rfl|ho|ho|ho
 .refine⟨?_,?_,?_,?_,?_,?_,?_,?_,?_⟩ <;> simp only [] <;> omega
 .grind[wA,Dg,mL]
 .unfold j5 at ho;by_cases k0:s.kind=0
  .rw [if_pos k0] at ho;obtain rfl:=w6.1 ho;have:=zN.num hst k0;refine⟨?_,?_,?_,?_,?_,?_,?_,?_,?_⟩ <;> simp only [] <;> omega
  rw [if_neg k0] at ho;by_cases k2:s.kind=2
  .rw [if_pos k2] at ho;obtain rfl:=w6.1 ho;refine⟨?_,?_,?_,?_,?_,?_,?_,?_,?_⟩ <;> simp only [] <;> omega
  rw [if_neg k2] at ho;by_cases k3:s.kind=3
  .rw [if_pos k3] at ho;obtain rfl:=w6.1 ho;obtain⟨q,q1,q2,q3,q4⟩:=zN.made hst (.inl k3);have hql:=(gS q1).1;have:=hp.len;refine⟨?_,?_,?_,?_,?_,?_,λ_=>⟨q,q1,q2,q3,?_⟩,?_,?_⟩ <;> simp only [] <;> omega
  rw [if_neg k3] at ho;by_cases k4:s.kind=4
  .rw [if_pos k4] at ho;obtain rfl:=w6.1 ho;obtain⟨q,q1,q2,q3,q4⟩:=zN.made hst (.inr k4);have hql:=(gS q1).1;have:=hp.len;refine⟨?_,?_,?_,?_,?_,?_,λ_=>⟨q,q1,q2,q3,?_⟩,?_,?_⟩ <;> simp only [] <;> omega
  rw [if_neg k4] at ho;by_cases k5:s.kind=5
  .rw [if_pos k5] at ho;obtain rfl:=w6.1 ho
   have:s.reads.length=1\/s.reads.length=2:=by
    grind[Z9.reads]
   refine⟨?_,?_,?_,?_,?_,?_,?_,?_,?_⟩ <;> simp only [] <;> omega
  rw [if_neg k5] at ho;by_cases k6:s.kind=6
  .rw [if_pos k6] at ho;obtain rfl:=w6.1 ho
   have:0<=s.b/\s.b<=7:=by
    grind[zN]
   refine⟨?_,?_,?_,?_,?_,?_,?_,?_,?_⟩ <;> simp only [] <;> omega
  rw [if_neg k6] at ho;by_cases k7:s.kind=7
  .rw [if_pos k7] at ho;obtain rfl:=w6.1 ho;refine⟨?_,?_,?_,?_,?_,?_,?_,?_,?_⟩ <;> simp only [] <;> omega
  rw [if_neg k7] at ho;by_cases k8:s.kind=8
  .rw [if_pos k8] at ho;obtain rfl:=w6.1 ho
   have:k.kind=1:=by
    grind[zN]
   refine⟨?_,?_,?_,?_,?_,?_,?_,?_,?_⟩ <;> simp only [] <;> omega
  simp_all
 grind[cg,Dg,LP]
end
end Go.Hm
end
