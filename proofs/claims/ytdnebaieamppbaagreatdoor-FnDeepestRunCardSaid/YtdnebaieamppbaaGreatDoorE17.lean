import Derived.Test.YtdnebaieamppbaaGreatDoorE16
set_option linter.unusedSimpArgs false
set_option linter.unusedVariables false
set_option maxRecDepth 100000
set_option maxHeartbeats 4000000

section
namespace Go.Hm
open Go Go.RowKit
def rZ (p:Z0) (b:Nat) (x y:Int) (c:Nat) (s:Z9):Z9:=if qQ p b x c=true then s.Zn x y else s
section
variable {p:Z0} {b:Nat} {x y:Int} (H:qAE p b x y)
include H
abbrev rW (b:Nat) (x y:Int) (r:Z5×Zd):Z5×Zd:=(kP b x y r.1,r.2)
omit H in
theorem Jk {c:Nat} {k:Za}:(yQ (qQ p b x c) x y k).body=k.body.map (rZ p b x y c):=by
 cases ht:qQ p b x c
 .have:∀ s,rZ p b x y c s=s:=λs=>by simp [rZ,ht]
  have e:rZ p b x y c=id:=funext this;simp [yQ,e]
 simp_all[rZ,yQ,Za.Zn]
omit H in
theorem rY {c:Nat} {s:Z9}:(rZ p b x y c s).kind=s.kind:=by unfold rZ;split <;> rfl
theorem qAE.reads {c:Nat} {s:Z9}:(rZ p b x y c s).reads=s.reads.map (iZ p b x y c):=by
 unfold rZ;by_cases ht:qQ p b x c=true
 .have:iZ p b x y c=λz=>jC z x y:=funext λz=>by simp [iZ,ht]
  rw [if_pos ht,this,Z9.qBk H.hx.1 H.hy.1]
 grind[iZ,Z9.reads]
omit H in
theorem ML {c:Nat} {s:Z9} (h:s.qBN\/9<=s.kind):(rZ p b x y c s).to=iZ p b x y c s.to:=by
 grind[rZ,iZ,Z9.Zn]
omit H in
theorem MM {c:Nat} {s:Z9} (h:s.kind=0\/s.kind=3\/s.kind=4):(rZ p b x y c s).a=s.a:=by
 grind[rZ,Z9.Zn]
omit H in
theorem Sx {c:Nat} {s:Z9} (h:s.kind=8):(rZ p b x y c s).a=iZ p b x y c s.a:=by
 grind[rZ,iZ,Z9.Zn]
omit H in
theorem VF {c:Nat} {s:Z9} (h:s.kind=6):(rZ p b x y c s).b=s.b:=by
 grind[rZ,Z9.Zn]
theorem qAE.kb:qg p b=1:=by
 obtain⟨k,hk⟩:=gX H.Zs;have:=H.fn k hk
 grind[qg]
omit H in
theorem IY {c:Nat} {o:Int}:qAG (pH p b x y) c o=qAG p c o:=by grind[qAG,Ye]
theorem qAE.qEK {c:Nat} {k:Za} {z:Int} (hk:p[c]?=some k) (hz:z∈k.us) (h4:qAG p c (q7 p c z)=4):iZ p b x y c z=z:=by
 have hb:=H.hb;unfold iZ
 split
 .rename_i ht
  have hzx:z≠x:=by
   rintro rfl;have ho:=((wl hk).1 ht).2;rw [ho] at h4;unfold qAG at h4;have hkb:=H.kb
   grind
  grind[jC]
 .rfl
theorem qAE.load {w:Z5} {a:Nat} {k:Za} {z:Int} (hW:Zy p w) (ha:a<w.ZX.length) (hk:p[w.Z1 a]?=some k) (hz:z∈k.us):zk (pH p b x y) (kP b x y w) a (iZ p b x y (w.Z1 a) z)=rW b x y (zk p w a z):=by
 unfold zk;rw [H.qCn hk hz,H.get_eq hW ha hk hz,mI,H.own hk hz,IY]
 cases hg:w.get (w.loc p a z) z with
 | some v=>rfl
 | none =>
  by_cases h4:qAG p (w.Z1 a) (q7 p (w.Z1 a) z)=4
  .rw [if_pos h4,if_pos h4,H.qEK hk hz h4];have:(kP b x y w).get none z=w.get none z:=rfl;simp only [this]
   cases w.get none z with
   | some v=>rfl
   | none =>
    grind[kP]
  grind[kP]
theorem qAE.qDm {a:Nat} {k:Za}:∀ {l:List Int} {w:Z5},Zy p w->a<w.ZX.length->p[w.Z1 a]?=some k->(∀ z∈l,z∈k.us)->qY (pH p b x y) (kP b x y w) a (l.map (iZ p b x y (w.Z1 a)))=(kP b x y (qY p w a l).1,(qY p w a l).2)
 | [],w,_,_,_,_=>rfl
 | z::l,w,hW,ha,hk,hu=>by
  have he:(kP b x y w).en=w.en:=rfl;simp only [gi,qY,he];by_cases h0:w.en≠0
  .simp_all
  .simp only [if_neg h0];have h1:=H.load hW ha hk (hu z HR);rw [h1];obtain⟨g1,_,g3⟩:=mR (a:=a) (x:=z) hW
   have Zs:(zk p w a z).1.Z1 a=w.Z1 a/\a<(zk p w a z).1.ZX.length:=by
    rcases g3 with e|⟨e,_,e2⟩
    .simp_all
    .rw [e2];exact⟨rfl,ha⟩
   have h2:=qAE.qDm (l:=l) g1.ok Zs.2 qH (λy hy=>hu y (lj _ hy))
   simp_all
theorem qAE.store {w:Z5} {a:Nat} {k:Za} {z:Int} {v:Zd} (hW:Zy p w) (ha:a<w.ZX.length) (hk:p[w.Z1 a]?=some k) (hz:z∈k.us):wm (pH p b x y) (kP b x y w) a (iZ p b x y (w.Z1 a) z) v=kP b x y (wm p w a z v):=by
 unfold wm;rw [H.qCn hk hz,H.qDM hW ha hk hz]
theorem qAE.take {w:Z5} {a:Nat} {k:Za} {z:Int} (hW:Zy p w) (ha:a<w.ZX.length) (hk:p[w.Z1 a]?=some k) (hz:z∈k.us):bb (pH p b x y) (kP b x y w) a (iZ p b x y (w.Z1 a) z)=kP b x y (bb p w a z):=by
 unfold bb;rw [H.qCn hk hz,H.get_eq hW ha hk hz,mI,H.own hk hz,IY]
 cases w.get (w.loc p a z) z with
 | some v=>exact H.qDM hW ha hk hz
 | none=>rfl
omit H in
theorem Pm {w:Z5} {u v:Zd}:uw (kP b x y w) u v=rW b x y (uw w u v):=by
 grind[uw,kP]
omit H in
theorem Pn {w:Z5} {v:Zd} {z:Int}:kN (kP b x y w) v z=rW b x y (kN w v z):=by
 unfold kN;have:(kP b x y w).ZV=w.ZV:=rfl;rw [this]
 repeat' split
 all_goals rfl
omit H in
theorem TZ {c:Nat}:cp (pH p b x y) c=cp p c:=by
 grind[cp,yx,yQ,Za.Zn]
theorem qAE.bind (hV:Zm p) {c:Nat} {k:Za} {vs:List Zd} (hk:p[c]?=some k):wD (yQ (qQ p b x c) x y k).params vs=if c=b then swV x y (wD k.params vs) else wD k.params vs:=by
 have hkm:=gM hk;have hhd:=hV.sh.head c k hk
 have hpl:k.params=[]\/∃ z,k.params=[z]:=by
  grind[E9]
 have hpp:(yQ (qQ p b x c) x y k).params=k.params.map (iZ p b x y c):=by
  cases ht:qQ p b x c<;>grind[iZ,yQ,Za.Zn]
 rw [hpp];rcases hpl with e|⟨z,e⟩
 .rw [e];have:wD [] vs=q9:=by simp [wD]
  split<;>grind[Ab,hx,hy]
 .rw [e];have hzp:z∈k.params:=qj;have hzr:=(hV.sh.names k hkm).params z hzp;have how:=hV.pm c k hk z hzp
  have hzu:z∈k.us:=by
   grind[xy,Za.bd,mem_sorted,uB]
  cases vs with
  | nil =>
   have:∀ l:List Int,wD l []=q9:=λl=>by simp [wD]
   split<;>grind[Ab,hx,hy]
  | cons v vs =>
   have h1:∀ u:Int,wD [u] (v::vs)=q9.set u.toNat (some v):=λu=>by simp [wD]
   simp only [gi,Eb,h1];by_cases hcb:c=b
   .rw [if_pos hcb];have hin:qi p c b=true:=by grind[zf]
    have hzy:=H.qD8 hk hin hzu
    have hn:iZ p b x y c z=swp x y z:=by
     unfold iZ;have ht:qQ p b x c=true:=by rw [hcb];exact H.self.1
     grind[L6]
    rw [hn,<- L3 qB H.hx H.hy H.hxy hzr,Ab H.hx H.hy]
   simp_all<;>grind[iZ,wl,jC]
theorem qAE.begin (hV:Zm p) {w:Z5} {c up:Nat} {k:Za} {vs:List Zd} (hk:p[c]?=some k):qn (pH p b x y) (kP b x y w) c up vs=kP b x y (qn p w c up vs):=by
 have hq:(pH p b x y)[c]?=some (yQ (qQ p b x c) x y k):=ab hk;have hl:(kP b x y w).ZX.length=w.ZX.length:=by simp [kP]
 unfold qn;rw [hq,hk,hl];simp only [H.bind hV hk]
 grind[kP]
def pA (p:Z0) (b:Nat) (x y:Int) (n:Nat) (R R':Z5->Nat->Z5×Zd):Prop:=∀ (w:Z5) (a:Nat),Zy p w->w.left<n->a<w.ZX.length->w.en=0->R' (kP b x y w) a=rW b x y (R w a)
section
variable {n:Nat} {R R':Z5->Nat->Z5×Zd}
omit H in
theorem Po {w:Z5}:(kP b x y w).ZX.length=w.ZX.length:=by simp [kP]
omit H in
theorem Sv {w:Z5}:nh (kP b x y w)=kP b x y (nh w):=by
 grind[nh,kP]
theorem qAE.enter (hV:Zm p) (hR:pA p b x y n R R') {w:Z5} {c up:Nat} {vs:List Zd} (h:Zy p w) (hn:w.left<n) (h0:w.en=0) (hm:jZ p w.ZX c up) (hv:∀ v∈vs,VOk w.ZZ.length w.ZV.length v) (hr:Room 1 w):qm (pH p b x y) R' (kP b x y w) c up vs=rW b x y (qm p R w c up vs):=by
 obtain⟨h1,_⟩:=ko (p:=p) (b:=c) (up:=up) h hm hv hr;obtain⟨_,k,_,hk,_,_⟩:=hm;have h2:=hR (qn p w c up vs) w.ZX.length h1 hn eP h0;unfold qm;rw [H.begin hV hk,Po,h2,Sv]
theorem qAE.call (hV:Zm p) (hR:pA p b x y n R R') {w:Z5} {f:Zd} {vs:List Zd} (h:Zy p w) (hn:w.left<n) (h0:w.en=0) (hv:∀ v∈vs,VOk w.ZZ.length w.ZV.length v) (hr:Room 1 w):u6 (pH p b x y) R' (kP b x y w) f vs=rW b x y (u6 p R w f vs):=by
 unfold u6;have hf:(kP b x y w).ZZ=w.ZZ:=rfl;rw [hf];by_cases h2:f.1≠2
 .grind[kP]
 .rw [if_neg h2,if_neg h2]
  cases hg:w.ZZ[f.2.toNat]? with
  | none=>rfl
  | some g =>
   simp only [TZ];by_cases hp:cp p g.1≠vs.length
   .grind[kP]
   .rw [if_neg hp,if_neg hp];exact H.enter hV hR h hn h0 (h.ZZ _ g hg) hv hr
theorem qAE.class (hV:Zm p) (hO:cZ p n R) (hR:pA p b x y n R R') {w:Z5} {c a:Nat} (h:Zy p w) (hn:w.left<n) (h0:w.en=0) (hm:jZ p w.ZX c a) (hr:Room 1 w) (hk2:qg p c=2):kI (pH p b x y) R' (kP b x y w) c a=rW b x y (kI p R w c a):=by
 have hE:=H.enter (vs:=[]) hV hR h hn h0 hm (λv hv=>eJ) hr;obtain⟨h1,h2⟩:=ko (p:=p) (b:=c) (up:=a) (vs:=[]) h hm (λv hv=>eJ) hr;obtain⟨⟨_,r2,_⟩,_⟩:=hO (qn p w c a []) w.ZX.length h1 hn eP h0
 have hz:(qn p w c a []).ZX[w.ZX.length]?=some ⟨c,a,wD (match p[c]? with|some k=>k.params|none=>[]) []⟩:=by
  grind[qn]
 obtain⟨q,q1,q2,_⟩:=r2.ZX _ _ hz
 grind[qm,nh,kb,kP,Z5.vars,kI]
theorem qAE.work (hV:Zm p) (hO:cZ p n R) (hR:pA p b x y n R R') {w:Z5} {a:Nat} {k:Za} {s:Z9} {vs:List Zd} (h:Zy p w) (hn:w.left<n) (h0:w.en=0) (ha:a<w.ZX.length) (hs:zN p (w.Z1 a) k s=true) (hv:∀ v∈vs,VOk w.ZZ.length w.ZV.length v) (hr:Room 2 w):ju (pH p b x y) R' (kP b x y w) a (rZ p b x y (w.Z1 a) s) vs=rW b x y (ju p R w a s vs):=by
 obtain⟨c,hc⟩:=gX ha
 have hmade:s.kind=3\/s.kind=4->jZ p w.ZX s.a.toNat a/\qg p s.a.toNat=s.kind - 2:=λe=>by
  obtain⟨q,h1,h2,h3,h4⟩:=zN.made hs e;exact⟨⟨c,q,hc,h1,by grind[jq],qA⟩,eQ⟩
 unfold ju;rw [rY];by_cases k0:s.kind=0
 .grind[MM]
 rw [if_neg k0,if_neg k0];by_cases k2:s.kind=2
 .grind[Pm]
 rw [if_neg k2,if_neg k2];by_cases k3:s.kind=3
 .rw [if_pos k3,if_pos k3,MM (.inr (.inl k3))]
  rfl
 rw [if_neg k3,if_neg k3];by_cases k4:s.kind=4
 .rw [if_pos k4,if_pos k4,MM (.inr (.inr k4))];obtain⟨m1,m2⟩:=hmade (.inr k4);exact H.class hV hO hR h hn h0 m1 (hr.mono qA) qA
 rw [if_neg k4,if_neg k4];by_cases k5:s.kind=5
 .rw [if_pos k5,if_pos k5];exact H.call hV hR h hn h0 (λv hv'=>hv v (List.mem_of_mem_tail hv')) (hr.mono qA)
 grind[VF,Pn]
theorem qAE.value (hV:Zm p) (hO:cZ p n R) (hR:pA p b x y n R R') {w:Z5} {a:Nat} {k:Za} {s:Z9} (h:Zy p w) (hn:w.left<n) (h0:w.en=0) (ha:a<w.ZX.length) (hk:p[w.Z1 a]?=some k) (hsm:s∈k.body) (hs:zN p (w.Z1 a) k s=true) (hr:Room 2 w):zo (pH p b x y) R' (kP b x y w) a (rZ p b x y (w.Z1 a) s)=rW b x y (zo p R w a s):=by
 have hnm:=hV.sh.names k (gM hk);have hl:=H.qDm (l:=s.reads) h ha hk (λz hz=>mL hnm hsm hz);obtain⟨_,h2,h3,_⟩:=ww (a:=a) (l:=s.reads) h;unfold zo;rw [H.reads,hl];have he:(kP b x y (qY p w a s.reads).1).en=(qY p w a s.reads).1.en:=rfl;simp only [he];by_cases hE:(qY p w a s.reads).1.en≠0
 .simp_all
 .rw [if_neg hE,if_neg hE];rcases h3 with h3|⟨e,he',h3⟩
  .rw [h3];exact H.work hV hO hR h hn h0 ha hs h2 hr
  simp_all
theorem qAE.stm (hV:Zm p) (hO:cZ p n R) (hR:pA p b x y n R R') {w:Z5} {a:Nat} {k:Za} {s:Z9} (h:Zy p w) (hn:w.left<n) (h0:w.en=0) (ha:a<w.ZX.length) (hk:p[w.Z1 a]?=some k) (hsm:s∈k.body) (hs:zN p (w.Z1 a) k s=true) (hr:Room 2 w) (h8:s.kind≠8):cd (pH p b x y) R' (kP b x y w) a (rZ p b x y (w.Z1 a) s)=kP b x y (cd p R w a s):=by
 have hnm:=hV.sh.names k (gM hk);have hkd:=hnm.kinds s hsm;have hval:=H.value hV hO hR h hn h0 ha hk hsm hs hr;obtain⟨hA,_⟩:=fK hO h hn h0 ha hs hr;unfold cd;rw [rY,hval];by_cases k9:s.kind=9\/s.kind=10
 .simp_all
 rw [if_neg k9,if_neg k9];by_cases k11:s.kind=11
 .rw [if_pos k11,if_pos k11,ML (.inr qA)];exact H.take h ha hk (LP hnm hsm (.inr k11))
 rw [if_neg k11,if_neg k11];have he:(rW b x y (zo p R w a s)).1.en=(zo p R w a s).1.en:=rfl;rw [he];by_cases hE:(zo p R w a s).1.en≠0
 .simp_all
 rw [if_neg hE,if_neg hE];by_cases k7:s.kind=7
 .rw [if_pos k7,if_pos k7]
  rfl
 rw [if_neg k7,if_neg k7];have wF:s.qBN:=⟨hkd.1,qA⟩;rw [ML (.inl wF)];obtain⟨c,hc⟩:=gX ha;have hb:=hA.grow.Z1 hc;have:=H.store (z:=s.to) (v:=(zo p R w a s).2) hA.ok (aR ha hA.grow.qAk) qH (LP hnm hsm (.inl wF))
 simp_all
theorem qAE.qDo (hV:Zm p) (hO:cZ p n R) (hR:pA p b x y n R R') {a:Nat} {k:Za}:∀ {l:List Z9} {w:Z5} {i:Nat},Zy p w->w.left<n+1->w.en=0->a<w.ZX.length->p[w.Z1 a]?=some k->(∀ s∈l,s∈k.body)->(∀ s∈l,zN p (w.Z1 a) k s=true) ->
  vK (pH p b x y) R' a (kP b x y w) i (l.map (rZ p b x y (w.Z1 a)))=rW b x y (vK p R a w i l)
 | [],w,i,_,_,_,_,_,_,_=>rfl
 | s::l,w,i,h,hn,h0,ha,hk,hm,hs=>by
  have hle:(kP b x y w).left=w.left:=rfl
  have htk:qq (kP b x y w) a i=kP b x y (qq w a i):=by
   unfold qq;rw [mI]
   rfl
  simp only [gi,vK,hle,htk,rY];by_cases hl:w.left=0
  .rw [if_pos hl,if_pos hl];rfl
  rw [if_neg hl,if_neg hl];obtain⟨t1,t2⟩:=gq (a:=a) (i:=i) h hl;have tn:(qq w a i).left<n:=by grind[qq]
  have hnm:=hV.sh.names k (gM hk);have hsm:=hm s HR;by_cases k8:s.kind=8
  .rw [if_pos k8,if_pos k8,Sx k8];exact H.load t1 ha hk (mL hnm hsm (by simp [Z9.reads,k8]))
  rw [if_neg k8,if_neg k8];have hst:=H.stm hV hO hR t1 tn h0 ha hk hsm (hs s HR) t2 k8;have hA:=nL hO t1 tn h0 ha (hs s HR) t2;have e1:rZ p b x y ((qq w a i).Z1 a) s=rZ p b x y (w.Z1 a) s:=rfl;rw [e1] at hst;rw [hst];have he:(kP b x y (cd p R (qq w a i) a s)).en=(cd p R (qq w a i) a s).en:=rfl;rw [he];by_cases hE:(cd p R (qq w a i) a s).en≠0
  .simp_all
  .rw [if_neg hE,if_neg hE];have he':(cd p R (qq w a i) a s).en=0:=qA;have hA':=hA.tick hl;obtain⟨c,hc⟩:=gX ha;have hb:=hA'.grow.Z1 hc;have:=qAE.qDo hV hO hR (l:=l) (i:=i+1) hA'.ok (by have:=hA'.grow.left;omega) he' (aR ha hA'.grow.qAk) qH (λs' h'=>hm s' (lj _ h')) (λs' h'=>qH)
   simp_all
theorem qAE.run (hV:Zm p):∀ n,pA p b x y n (zY p n) (zY (pH p b x y) n)
 | 0=>λw a _ h=>absurd h qA
 | n+1=>by
  intro w a h hn ha h0;obtain⟨c,hc⟩:=gX ha;have Zs:=h.qBC a c hc;obtain⟨k,hk⟩:=gX Zs;have hbk:=jq hc;have hk':p[w.Z1 a]?=some k:=qH;have hq:(pH p b x y)[w.Z1 a]?=some (yQ (qQ p b x (w.Z1 a)) x y k):=ab hk';simp only [zY,mI];rw [hq,hk'];simp only [Jk];exact H.qDo hV (kT hV.sh n) (qAE.run hV n) h hn h0 ha hk' (λs hs=>hs) (λs hs=>hV.sh.stm _ k hk' s hs)
theorem qAE.qEQ (hV:Zm p) {f:Nat} (hf:f<=150):yI (pH p b x y) f=kP b x y (yI p f):=by
 have hb:=H.hb
 have hst:kP b x y (zK f)=zK f:=by
  grind[kP,zK]
 have:=H.run hV 151 (zK f) 0 (ce hV.sh hf) tW gF rfl
 grind[yI]
end
end
def wF (S:Nm->Bool) (H:Nm->Option AO):Nm->Option AO:=λn=>if S n=true then none else H n
section
variable {own:Nat->Prop} {C C':Nat->Prop} {w w':World} {g g':Gh} {D:Nm->Bool} {root:Nm} {H H':Nm->Option AO}
def W4 (S:Nm->Bool) (C:Nat->Prop) (g:Gh) (H:Nm->Option AO) (b:Nat):Prop:=C b\/∃ n o,S n=true/\H n=some o/\g.φ n=some b
theorem qB4.settle (h:qB4 own C w g D root H H' C' g' w') (S:Nm->Bool) (hw:∀ n,H n≠none->D n=true):qB4 own C w g D root H (wF S H') (W4 S C' g' H') (g'.more (W4 S C' g' H')) w':=by
 have hC:∀ b,g'.C b->W4 S C' g' H' b:=λb hb=>.inl (h.inv.hC ▸ hb)
 have old:∀ n o,wF S H' n=some o->H' n=some o/\S n≠true:=by
  grind[wF]
 refine⟨λb hb=>.inl (h.mono b hb),?_,⟨h.inv.os,h.inv.tape,h.inv.output,h.inv.size,h.inv.qB7,rfl,?_,?_,?_,?_⟩,?_,h.same,h.ust⟩
 .rintro b (hb|⟨n,o,_,ho,hk⟩)
  .exact h.new b hb
  .exact .inr (h.inv.Z1 n o b ho hk).2.1
 .rintro b (hb|⟨n,o,_,ho,hk⟩)
  .exact h.inv.clt b hb
  .exact (h.inv.Z1 n o b ho hk).2.2
 .intro n o e;have:=(h.inv.obj n o (old n o e).1).tr (g':=g'.more (W4 S C' g' H')) (w':=w') (n':=n) (f:=some) hC (λ_ _=>rfl) (λk k' e=>by obtain rfl:=sI e;exact⟨rfl,rfl⟩) rfl (λ_ _=>rfl)
  grind[AO.Zr]
 .intro n o b e hk;obtain⟨e1,e2⟩:=old n o e;obtain⟨x1,x2,x3⟩:=h.inv.Z1 n o b e1 hk;refine⟨?_,x2,x3⟩;rintro (hb|⟨n',o',hs,ho',hk'⟩)
  .exact x1 hb
  .exact e2 (h.inv.inj n' n o' o b ho' e1 hk' hk ▸ hs)
 .intro n n' o o' b e e' hk hk';exact h.inv.inj n n' o o' b (old n o e).1 (old n' o' e').1 hk hk'
 .intro n hn;refine h.dom n λe=>hn ?_
  grind[wF]
end
section
variable {P:Program} {gl:Nat->Option (List AV)} {f:FuncId} {D:Nm->Bool} {az:List AV} {H:Nm->Option AO} {R R':Nm->AV->(Nm->Option AO)->Prop}
theorem Zj.settle (S:Nm->Nm->Bool) (h:Zj P gl f D az H R noE) (hR:∀ r y H',R r y H'->∃ y',Bw H' (λn=>!S r n) y y'/\R' r y' (wF (S r) H')):Zj P gl f D az H R' noE:=by
 refine⟨h.1,λroot C w g args h1 h2 h3 h4 h5 h6 h7=>?_⟩;refine (h.2 root C w g args h1 h2 h3 h4 h5 h6 h7).mono λe w' he=>?_
 cases e with
 | returned v =>
  obtain⟨C',g',H',x,hA,hv,hr⟩:=he;obtain⟨y',hb,hr'⟩:=hR _ _ _ hr;refine⟨_,_,_,y',hA.settle (S root) h3,?_,hr'⟩;exact RV.bw hA.inv (λb hb=>.inl hb) (λn o b hS ho hk=>.inr ⟨n,o,qH,ho,hk⟩) hb hv
 | panicked ch =>
  omega
 | outgrown=>omega
theorem qb.settle (h:qb P gl f az R) {S:AV->Prop} (hR:∀ r y H',R r y H'->∃ y',Bw H' noD y y'/\S y'):qb P gl f az (λ_ y _=>S y) :=
 Zj.settle (λ_ _=>true) h λr y H' hr=>by
  obtain⟨y',h1,h2⟩:=hR r y H' hr;exact⟨y',h1,h2⟩
end
abbrev Xn:Nm:=.u 1 0 0
def ux (p:Z0) (f:Z8):Int:=(ub ((vI p f.Z1).take f.pc):Int) - 1
def jV (p:Z0) (n:Nm) (i:Nat) (f:Z8):List AV:=[iv f.Z1,iv f.pc,iv (ux p f),.hs (.c n i 3) 3 0 f.Z3.length,isl (jN f.cells),.hs (.c n i 5) 3 0 8,.hs (.c n i 6) 2 0 f.stack.length]
def qz (p:Z0) (n:Nm) (l:List Z8):List (List AV):=l.mapIdx λi f=>jV p n i f
section
variable {p:Z0} {n m:Nm} {i:Nat} {f g:Z8} {l:List Z8} {r:Nm->Option Nm}
@[simp] theorem frmRow_len:(jV p n i f).length=7:=rfl
@[simp] theorem frmRow_0:(jV p n i f)[0]?=some (iv f.Z1):=rfl
@[simp] theorem frmRow_1:(jV p n i f)[1]?=some (iv f.pc):=rfl
@[simp] theorem frmRow_2:(jV p n i f)[2]?=some (iv (ux p f)):=rfl
@[simp] theorem frmRow_3:(jV p n i f)[3]?=some (.hs (.c n i 3) 3 0 f.Z3.length):=rfl
@[simp] theorem frmRow_4:(jV p n i f)[4]?=some (isl (jN f.cells)):=rfl
@[simp] theorem frmRow_5:(jV p n i f)[5]?=some (.hs (.c n i 5) 3 0 8):=rfl
@[simp] theorem frmRow_6:(jV p n i f)[6]?=some (.hs (.c n i 6) 2 0 f.stack.length):=rfl
@[simp] theorem frmRows_len:(qz p n l).length=l.length:=by simp [qz]
@[simp] theorem yr:(qz p n l)[i]?=(l[i]?).map λf=>jV p n i f:=by simp [qz]
@[simp] theorem frmRows_getE {h:i<(qz p n l).length}:(qz p n l)[i]=jV p n i (l[i]' gL):=by simp [qz]
@[simp] theorem frmRows_nil:qz p n []=[]:=rfl
theorem NR (h3:r (.c n i 3)=some (.c m i 3)) (h5:r (.c n i 5)=some (.c m i 5)) (h6:r (.c n i 6)=some (.c m i 6)):(jV p n i f).map (AV.tr r)=jV p m i f:=by simp_all[jV]
theorem AI (h:∀ i j,i<l.length->r (.c n i j)=some (.c m i j)):(qz p n l).map (λx=>x.map (AV.tr r))=qz p m l:=by
 apply wK;intro j;rw [kx,yr,yr]
 grind[NR]
@[simp] theorem frmRows_fix (h:∀ i j,r (.c n i j)=some (.c n i j)):(qz p n l).map (λx=>x.map (AV.tr r))=qz p n l:=AI λi j _=>h i j
theorem s6 {k:List AV->List AV} (h:∀ (i:Nat) f,l[i]?=some f->k (jV p n i f)=jV p m i f):(qz p n l).map k=qz p m l:=by
 apply wK
 grind[yr]
theorem s7:qz p n l++[jV p n l.length f]=qz p n (l++[f]):=by simp [qz]
theorem ou {k:Nat}:(qz p n l).take k=qz p n (l.take k):=by
 apply wK
 grind[yr]
theorem sZ {off:Nat} {vals:List AV} (hi:l[i]?=some f) (h:(jV p n i f).take off++vals++(jV p n i f).drop (off+vals.length)=jV p n i g):qk (qz p n l) i off vals=qz p n (l.set i g):=by
 have hl:=(gS hi).1;apply wK
 grind[qk,yr]
end
def aU (l:List (Nat×List Nat)):List (List AV):=l.map λg=>[iv g.1,isl (jN g.2)]
def vE (l:List (List Zt)):List (List AV):=l.map λc=>[.sl 3 (qW c)]
abbrev Qx:AV:=.bot
def kA (x:AV) (p:Z0):List (List AV):=[x]::(List.range (p.length - 1)).map λb=>[isl (zt p (b+1))]
section
variable {l:List (Nat×List Nat)} {cs:List (List Zt)} {i:Nat} {r:Nm->Option Nm} {g:Nat×List Nat} {c:List Zt} {x:AV} {p:Z0}
@[simp] theorem fnRows_len:(aU l).length=l.length:=tF
@[simp] theorem fnRows_getE {h:i<(aU l).length}:(aU l)[i]=[iv (l[i]' gL).1,isl (jN (l[i]' gL).2)]:=tF
@[simp] theorem fnRows_tr:(aU l).map (λy=>y.map (AV.tr r))=aU l:=tF
@[simp] theorem fnRows_take {k:Nat}:(aU l).take k=aU (l.take k):=tF
theorem KQ:aU l++[[iv g.1,isl (jN g.2)]]=aU (l++[g]):=tF
@[simp] theorem fnRows_nil:aU []=[]:=rfl
@[simp] theorem clzRows_len:(vE cs).length=cs.length:=by simp [vE]
@[simp] theorem clzRows_getE {h:i<(vE cs).length}:(vE cs)[i]=[AV.sl 3 (qW (cs[i]' gL))]:=by simp [vE]
@[simp] theorem clzRows_tr:(vE cs).map (λy=>y.map (AV.tr r))=vE cs:=by
 simp only [vE,xA];apply mz;intro c _;simp [nI,AV.tr]
@[simp] theorem clzRows_take {k:Nat}:(vE cs).take k=vE (cs.take k):=by simp [vE]
theorem Fw:vE cs++[[.sl 3 (qW c)]]=vE (cs++[c]):=by simp [vE]
@[simp] theorem clzRows_nil:vE []=[]:=rfl
theorem su (h:0<p.length):(kA x p).length=p.length:=by grind[kA]
theorem GE (h:0<i) (hl:i<p.length):(kA x p)[i]?=some [isl (zt p i)]:=by
 grind[kA]
@[simp] theorem capRows_tr:(kA x p).map (λy=>y.map (AV.tr r))=kA (x.tr r) p:=by simp [kA]
end
structure qCN (hp:Nm->Option AO) (p:Z0) (n:Nm) (l:List Z8):Prop where
 top:∃ js,hp n=some (.row 7 (qz p n (l++js)))
 Z3:∀ (i:Nat) f,l[i]?=some f->hp (.c n i 3)=some (.row 3 (qW f.Z3))
 names:∀ (i:Nat) f,l[i]?=some f->hp (.c n i 5)=some (.row 3 (qW f.names))
 stack:∀ (i:Nat) f,l[i]?=some f->∃ j,hp (.c n i 6)=some (.row 2 (zn (f.stack++j)))
def uX (p:Z0) (n:Nm) (m:Zb) (dp:Nat):List AV:=[csl (qw p p.length),.hs (.c Xn 0 1) 1 0 p.length,.hs (.c Xn 0 2) 3 0 m.cells.length,.hs (.c Xn 0 3) 3 0 8,.hs (.c Xn 0 4) 2 0 m.ZZ.length,.hs (.c Xn 0 5) 1 0 m.ZV.length,.hs n 7 0 m.ZW.length,iv m.made,iv dp,.hs (.c Xn 0 9) 1 0 m.out.length,.hs (.c Xn 0 10) 2 0 m.trace.length,iv m.en,iv m.left]
structure Z2 (hp:Nm->Option AO) (p:Z0) (n:Nm) (m:Zb) (dp:Nat):Prop where
 top:hp Xn=some (.row 13 [uX p n m dp])
 qAZ:hp (.c Xn 0 1)=some (.row 1 (kA Qx p))
 cells:hp (.c Xn 0 2)=some (.row 3 (qW m.cells))
 Zg:hp (.c Xn 0 3)=some (.row 3 (qW m.globals))
 ZZ:hp (.c Xn 0 4)=some (.row 2 (aU m.ZZ))
 Zw:hp (.c Xn 0 5)=some (.row 1 (vE m.ZV))
 out:hp (.c Xn 0 9)=some (.row 1 (qT m.out))
 trc:hp (.c Xn 0 10)=some (.row 2 (yw m.trace))
 fr:qCN hp p n m.ZW
section
variable {hp hp':Nm->Option AO} {p:Z0} {n n':Nm} {m m':Zb} {dp dp':Nat} {l l':List Z8}
theorem qCN.re (h:qCN hp p n l)
  (h0:∀ js,hp n=some (.row 7 (qz p n (l++js)))->hp' n=some (.row 7 (qz p n (l++js))):=by intro js hj;simp [hj])
  (h1:∀ (i:Nat) f,l[i]?=some f->hp (.c n i 3)=some (.row 3 (qW f.Z3))->hp' (.c n i 3)=some (.row 3 (qW f.Z3)):=by intro i f _ hf;simp [hf])
  (h2:∀ (i:Nat) f,l[i]?=some f->hp (.c n i 5)=some (.row 3 (qW f.names))->hp' (.c n i 5)=some (.row 3 (qW f.names)):=by intro i f _ hf;simp [hf])
  (h3:∀ (i:Nat) f j,l[i]?=some f->hp (.c n i 6)=some (.row 2 (zn (f.stack++j)))->hp' (.c n i 6)=some (.row 2 (zn (f.stack++j))):=by intro i f j _ hf;simp [hf]):qCN hp' p n l:=by
 obtain⟨js,hj⟩:=h.top;exact⟨⟨js,h0 js hj⟩,λi f hf=>h1 i f hf (h.Z3 i f hf),λi f hf=>h2 i f hf (h.names i f hf),λi f hf=>by obtain⟨j,hj⟩:=h.stack i f hf;grind⟩
theorem Z2.re (h:Z2 hp p n m dp)
  (h0:hp' Xn=some (.row 13 [uX p n' m' dp']):=by simp [h.top,uX])
  (h1:hp' (.c Xn 0 1)=some (.row 1 (kA Qx p)):=by simp [h.qAZ])
  (h2:hp' (.c Xn 0 2)=some (.row 3 (qW m'.cells)):=by simp [h.cells])
  (h3:hp' (.c Xn 0 3)=some (.row 3 (qW m'.globals)):=by simp [h.Zg])
  (h4:hp' (.c Xn 0 4)=some (.row 2 (aU m'.ZZ)):=by simp [h.ZZ])
  (h5:hp' (.c Xn 0 5)=some (.row 1 (vE m'.ZV)):=by simp [h.Zw])
  (h6:hp' (.c Xn 0 9)=some (.row 1 (qT m'.out)):=by simp [h.out])
  (h7:hp' (.c Xn 0 10)=some (.row 2 (yw m'.trace)):=by simp [h.trc])
  (h8:qCN hp' p n' m'.ZW:=by exact h.fr.re):Z2 hp' p n' m' dp' :=
 ⟨h0,h1,h2,h3,h4,h5,h6,h7,h8⟩
theorem qCN.Zn (h:qCN hp p n l) {f:Nm->Option Nm} (hf:∀ k,Nm.under n k=true->f k=some k) (hh:∀ k,Nm.under n k=true->hp' k=(hp k).map (AO.tr f)):qCN hp' p n l:=by
 have hu:∀ i j,Nm.under n (.c n i j)=true:=λi j=>qB;refine⟨h.top.imp λjs hj=>?_,λi g hg=>?_,λi g hg=>?_,λi g hg=>(h.stack i g hg).imp λj hj=>?_⟩
 .simp_all
 .rw [hh _ (hu i 3),h.Z3 i g hg];simp
 .rw [hh _ (hu i 5),h.names i g hg];simp
 simp_all
theorem Z2.Zn (h:Z2 hp p n m dp) {f:Nm->Option Nm} (hn:Nm.under Xn n=true\/n=.u 2 0 0) (hf:∀ k,D12 k=true->f k=some k) (hh:∀ k,D12 k=true->hp' k=(hp k).map (AO.tr f)):Z2 hp' p n m dp:=by
 have hc:∀ j,D12 (.c Xn 0 j)=true:=λj=>qB
 have hD:∀ k,Nm.under n k=true->D12 k=true:=by
  grind[A2,Nm.qAJ]
 have hnn:f n=some n:=hf _ (hD n (Nm.Z6 n));refine⟨?_,?_,?_,?_,?_,?_,?_,?_,h.fr.Zn (λk hk=>hf k (hD k hk)) λk hk=>hh k (hD k hk)⟩
 .rw [hh _ qB,h.top]
  simp_all[uX]
 .rw [hh _ (hc 1),h.qAZ];simp
 .rw [hh _ (hc 2),h.cells];simp
 .rw [hh _ (hc 3),h.Zg];simp
 .rw [hh _ (hc 4),h.ZZ];simp
 .rw [hh _ (hc 5),h.Zw];simp
 .rw [hh _ (hc 9),h.out];simp
 .rw [hh _ (hc 10),h.trc];simp
end
section
variable {p:Z0} {m M:Zb} {b d n i j N t:Nat} {fs:List Z8} {f g:Z8} {o:Int×Int} {v:Zd} {k:Za} {x:Int}
structure StD (m m':Zb):Prop where
 dp:m'.deep=max m.deep m'.ZW.length
 gr:m'.ZW.length<=m.ZW.length\/(m'.en=m.en/\m'.ZW≠[])
theorem StD.of (h:m.ZW.length<=m.deep) (h1:M.ZW.length<=m.ZW.length) (h2:M.deep=m.deep):StD m M:=⟨qA,.inl h1⟩
theorem Sd (h:m.ZW.length<=m.deep) (hl:fs.length+1=m.ZW.length):StD m (m.top fs f):=.of h nr rfl
theorem Hq {s:Zt} (h:m.ZW.length<=m.deep) (hl:fs.length+1=m.ZW.length):StD m (qAD m fs f o s):=by
 grind[qAD,StD.of,Zb.top]
theorem Le {cs:List Nat} {vs:List Zd} (h:m.ZW.length<=m.deep) (hl:fs.length+1=m.ZW.length):StD m (z8 p (m.top fs f) b cs vs):=by
 unfold z8
 split
 .constructor<;>grind[Zb.top]
 constructor<;>grind[Zb.top]
theorem Cv (h:m.ZW.length<=m.deep) (hl:fs.length+1=m.ZW.length) (h1:M.deep=m.deep) (h2:M.ZW=m.ZW):StD m (zW M fs v):=by
 grind[zW,StD.of]
theorem Hp (h:m.ZW.length<=m.deep):StD m (uS p m):=by
 unfold uS
 split
 .rename_i f hf
  have hl:m.ZW.dropLast.length+1=m.ZW.length:=by
   grind
  have hT:∀ F:Z8,StD m (m.top m.ZW.dropLast F):=λF=>Sd h hl;have hS:∀ (F:Z8) (E:Int),StD m (m.stop m.ZW.dropLast F E):=λF E=>.of h (by grind[Zb.stop,Zb.top]) rfl
  split
  .rename_i o ho;unfold kM
   split
   .grind[bE,StD.of,Zb.top]
   .split
    .split
     .grind[vj]
     .split
      .exact Hq h hl
      grind[AL,Hq]
    grind[ya,HU,StD.of,Zb.top,Le,dK,ge,Cv]
  grind[Bb,Cv]
 grind[StD.of]
def iR (p:Z0):Nat->Zb->Nat->Nat
 | 0,_,d=>d
 | i+1,m,d=>if m.ended then d else iR p i (uS p m) (max d m.ZW.length)
theorem xw (ht:∀ b,(qF p b).length<=t):∀ (i:Nat) {m:Zb} {d:Nat},qBD p t m->m.deep=max d m.ZW.length->(j7 p i m).deep=max (iR p i m d) (j7 p i m).ZW.length
 | 0,m,d,_,hd=>hd
 | i+1,m,d,h,hd=>by
  rw [j7,iR]
  split
  .exact hd
  .exact xw ht i (I1 ht h) (by grind[StD.dp,Hp])
theorem rT:∀ (i:Nat) {m:Zb},¬ (j7 p i m).ended->j7 p (i+1) m=uS p (j7 p i m)
 := by intro x0;induction x0<;>grind[j7]
theorem xv:∀ (i:Nat) {m:Zb} {d:Nat},¬ (j7 p i m).ended->iR p (i+1) m d=max (iR p i m d) (j7 p i m).ZW.length
 := by intro x0;induction x0<;>grind[j7,iR]
theorem M6 (ht:∀ b,(qF p b).length<=t) (h:qBD p t m) (hd:m.deep=max d m.ZW.length) (hN:¬ (j7 p N m).ended) (he:(j7 p (N+1) m).ended):iR p (N+1) m d=(j7 p (N+1) m).deep:=by
 have h1:=xw ht (N+1) h hd;have h2:=xv (d:=d) N hN;have hI:=Fj ht N h;have h3:=(Hp (p:=p) hI.fr).gr
 grind[rT,Zb.ended]
end
def Zz (l:List AV) (off:Nat) (vals:List AV):List AV:=l.take off++vals++l.drop (off+vals.length)
section
variable {P X S vals l:List AV} {k off j i n z:Nat} {c c':Nat->List AV}
theorem Sg (h:off+vals.length<=l.length):(Zz l off vals).length=l.length:=by grind[Zz]
theorem nM (hk:k+vals.length<=X.length):Zz (P++(X++S)) (P.length+k) vals=P++(Zz X k vals++S):=by
 unfold Zz;rw [CY,List.drop_append,CY,List.drop_append,b9 (Nat.le_add_right _ _)];have e1:P.length+k - P.length=k:=qA;have e2:P.length+k+vals.length - P.length=k+vals.length:=qA;have e3:k - X.length=0:=qA
 simp_all<;>omega
theorem Li (hk:k+vals.length<=X.length):Zz (X++S) k vals=Zz X k vals++S:=by
 grind[Zz]
theorem P9 (hk:k+vals.length<=X.length):Zz (P++X) (P.length+k) vals=P++Zz X k vals:=by
 have:=nM (P:=P) (S:=[]) hk
 simp_all
theorem Tl (hk:k<X.length):(P++(X++S))[P.length+k]?=X[k]?:=by
 grind
theorem Fs (hk:k+n<=X.length):((P++(X++S)).drop (P.length+k)).take n=(X.drop k).take n:=by
 simp_all<;>grind
def cat (c:Nat->List AV) (n:Nat):List AV:=(List.range n).flatMap c
theorem eE:cat c (n+1)=cat c n++c n:=by simp [cat,HT]
theorem fy (hc:∀ i,(c i).length=z):(cat c n).length=z * n:=by
 induction n<;>grind[cat,eE]
theorem ES (h:∀ i,i<n->c' i=c i):cat c' n=cat c n:=by
 induction n with
 | zero=>rfl
 | succ n ih=>grind[eE]
theorem ER (hi:i<n):∃ S,cat c n=cat c i++(c i++S):=by
 induction n with
 | zero=>omega
 | succ n ih =>
  rw [eE];by_cases e:i=n
  .simp_all
  grind
theorem Nj (hc:∀ i,(c i).length=z) (hi:i<n) (hj:j<z):(cat c n)[z * i+j]?=(c i)[j]?:=by
 obtain⟨S,hS⟩:=ER (c:=c) hi
 grind[fy]
theorem Nk (hc:∀ i,(c i).length=z) (hi:i<n) (hj:j+k<=z):((cat c n).drop (z * i+j)).take k=((c i).drop j).take k:=by
 obtain⟨S,hS⟩:=ER (c:=c) hi
 grind[fy,Fs]
theorem Ni (hc:∀ i,(c i).length=z) (hi:i<n) (hj:j+vals.length<=z) (h:∀ k,k≠i->c' k=c k) (hx:Zz (c i) j vals=c' i):Zz (cat c n) (z * i+j) vals=cat c' n:=by
 induction n with
 | zero=>omega
 | succ n ih =>
  rw [eE,eE];by_cases e:i=n
  .grind[fy,P9,ES]
  .rw [Li,ih qA,h n (λe'=>e e'.symm)];rw [fy hc];have:z * (i+1)<=z * n:=Nat.mul_le_mul_left z qA
   grind
theorem Ik {f:Nm->Option Nm} (h:∀ i,i<n->(c i).map (AV.tr f)=c' i):(cat c n).map (AV.tr f)=cat c' n:=by
 induction n with
 | zero=>rfl
 | succ n ih=>grind[eE]
end
def aK (l:List Zt):List AV:=cat (λi=>jm (uE l i)) 8
section
variable {l:List Zt} {i j:Nat} {s:Zt} {f:Nm->Option Nm}
@[simp] theorem Ia:(aK l).length=24:=fy (z:=3) λ_=>fQ
@[simp] theorem B7:(aK l).map (AV.tr f)=aK l:=Ik λ_ _=>Hr
theorem Ib (hi:i<8) (hj:j<3):(aK l)[3 * i+j]?=(jm (uE l i))[j]?:=Nj (λ_=>fQ) hi hj
theorem Ic (hi:i<8):((aK l).drop (3 * i)).take 3=jm (uE l i):=by
 have:=Nk (c:=λi=>jm (uE l i)) (j:=0) (k:=3) (λ_=>fQ) hi qA
 grind[aK,fQ]
theorem I9 (hl:l.length=8) (hi:i<8):Zz (aK l) (3 * i) (jm s)=aK (l.set i s):=by
 have:=Ni (c:=λi=>jm (uE l i)) (c':=λk=>jm (uE (l.set i s) k)) (n:=8) (i:=i) (j:=0) (vals:=jm s) (z:=3) (λ_=>fQ) hi qB (λk hk=>by
  grind[gu]) (by
  simp_all[uE,Zz])
 grind[aK]
end
abbrev Yn:Nm:=.u 1 0 0
def yA (p:Z0) (m:Zb):List AV:=[csl (qw p p.length),.hs (.c Yn 0 1) 1 0 p.length,iv m.left,iv m.en,.hs (.c Yn 0 4) 1 0 m.out.length,.hs (.c Yn 0 5) 2 0 m.trace.length]
def yB (m:Zb):List AV:=[.hs (.c Yn 0 30) 2 0 m.ZZ.length,.hs (.c Yn 0 31) 24 0 m.ZV.length]
def yZ (m:Zb) (h:Nat):List AV:=[iv h,iv m.deep,iv m.made,iv m.cells.length]
def zV (p:Z0) (m:Zb) (h:Nat) (c:Nat->List AV):List AV:=yA p m++(aK m.globals++(yB m++(cat c 151++yZ m h)))
def yfr (i:Nat) (f:Z8):List AV:=[iv f.Z1,iv f.pc,.hs (.c Yn 0 (32+29 * i+2)) 3 0 f.Z3.length,.hs (.c Yn 0 (32+29 * i+3)) 1 0 f.cells.length]++(aK f.names++[.hs (.c Yn 0 (32+29 * i+28)) 2 0 f.stack.length])
def yc (fs:List Z8) (J:Nat->List AV) (i:Nat):List AV:=match fs[i]? with|some f=>yfr i f|none=>J i
section
variable {p:Z0} {m:Zb} {h h' i j k x:Nat} {c c' J:Nat->List AV} {fs:List Z8} {f g:Z8} {s:Zt} {vals:List AV} {e:Int} {r:Nm->Option Nm}
@[simp] theorem yfr_len:(yfr i f).length=29:=by simp [yfr]
theorem kQ (hJ:∀ i,(J i).length=29) (i:Nat):(yc fs J i).length=29:=by
 unfold yc
 split<;>simp_all
theorem w8 (hc:∀ i,(c i).length=29):(zV p m h c).length=4415:=by simp [zV,yA,yB,yZ,fy hc]
@[simp] theorem R9:(zV p m h c)[0]?=some (csl (qw p p.length)):=rfl
@[simp] theorem Ua:(zV p m h c)[1]?=some (.hs (.c Yn 0 1) 1 0 p.length):=rfl
@[simp] theorem R8:(zV p m h c)[2]?=some (iv m.left):=rfl
@[simp] theorem R7:(zV p m h c)[3]?=some (iv m.en):=rfl
@[simp] theorem R6:(zV p m h c)[4]?=some (.hs (.c Yn 0 4) 1 0 m.out.length):=rfl
@[simp] theorem R5:(zV p m h c)[5]?=some (.hs (.c Yn 0 5) 2 0 m.trace.length):=rfl
theorem Cg {P X S:List AV} {q:Nat} (hq:q=P.length+k) (hk:k<X.length) (hR:zV p m h c=P++(X++S)):(zV p m h c)[q]?=X[k]?:=qj
theorem Ub {P X S:List AV} {q n:Nat} (hq:q=P.length+k) (hk:k+n<=X.length) (hR:zV p m h c=P++(X++S)):((zV p m h c).drop q).take n=(X.drop k).take n:=by grind[Fs]
theorem Cf {P X S:List AV} {q:Nat} (hq:q=P.length+k) (hk:k+vals.length<=X.length) (hR:zV p m h c=P++(X++S)):Zz (zV p m h c) q vals=P++(Zz X k vals++S):=by grind[nM]
theorem W7:zV p m h c=yA p m++(aK m.globals++(yB m++(cat c 151++yZ m h))):=rfl
theorem Ra:zV p m h c=(yA p m++aK m.globals)++(yB m++(cat c 151++yZ m h)):=by simp [zV]
theorem WY:zV p m h c=(yA p m++(aK m.globals++yB m))++(cat c 151++yZ m h):=by simp [zV]
theorem Km:zV p m h c=(yA p m++(aK m.globals++(yB m++cat c 151)))++(yZ m h++[]):=by simp [zV]
theorem Yc:(yA p m).length=6:=rfl
theorem W2:(yA p m++aK m.globals).length=30:=by simp [yA]
theorem Yb:(yA p m++(aK m.globals++yB m)).length=32:=by simp [yA,yB]
theorem ZH (hc:∀ i,(c i).length=29):(yA p m++(aK m.globals++(yB m++cat c 151))).length=4411:=by simp [yA,yB,fy hc]
@[simp] theorem SV:(zV p m h c)[30]?=some (.hs (.c Yn 0 30) 2 0 m.ZZ.length):=by rw [Cg (k:=0) (by rw [W2]) (by simp [yB]) Ra];rfl
@[simp] theorem SU:(zV p m h c)[31]?=some (.hs (.c Yn 0 31) 24 0 m.ZV.length):=by rw [Cg (k:=1) (by rw [W2]) (by simp [yB]) Ra];rfl
theorem lp (hc:∀ i,(c i).length=29):(zV p m h c)[4411]?=some (iv h):=by rw [Cg (k:=0) gZ gW Km];rfl
theorem Ci (hc:∀ i,(c i).length=29):(zV p m h c)[4412]?=some (iv m.deep):=by rw [Cg (k:=1) gZ gW Km];rfl
theorem Ch (hc:∀ i,(c i).length=29):(zV p m h c)[4413]?=some (iv m.made):=by rw [Cg (k:=2) gZ gW Km];rfl
theorem LD (hc:∀ i,(c i).length=29):(zV p m h c)[4414]?=some (iv m.cells.length):=by rw [Cg (k:=3) gZ gW Km];rfl
theorem U9 (hx:x<8) (hj:j<3):(zV p m h c)[6+(3 * x+j)]?=(jm (uE m.globals x))[j]?:=by
 rw [Cg (k:=3 * x+j) (by rw [Yc]) qc W7];exact Ib hx hj
theorem SO:((zV p m h c).drop 6).take 24=aK m.globals:=by
 rw [Ub (k:=0) (n:=24) (by rw [Yc]) qB W7]
 simp_all[b9]
theorem ZB (hc:∀ i,(c i).length=29) (hi:i<151) (hj:j<29):(zV p m h c)[32+(29 * i+j)]?=(c i)[j]?:=by
 rw [Cg (k:=29 * i+j) (by rw [Yb]) GZ WY]
 simp_all[Nj]
theorem W6 (hc:∀ i,(c i).length=29) (hi:i<151) (hj:j+k<=29):((zV p m h c).drop (32+(29 * i+j))).take k=((c i).drop j).take k:=by
 rw [Ub (k:=29 * i+j) (n:=k) (by rw [Yb]) GZ WY]
 simp_all[Nk]
theorem U6:Zz (zV p m h c) 2 [iv x]=zV p { m with left:=x } h c:=rfl
theorem U5:Zz (zV p m h c) 3 [iv e]=zV p { m with en:=e } h c:=rfl
theorem U4 {o:List Int}:Zz (zV p m h c) 4 [.hs (.c Yn 0 4) 1 0 o.length]=zV p { m with out:=o } h c:=rfl
theorem U3 {o:List (Nat×Nat)}:Zz (zV p m h c) 5 [.hs (.c Yn 0 5) 2 0 o.length]=zV p { m with trace:=o } h c:=rfl
theorem SQ {o:List (Nat×List Nat)}:Zz (zV p m h c) 30 [.hs (.c Yn 0 30) 2 0 o.length]=zV p { m with ZZ:=o } h c:=by
 rw [Cf (k:=0) (by rw [W2]) (by simp [yB]) Ra,Ra]
 rfl
theorem SP {o:List (List Zt)}:Zz (zV p m h c) 31 [.hs (.c Yn 0 31) 24 0 o.length]=zV p { m with ZV:=o } h c:=by
 rw [Cf (k:=1) (by rw [W2]) (by simp [yB]) Ra,Ra]
 rfl
theorem R3 (hc:∀ i,(c i).length=29):Zz (zV p m h c) 4411 [iv h']=zV p m h' c:=by
 rw [Cf (k:=0) gZ gW Km,Km]
 rfl
theorem U1 (hc:∀ i,(c i).length=29):Zz (zV p m h c) 4412 [iv x]=zV p { m with deep:=x } h c:=by
 rw [Cf (k:=1) gZ gW Km,Km]
 rfl
theorem UZ (hc:∀ i,(c i).length=29):Zz (zV p m h c) 4413 [iv x]=zV p { m with made:=x } h c:=by
 rw [Cf (k:=2) gZ gW Km,Km]
 rfl
theorem U2 (hc:∀ i,(c i).length=29) {o:List Zt}:Zz (zV p m h c) 4414 [iv o.length]=zV p { m with cells:=o } h c:=by
 rw [Cf (k:=3) gZ gW Km,Km]
 rfl
theorem U0 (hl:m.globals.length=8) (hx:x<8):Zz (zV p m h c) (6+3 * x) (jm s)=zV p { m with globals:=m.globals.set x s } h c:=by
 rw [Cf (k:=3 * x) (by rw [Yc]) qc W7,I9 hl hx]
 rfl
theorem Hc (hc:∀ i,(c i).length=29) (hi:i<151) (hj:j+vals.length<=29) (hk:∀ k,k≠i->c' k=c k) (hx:Zz (c i) j vals=c' i):Zz (zV p m h c) (32+(29 * i+j)) vals=zV p m h c':=by
 rw [Cf (k:=29 * i+j) (by rw [Yb]) GZ WY,Ni hc hi hj hk hx,WY]
theorem UY (hi:i<fs.length) (hk:k≠i):yc (fs.set i g) J k=yc fs J k:=by
 grind[yc]
theorem JC (hi:fs[i]?=some f):yc fs J i=yfr i f:=by simp [yc,hi]
theorem Hb (hJ:∀ i,(J i).length=29) (hf:fs[i]?=some f) (hi:i<151) (hj:j+vals.length<=29) (hx:Zz (yfr i f) j vals=yfr i g):Zz (zV p m h (yc fs J)) (32+(29 * i+j)) vals=zV p m h (yc (fs.set i g) J):=by
 grind[Hc,kQ,UY,JC]
end
def vN (l:List (Nat×List Nat)):List (List AV):=l.map λg=>[iv g.1,.sl 1 (zQ g.2)]
def uj (l:List (List Zt)):List (List AV):=l.map aK
def ve (p:Z0) (n:Nat):List (List AV):=(List.range n).map λb=>[isl (zt p b)]
section
variable {l:List (Nat×List Nat)} {cs:List (List Zt)} {i n:Nat} {r:Nm->Option Nm} {g:Nat×List Nat} {c:List Zt} {p:Z0}
@[simp] theorem fyRows_len:(vN l).length=l.length:=by simp [vN]
@[simp] theorem fyRows_getE {h:i<(vN l).length}:(vN l)[i]=[iv (l[i]' gL).1,.sl 1 (zQ (l[i]' gL).2)]:=by simp [vN]
@[simp] theorem KM (h:∀ i,r (En i)=some (En i)):(vN l).map (λy=>y.map (AV.tr r))=vN l:=by
 simp only [vN,xA];apply mz;intro g _;have:(zQ g.2).map (λy=>y.map (AV.tr r))=zQ g.2:=dF h;simp [AV.tr,nI,this]
@[simp] theorem fyRows_take {k:Nat}:(vN l).take k=vN (l.take k):=by simp [vN]
theorem KN:vN l++[[iv g.1,.sl 1 (zQ g.2)]]=vN (l++[g]):=by simp [vN]
@[simp] theorem fyRows_nil:vN []=[]:=rfl
@[simp] theorem cyRows_len:(uj cs).length=cs.length:=tP
@[simp] theorem cyRows_getE {h:i<(uj cs).length}:(uj cs)[i]=aK (cs[i]' gL):=tP
@[simp] theorem cyRows_tr:(uj cs).map (λy=>y.map (AV.tr r))=uj cs:=tP
@[simp] theorem cyRows_take {k:Nat}:(uj cs).take k=uj (cs.take k):=tP
theorem KX:uj cs++[aK c]=uj (cs++[c]):=tP
@[simp] theorem cyRows_nil:uj []=[]:=rfl
@[simp] theorem cpRows_len:(ve p n).length=n:=by simp [ve]
@[simp] theorem cpRows_getE {h:i<(ve p n).length}:(ve p n)[i]=[isl (zt p i)]:=by simp [ve]
@[simp] theorem cpRows_tr:(ve p n).map (λy=>y.map (AV.tr r))=ve p n:=by simp [ve]
theorem KY:ve p n++[[isl (zt p n)]]=ve p (n+1):=by simp [ve,HT]
@[simp] theorem cpRows_zero:ve p 0=[]:=rfl
end
section
variable {i n k:Nat} {f:Z8} {r:Nm->Option Nm} {p:Z0} {m:Zb} {h:Nat} {c:Nat->List AV}
theorem UX:Zz (yfr i f) 1 [iv n]=yfr i { f with pc:=n }:=rfl
theorem Kv {l:List Zd}:Zz (yfr i f) 28 [.hs (.c Yn 0 (32+29 * i+28)) 2 0 l.length]=yfr i { f with stack:=l }:=by
 have h1:(yfr i f).take 28=[iv f.Z1,iv f.pc,.hs (.c Yn 0 (32+29 * i+2)) 3 0 f.Z3.length,.hs (.c Yn 0 (32+29 * i+3)) 1 0 f.cells.length]++aK f.names:=by
  grind[yfr,Ia]
 simp_all[yfr,Zz]
theorem Kw {x:Nat} {s:Zt} (hl:f.names.length=8) (hx:x<8):Zz (yfr i f) (4+3 * x) (jm s)=yfr i { f with names:=f.names.set x s }:=by
 have h4:∀ a b d e:AV,[a,b,d,e].length=4:=λ_ _ _ _=>rfl;have:=nM (P:=[iv f.Z1,iv f.pc,.hs (.c Yn 0 (32+29 * i+2)) 3 0 f.Z3.length,.hs (.c Yn 0 (32+29 * i+3)) 1 0 f.cells.length]) (X:=aK f.names) (S:=[.hs (.c Yn 0 (32+29 * i+28)) 2 0 f.stack.length]) (k:=3 * x) (vals:=jm s) qc;rw [h4,I9 hl hx] at this;exact this
@[simp] theorem yfr_get0:(yfr i f)[0]?=some (iv f.Z1):=rfl
@[simp] theorem yfr_get1:(yfr i f)[1]?=some (iv f.pc):=rfl
@[simp] theorem yfr_get2:(yfr i f)[2]?=some (.hs (.c Yn 0 (32+29 * i+2)) 3 0 f.Z3.length):=rfl
@[simp] theorem yfr_get3:(yfr i f)[3]?=some (.hs (.c Yn 0 (32+29 * i+3)) 1 0 f.cells.length):=rfl
@[simp] theorem Kx:(yfr i f)[28]?=some (.hs (.c Yn 0 (32+29 * i+28)) 2 0 f.stack.length):=by
 simp_all[yfr]
theorem Ov {x j:Nat} (hx:x<8) (hj:j<3):(yfr i f)[4+(3 * x+j)]?=(jm (uE f.names x))[j]?:=by
 have:=Tl (P:=[iv f.Z1,iv f.pc,.hs (.c Yn 0 (32+29 * i+2)) 3 0 f.Z3.length,.hs (.c Yn 0 (32+29 * i+3)) 1 0 f.cells.length]) (X:=aK f.names) (S:=[.hs (.c Yn 0 (32+29 * i+28)) 2 0 f.stack.length]) (k:=3 * x+j) qc;rw [Ib hx hj] at this;exact this
theorem Ku:((yfr i f).drop 4).take 24=aK f.names:=by
 have:=Fs (P:=[iv f.Z1,iv f.pc,.hs (.c Yn 0 (32+29 * i+2)) 3 0 f.Z3.length,.hs (.c Yn 0 (32+29 * i+3)) 1 0 f.cells.length]) (X:=aK f.names) (S:=[.hs (.c Yn 0 (32+29 * i+28)) 2 0 f.stack.length]) (k:=0) (n:=24) qB;rw [List.drop_zero] at this;exact this.trans (b9 qB)
theorem SM (hr:∀ j,r (.c Yn 0 j)=some (.c Yn 0 j)):(yfr i f).map (AV.tr r)=yfr i f:=by simp [yfr,hr]
end
structure ZY (hp:Nm->Option AO) (p:Z0) (m:Zb):Prop where
 top:∃ J:Nat->List AV,(∀ i,(J i).length=29)/\hp Yn=some (.row 4415 [zV p m m.ZW.length (yc m.ZW J)])
 qAZ:hp (.c Yn 0 1)=some (.row 1 (ve p p.length))
 out:hp (.c Yn 0 4)=some (.row 1 (qT m.out))
 trc:hp (.c Yn 0 5)=some (.row 2 (yw m.trace))
 ZZ:hp (.c Yn 0 30)=some (.row 2 (vN m.ZZ))
 Zw:hp (.c Yn 0 31)=some (.row 24 (uj m.ZV))
 Z3:∀ (i:Nat) f,m.ZW[i]?=some f->hp (.c Yn 0 (32+29 * i+2))=some (.row 3 (qW f.Z3))
 cls:∀ (i:Nat) f,m.ZW[i]?=some f->hp (.c Yn 0 (32+29 * i+3))=some (.row 1 (zQ f.cells))
 stack:∀ (i:Nat) f,m.ZW[i]?=some f->∃ j,hp (.c Yn 0 (32+29 * i+28))=some (.row 2 (zn (f.stack++j)))
 cell:∀ (c:Nat) s,m.cells[c]?=some s->hp (En c)=some (.row 3 [jm s])
 only:∀ k i j,fM k=true->hp (.u k i j)≠none->(k=1/\i=0/\j=0)\/(k=7/\i<m.cells.length/\j=0)
section
variable {hp hp' H:Nm->Option AO} {p:Z0} {m m' m0:Zb}
theorem ZY.re (h:ZY hp p m)
  (h0:∀ J:Nat->List AV,(∀ i,(J i).length=29)->hp Yn=some (.row 4415 [zV p m m.ZW.length (yc m.ZW J)])->hp' Yn=some (.row 4415 [zV p m m.ZW.length (yc m.ZW J)]):=by intro J _ hJ;simp [hJ])
  (h1:hp' (.c Yn 0 1)=some (.row 1 (ve p p.length)):=by simp [h.qAZ])
  (h2:hp' (.c Yn 0 4)=some (.row 1 (qT m.out)):=by simp [h.out])
  (h3:hp' (.c Yn 0 5)=some (.row 2 (yw m.trace)):=by simp [h.trc])
  (h4:hp' (.c Yn 0 30)=some (.row 2 (vN m.ZZ)):=by simp [h.ZZ])
  (h5:hp' (.c Yn 0 31)=some (.row 24 (uj m.ZV)):=by simp [h.Zw])
  (h6:∀ (i:Nat) f,m.ZW[i]?=some f->hp (.c Yn 0 (32+29 * i+2))=some (.row 3 (qW f.Z3))->hp' (.c Yn 0 (32+29 * i+2))=some (.row 3 (qW f.Z3)):=by intro i f _ hf;simp [hf])
  (h7:∀ (i:Nat) f,m.ZW[i]?=some f->hp (.c Yn 0 (32+29 * i+3))=some (.row 1 (zQ f.cells))->hp' (.c Yn 0 (32+29 * i+3))=some (.row 1 (zQ f.cells)):=by intro i f _ hf;simp [hf])
  (h8:∀ (i:Nat) f j,m.ZW[i]?=some f->hp (.c Yn 0 (32+29 * i+28))=some (.row 2 (zn (f.stack++j)))->hp' (.c Yn 0 (32+29 * i+28))=some (.row 2 (zn (f.stack++j))):=by intro i f j _ hf;simp [hf])
  (h9:∀ (c:Nat) s,m.cells[c]?=some s->hp' (En c)=some (.row 3 [jm s]):=by intro c s hc;simp [h.cell c s hc])
  (hA:∀ k i j,fM k=true->¬ (k=1/\i=0/\j=0)->hp' (.u k i j)≠none->hp (.u k i j)≠none:=by intro k i j hk e hn;simpa [hk,e] using hn):ZY hp' p m :=
 ⟨by grind[top],h1,h2,h3,h4,h5,λi f hf=>h6 i f hf (h.Z3 i f hf),λi f hf=>h7 i f hf (h.cls i f hf),λi f hf=>(h.stack i f hf).imp λj hj=>h8 i f j hf hj,h9,
   λk i j hk hn=>if e:k=1/\i=0/\j=0 then .inl e else h.only k i j hk (hA k i j hk e hn)⟩
theorem ZY.Zn (h:ZY hp p m) {f:Nm->Option Nm} (hf:∀ k,DM k=true->f k=some k) (hh:∀ k,DM k=true->hp' k=(hp k).map (AO.tr f)):ZY hp' p m:=by
 have hE:∀ i,f (En i)=some (En i):=λi=>hf _ rfl;have hc:∀ j,f (.c Yn 0 j)=some (.c Yn 0 j):=λj=>hf _ rfl;refine⟨?_,?_,?_,?_,?_,?_,λi g hg=>?_,λi g hg=>?_,λi g hg=>(h.stack i g hg).imp λj hj=>?_,λc s hs=>?_,λk i j hk hn=>?_⟩
 .obtain⟨J,hJ,e⟩:=h.top;refine⟨λi=>(J i).map (AV.tr f),λi=>gI,?_⟩;rw [hh _ rfl,e]
  have h1:(cat (yc m.ZW J) 151).map (AV.tr f)=cat (yc m.ZW λi=>(J i).map (AV.tr f)) 151:=Ik λi _=>by
   unfold yc
   split<;>grind[SM]
  simp_all[zV,yA,yB,yZ]
 .rw [hh _ rfl,h.qAZ];simp
 .rw [hh _ rfl,h.out];simp
 .rw [hh _ rfl,h.trc];simp
 .rw [hh _ rfl,h.ZZ]
  simp_all
 .rw [hh _ rfl,h.Zw];simp
 .rw [hh _ rfl,h.Z3 i g hg];simp
 .rw [hh _ rfl,h.cls i g hg]
  simp_all
 .rw [hh _ rfl,hj];simp
 .rw [hh _ rfl,h.cell c s hs];simp
 .refine h.only k i j hk λe=>hn ?_
  simp_all
theorem ZY.sub (h:ZY hp p m) {D:Nm->Bool} (hD:∀ k,DM k=true->D k=true:=by intro m hm;first|exact hm|simp [hm]):ZY (vC D hp) p m:=by
 refine h.Zn (f:=some) (λ_ _=>rfl) (λk hk=>?_);rw [cL,if_pos (hD k hk)]
 cases hp k<;>grind[AO.Zr]
theorem ZY.ext (h0:ZY H p m0) (h:ZY hp p m) (hc:m0.cells.length<=m.cells.length):∀ k i j,(H (.u k i j)).isSome=true->DM (.u k i j)=false\/(vC DM hp) (.u k i j)≠none:=by
 intro k i j hs
 cases hD:fM k with
 | false=>simp_all
 | true =>
  right;have hd:DM (.u k i j)=true:=hD;rw [cL,if_pos hd];rcases h0.only k i j hD qj with⟨rfl,rfl,rfl⟩|⟨rfl,hi,rfl⟩
  .grind[top]
  .have hi':i<m.cells.length:=qA;rw [h.cell i _ (gE hi')];simp
end
section
variable {hp:Nm->Option AO} {p:Z0} {m:Zb} {n:Nm} {dp:Nat} {D:Nm->Bool} {sbs:List (Nm×Nm)}
theorem ZY.fin (h:ZY hp p m) (hD:∀ k,D k=true->k.Zi=false:=by exact λ_=>qN) (hW:∀ k,DM k=true->D k=true:=by exact λ_ h=>h) (hs:∀ q∈sbs,q.1.Zi=true:=by simp [Nm.Zi]):ZY (lQ D sbs hp) p m :=
 h.Zn (f:=jc D sbs) (λk hk=>ox hD (hW k hk) hs) (λk hk=>qH)
theorem Z2.fin (h:Z2 hp p n m dp) (hn:Nm.under Xn n=true\/n=.u 2 0 0) (hD:∀ k,D k=true->k.Zi=false:=by exact λ_=>zG) (hW:∀ k,D12 k=true->D k=true:=by exact λ_ h=>h) (hs:∀ q∈sbs,q.1.Zi=true:=by simp [Nm.Zi]):Z2 (lQ D sbs hp) p n m dp :=
 h.Zn hn (f:=jc D sbs) (λk hk=>ox hD (hW k hk) hs) (λk hk=>qH)
end
abbrev Txt:=List UInt8
end Go.Hm
end
