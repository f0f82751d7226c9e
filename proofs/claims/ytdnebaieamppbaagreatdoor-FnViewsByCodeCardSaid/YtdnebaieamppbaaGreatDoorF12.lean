import Derived.Test.YtdnebaieamppbaaGreatDoorF11
import Derived.Stop.Joined
set_option linter.unusedSimpArgs false
set_option linter.unusedVariables false
set_option maxRecDepth 100000
set_option maxHeartbeats 4000000

section
namespace Go.Hm
open Go Go.RowKit
def K0 (p:YU) (t:Nat×Nat):Option Y5:=match p[t.1]? with|some k=>k.body[t.2]?|none=>none
def TI (p:YU) (t:Nat×Nat):Int:=match K0 p t with|some s=>s.kind|none=>-1
def sV (p:YU) (d:Int) (tr:List (Nat×Nat)):Nat:=tr.countP λt=>TI p t==d
def Xr (p:YU) (x:Int):Prop:=∃ (b:Nat) (k:Y4),p[b]?=some k/\x∈k.bd/\qh p b x=-1
theorem Pw {p:YU} {d:Int} {l m:List (Nat×Nat)}:sV p d (l++m)=sV p d l+sV p d m:=by simp [sV]
theorem Pv {p:YU} {d:Int} {t:Nat×Nat}:sV p d [t]=if TI p t=d then 1 else 0:=by
 grind[sV]
structure Zw (p:YU) (a b c:Nat) (w w':YY):Prop where
 fns:w'.YT.length+sV p 3 w.trace=w.YT.length+sV p 3 w'.trace+a
 cls:w'.YP.length+sV p 4 w.trace<=w.YP.length+sV p 4 w'.trace+b
 out:w'.out.length+sV p 7 w.trace=w.out.length+sV p 7 w'.trace+c\/(w'.out.length+1+sV p 7 w.trace=w.out.length+sV p 7 w'.trace+c/\2<=w'.en/\w'.en<=4)
 tr:∀ t∈w'.trace,t∈w.trace\/(K0 p t).isSome=true
 Yd:∀ (x:Nat) v,w'.globals[x]?=some (some v)->(∃ u,w.globals[x]?=some (some u))\/Xr p x
theorem Zw.refl {p:YU} (w:YY):Zw p 0 0 0 w w:=⟨rfl,qp _,.inl rfl,λ_ h=>.inl h,λ_ v h=>.inl ⟨v,h⟩⟩
theorem Zw.en {p:YU} {c:Nat} {w:YY} {e:Int} (h:c=0\/(c=1/\2<=e/\e<=4)):Zw p 0 0 c w { w with en:=e }:=by
 constructor<;>grind
theorem Zw.trans {p:YU} {a b c a' b' c':Nat} {w w' w'':YY} (h:Zw p a b c w w') (h0:w'.en=0) (h':Zw p a' b' c' w' w''):Zw p (a+a') (b+b') (c+c') w w'':=by
 refine⟨?_,?_,?_,λt ht=>?_,λx v hx=>?_⟩
 .have:=h.fns;grind[fns]
 .have:=h.cls;have:=h'.cls;omega
 .rcases h.out with e|⟨_,e,_⟩<;>grind[out]
 .rcases h'.tr t ht with e|e
  .exact h.tr t e
  simp_all
 .rcases h'.Yd x v hx with⟨u,e⟩|e
  .exact h.Yd x u e
  simp_all
theorem P5 {p:YU} {b:Nat} {o:Int}:2<=ZO p b o/\ZO p b o<=4:=by grind[ZO]
theorem DB {p:YU} {w:YY} {a:Nat} {x:Int}:(jM p w a x).1=w\/∃ e,2<=e/\e<=4/\(jM p w a x).1={ w with en:=e }:=by
 unfold jM
 repeat' split
 all_goals simp_all[P5]
theorem JB {p:YU} {a:Nat}:∀ {l:List Int} {w:YY},(qf p w a l).1=w\/∃ e,2<=e/\e<=4/\(qf p w a l).1={ w with en:=e }
 := by intro x0;induction x0<;>grind[qf,DB]
section
variable {p:YU} {R:YY->Nat->YY×Y6} {n:Nat} {w:YY} {a b i:Nat} {x:Int} {vs:List Y6} {s:Y5} {v:Y6} {k:Y4}
theorem LR {u:Y6}:Zw p 0 0 0 w (a7 w v u).1:=by
 grind[a7,Zw.en,Zw.refl]
theorem N5:Zw p 0 0 0 w (wj w v x).1:=by
 grind[wj,Zw.refl,Zw.en]
theorem Gv {sl:Yj} (hx:0<=x) (hn:w.loc p a x=none->sl≠none->Xr p x):Zw p 0 0 0 w (w.set (w.loc p a x) x sl):=by
 obtain⟨e1,e2,e3,e4,e5,e6,e7⟩:=ag (w:=w) (l:=w.loc p a x) (x:=x) (s:=sl);refine⟨qH,qH,.inl qH,λt ht=>.inl qH,λy v hy=>?_⟩
 cases hl:w.loc p a x<;>grind[YY.set]
def sT (p:YU) (n:Nat) (R:YY->Nat->YY×Y6):Prop:=∀ (w:YY) (a:Nat),Yx p w->w.left<n->a<w.YR.length->w.en=0->Zw p 0 0 0 w (R w a).1
theorem Pq {w':YY} (h:Zw p 0 0 0 w w'):Zw p 0 0 0 w (xA w'):=by
 unfold xA
 split
 .exact⟨h.fns,h.cls,h.out,h.tr,h.Yd⟩
 .exact h
theorem tz (hL:sT p n R) (h:Yx p w) (hn:w.left<n) (h0:w.en=0) (hm:jG p w.YR b a) (hv:∀ v∈vs,ZQ w.YT.length w.YP.length v) (hr:Room 1 w):Zw p 0 0 0 w (qx p R w b a vs).1:=by
 have h1:=hL (qk p w b a vs) w.YR.length (kC h hm hv hr).1 hn gF h0;have h2:Zw p 0 0 0 w (R (qk p w b a vs) w.YR.length).1:=⟨h1.fns,h1.cls,h1.out,h1.tr,h1.Yd⟩;exact Pq h2
theorem My (hL:sT p n R) (h:Yx p w) (hn:w.left<n) (h0:w.en=0) (hv:∀ v∈vs,ZQ w.YT.length w.YP.length v) (hr:Room 1 w):Zw p 0 0 0 w (aQ p R w v vs).1:=by
 unfold aQ
 split
 .grind[Zw.en]
 .split
  .rename_i g hg
   split
   .grind[Zw.en]
   .exact tz hL h hn h0 (h.YT _ g hg) hv hr
  .exact .refl w
theorem J5 (hL:sT p n R) (h:Yx p w) (hn:w.left<n) (h0:w.en=0) (hm:jG p w.YR b a) (hr:Room 1 w):Zw p 0 1 0 w (wE p R w b a).1:=by
 have h1:=tz (vs:=[]) hL h hn h0 hm (λv hv=>cp) hr;have hc:=h1.cls;constructor<;>grind[wE,Zw.fns,Zw.out,Zw.tr,Zw.Yd]
theorem Gp (h:zP p (w.YS a) k s=true) (ha:a<w.YR.length) (e:s.kind=3\/s.kind=4):jG p w.YR s.a.toNat a:=by
 obtain⟨c,hc⟩:=gX ha
 grind[zP.made,jq,jG]
def one (b:Prop) [Decidable b]:Nat:=if b then 1 else 0
theorem KL (hL:sT p n R) (h:Yx p w) (hn:w.left<n) (h0:w.en=0) (ha:a<w.YR.length) (hs:zP p (w.YS a) k s=true) (hv:∀ v∈vs,ZQ w.YT.length w.YP.length v) (hr:Room 2 w) :
  Zw p (one (s.kind=3)) (one (s.kind=4)) 0 w (yL p R w a s vs).1:=by
 unfold yL
 split
 .grind[one,Zw.refl]
 .split
  .grind[one,LR]
  .split
   .constructor<;>grind[one]
   .rename_i e3
    split
    .rename_i e;simp only [one,e];exact J5 hL h hn h0 (Gp hs ha (.inr e)) (hr.mono qA)
    .rename_i e4;simp only [one,e3,e4,if_false]
     split
     .exact My hL h hn h0 (λv hv'=>hv v (List.mem_of_mem_tail hv')) (hr.mono qA)
     grind[N5,Zw.refl]
theorem PY (hh:zD p) (h:Yx p w) (ha:a<w.YR.length) (e:w.loc p a x=none):qh p (w.YS a) x=-1:=by
 grind[nj]
theorem Vi (hn:qBW k) (hs:s∈k.body) (h:s.qAX\/s.kind=11):s.to∈k.bd:=by
 have h1:=hn.Yw s hs
 grind[mem_sorted,Y4.bd,bB]
theorem Oc (hp:Y1 p) (hR:bW p n R) (hL:sT p n R) (h:Yx p w) (hn:w.left<n) (h0:w.en=0) (ha:a<w.YR.length) (hk:p[w.YS a]?=some k) (hsk:s∈k.body) (h8:¬ s.kind=8) (hr:Room 2 w) :
  Zw p (one (s.kind=3)) (one (s.kind=4)) (one (s.kind=7)) w (lh p R w a s):=by
 have hs:=hp.stm _ k hk s hsk;have hnm:=hp.names k (gM hk);have hx:=hnm.Yw s hsk;have hkd:=zP.kind hs;unfold lh
 split
 .grind[one,Zw.refl]
 .split
  .grind[one,fb,Gv,Zw.en]
  .rename_i e9 e11;obtain⟨hl1,hl2,_⟩:=kx (a:=a) (l:=s.reads) h;obtain⟨_,hvv⟩:=oQ hR h hn h0 ha hs hr;unfold jc at hvv ⊢;have hne0:¬ w.en≠0:=qA;rcases JB (p:=p) (w:=w) (a:=a) (l:=s.reads) with hl|⟨e,he1,he2,hl⟩
   .rw [hl] at hvv ⊢;rw [if_neg hne0] at hvv ⊢;have hw:=KL (s:=s) (vs:=(qf p w a s.reads).2) hL h hn h0 ha hs hl2 hr;by_cases e7:s.kind=7
    .constructor<;>grind[yL,one]
    .have o7:one (s.kind=7)=0:=by simp [one,e7]
     rw [o7]
     split
     .exact hw
     .rename_i he;have he0:(yL p R w a s (qf p w a s.reads).2).1.en=0:=qA
      try rw [if_neg e7]
      obtain⟨w1,hw1⟩:∃ w1,(yL p R w a s (qf p w a s.reads).2).1=w1:=⟨_,rfl⟩;have hok:=xQ hR h hn h0 ha hs hl2 hr;rw [hw1] at hw he0 hok ⊢;obtain⟨c,hc⟩:=gX ha;have hb1:=hok.1.grow.YS hc;have ha1:a<w1.YR.length:=ac ha hok.1.grow.Zl;have yF:s.qAX:=⟨hkd.1,qA⟩;refine hw.trans he0 (Gv (p:=p) (w:=w1) (a:=a) hx.1 (λhl _=>?_));have:=PY hp.Y9 hok.1.ok ha1 hl;rw [hb1] at this;exact⟨w.YS a,k,hk,Vi hnm hsk (.inl yF),this⟩
   grind[Y5.reads,qf,one,Zw.en]
theorem Gl {w':YY} {i:Nat} (hk:p[w.YS a]?=some k) (hi:k.body[i]?=some s) {x3 x4 x7:Nat} (h:Zw p x3 x4 x7 (zF w a i) w') (h3:x3=one (s.kind=3)) (h4:x4<=one (s.kind=4)) (h7:x7=one (s.kind=7)):Zw p 0 0 0 w w':=by
 have hst:K0 p (w.YS a,i)=some s:=by grind[K0]
 have hsk:TI p (w.YS a,i)=s.kind:=by grind[TI]
 have key:∀ d,sV p d (zF w a i).trace=sV p d w.trace+one (s.kind=d):=λd=>by
  grind[zF,one,sV]
 have k3:=key 3;have k4:=key 4;have k7:=key 7;obtain⟨f1,f2,f3,f4,f5⟩:=h;constructor<;>grind[zF]
theorem NZ (hp:Y1 p) (hR:bW p n R) (hL:sT p n R) {l:List Y5}:∀ {w:YY} {i:Nat},Yx p w->w.left<n+1->w.en=0->a<w.YR.length->p[w.YS a]?=some k->k.body.drop i=l->Zw p 0 0 0 w (uA p R a w i l).1:=by
 induction l with
 | nil=>intro w i _ _ _ _ _ _;exact .refl w
 | cons s l ih =>
  intro w i h hn h0 ha hk hd
  have hi:k.body[i]?=some s:=by
   have:=congrArg (·[0]?) hd
   grind
  have hd2:k.body.drop (i+1)=l:=by
   have:=congrArg (List.drop 1) hd
   grind[List.drop_drop]
  have hsk:=gM hi;simp only [uA]
  split
  .grind[Zw.en]
  .rename_i hl;obtain⟨t1,t2⟩:=fA (a:=a) (i:=i) h hl;have tn:(zF w a i).left<n:=rF
   split
   .rename_i e8;have e3:¬ s.kind=3:=qA;have e7:¬ s.kind=7:=qA;refine Gl hk hi (x3:=0) (x4:=0) (x7:=0) ?_ (by simp [one,e3]) qA (by simp [one,e7])
    grind[DB,Zw.refl,Zw.en]
   .rename_i e8;have hst:=Oc hp hR hL t1 tn h0 ha hk hsk e8 t2;have hok:=lg hR t1 tn h0 ha (hp.stm _ k hk s hsk) t2;have hT:=Gl hk hi hst rfl (qp _) rfl
    split
    .exact hT
    .rename_i he;have he0:(lh p R (zF w a i) a s).en=0:=qA;have hA:=hok.tick hl;obtain⟨c,hc⟩:=gX ha;have hb:=hA.grow.YS hc;exact hT.trans he0 (ih hA.ok An he0 (ac ha hA.grow.Zl) qH hd2)
end
theorem HA {p:YU} (hp:Y1 p):∀ n,sT p n (jv p n)
 | 0=>λw a _ h=>absurd h qA
 | n+1=>by
  intro w a h hn ha h0;obtain⟨c,hc⟩:=gX ha;have hb:=h.Zs a c hc;obtain⟨k,hk⟩:=gX hb;simp only [jv];rw [jq hc,hk];exact NZ hp (aC hp n) (HA hp n) (k:=k) h hn h0 ha mX rfl
theorem Iu {p:YU} (hp:Y1 p) {f:Nat} (hf:f<=150):Zw p 0 0 0 (zg f) (ji p f) :=
 HA hp 151 (zg f) 0 (b6 hp hf) mS ce rfl
section
variable {X:Ctx} {st:St} {K:St->Prop} {E:AV->St->Prop} {d f:Nat} {ty:TypeId} {pos:String} {aft:Array Edge} {g:Option (Nat×Bool)} {args:Array Operand} {Ts:Array TypeId} {az:List AV} {R:Nm->AV->(Nm->Option AO)->Prop}
theorem vS (h1:(st.hp (.u 1 0 0)).isSome=true) (h2:(st.hp (.u 2 0 0)).isSome=true) (hd:d<X.n:=by first|(simp;done)|fail) (ha:args.toList.map (ev st)=az:=by simp [fx];first|done|rfl)
  (hF:Yc X.P X.gl f ZK az (yb ZK st.hp) R Yz) (h:∀ y H',R (.s d) y H'->K ((st.call d ZK (yb ZK st.hp) H').put (some d) y)) :
  qO X ⟨some d,.call ⟨.value (.func f),args,Ts⟩,ty,pos,aft,g⟩ K E st:=by
 refine iV (az:=az) ZK (λn h=>zi h) (λk i j he=>?_) hd ha hF h
 simp_all<;>grind
end
structure Yl (p:YU):Prop where
 sh:Y1 p
 pm:∀ (b:Nat) k,p[b]?=some k->∀ x∈k.params,qh p b x=b
theorem Yl.of {p:YU} (hs:Zm p) (h:vL p=true):Yl p:=by
 simp only [vL,uR] at h;have hp:=Y1.of hs h.1;refine⟨hp,λb k hk x hx=>?_⟩;have hkm:=gM hk;have hxr:=(hp.names k hkm).params x hx
 have hb0:0<b:=by
  cases b with
  | zero =>
   have:=hp.head 0 k hk
   grind
  | succ b=>omega
 have hd:=uB.1 h.2 b (BW.2 (gS hk).1);have hbn:(b==0)=false:=qv;rw [hbn,Bool.false_or] at hd;simp only [vJ,hk] at hd;have hdx:=uB.1 hd x.toNat (BW.2 qA)
 grind[ux,Y4.bd,mem_sorted,bB,tU,qr]
def aZ (p:YU) (w:YY) (b up:Nat) (vs:List Y6) (i:Nat):YY :=
 { w with YR:=w.YR++[⟨b,up,ef ((match p[b]? with|some k=>k.params|none=>[]).take i) (vs.take i)⟩],stack:=w.stack++[w.YR.length] }
theorem QN {p:YU} {w:YY} {b up i:Nat} {vs:List Y6} (hi:fH p b<=i) (hv:vs.length<=i):aZ p w b up vs i=qk p w b up vs:=by
 grind[aZ,qk,fH,bC]
theorem N4 {p:YU} {w:YY} {b up i:Nat} {vs:List Y6} (h:Yx p w) (hm:jG p w.YR b up) (hv:∀ v∈vs,ZQ w.YT.length w.YP.length v) (hr:Room 1 w):Yx p (aZ p w b up vs i):=by
 have h0:=(kC h hm hv hr).1
 have key:∀ (j:Nat) a,(aZ p w b up vs i).YR[j]?=some a->∃ a',(qk p w b up vs).YR[j]?=some a'/\a'.YS=a.YS/\a'.up=a.up/\(a.vars=a'.vars\/SOk w.YT.length w.YP.length a.vars):=by
  grind[aZ,qk,Hx]
 have mk:∀ {c j:Nat},jG p (qk p w b up vs).YR c j->jG p (aZ p w b up vs i).YR c j:=by
  rintro c j ⟨a,k,h1,h2,h3,h4⟩;have hj:=(gS h1).1;obtain⟨a',ha'⟩:∃ a',(aZ p w b up vs i).YR[j]?=some a':=⟨_,gE (by grind[aZ,qk])⟩;obtain⟨a2,e1,e2,_⟩:=key j a' ha';rw [h1] at e1;obtain rfl:=sI e1;exact⟨a',k,ha',h2,qA,h4⟩
 refine⟨?_,λj a ha=>?_,λj a ha=>?_,λj a ha hj=>?_,h0.Yd,λj g hg=>mk (h0.YT j g hg),h0.cls,λj hj=>by simpa [aZ,qk] using h0.Z7 j hj,by simpa [aZ,qk] using h0.Zd,h0.Zi,h0.qAK,h0.qAJ,h0.ntr,by simpa [aZ,qk] using h0.qAk,h0.qAu,h0.enr⟩
 .grind[Yx.a0,aZ]
 .obtain⟨a',e1,e2,e3,e4⟩:=key j a ha;rcases e4 with e4|e4
  .rw [e4];exact h0.vars j a' e1
  .exact e4
 .obtain⟨a',e1,e2,e3,e4⟩:=key j a ha;rw [<- e2];exact h0.Zs j a' e1
 .obtain⟨a',e1,e2,e3,e4⟩:=key j a ha;obtain⟨f1,f2⟩:=h0.up j a' e1 hj
  simp_all
theorem Jb {p:YU} {w:YY} {b up i:Nat} {k:Y4} {x:Int} {v:Y6} {vs:List Y6} (hp:Yl p) (hk:p[b]?=some k) (hx:k.params[i]?=some x) (hv:vs[i]?=some v):b5 p (aZ p w b up vs i) w.YR.length x v=aZ p w b up vs (i+1):=by
 have hat:(aZ p w b up vs i).YR[w.YR.length]?=some ⟨b,up,ef (k.params.take i) (vs.take i)⟩:=by simp [aZ,hk]
 have ho:=hp.pm b k hk x (gM hx)
 have hloc:(aZ p w b up vs i).loc p w.YR.length x=some w.YR.length:=by
  simp_all[YY.loc,jq,jF]
 have hi:=(gS hx).1;have hj:=(gS hv).1
 have ht:ef (k.params.take (i+1)) (vs.take (i+1))=(ef (k.params.take i) (vs.take i)).set x.toNat (some v):=by
  unfold ef;rw [dN,dN,hx,hv];simp only [Option.toList_some];rw [List.zip_append qv];simp
 unfold b5;rw [hloc];simp only [YY.set,aZ,hk];rw [ht]
 congr 1
 apply aW
 grind
theorem jG.shape {p:YU} {YR:List Act} {b i:Nat} (h:jG p YR b i):∃ k,p[b]?=some k/\fH p b=k.params.length:=by
 grind[fH,jG]
def wR (p:YU) (f:Int):Bool:=vL p&&(decide (0<=f)&&decide (f<=150))
structure Rsl where
 out:List Int
 en:Int
 left:Int
 gl:List Int
def Rsl.own (n:Nm) (r:Rsl):List AV:=[.hs (.c n 0 0) 1 0 r.out.length,iv r.en,iv r.left,.hs (.c n 0 3) 1 0 r.gl.length]
@[simp] theorem Rsl.qA6 {n:Nm} {r:Rsl}:r.own n=[.hs (.c n 0 0) 1 0 r.out.length,iv r.en,iv r.left,.hs (.c n 0 3) 1 0 r.gl.length]:=rfl
structure qBH (p:YU) (f:Nat) (w:YY):Prop where
 ok:Yx p w
 led:Zw p 0 0 0 (zg f) w
 grow:Grow 0 (zg f) w
theorem Es {p:YU} (hp:Y1 p) {f:Nat} (hf:f<=150):qBH p f (ji p f) :=
 ⟨(iy hp hf).ok,Iu hp hf,(iy hp hf).grow⟩
theorem qBH.tr {p:YU} {f:Nat} {w:YY} (h:qBH p f w):w.trace.length+w.left=f:=by
 have:=h.grow.ntr
 grind[zg]
theorem eF {p:YU} {f:Int} (h:wR p f=true):vL p=true/\∃ n:Nat,f=n/\n<=150:=by
 simp only [wR,uR,decide_eq_true_eq] at h;exact⟨h.1,f.toNat,qA,qA⟩
section
variable {n:Nm} {len i j:Nat} {f:Nm->Option Nm} {q:Int}
@[simp] theorem CP (h:∀ j,f (.c n j 0)=some (.c n j 0)):(wK n len i).map (λr=>r.map (AV.tr f))=wK n len i:=im λj _=>h j
@[simp] theorem HI (h:∀ j,f (.c n j 0)=some (.c n j 0)):(sU n q).tr f=sU n q:=lv λ_=>h _
end
@[simp] theorem Ty {P:Program} {T:TypeId} {hp:Nm->Option AO} {n:Nm} {z q len:Nat} {lo hi:Option Int}:sY P T hp (.hs n z q len) lo hi=match Zx P T with
  | some e=>if z=Yh P e/\0<=lo.getD 0/\lo.getD 0<=hi.getD len/\(hi.getD len<=len\/q+(hi.getD len).toNat<=ft hp n z) then some (.hs n z (q+(lo.getD 0).toNat) ((hi.getD len).toNat - (lo.getD 0).toNat)) else none
  | none=>none:=rfl
def fM (k:Nat):Bool:=k==1||k==7||k==8
def DM:Nm->Bool:=Du fM
def DM2 (n:Nm):Bool:=DM n||Nm.under (.u 2 0 0) n
section
variable {n:Nm} {k i j d:Nat}
@[simp] theorem DM_s:DM (.s d)=false:=rfl
@[simp] theorem YL:DM (.u k i j)=fM k:=rfl
@[simp] theorem YM:DM (.c n i j)=DM n:=rfl
@[simp] theorem fM_1:fM 1=true:=rfl
@[simp] theorem fM_2:fM 2=false:=rfl
@[simp] theorem fM_7:fM 7=true:=rfl
@[simp] theorem fM_8:fM 8=true:=rfl
@[simp] theorem VW:DM2 n=(DM n||Nm.under (.u 2 0 0) n):=rfl
theorem qJ {n:Nm} (h:DM n=true):n.Y3=false:=Nl h
theorem bE {n:Nm} (h:DM2 n=true):n.Y3=false:=by
 simp only [DM2,Jh] at h;rcases h with h|h
 .exact qJ h
 .exact qZ rfl h
theorem xL (h:DM n=true):Nm.under (.s d) n=false:=by
 cases hx:Nm.under (.s d) n with
 | false=>rfl
 | true=>rw [DM,Jn hx] at h;cases h
end
section
variable {l m:List Nat} {i:Nat} {f:Nm->Option Nm}
@[simp] theorem erows_len:(zC l).length=l.length:=iL
@[simp] theorem DZ:(zC l)[i]?=(l[i]?).map λi=>[ptE i]:=iL
theorem Mb:zC l++zC m=zC (l++m):=iL
theorem JV:zC l++[[ptE i]]=zC (l++[i]):=iL
@[simp] theorem erows_take {n:Nat}:(zC l).take n=zC (l.take n):=iL
@[simp] theorem bt (h:∀ i,f (En i)=some (En i)):(zC l).map (λr=>r.map (AV.tr f))=zC l:=by
 simp_all[zC]
end
theorem fO {l:List Nat} {f:Nm->Option Nm} (h:∀ i∈l,f (En i)=some (En i)):(zC l).map (λr=>r.map (AV.tr f))=zC l:=by
 simp_all[zC]
def Mk (F:Nat) (p:YU) (k:Nat) (g:Nat×Nat):List AV:=[iv (fH p g.1),.fn (.func F) [] [.pt (.u 8 k 0) 0,.pt (.u 8 k 1) 0,.pt (.u 8 k 2) 0,.pt (.u 8 k 3) 0]]
def yy (F:Nat) (p:YU) (gs:List (Nat×Nat)):List (List AV):=gs.mapIdx λk g=>Mk F p k g
def yx (n:Nm) (cs:List (List Yj)):List (List AV):=cs.mapIdx λk _=>[.mp (.c n (k+1) 9)]
section
variable {F:Nat} {p:YU} {gs:List (Nat×Nat)} {g:Nat×Nat} {cs:List (List Yj)} {c:List Yj} {n m:Nm} {i:Nat} {f:Nm->Option Nm}
@[simp] theorem cloRows_len:(yy F p gs).length=gs.length:=by simp [yy]
@[simp] theorem pj:(yy F p gs)[i]?=(gs[i]?).map λg=>Mk F p i g:=by simp [yy]
@[simp] theorem cloRows_getE {h:i<(yy F p gs).length}:(yy F p gs)[i]=Mk F p i (gs[i]' qH):=by simp [yy]
theorem FN:yy F p gs++[Mk F p gs.length g]=yy F p (gs++[g]):=by simp [yy]
@[simp] theorem cloRows_fix (h:∀ k j,f (.u 8 k j)=some (.u 8 k j)):(yy F p gs).map (λr=>r.map (AV.tr f))=yy F p gs:=by
 apply aW;intro j;rw [kU,pj]
 cases hj:gs[j]?<;>simp_all[Mk]
@[simp] theorem cmpRows_len:(yx n cs).length=cs.length:=by simp [yx]
@[simp] theorem FH:(yx n cs)[i]?=(cs[i]?).map λ_=>[AV.mp (.c n (i+1) 9)]:=by simp [yx]
@[simp] theorem cmpRows_getE {h:i<(yx n cs).length}:(yx n cs)[i]=[AV.mp (.c n (i+1) 9)]:=by simp [yx]
theorem FJ:yx n cs++[[.mp (.c n (cs.length+1) 9)]]=yx n (cs++[c]):=by simp [yx]
theorem pi {g:List AV->List AV} (h:∀ (i:Nat) c,cs[i]?=some c->g [.mp (.c n (i+1) 9)]=[.mp (.c m (i+1) 9)]):(yx n cs).map g=yx m cs:=by
 apply aW
 grind[FH]
@[simp] theorem FI (h:∀ i,f (.c n (i+1) 9)=some (.c n (i+1) 9)):(yx n cs).map (λr=>r.map (AV.tr f))=yx n cs:=pi λi c _=>by simp [h i]
end
def uF (p:YU) (w:YY):List AV:=[ZY p,.hs (.c Mn 0 1) 1 0 p.length,iv w.left,iv w.en,.hs (.c Mn 0 4) 1 0 w.out.length,.hs (.c Mn 0 5) 2 0 w.trace.length,ptE 0,.hs (.c Mn 0 7) 1 0 w.stack.length,.hs (.c Mn 0 8) 2 0 w.YT.length,.hs (.c Mn 0 9) 1 0 w.YP.length]
def yE (i:Nat) (a:Act):List AV:=[iv a.YS,.mp (.c (En i) 0 1),if i=0 then Bb else ptE a.up]
@[simp] theorem envRow_len {i:Nat} {a:Act}:(yE i a).length=3:=rfl
@[simp] theorem envRow_fix {i:Nat} {a:Act} {f:Nm->Option Nm} (h1:f (.c (En i) 0 1)=some (.c (En i) 0 1)) (h2:∀ j,f (En j)=some (En j)):(yE i a).map (AV.tr f)=yE i a:=by
 by_cases e:i=0<;>simp_all[yE]
def YY.Z4 (w:YY) (i:Nat):List Yj:=if i=0 then w.globals else match w.YR[i]? with|some a=>a.vars|none=>[]
structure YX (hp:Nm->Option AO) (F:Nat) (p:YU) (w:YY):Prop where
 top:hp Mn=some (.row 10 [uF p w])
 scs:qAf hp (.c Mn 0 1) p p.length
 out:hp (.c Mn 0 4)=some (.row 1 (qS w.out))
 Zb:hp (.c Mn 0 5)=some (.row 2 (vv w.trace))
 run:∃ l,(∀ i∈l,i<w.YR.length)/\hp (.c Mn 0 7)=some (.row 1 (zC (w.stack++l)))
 YT:hp (.c Mn 0 8)=some (.row 2 (yy F p w.YT))
 bx:∀ (k:Nat) g,w.YT[k]?=some g->hp (.u 8 k 0)=some (.row 1 [[iv g.1]])/\hp (.u 8 k 1)=some (.row 1 [[ptE g.2]])/\hp (.u 8 k 2)=some (.row 1 [[ZD (match p[g.1]? with|some b=>b.params|none=>[])]])/\hp (.u 8 k 3)=some (.row 1 [[.pt Mn 0]])
 Yt:hp (.c Mn 0 9)=some (.row 1 (yx Mn w.YP))
 cls:∀ (k:Nat) c,w.YP[k]?=some c->∃ ms,hp (.c Mn (k+1) 9)=some (.map (kL ms))/\ZZ ms c
 env:∀ (i:Nat) a,w.YR[i]?=some a->hp (En i)=some (.row 3 [yE i a])
 Z4:∀ (i:Nat),i<w.YR.length->∃ ms,hp (.c (En i) 0 1)=some (.map (kL ms))/\ZZ ms (w.Z4 i)
 only:∀ k i j,fM k=true->hp (.u k i j)≠none->(k=1/\i=0/\j=0)\/(k=7/\i<w.YR.length/\j=0)\/(k=8/\i<w.YT.length/\j<4)
def A0:Option Nat->Nat
 | none=>0
 | some i=>i
theorem AF {p:YU} {w:YY} {a:Nat} {x:Int} (hh:zD p) (hw:Yx p w) (ha:a<w.YR.length):w.Z4 (A0 (w.loc p a x))=w.vars (w.loc p a x)/\A0 (w.loc p a x)<w.YR.length:=by
 obtain⟨a0,h0,hb0⟩:=hw.a0;have hl0:=(gS h0).1;rcases nj (x:=x) hh hw ha with⟨h1,h2⟩|⟨o,i,c,ho,h1,h2,h3,h4,h5,_⟩<;>grind[YY.Z4,A0,YY.vars]
theorem YX.hp' {hp hp':Nm->Option AO} {F:Nat} {p:YU} {w:YY} (h:YX hp F p w) {f:Nm->Option Nm} (hf:∀ m,DM m=true->f m=some m) (hh:∀ m,DM m=true->hp' m=(hp m).map (AO.tr f)):YX hp' F p w:=by
 have hE:∀ i,f (En i)=some (En i):=λi=>hf _ rfl;have h8:∀ k j,f (.u 8 k j)=some (.u 8 k j):=λk j=>hf _ rfl;have hc:∀ j,f (.c Mn 0 j)=some (.c Mn 0 j):=λj=>hf _ rfl;refine⟨?_,⟨?_,λj k hj hk=>?_⟩,?_,?_,h.run.imp λl hl=>⟨hl.1,?_⟩,?_,λk g hg=>?_,?_,λk c hc'=>?_,λi a ha=>?_,λi hi=>?_,λk i j hk hn=>?_⟩
 .rw [hh _ rfl,h.top];simp_all[uF]
 .rw [hh _ rfl,h.scs.top];simp only [bU,AO.tr];rw [CP λj=>hf _ rfl]
 .rw [hh _ rfl,h.scs.sc j k hj hk];simp only [bU,AO.tr,dT,sH,o8];rw [HI λj=>hf _ rfl]
 .rw [hh _ rfl,h.out];simp
 .rw [hh _ rfl,h.Zb];simp
 .rw [hh _ rfl,hl.2]
  simp_all
 .rw [hh _ rfl,h.YT]
  simp_all
 .obtain⟨a1,a2,a3,a4⟩:=h.bx k g hg;refine⟨?_,?_,?_,?_⟩
  .rw [hh _ rfl,a1];simp
  .rw [hh _ rfl,a2];simp_all
  .rw [hh _ rfl,a3];simp
  .rw [hh _ rfl,a4];simp [AO.tr,hf Mn rfl]
 .rw [hh _ rfl,h.Yt];simp only [bU,AO.tr];rw [FI λi=>hf _ rfl]
 .obtain⟨ms,a1,a2⟩:=h.cls k c hc';exact⟨ms,by rw [hh _ rfl,a1];simp,a2⟩
 .rw [hh _ rfl,h.env i a ha];have h1:=hf (.c (En i) 0 1) rfl
  simp_all
 .obtain⟨ms,a1,a2⟩:=h.Z4 i hi;exact⟨ms,by rw [hh _ rfl,a1];simp,a2⟩
 .refine h.only k i j hk λe=>hn ?_
  simp_all
theorem YX.fin {hp:Nm->Option AO} {F:Nat} {p:YU} {w:YY} {D:Nm->Bool} {sbs:List (Nm×Nm)} (h:YX hp F p w) (hD:∀ m,D m=true->m.Y3=false:=by first|exact λ_=>qJ|exact λ_=>bE) (hW:∀ m,DM m=true->D m=true:=by intro m hm;first|exact hm|simp [hm]) (hs:∀ q∈sbs,q.1.Y3=true:=by simp [Nm.Y3]):YX (lO D sbs hp) F p w :=
 h.hp' (f:=jY D sbs) (λm hm=>pa hD (hW m hm) hs) (λm hm=>qH)
theorem YX.re {hp hp':Nm->Option AO} {F:Nat} {p:YU} {w:YY} (om:YX hp F p w)
  (h0:hp' Mn=some (.row 10 [uF p w]):=by simp [om.top,uF])
  (h1:hp' (.c Mn 0 1)=some (.row 1 (wK (.c Mn 0 1) p.length p.length)):=by simp [om.scs.top])
  (h2:∀ (j:Nat) k,j<p.length->p[j]?=some k->hp' (.c (.c Mn 0 1) j 0)=some (.row 43 [qi j k (sU (.c Mn 0 1) k.parent) k.params]):=by intro j k hj hk;simp [om.scs.sc j k hj hk])
  (h3:hp' (.c Mn 0 4)=some (.row 1 (qS w.out)):=by simp [om.out])
  (h4:hp' (.c Mn 0 5)=some (.row 2 (vv w.trace)):=by simp [om.Zb])
  (h5:∀ l,hp (.c Mn 0 7)=some (.row 1 (zC (w.stack++l)))->hp' (.c Mn 0 7)=some (.row 1 (zC (w.stack++l))):=by intro l hl;simp [hl])
  (h6:hp' (.c Mn 0 8)=some (.row 2 (yy F p w.YT)):=by simp [om.YT])
  (h7:∀ (k:Nat) g,w.YT[k]?=some g->hp' (.u 8 k 0)=some (.row 1 [[iv g.1]])/\hp' (.u 8 k 1)=some (.row 1 [[ptE g.2]])/\hp' (.u 8 k 2)=some (.row 1 [[ZD (match p[g.1]? with|some b=>b.params|none=>[])]])/\hp' (.u 8 k 3)=some (.row 1 [[.pt Mn 0]]):=by intro k g hg;simp [om.bx k g hg])
  (h8:hp' (.c Mn 0 9)=some (.row 1 (yx Mn w.YP)):=by simp [om.Yt])
  (h9:∀ (k:Nat) ms,hp (.c Mn (k+1) 9)=some (.map (kL ms))->hp' (.c Mn (k+1) 9)=some (.map (kL ms)):=by intro k ms hm;simp [hm])
  (hA:∀ (i:Nat) a,w.YR[i]?=some a->hp' (En i)=some (.row 3 [yE i a]):=by intro i a ha;simp [om.env i a ha])
  (hB:∀ (i:Nat) ms,i<w.YR.length->hp (.c (En i) 0 1)=some (.map (kL ms))->hp' (.c (En i) 0 1)=some (.map (kL ms)):=by intro i ms hi hm;simp [hm])
  (hC:∀ k i j,fM k=true->¬ (k=1/\i=0/\j=0)->hp' (.u k i j)≠none->hp (.u k i j)≠none:=by intro k i j hk e hn;simpa [hk,e] using hn):YX hp' F p w :=
 ⟨h0,⟨h1,h2⟩,h3,h4,om.run.imp λl hl=>⟨hl.1,h5 l hl.2⟩,h6,h7,h8,λk c hc=>(om.cls k c hc).imp λms hm=>⟨h9 k ms hm.1,hm.2⟩,hA,λi hi=>(om.Z4 i hi).imp λms hm=>⟨hB i ms hi hm.1,hm.2⟩,λk i j hk hn=>if e:k=1/\i=0/\j=0 then .inl e else om.only k i j hk (hC k i j hk e hn)⟩
theorem YX.ext {H hp:Nm->Option AO} {F:Nat} {p:YU} {w0 w:YY} (h0:YX H F p w0) (h:YX hp F p w) (ha:w0.YR.length<=w.YR.length) (hf:w0.YT.length<=w.YT.length):∀ k i j,(H (.u k i j)).isSome=true->DM (.u k i j)=false\/(yb DM hp) (.u k i j)≠none:=by
 intro k i j hs
 cases hD:fM k with
 | false=>simp_all
 | true =>
  right;have hd:DM (.u k i j)=true:=hD;rw [bQ,if_pos hd];rcases h0.only k i j hD qe with⟨rfl,rfl,rfl⟩|⟨rfl,hi,rfl⟩|⟨rfl,hi,hj⟩
  .rw [h.top];simp
  .obtain⟨a,ha'⟩:∃ a,w.YR[i]?=some a:=⟨_,gE qA⟩;rw [h.env i a ha'];simp
  .obtain⟨g,hg⟩:∃ g,w.YT[i]?=some g:=⟨_,gE qA⟩;obtain⟨a1,a2,a3,a4⟩:=h.bx i g hg
   grind
theorem YX.qCu {H hp:Nm->Option AO} {F:Nat} {p:YU} {w0 w:YY} (h0:YX H F p w0) (h:YX hp F p w) (ha:w0.YR.length<=w.YR.length) (hf:w0.YT.length<=w.YT.length) (h2:(hp (.u 2 0 0)).isSome=true):∀ k i j,(H (.u k i j)).isSome=true->DM2 (.u k i j)=false\/(yb DM2 hp) (.u k i j)≠none:=by
 intro k i j hs;by_cases e:Nm.under (.u 2 0 0) (.u k i j)=true
 .simp_all<;>grind
 .simp only [a8] at e;rcases h0.ext h ha hf k i j hs with h1|h1<;>grind[VW,bQ]
section
variable {X:Ctx} {st:St} {K:St->Prop} {E:AV->St->Prop} {d f:Nat} {ty:TypeId} {pos:String} {aft:Array Edge} {g:Option (Nat×Bool)} {args:Array Operand} {Ts:Array TypeId} {az:List AV} {R:Nm->AV->(Nm->Option AO)->Prop}
theorem sx (hext:∀ k i j,X.ext (.u k i j)=true->DM (.u k i j)=false\/(yb DM st.hp) (.u k i j)≠none) (hd:d<X.n:=by first|(simp;done)|fail) (ha:args.toList.map (ev st)=az:=by simp [fx];first|done|rfl)
  (hF:Yc X.P X.gl f DM az (yb DM st.hp) R Yz) (h:∀ y H',R (.s d) y H'->K ((st.call d DM (yb DM st.hp) H').put (some d) y)) :
  qO X ⟨some d,.call ⟨.value (.func f),args,Ts⟩,ty,pos,aft,g⟩ K E st:=iV DM (λ_=>qJ) hext hd ha hF h
end
@[simp] theorem lok_mp {P:Program} {T:TypeId} {hp:Nm->Option AO} {m:Nm} {k':IntKind} {n:Int} {ok:Bool}:Iz P T hp (.mp m) (.sc (.int k' n)) ok=match lf P T with
  | some q=>if k'=q.1 then (match hp m with
   | some (.map es)=>if bO q.1 es then (match ED q.1 n es with
    | some y=>some (if ok then .Zg [y,.sc (.bool true)] else y)
    | none=>(bY P q.2).map (λz=>if ok then .Zg [z,.sc (.bool false)] else z)) else none
   | _=>none) else none
  | none=>none:=by
 unfold Iz
 cases lf P T with
 | none=>rfl
 | some q=>rfl
theorem YX.sub {hp:Nm->Option AO} {F:Nat} {p:YU} {w:YY} (h:YX hp F p w) {D:Nm->Bool} (hD:∀ m,DM m=true->D m=true:=by intro m hm;first|exact hm|simp [hm]):YX (yb D hp) F p w:=by
 refine h.hp' (f:=some) (λ_ _=>rfl) (λm hm=>?_);rw [bQ,if_pos (hD m hm)]
 cases hp m<;>grind[AO.Yg]
theorem ZZ.get' {ms:IC} {w:YY} {l:Option Nat} {x:Int} (h:ZZ ms (w.vars l)) (hx:0<=x/\x<=7):lk x ms=w.get l x:=by
 rw [h.at hx]
 grind[YY.get]
theorem xy {hp hp':Nm->Option AO} {F:Nat} {p:YU} {w:YY} {a x:Nat} {s:Yj} {l:Option Nat} (hh:zD p) (hw:Yx p w) (ha:a<w.YR.length) (hx:x<8) (hl:w.loc p a x=l) (hnm:w.Z4 (A0 (w.loc p a x))=w.vars (w.loc p a x)) (h:YX hp F p w) {ms:IC} (hms:ZZ ms ((w.vars l).set (x:Int).toNat s)) (hq:∀ m,DM m=true->hp' m=if m=.c (En (A0 l)) 0 1 then some (.map (kL ms)) else hp m):YX hp' F p (w.set l x s):=by
 obtain⟨e1,e2,e3,e4,e5,e6,e7⟩:=ag (w:=w) (l:=l) (x:=(x:Int)) (s:=s);have hlen:(w.set l x s).YR.length=w.YR.length:=gR
 have hnms:∀ i,(w.set l x s).Z4 i=if i=A0 l then (w.vars l).set (x:Int).toNat s else w.Z4 i:=by
  intro i
  cases l with
  | none =>
   grind[YY.Z4,YY.set,A0]
  | some j =>
   have hj0:j≠0:=by
    rintro rfl;rcases nj (x:=(x:Int)) hh hw ha with⟨_,h2⟩|⟨o,i,c,ho,_,h2,_,h4,h5,_⟩<;>grind[Yx.a0]
   grind[YY.Z4,YY.set,A0]
 have hget:∀ m,DM m=true->m≠.c (En (A0 l)) 0 1->hp' m=hp m:=λm hm hne=>qH;refine⟨?_,⟨?_,λj k hj hk=>?_⟩,?_,?_,h.run.imp λl hl=>⟨qH,?_⟩,?_,λk g hg=>?_,?_,λk c hc=>?_,λi b hb=>?_,λi hi=>?_,λk i j hk hn=>?_⟩
 .rw [hget _ rfl qB,h.top];grind[uF]
 .rw [hget _ rfl qB,h.scs.top]
 .rw [hget _ rfl qB,h.scs.sc j k hj hk]
 .rw [hget _ rfl qB,h.out,e3]
 .rw [hget _ rfl qB,h.Zb,e4]
 .rw [hget _ rfl qB,hl.2,e6]
 .rw [hget _ rfl qB,h.YT,e1]
 .rw [e1] at hg;obtain⟨a1,a2,a3,a4⟩:=h.bx k g hg;exact⟨by rw [hget _ rfl qB,a1],by rw [hget _ rfl qB,a2],by rw [hget _ rfl qB,a3],by rw [hget _ rfl qB,a4]⟩
 .rw [hget _ rfl qB,h.Yt,e2]
 .rw [e2] at hc;obtain⟨ms,a1,a2⟩:=h.cls k c hc;exact⟨ms,by rw [hget _ rfl qB,a1],a2⟩
 .obtain⟨b',hb',f1,f2,_⟩:=ij hb;rw [hget _ rfl qB,h.env i b' hb']
  grind[yE]
 .rw [hlen] at hi;rw [hnms];by_cases e:i=A0 l
  .subst e;rw [if_pos rfl];exact⟨ms,by rw [hq _ rfl,if_pos rfl],hms⟩
  .rw [if_neg e];obtain⟨ms',a1,a2⟩:=h.Z4 i hi;exact⟨ms',by rw [hget _ rfl (by simp [e]),a1],a2⟩
 .rw [hget (.u k i j) hk qB] at hn;rw [hlen,e1];exact h.only k i j hk hn
section
variable {X:Ctx} {st:St} {K:St->Prop} {E:AV->St->Prop} {ty:TypeId} {pos:String} {aft:Array Edge} {g:Option (Nat×Bool)}
theorem Ge {dst:Option Nat} {T e:TypeId} {ts:Array TypeId} {m key:Operand} {k:IntKind} {i:Int} {n:Nm} {es:List (AV×AV)} {st':St} (hts:ts[0]?=some T:=by rfl) (hdn:∀ t,dst=some t->t<X.n:=by first|(intro t h;cases h;done)|(intro t h;obtain rfl:=sI h;simp;done)|fail) (ht:lf X.P T=some (k,e):=by simp [fx];first|done|rfl|exact⟨rfl,rfl⟩)
  (hm:ev st m=.mp n:=by simp [fx];first|done|rfl) (hk:ev st key=.sc (.int k i):=by simp [fx];first|done|rfl) (hn:st.hp n=some (.map es):=by simp [fx];first|done|rfl) (hks:bO k es=true:=by simp [fx];first|done|rfl)
  (hs:(st.Yf n (.map (EE k i es))).put dst (.sc (.tuple #[]))=st':=by simp [fx];first|done|rfl) (h:K st'):qO X ⟨dst,.call { callee:=.builtin .delete,args:=#[m,key],argTypes:=ts },ty,pos,aft,g⟩ K E st:=by
 grind[I4]
end
section
variable {P:Program} {C:Nat->Prop} {wd:World} {g0:Gh} {H:Nm->Option AO} {n:Nat} {gl:Nat->Option (List AV)} {st:St} {K:St->Prop} {E:AV->St->Prop} {d f:Nat} {ty:TypeId} {pos:String} {aft:Array Edge} {g:Option (Nat×Bool)} {c:Operand} {args:Array Operand} {Ts:Array TypeId} {az xs ys:List AV} {R:Nm->AV->(Nm->Option AO)->Prop} {F:Nat} {p:YU} {w0 w:YY}
theorem j9 (h0:YX H F p w0) (hO:YX st.hp F p w) (hl:w0.YR.length<=w.YR.length) (hf:w0.YT.length<=w.YT.length) (hd:d<n:=by first|(simp;done)|fail) (ha:args.toList.map (ev st)=az:=by simp [fx];first|done|rfl)
  (hF:YX (yb DM st.hp) F p w->Yc P gl f DM az (yb DM st.hp) R Yz) (h:∀ y H',R (.s d) y H'->K ((st.call d DM (yb DM st.hp) H').put (some d) y)) :
  qO (bz P C wd g0 H n gl) ⟨some d,.call ⟨.value (.func f),args,Ts⟩,ty,pos,aft,g⟩ K E st:=iV DM (λ_=>qJ) (λk i j he=>h0.ext hO hl hf k i j he) hd ha (hF hO.sub) h
theorem xP (h0:YX H F p w0) (hO:YX st.hp F p w) (h2:(st.hp (.u 2 0 0)).isSome=true) (hl:w0.YR.length<=w.YR.length) (hf:w0.YT.length<=w.YT.length) (hd:d<n:=by first|(simp;done)|fail) (ha:args.toList.map (ev st)=az:=by simp [fx];first|done|rfl)
  (hF:YX (yb DM2 st.hp) F p w->Yc P gl f DM2 az (yb DM2 st.hp) R Yz) (h:∀ y H',R (.s d) y H'->K ((st.call d DM2 (yb DM2 st.hp) H').put (some d) y)) :
  qO (bz P C wd g0 H n gl) ⟨some d,.call ⟨.value (.func f),args,Ts⟩,ty,pos,aft,g⟩ K E st:=iV DM2 (λ_=>bE) (λk i j he=>h0.qCu hO hl hf h2 k i j he) hd ha (hF hO.sub) h
theorem OH (h0:YX H F p w0) (hO:YX st.hp F p w) (h2:(st.hp (.u 2 0 0)).isSome=true) (hl:w0.YR.length<=w.YR.length) (hf:w0.YT.length<=w.YT.length) (hd:d<n:=by first|(simp;done)|fail)
  (hv:ev st c=.fn (.func f) xs ys:=by simp [fx];first|done|rfl) (ha:xs++args.toList.map (ev st)++ys=az:=by simp [fx];first|done|rfl)
  (hF:YX (yb DM2 st.hp) F p w->Yc P gl f DM2 az (yb DM2 st.hp) R Yz) (h:∀ y H',R (.s d) y H'->K ((st.call d DM2 (yb DM2 st.hp) H').put (some d) y)) :
  qO (bz P C wd g0 H n gl) ⟨some d,.call ⟨.value c,args,Ts⟩,ty,pos,aft,g⟩ K E st:=RD DM2 (λ_=>bE) (λk i j he=>h0.qCu hO hl hf h2 k i j he) hd hv ha (hF hO.sub) h
end
end Go.Hm
end
section

end
section

end
section
namespace Go.Hm
open Go
structure qAz (P:Program):Prop where
 laid:laidOutB P=true
 maps:mapsRowed P=true
 stops:(P.stops==[])=true
 knobs:(P.stopKnobs==[])=true
 keys:P.plainKeys=true
 heard:P.stopsHeard=true
 may:P.mayEnter=true
 qCq:P.liftsFinal=false
 make:(P.make==some .cut)=true
theorem DF {P:Program} {f:FuncId} {fn:Func} {s:ChangeSpec} {c:OpenClaim} (hp:qAz P)
  (h1:c.wf (OpenSpec.ofChange s)=true) (h2:fn.params.all (P.readableRec ·)=true) (h3:namedTie P c.named s.vars=true) (h4:(c.stops==[])=true) (h5:(c.knobs==[])=true)
  (h6:(c.inPlace==P.inPlace f)=true) (h7:(c.unfollowed==P.unfollowed f)=true) (h8:(c.recurses==P.recurses f)=true) (h9:(c.named==P.varsNamed f)=true)
  (h10:(c.maps==(fn.params.toList++s.plain.varTypes P).any (P.mapsRec ·))=true) (h11:(c.ifaces==(fn.params.toList++s.plain.varTypes P).any (P.ifacesRec ·))=true) (h12:(c.mapsOut==P.mapsAmong fn.resultTypes.toList)=true)
  (h13:(c.loops==(fn.params.toList++s.plain.varTypes P).any (P.loopsFrom ·))=true) (h14:(c.wideKeys==(fn.params.toList++s.plain.varTypes P++fn.resultTypes.toList).any (P.wideKeysFrom ·))=true)
  (h15:s.vars.all (P.varReadable ·)=true) (h16:fn.resultTypes.all (λt=>P.readableRec t&&decide (t<P.types.size))=true) (h17:(c.ifacesOut==fn.resultTypes.toList.any (P.ifacesRec ·))=true) (h18:(c.loopsOut==fn.resultTypes.toList.any (P.loopsFrom ·))=true)
  (h19:c.plainKeys=true) (h20:c.shortTexts.isNone=true) (h21:c.lifted=false) (h22:c.make=.cut)
  (h23:(c.kinds==(if c.domain.isEmpty then [] else fn.params.toList.map λt=>match P.underlying t with|some (.int k)=>some k|_=>none))=true) (h24:(c.pinned==c.pinnedBy)=true)
  (h25:(c.veiled==(fn.params.toList++s.plain.varTypes P++fn.resultTypes.toList).any (P.veiledRec ·))=true) (h26:c.veiledFits P fn.params.toList (fn.params.toList++s.plain.varTypes P++fn.resultTypes.toList)=true):joinedFacts P f fn s c=true:=by
 have e1:(c.plainKeys==P.plainKeys)=true:=by rw [h19,hp.keys];rfl
 have e2:(c.lifted==P.liftsFinal)=true:=by rw [h21,hp.qCq];rfl
 have e3:(P.make==some c.make)=true:=by rw [h22];exact hp.make
 unfold joinedFacts;simp only [hp.laid,hp.maps,hp.stops,hp.knobs,hp.heard,hp.may,h1,h2,h3,h4,h5,h6,h7,h8,h9,h10,h11,h12,h13,h14,h15,h16,h17,h18,h20,h24,h25,h26,e1,e2,e3,Bool.and_true,sm];exact h23
end Go.Hm
end
section
namespace Go.Hm
open Go Go.RowKit
section
variable {p:YU} {f g n:Nat}
structure More (k:Nat) (w w':YY):Prop where
 YT:w.YT.length<=w'.YT.length
 cls:w.YP.length<=w'.YP.length
 out:w.out <+: w'.out
 tr:w.trace <+: w'.trace
 same:w.en≠1->w'=Xj k w
 none:w.en=1->w.left=0
end
end Go.Hm
end
section
set_option linter.unusedSectionVars false
namespace Go.Hm
open Go Go.RowKit
def stl (t:List (Nat×Nat)) (k:Nat) (w:YY):YY:={ w with trace:=t,left:=k }
section
variable {p:YU} {k m:Nat} {t:List (Nat×Nat)} {w:YY} {a b i:Nat} {x:Int} {l:Option Nat} {vs:List Y6} {s:Y5} {v:Y6}
@[simp] theorem stl_stl {t':List (Nat×Nat)} {k':Nat}:stl t k (stl t' k' w)=stl t k w:=rfl
@[simp] theorem stl_loc:(stl t k w).loc p a x=w.loc p a x:=rfl
@[simp] theorem stl_blk:(stl t k w).YS a=w.YS a:=rfl
@[simp] theorem stl_en:(stl t k w).en=w.en:=rfl
@[simp] theorem stl_left:(stl t k w).left=k:=rfl
@[simp] theorem stl_out:(stl t k w).out=w.out:=rfl
end
def Sim (m:Nat) (r r':YY×Y6):Prop:=(r.1.en≠1/\∃ t,r'=(stl t m r.1,r.2))\/(r.1.en=1/\(m=0->r'.1.out=r.1.out/\r'.1.left=0))
section
variable {p:YU} {R:YY->Nat->YY×Y6} {R2:Nat->YY->Nat->YY×Y6} {n:Nat} {w:YY} {a b i:Nat} {x:Int} {vs:List Y6} {s:Y5} {v:Y6}
variable (hR:∀ w a,w.left<n->w.en=0->∃ g,g+(R w a).1.left<=w.left/\∀ N t m,g+m<N->Sim m (R w a) (R2 N (stl t (g+m) w) a))
include hR
end
end Go.Hm
end
section

end
section

end
section

end
section
namespace Go.Hm
open Go Go.RowKit
section
variable {X:Ctx} {st:St} {K:St->Prop} {E:AV->St->Prop}
def Sr (D:Nm->Bool) (hp:Nm->Option AO):Nm->Option AO:=λm=>if D m then none else hp m
def St.forget (D:Nm->Bool) (st:St):St:={ tm:=st.tm,hp:=Sr D st.hp,n:=st.n,gl:=st.gl }
@[simp] theorem forget_tm {D:Nm->Bool} {t:Nat}:(st.forget D).tm t=st.tm t:=rfl
@[simp] theorem DU {D:Nm->Bool} {m:Nm}:(st.forget D).hp m=if D m then none else st.hp m:=rfl
theorem Me {D:Nm->Bool}:∀ m o,Sr D st.hp m=some o->st.hp m=some o:=by
 grind[Sr]
theorem ON {c:Code} {Q:Ex->St->Prop} (D:Nm->Bool) (h:qa X c Q (st.forget D)):qa X c Q st:=λa w hR=>h a w (hR.weaken _ Me)
end
section
variable {P:Program} {own:Nat->Prop} {C:Nat->Prop} {w0:World} {g:Gh} {st:St} {a:Go.Act} {w:World}
theorem Lf {o:Oper} {x y:Operand} {ts:Array TypeId} {i j:Int} (h:Rg P own C w0 g st a w) (ho:o.op=.call { callee:=.builtin .max,args:=#[x,y],argTypes:=ts }) (hdn:∀ t,o.dst=some t->t<st.n)
  (hx:ev st x=iv i) (hy:ev st y=iv j):EC P o a w λa' w'=>Rel P own C w0 g (st.put o.dst (iv (if j > i then j else i))) a' w':=by
 have hxv:=h.ev x;rw [hx] at hxv;have hxv:=hxv.Ye;have hyv:=h.ev y;rw [hy] at hyv;have hyv:=hyv.Ye;refine .inl ⟨.int .i64 (if j > i then j else i),w,?_,g,.refl g,h.put hdn (.sc _)⟩
 simp_all[execOp,resolve,invoke,builtin,Builtin.max_,Builtin.max2]
end
section
variable {X:Ctx} {st:St} {K:St->Prop} {E:AV->St->Prop} {d:Nat} {ty:TypeId} {pos:String} {aft:Array Edge} {g:Option (Nat×Bool)}
theorem Tc {x y:Operand} {ts:Array TypeId} {i j:Int} (m:Int) (hm:m=max i j) (hd:d<X.n:=by first|(simp;done)|fail) (hx:ev st x=iv i:=by simp [fx];first|done|rfl) (hy:ev st y=iv j:=by simp [fx];first|done|rfl)
  (h:K (st.put (some d) (iv m))):qO X ⟨some d,.call ⟨.builtin .max,#[x,y],ts⟩,ty,pos,aft,g⟩ K E st:=by
 have e:(if j > i then j else i)=m:=qA;refine .Za (st':=st.put (some d) (iv m)) (λ_ _ _ _ e' h'=>?_) ⟨Eh _ _ _,ol _ _ _⟩ h;rw [<- e];exact Lf (o:=⟨some d,.call ⟨.builtin .max,#[x,y],ts⟩,ty,pos,aft,g⟩) h' rfl (λt et=>qH) hx hy
end
theorem OkS.two {D:Nm->Bool} {root n m:Nm} {i j i' j':Nat} (h:n.Y3=true) (h':m.Y3=true) (hne:¬ (i=i'/\j=j')):OkS D root [(n,.c root i j),(m,.c root i' j')]:=by
 refine⟨qe,qB,?_⟩
 grind[Nm.qB4]
def VE (p:YU) (b i:Nat):List Int:=((List.range i).filter λj=>VF p b j).map λj:Nat=>(j:Int)
section
variable {p:YU} {b i:Nat} {k:Y4}
@[simp] theorem idleTo_zero:VE p b 0=[]:=rfl
end
structure Vw where
 block:Int
 names:List Int
 vals:List Int
 deriving DecidableEq,Inhabited
def Vw.own (n:Nm) (i:Nat) (v:Vw):List AV:=[iv v.block,.hs (.c n i 1) 1 0 v.names.length,.hs (.c n i 2) 1 0 v.vals.length]
@[simp] theorem Vw.qA6 {n:Nm} {i:Nat} {v:Vw}:v.own n i=[iv v.block,.hs (.c n i 1) 1 0 v.names.length,.hs (.c n i 2) 1 0 v.vals.length]:=rfl
structure qBm (hp:Nm->Option AO) (n:Nm) (i:Nat) (v:Vw):Prop where
 names:hp (.c n i 1)=some (.row 1 (qS v.names))
 vals:hp (.c n i 2)=some (.row 1 (qS v.vals))
theorem qBm.Yv {H':Nm->Option AO} {n:Nm} {i:Nat} {v:Vw} (h:qBm H' n i v):qBm (Hm.Yv H') n i v:=⟨yw h.names qB,yw h.vals qB⟩
def zt (n:Nm) (cs:List Vw):List (List AV):=cs.mapIdx λi c=>c.own n i
structure ZE (hp:Nm->Option AO) (n:Nm) (cs:List Vw):Prop where
 top:hp n=some (.row 3 (zt n cs))
 each:∀ (i:Nat) c,cs[i]?=some c->qBm hp n i c
section
variable {cs:List Vw} {i a b d l:Nat} {n q k1:Nm} {c:Vw}
@[simp] theorem vwRows_len:(zt n cs).length=cs.length:=rM
@[simp] theorem l9:(zt n cs)[i]?=(cs[i]?).map (λc=>c.own n i):=rM
@[simp] theorem vwRows_getE {h:i<(zt n cs).length}:(zt n cs)[i]=(cs[i]' ct).own n i:=rM
@[simp] theorem vwRows_nil:zt n []=[]:=rfl
@[simp] theorem vwRows_take:(zt n cs).take cs.length=zt n cs:=bC qB
theorem la:zt n (cs++[c])=zt n cs++[c.own n cs.length]:=rM
theorem jb {f:Nm->Option Nm} {m:Nm} (h:∀ i j,i<cs.length->f (.c n i j)=some (.c m i j)):(zt n cs).map (λr=>r.map (AV.tr f))=zt m cs:=by
 apply aW;intro i;simp only [kU,l9,Option.map_map]
 cases hx:cs[i]? with
 | none=>rfl
 | some x=>simp [Vw.own,h i _ (gS hx).1]
@[simp] theorem vwRows_kl (h:Nm.under (.s d) n=false):(zt n cs).map (λr=>r.map (AV.tr (kl (.s d))))=zt n cs:=jb bA
@[simp] theorem vwRows_mv1 (h:Nm.under (.s a) n=true):(zt n cs).map (λr=>r.map (AV.tr (mv (.s a) k1)))=zt (Nm.Yq (.s a) k1 n) cs:=jb bA
@[simp] theorem vwRows_mv2 (h:Nm.under (.s a) n=false) (h':Nm.under (.s b) n=false):(zt n cs).map (λr=>r.map (AV.tr (mv (.s a) (.s b))))=zt n cs:=jb (by simp [h,h'])
@[simp] theorem vwRows_mv3 (h:Nm.under (.s a) n=false) (hq:(q=n)=False) (hq':Nm.under (.c q b l) n=false):(zt n cs).map (λr=>r.map (AV.tr (mv (.s a) (.c q b l))))=zt n cs:=by
 have:¬ n=q:=λe=>by simp [e] at hq
 exact jb (by simp [h,hq',this])
@[simp] theorem vwRows_mvc:(zt n cs).map (λr=>r.map (AV.tr (mvc n k1)))=zt k1 cs:=by
 refine jb λi j _=>?_;have:Nm.c n i j≠n:=Nm.ZJ (Nm.Y0 n);simp [this]
@[simp] theorem vwRows_mv4 {j:Nat} (hq:(q=n)=False) (hq':Nm.under (.c q a b) n=false) (hl:cs.length<=l):(zt n cs).map (λr=>r.map (AV.tr (mv (.c q a b) (.c n l j))))=zt n cs:=by
 have h1:¬ n=q:=λe=>by simp [e] at hq
 have h2:Nm.under (.c n l j) n=false:=by
  cases h:Nm.under (.c n l j) n with
  | false=>rfl
  | true=>exact absurd rfl (Nm.ZB h).2
 refine jb λi j hi=>?_;have h3:¬ i=l:=qA;simp [h1,hq',h2,h3]
end
theorem ZE.Yv {H':Nm->Option AO} {n:Nm} {cs:List Vw} (h:ZE H' n cs):ZE (Hm.Yv H') n cs:=by
 refine⟨yw h.top ?_,λi c hc=>(h.each i c hc).Yv⟩;simp only [zt,uB];intro r hr;obtain⟨i,hi⟩:=ab hr;rw [Na] at hi;obtain⟨x,_,rfl⟩:=ui.1 hi;simp
def oA:List Int:=[0,1,2,3,4,5,6,7]
def yp (p:YU) (b:Nat):List Int:=if qV p b=1 then sorted ((qG p b++qC p b)++qN p b) else oA
def uc (l:List (Int×Yj)):List Int:=l.filterMap λq=>match q.2 with|some _=>some q.1|none=>none
def bZ (l:List (Int×Yj)):List Int:=l.filterMap λq=>match q.2 with|some v=>some (shown v)|none=>none
def fi (p:YU) (b:Nat) (x:Int):Nat:=match p[b]? with
 | some k=>if qr b k x then b else (outer p b x).toNat
 | none=>0
def gQ (p:YU) (w:YY) (a:Nat) (x:Int):Yj :=
 if w.YS a=0 then w.get none x else if qV p (w.YS a)=2 then w.get (some a) x else w.get (some (ua w.YR (fi p (w.YS a) x) a a)) x
def Bq (p:YU) (w:YY) (a:Nat):Vw :=
 let l:=(yp p (w.YS a)).map λx=>(x,gQ p w a x)
 ⟨w.YS a,uc l,bZ l⟩
def iY (p:YU) (w:YY):List Vw:=w.stack.map (Bq p w)
def vh (p:YU) (f:Int):List Vw:=if wR p f then iY p (ji p f.toNat) else []
section
variable {p:YU} {b c:Nat} {x:Int} {k:Y4} {l:List (Int×Yj)} {q:Int×Yj}
theorem oO:uc (l++[q])=uc l++(match q.2 with|some _=>[q.1]|none=>[]):=by
 grind[uc]
theorem sy:bZ (l++[q])=bZ l++(match q.2 with|some v=>[shown v]|none=>[]):=by
 grind[bZ]
theorem tA:(uc l).length<=l.length:=List.length_filterMap_le _ _
theorem Bp:(bZ l).length<=l.length:=List.length_filterMap_le _ _
theorem il:(yp p b).length<=8:=by
 unfold yp
 split
 .exact de 8
 .decide
theorem ik (h:x∈yp p b):0<=x/\x<=7:=by
 unfold yp at h
 split at h
 .grind[mem_sorted]
 .simp only [oA,wH,Jg,or_false] at h;omega
theorem Is (hh:zD p) (hk:p[b]?=some k) (hk1:k.kind=1) (hb0:0<b) {o:Int} (h0:0<o) (hob:o<b):∀ c:Nat,qy p c b=true->zX p x p.length c=o->outer p b x=o:=by
 intro c
 induction c using Nat.strongRecOn with
 | ind c ih =>
  intro hi h;have hbc:=yD hi;have hc0:0<c:=qA
  cases hq:p[c]? with
  | none =>
   by_cases e:c=b
   .simp_all
   .have hl:=List.getElem?_eq_none_iff.1 hq
    have:p.length=0\/∃ n,p.length=n+1:=by
     cases p.length<;>grind
    grind[zX]
  | some q =>
   rw [jh hh hq hc0] at h;obtain⟨g1,g2,g3⟩:=hh c q hq;have g4:=g3 hc0;obtain⟨m,hm⟩:∃ m:Nat,q.parent=m:=⟨q.parent.toNat,qA⟩
   grind[jQ,zZ]
theorem JP (hh:zD p) (hk:p[b]?=some k) (hk1:k.kind=1) (hb0:0<b) (hx:x∈qN p b):∃ o:Nat,0<o/\o<b/\outer p b x=o/\qy p b o=true:=by
 have key:∃ o:Int,0<o/\o<b/\outer p b x=o:=by
  simp only [qN,mem_sorted,jL,jE] at hx;obtain⟨⟨i,hi,hx⟩,_⟩:=hx;unfold wS at hx
  cases hq:p[b+i]? with
  | none=>simp_all
  | some q =>
   rw [hq] at hx;simp only at hx
   split at hx
   case isFalse=>simp at hx
   rename_i hin;have hf:=(Ds.1 hx).2;simp only [vl,uR,decide_eq_true_eq] at hf;refine⟨qh p (b+i) x,hf.1,hf.2,?_⟩;have ho:qh p (b+i) x=qh p (b+i) x:=rfl;generalize hO:qh p (b+i) x=o at *;simp only [qh,hq] at hO
   split at hO
   .omega
   .split at hO
    .omega
    .by_cases e:i=0
     .simp_all
     .rw [jQ hh hq] at hO;obtain⟨g1,g2,g3⟩:=hh (b+i) q hq;have g4:=g3 qA;obtain⟨m,hm⟩:∃ m:Nat,q.parent=m:=⟨q.parent.toNat,qA⟩;have hs:=zZ hh (b:=(b:Int)) qA hq qA
      grind[Is]
 obtain⟨o,h1,h2,h3⟩:=key;obtain⟨n,rfl⟩:∃ n:Nat,o=n:=⟨o.toNat,qA⟩
 grind[aL]
theorem Sf (hh:zD p) (hk:p[b]?=some k) (hk1:k.kind=1) (hb0:0<b) (hx:x∈yp p b):0<fi p b x/\qy p b (fi p b x)=true/\(qr b k x=false->outer p b x=fi p b x):=by
 have hkk:qV p b=1:=cq;unfold fi;rw [hk];simp only
 cases hl:qr b k x
 .simp only [cH,if_false]
  have hf:x∈qN p b:=by
   simp only [yp,hkk,if_true,mem_sorted,cK] at hx;rcases hx.1 with (h|h)|h
   .grind[qG,j6,yI]
   .exfalso;simp only [qC,hkk,if_true,mem_sorted,jT,jE] at h;obtain⟨⟨i,hi,h⟩,_⟩:=h;unfold an at h
    cases hq:p[b+1+i]? with
    | none=>simp_all
    | some q =>
     rw [hq] at h;have hf:=(Ds.1 h).2;simp only [uy,beq_iff_eq] at hf;simp only [qh,hq] at hf
     split at hf
     .omega
     .split at hf
      .omega
      .rw [jQ hh hq] at hf
       grind[dq]
   .exact h
  grind[JP]
 grind[zm]
end
end Go.Hm
end
