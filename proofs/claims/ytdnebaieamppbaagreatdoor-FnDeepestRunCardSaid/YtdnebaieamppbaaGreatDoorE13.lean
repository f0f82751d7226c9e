import Derived.Test.YtdnebaieamppbaaGreatDoorE12
import Derived.Stop.Joined
set_option linter.unusedSimpArgs false
set_option linter.unusedVariables false
set_option maxRecDepth 100000
set_option maxHeartbeats 4000000

section
namespace Go.Hm
open Go Go.RowKit
def P5 (p:Z0) (t:Nat×Nat):Option Z9:=match p[t.1]? with|some k=>k.body[t.2]?|none=>none
def Wq (p:Z0) (t:Nat×Nat):Int:=match P5 p t with|some s=>s.kind|none=>-1
def Nb (p:Z0) (d:Int) (tr:List (Nat×Nat)):Nat:=tr.countP λt=>Wq p t==d
def Yz (p:Z0) (x:Int):Prop:=∃ (b:Nat) (k:Za),p[b]?=some k/\x∈k.bd/\q7 p b x=-1
structure Led (p:Z0) (a b c:Nat) (w w':Z5):Prop where
 fns:w'.ZZ.length+Nb p 3 w.trace=w.ZZ.length+Nb p 3 w'.trace+a
 cls:w'.ZV.length+Nb p 4 w.trace<=w.ZV.length+Nb p 4 w'.trace+b
 out:w'.out.length+Nb p 7 w.trace=w.out.length+Nb p 7 w'.trace+c\/(w'.out.length+1+Nb p 7 w.trace=w.out.length+Nb p 7 w'.trace+c/\2<=w'.en/\w'.en<=4)
 tr:∀ t∈w'.trace,t∈w.trace\/(P5 p t).isSome=true
 Zg:∀ (x:Nat) v,w'.globals[x]?=some (some v)->(∃ u,w.globals[x]?=some (some u))\/Yz p x
theorem Led.refl {p:Z0} (w:Z5):Led p 0 0 0 w w:=⟨rfl,qf _,.inl rfl,λ_ h=>.inl h,λ_ v h=>.inl ⟨v,h⟩⟩
theorem Led.en {p:Z0} {c:Nat} {w:Z5} {e:Int} (h:c=0\/(c=1/\2<=e/\e<=4)):Led p 0 0 c w { w with en:=e }:=by
 constructor<;>grind
theorem Led.trans {p:Z0} {a b c a' b' c':Nat} {w w' w'':Z5} (h:Led p a b c w w') (h0:w'.en=0) (h':Led p a' b' c' w' w''):Led p (a+a') (b+b') (c+c') w w'':=by
 refine⟨?_,?_,?_,λt ht=>?_,λx v hx=>?_⟩
 .have:=h.fns;grind[fns]
 .have:=h.cls;have:=h'.cls;omega
 .rcases h.out with e|⟨_,e,_⟩<;>grind[out]
 .rcases h'.tr t ht with e|e
  .exact h.tr t e
  simp_all
 .rcases h'.Zg x v hx with⟨u,e⟩|e
  .exact h.Zg x u e
  simp_all
theorem Q4 {p:Z0} {b:Nat} {o:Int}:2<=qAG p b o/\qAG p b o<=4:=by grind[qAG]
theorem Dp {p:Z0} {w:Z5} {a:Nat} {x:Int}:(zk p w a x).1=w\/∃ e,2<=e/\e<=4/\(zk p w a x).1={ w with en:=e }:=by
 unfold zk
 repeat' split
 all_goals simp_all[Q4]
theorem KB {p:Z0} {a:Nat}:∀ {l:List Int} {w:Z5},(qY p w a l).1=w\/∃ e,2<=e/\e<=4/\(qY p w a l).1={ w with en:=e }
 := by intro x0;induction x0<;>grind[qY,Dp]
section
variable {p:Z0} {R:Z5->Nat->Z5×Zd} {n:Nat} {w:Z5} {a b i:Nat} {x:Int} {vs:List Zd} {s:Z9} {v:Zd} {k:Za}
theorem MU {u:Zd}:Led p 0 0 0 w (uw w v u).1:=by
 grind[uw,Led.en,Led.refl]
theorem O0:Led p 0 0 0 w (kN w v x).1:=by
 grind[kN,Led.refl,Led.en]
theorem Hv {sl:Zt} (hx:0<=x) (hn:w.loc p a x=none->sl≠none->Yz p x):Led p 0 0 0 w (w.set (w.loc p a x) x sl):=by
 obtain⟨e1,e2,e3,e4,e5,e6,e7⟩:=be (w:=w) (l:=w.loc p a x) (x:=x) (s:=sl);refine⟨qH,qH,.inl qH,λt ht=>.inl qH,λy v hy=>?_⟩
 cases hl:w.loc p a x<;>grind[Z5.set]
def xJ (p:Z0) (n:Nat) (R:Z5->Nat->Z5×Zd):Prop:=∀ (w:Z5) (a:Nat),Zy p w->w.left<n->a<w.ZX.length->w.en=0->Led p 0 0 0 w (R w a).1
theorem Qp {w':Z5} (h:Led p 0 0 0 w w'):Led p 0 0 0 w (nh w'):=by
 unfold nh
 split
 .exact⟨h.fns,h.cls,h.out,h.tr,h.Zg⟩
 .exact h
theorem AK (hL:xJ p n R) (h:Zy p w) (hn:w.left<n) (h0:w.en=0) (hm:jZ p w.ZX b a) (hv:∀ v∈vs,VOk w.ZZ.length w.ZV.length v) (hr:Room 1 w):Led p 0 0 0 w (qm p R w b a vs).1:=by
 have h1:=hL (qn p w b a vs) w.ZX.length (ko h hm hv hr).1 hn eP h0;have h2:Led p 0 0 0 w (R (qn p w b a vs) w.ZX.length).1:=⟨h1.fns,h1.cls,h1.out,h1.tr,h1.Zg⟩;exact Qp h2
theorem Nr (hL:xJ p n R) (h:Zy p w) (hn:w.left<n) (h0:w.en=0) (hv:∀ v∈vs,VOk w.ZZ.length w.ZV.length v) (hr:Room 1 w):Led p 0 0 0 w (u6 p R w v vs).1:=by
 unfold u6
 split
 .grind[Led.en]
 .split
  .rename_i g hg
   split
   .grind[Led.en]
   .exact AK hL h hn h0 (h.ZZ _ g hg) hv hr
  .exact .refl w
theorem K4 (hL:xJ p n R) (h:Zy p w) (hn:w.left<n) (h0:w.en=0) (hm:jZ p w.ZX b a) (hr:Room 1 w):Led p 0 1 0 w (kI p R w b a).1:=by
 have h1:=AK (vs:=[]) hL h hn h0 hm (λv hv=>eJ) hr;have hc:=h1.cls;constructor<;>grind[kI,Led.fns,Led.out,Led.tr,Led.Zg]
theorem Ad (h:zN p (w.Z1 a) k s=true) (ha:a<w.ZX.length) (e:s.kind=3\/s.kind=4):jZ p w.ZX s.a.toNat a:=by
 obtain⟨c,hc⟩:=gX ha
 grind[zN.made,jq,jZ]
def one (b:Prop) [Decidable b]:Nat:=if b then 1 else 0
theorem LH (hL:xJ p n R) (h:Zy p w) (hn:w.left<n) (h0:w.en=0) (ha:a<w.ZX.length) (hs:zN p (w.Z1 a) k s=true) (hv:∀ v∈vs,VOk w.ZZ.length w.ZV.length v) (hr:Room 2 w) :
  Led p (one (s.kind=3)) (one (s.kind=4)) 0 w (ju p R w a s vs).1:=by
 unfold ju
 split
 .grind[one,Led.refl]
 .split
  .grind[one,MU]
  .split
   .constructor<;>grind[one]
   .rename_i e3
    split
    .rename_i e;simp only [one,e];exact K4 hL h hn h0 (Ad hs ha (.inr e)) (hr.mono qA)
    .rename_i e4;simp only [one,e3,e4,if_false]
     split
     .exact Nr hL h hn h0 (λv hv'=>hv v (List.mem_of_mem_tail hv')) (hr.mono qA)
     grind[O0,Led.refl]
theorem Q0 (hh:zS p) (h:Zy p w) (ha:a<w.ZX.length) (e:w.loc p a x=none):q7 p (w.Z1 a) x=-1:=by
 grind[dn]
theorem Wj (hn:qCU k) (hs:s∈k.body) (h:s.qBN\/s.kind=11):s.to∈k.bd:=by
 have h1:=hn.tos s hs
 grind[mem_sorted,Za.bd,uB]
theorem P6 (hp:Z7 p) (hR:cZ p n R) (hL:xJ p n R) (h:Zy p w) (hn:w.left<n) (h0:w.en=0) (ha:a<w.ZX.length) (hk:p[w.Z1 a]?=some k) (hsk:s∈k.body) (h8:¬ s.kind=8) (hr:Room 2 w) :
  Led p (one (s.kind=3)) (one (s.kind=4)) (one (s.kind=7)) w (cd p R w a s):=by
 have hs:=hp.stm _ k hk s hsk;have hnm:=hp.names k (gM hk);have hx:=hnm.tos s hsk;have hkd:=zN.kind hs;unfold cd
 split
 .grind[one,Led.refl]
 .split
  .grind[one,bb,Hv,Led.en]
  .rename_i e9 e11;obtain⟨hl1,hl2,_⟩:=ww (a:=a) (l:=s.reads) h;obtain⟨_,hvv⟩:=fK hR h hn h0 ha hs hr;unfold zo at hvv ⊢;have hne0:¬ w.en≠0:=qA;rcases KB (p:=p) (w:=w) (a:=a) (l:=s.reads) with hl|⟨e,he1,he2,hl⟩
   .rw [hl] at hvv ⊢;rw [if_neg hne0] at hvv ⊢;have hw:=LH (s:=s) (vs:=(qY p w a s.reads).2) hL h hn h0 ha hs hl2 hr;by_cases e7:s.kind=7
    .constructor<;>grind[ju,one]
    .have o7:one (s.kind=7)=0:=by simp [one,e7]
     rw [o7]
     split
     .exact hw
     .rename_i he;have he0:(ju p R w a s (qY p w a s.reads).2).1.en=0:=qA
      try rw [if_neg e7]
      obtain⟨w1,hw1⟩:∃ w1,(ju p R w a s (qY p w a s.reads).2).1=w1:=⟨_,rfl⟩;have hok:=A5 hR h hn h0 ha hs hl2 hr;rw [hw1] at hw he0 hok ⊢;obtain⟨c,hc⟩:=gX ha;have hb1:=hok.1.grow.Z1 hc;have ha1:a<w1.ZX.length:=aR ha hok.1.grow.qAk;have wF:s.qBN:=⟨hkd.1,qA⟩;refine hw.trans he0 (Hv (p:=p) (w:=w1) (a:=a) hx.1 (λhl _=>?_));have:=Q0 hp.Zc hok.1.ok ha1 hl;rw [hb1] at this;exact⟨w.Z1 a,k,hk,Wj hnm hsk (.inl wF),this⟩
   grind[Z9.reads,qY,one,Led.en]
theorem Hj {w':Z5} {i:Nat} (hk:p[w.Z1 a]?=some k) (hi:k.body[i]?=some s) {x3 x4 x7:Nat} (h:Led p x3 x4 x7 (qq w a i) w') (h3:x3=one (s.kind=3)) (h4:x4<=one (s.kind=4)) (h7:x7=one (s.kind=7)):Led p 0 0 0 w w':=by
 have hst:P5 p (w.Z1 a,i)=some s:=by grind[P5]
 have hsk:Wq p (w.Z1 a,i)=s.kind:=by grind[Wq]
 have key:∀ d,Nb p d (qq w a i).trace=Nb p d w.trace+one (s.kind=d):=λd=>by
  grind[qq,one,Nb]
 have k3:=key 3;have k4:=key 4;have k7:=key 7;obtain⟨f1,f2,f3,f4,f5⟩:=h;constructor<;>grind[qq]
theorem OU (hp:Z7 p) (hR:cZ p n R) (hL:xJ p n R) {l:List Z9}:∀ {w:Z5} {i:Nat},Zy p w->w.left<n+1->w.en=0->a<w.ZX.length->p[w.Z1 a]?=some k->k.body.drop i=l->Led p 0 0 0 w (vK p R a w i l).1:=by
 induction l with
 | nil=>intro w i _ _ _ _ _ _;exact .refl w
 | cons s l ih =>
  intro w i h hn h0 ha hk hd
  have hi:k.body[i]?=some s:=by
   have:=congrArg (·[0]?) hd
   grind
  have hd2:k.body.drop (i+1)=l:=by
   have:=congrArg (List.drop 1) hd
   grind[List.drop_drop]
  have hsk:=gM hi;simp only [vK]
  split
  .grind[Led.en]
  .rename_i hl;obtain⟨t1,t2⟩:=gq (a:=a) (i:=i) h hl;have tn:(qq w a i).left<n:=by grind[qq]
   split
   .rename_i e8;have e3:¬ s.kind=3:=qA;have e7:¬ s.kind=7:=qA;refine Hj hk hi (x3:=0) (x4:=0) (x7:=0) ?_ (by simp [one,e3]) qA (by simp [one,e7])
    grind[Dp,Led.refl,Led.en]
   .rename_i e8;have hst:=P6 hp hR hL t1 tn h0 ha hk hsk e8 t2;have hok:=nL hR t1 tn h0 ha (hp.stm _ k hk s hsk) t2;have hT:=Hj hk hi hst rfl (qf _) rfl
    split
    .exact hT
    .rename_i he;have he0:(cd p R (qq w a i) a s).en=0:=qA;have hA:=hok.tick hl;obtain⟨c,hc⟩:=gX ha;have hb:=hA.grow.Z1 hc;exact hT.trans he0 (ih hA.ok (by have:=hA.grow.left;omega) he0 (aR ha hA.grow.qAk) qH hd2)
end
theorem IA {p:Z0} (hp:Z7 p):∀ n,xJ p n (zY p n)
 | 0=>λw a _ h=>absurd h qA
 | n+1=>by
  intro w a h hn ha h0;obtain⟨c,hc⟩:=gX ha;have hb:=h.qBC a c hc;obtain⟨k,hk⟩:=gX hb;simp only [zY];rw [jq hc,hk];exact OU hp (kT hp n) (IA hp n) (k:=k) h hn h0 ha (by grind[jq]) rfl
theorem Jt {p:Z0} (hp:Z7 p) {f:Nat} (hf:f<=150):Led p 0 0 0 (zK f) (yI p f) :=
 IA hp 151 (zK f) 0 (ce hp hf) tW gF rfl
section
variable {X:Ctx} {st:St} {K:St->Prop} {E:AV->St->Prop} {d f:Nat} {ty:TypeId} {pos:String} {aft:Array Edge} {g:Option (Nat×Bool)} {args:Array Operand} {Ts:Array TypeId} {az:List AV} {R:Nm->AV->(Nm->Option AO)->Prop}
theorem yp (h1:(st.hp (.u 1 0 0)).isSome=true) (h2:(st.hp (.u 2 0 0)).isSome=true) (hd:d<X.n:=by first|(simp;done)|fail) (ha:args.toList.map (ev st)=az:=by simp [fx];first|done|rfl)
  (hF:Zj X.P X.gl f D12 az (vC D12 st.hp) R noE) (h:∀ y H',R (.s d) y H'->K ((st.call d D12 (vC D12 st.hp) H').put (some d) y)) :
  qS X ⟨some d,.call ⟨.value (.func f),args,Ts⟩,ty,pos,aft,g⟩ K E st:=by
 refine lq (az:=az) D12 (λn h=>zG h) (λk i j he=>?_) hd ha hF h
 simp_all<;>grind
end
structure Zm (p:Z0):Prop where
 sh:Z7 p
 pm:∀ (b:Nat) k,p[b]?=some k->∀ x∈k.params,q7 p b x=b
theorem Zm.of {p:Z0} (hs:Sml p) (h:jF p=true):Zm p:=by
 simp only [jF,ba] at h;have hp:=Z7.of hs h.1;refine⟨hp,λb k hk x hx=>?_⟩;have hkm:=gM hk;have hxr:=(hp.names k hkm).params x hx
 have hb0:0<b:=by
  cases b with
  | zero =>
   have:=hp.head 0 k hk
   grind
  | succ b=>omega
 have hd:=dT.1 h.2 b (gh.2 (gS hk).1);have hbn:(b==0)=false:=qc;rw [hbn,Bool.false_or] at hd;simp only [vD,hk] at hd;have hdx:=dT.1 hd x.toNat (gh.2 qA)
 grind[qAI,Za.bd,mem_sorted,uB,xu,qa]
def wi (p:Z0) (w:Z5) (b up:Nat) (vs:List Zd) (i:Nat):Z5 :=
 { w with ZX:=w.ZX++[⟨b,up,wD ((match p[b]? with|some k=>k.params|none=>[]).take i) (vs.take i)⟩],stack:=w.stack++[w.ZX.length] }
theorem Iv {p:Z0} {w:Z5} {b up i:Nat} {vs:List Zd} (hi:cp p b<=i) (hv:vs.length<=i):wi p w b up vs i=qn p w b up vs:=by
 grind[wi,qn,cp,b9]
theorem HM {p:Z0} {w:Z5} {b up i:Nat} {vs:List Zd} (h:Zy p w) (hm:jZ p w.ZX b up) (hv:∀ v∈vs,VOk w.ZZ.length w.ZV.length v) (hr:Room 1 w):Zy p (wi p w b up vs i):=by
 have h0:=(ko h hm hv hr).1
 have key:∀ (j:Nat) a,(wi p w b up vs i).ZX[j]?=some a->∃ a',(qn p w b up vs).ZX[j]?=some a'/\a'.Z1=a.Z1/\a'.up=a.up/\(a.vars=a'.vars\/SOk w.ZZ.length w.ZV.length a.vars):=by
  grind[wi,qn,It]
 have mk:∀ {c j:Nat},jZ p (qn p w b up vs).ZX c j->jZ p (wi p w b up vs i).ZX c j:=by
  rintro c j ⟨a,k,h1,h2,h3,h4⟩;have hj:=(gS h1).1;obtain⟨a',ha'⟩:∃ a',(wi p w b up vs i).ZX[j]?=some a':=⟨_,gE (by grind[wi,qn])⟩;obtain⟨a2,e1,e2,_⟩:=key j a' ha';rw [h1] at e1;obtain rfl:=sI e1;exact⟨a',k,ha',h2,qA,h4⟩
 refine⟨?_,λj a ha=>?_,λj a ha=>?_,λj a ha hj=>?_,h0.Zg,λj g hg=>mk (h0.ZZ j g hg),h0.cls,λj hj=>by simpa [wi,qn] using h0.stk j hj,by simpa [wi,qn] using h0.qAe,h0.qAu,h0.qBU,h0.qBQ,h0.ntr,by simpa [wi,qn] using h0.qCJ,h0.qCS,h0.enr⟩
 .grind[Zy.a0,wi]
 .obtain⟨a',e1,e2,e3,e4⟩:=key j a ha;rcases e4 with e4|e4
  .rw [e4];exact h0.vars j a' e1
  .exact e4
 .obtain⟨a',e1,e2,e3,e4⟩:=key j a ha;rw [<- e2];exact h0.qBC j a' e1
 .obtain⟨a',e1,e2,e3,e4⟩:=key j a ha;obtain⟨f1,f2⟩:=h0.up j a' e1 hj
  simp_all
theorem AX {p:Z0} {w:Z5} {b up i:Nat} {k:Za} {x:Int} {v:Zd} {vs:List Zd} (hp:Zm p) (hk:p[b]?=some k) (hx:k.params[i]?=some x) (hv:vs[i]?=some v):wm p (wi p w b up vs i) w.ZX.length x v=wi p w b up vs (i+1):=by
 have hat:(wi p w b up vs i).ZX[w.ZX.length]?=some ⟨b,up,wD (k.params.take i) (vs.take i)⟩:=by simp [wi,hk]
 have ho:=hp.pm b k hk x (gM hx)
 have hloc:(wi p w b up vs i).loc p w.ZX.length x=some w.ZX.length:=by
  simp_all[Z5.loc,jq,yD]
 have hi:=(gS hx).1;have hj:=(gS hv).1
 have ht:wD (k.params.take (i+1)) (vs.take (i+1))=(wD (k.params.take i) (vs.take i)).set x.toNat (some v):=by
  unfold wD;rw [uQ,uQ,hx,hv];simp only [Option.toList_some];rw [List.zip_append qc];simp
 unfold wm;rw [hloc];simp only [Z5.set,wi,hk];rw [ht]
 congr 1
 apply wK
 grind
theorem jZ.shape {p:Z0} {ZX:List Act} {b i:Nat} (h:jZ p ZX b i):∃ k,p[b]?=some k/\cp p b=k.params.length:=by
 grind[cp,jZ]
def jT (p:Z0) (f:Int):Bool:=jF p&&(decide (0<=f)&&decide (f<=150))
structure Rsl where
 out:List Int
 en:Int
 left:Int
 gl:List Int
def On (w:Z5):Rsl:=⟨w.out,w.en,w.left,yd w.globals⟩
def Ay (p:Z0) (f:Int):Rsl:=if jT p f=true then On (yI p f.toNat) else ⟨[],0,0,[]⟩
def Re (p:Z0) (f:Int):List (Nat×Nat):=if jT p f=true then (yI p f.toNat).trace else []
def Rsl.own (n:Nm) (r:Rsl):List AV:=[.hs (.c n 0 0) 1 0 r.out.length,iv r.en,iv r.left,.hs (.c n 0 3) 1 0 r.gl.length]
@[simp] theorem Rsl.qB1 {n:Nm} {r:Rsl}:r.own n=[.hs (.c n 0 0) 1 0 r.out.length,iv r.en,iv r.left,.hs (.c n 0 3) 1 0 r.gl.length]:=rfl
structure qBf (hp:Nm->Option AO) (n:Nm) (r:Rsl):Prop where
 out:hp (.c n 0 0)=some (.row 1 (qT r.out))
 gl:hp (.c n 0 3)=some (.row 1 (qT r.gl))
structure qCF (p:Z0) (f:Nat) (w:Z5):Prop where
 ok:Zy p w
 led:Led p 0 0 0 (zK f) w
 grow:Grow 0 (zK f) w
theorem lD {p:Z0} (hp:Z7 p) {f:Nat} (hf:f<=150):qCF p f (yI p f) :=
 ⟨(sA hp hf).ok,Jt hp hf,(sA hp hf).grow⟩
theorem qCF.tr {p:Z0} {f:Nat} {w:Z5} (h:qCF p f w):w.trace.length+w.left=f:=by
 have:=h.grow.ntr
 grind[zK]
theorem jl {p:Z0} {f:Int} (h:jT p f=true):jF p=true/\∃ n:Nat,f=n/\n<=150:=by
 simp only [jT,ba,decide_eq_true_eq] at h;exact⟨h.1,f.toNat,qA,qA⟩
section
variable {n:Nm} {len i j:Nat} {f:Nm->Option Nm} {q:Int}
@[simp] theorem DK (h:∀ j,f (.c n j 0)=some (.c n j 0)):(wQ n len i).map (λr=>r.map (AV.tr f))=wQ n len i:=gz λj _=>h j
@[simp] theorem IJ (h:∀ j,f (.c n j 0)=some (.c n j 0)):(pX n q).tr f=pX n q:=iz λ_=>h _
end
@[simp] theorem Uy {P:Program} {T:TypeId} {hp:Nm->Option AO} {n:Nm} {z q len:Nat} {lo hi:Option Int}:mF P T hp (.hs n z q len) lo hi=match tel P T with
  | some e=>if z=Zq P e/\0<=lo.getD 0/\lo.getD 0<=hi.getD len/\(hi.getD len<=len\/q+(hi.getD len).toNat<=bg hp n z) then some (.hs n z (q+(lo.getD 0).toNat) ((hi.getD len).toNat - (lo.getD 0).toNat)) else none
  | none=>none:=rfl
def fM (k:Nat):Bool:=k==1||k==7||k==8
def DM:Nm->Bool:=Du fM
def DM2 (n:Nm):Bool:=DM n||Nm.under (.u 2 0 0) n
section
variable {n:Nm} {k i j d:Nat}
@[simp] theorem DM_s:DM (.s d)=false:=rfl
@[simp] theorem DM_u:DM (.u k i j)=fM k:=rfl
@[simp] theorem DM_c:DM (.c n i j)=DM n:=rfl
@[simp] theorem fM_1:fM 1=true:=rfl
@[simp] theorem fM_2:fM 2=false:=rfl
@[simp] theorem fM_7:fM 7=true:=rfl
@[simp] theorem fM_8:fM 8=true:=rfl
@[simp] theorem WV:DM2 n=(DM n||Nm.under (.u 2 0 0) n):=rfl
theorem qN {n:Nm} (h:DM n=true):n.Zi=false:=UM h
theorem cD {n:Nm} (h:DM2 n=true):n.Zi=false:=by
 simp only [DM2,Kf] at h;rcases h with h|h
 .exact qN h
 .exact qR rfl h
end
section
variable {l m:List Nat} {i:Nat} {f:Nm->Option Nm}
@[simp] theorem erows_len:(zQ l).length=l.length:=l9
@[simp] theorem EJ:(zQ l)[i]?=(l[i]?).map λi=>[ptE i]:=l9
theorem N3:zQ l++zQ m=zQ (l++m):=l9
theorem KU:zQ l++[[ptE i]]=zQ (l++[i]):=l9
@[simp] theorem erows_take {n:Nat}:(zQ l).take n=zQ (l.take n):=l9
@[simp] theorem dF (h:∀ i,f (En i)=some (En i)):(zQ l).map (λr=>r.map (AV.tr f))=zQ l:=by
 simp_all[zQ]
end
theorem iK {l:List Nat} {f:Nm->Option Nm} (h:∀ i∈l,f (En i)=some (En i)):(zQ l).map (λr=>r.map (AV.tr f))=zQ l:=by
 simp_all[zQ]
def Nc (F:Nat) (p:Z0) (k:Nat) (g:Nat×Nat):List AV:=[iv (cp p g.1),.fn (.func F) [] [.pt (.u 8 k 0) 0,.pt (.u 8 k 1) 0,.pt (.u 8 k 2) 0,.pt (.u 8 k 3) 0]]
def vY (F:Nat) (p:Z0) (gs:List (Nat×Nat)):List (List AV):=gs.mapIdx λk g=>Nc F p k g
def vX (n:Nm) (cs:List (List Zt)):List (List AV):=cs.mapIdx λk _=>[.mp (.c n (k+1) 9)]
section
variable {F:Nat} {p:Z0} {gs:List (Nat×Nat)} {g:Nat×Nat} {cs:List (List Zt)} {c:List Zt} {n m:Nm} {i:Nat} {f:Nm->Option Nm}
@[simp] theorem cloRows_len:(vY F p gs).length=gs.length:=by simp [vY]
@[simp] theorem sk:(vY F p gs)[i]?=(gs[i]?).map λg=>Nc F p i g:=by simp [vY]
@[simp] theorem cloRows_getE {h:i<(vY F p gs).length}:(vY F p gs)[i]=Nc F p i (gs[i]' qH):=by simp [vY]
theorem GB:vY F p gs++[Nc F p gs.length g]=vY F p (gs++[g]):=by simp [vY]
@[simp] theorem cloRows_fix (h:∀ k j,f (.u 8 k j)=some (.u 8 k j)):(vY F p gs).map (λr=>r.map (AV.tr f))=vY F p gs:=by
 apply wK;intro j;rw [kx,sk]
 cases hj:gs[j]?<;>simp_all[Nc]
@[simp] theorem cmpRows_len:(vX n cs).length=cs.length:=by simp [vX]
@[simp] theorem Ft:(vX n cs)[i]?=(cs[i]?).map λ_=>[AV.mp (.c n (i+1) 9)]:=by simp [vX]
@[simp] theorem cmpRows_getE {h:i<(vX n cs).length}:(vX n cs)[i]=[AV.mp (.c n (i+1) 9)]:=by simp [vX]
theorem Fv:vX n cs++[[.mp (.c n (cs.length+1) 9)]]=vX n (cs++[c]):=by simp [vX]
theorem si {g:List AV->List AV} (h:∀ (i:Nat) c,cs[i]?=some c->g [.mp (.c n (i+1) 9)]=[.mp (.c m (i+1) 9)]):(vX n cs).map g=vX m cs:=by
 apply wK
 grind[Ft]
@[simp] theorem Fu (h:∀ i,f (.c n (i+1) 9)=some (.c n (i+1) 9)):(vX n cs).map (λr=>r.map (AV.tr f))=vX n cs:=si λi c _=>by simp [h i]
end
def uU (p:Z0) (w:Z5):List AV:=[ksl p,.hs (.c Mn 0 1) 1 0 p.length,iv w.left,iv w.en,.hs (.c Mn 0 4) 1 0 w.out.length,.hs (.c Mn 0 5) 2 0 w.trace.length,ptE 0,.hs (.c Mn 0 7) 1 0 w.stack.length,.hs (.c Mn 0 8) 2 0 w.ZZ.length,.hs (.c Mn 0 9) 1 0 w.ZV.length]
def yU (i:Nat) (a:Act):List AV:=[iv a.Z1,.mp (.c (En i) 0 1),if i=0 then Ca else ptE a.up]
@[simp] theorem envRow_len {i:Nat} {a:Act}:(yU i a).length=3:=rfl
@[simp] theorem envRow_fix {i:Nat} {a:Act} {f:Nm->Option Nm} (h1:f (.c (En i) 0 1)=some (.c (En i) 0 1)) (h2:∀ j,f (En j)=some (En j)):(yU i a).map (AV.tr f)=yU i a:=by
 by_cases e:i=0<;>simp_all[yU]
def Z5.nms (w:Z5) (i:Nat):List Zt:=if i=0 then w.globals else match w.ZX[i]? with|some a=>a.vars|none=>[]
structure Z4 (hp:Nm->Option AO) (F:Nat) (p:Z0) (w:Z5):Prop where
 top:hp Mn=some (.row 10 [uU p w])
 scs:qBc hp (.c Mn 0 1) p p.length
 out:hp (.c Mn 0 4)=some (.row 1 (qT w.out))
 trc:hp (.c Mn 0 5)=some (.row 2 (yw w.trace))
 run:∃ l,(∀ i∈l,i<w.ZX.length)/\hp (.c Mn 0 7)=some (.row 1 (zQ (w.stack++l)))
 ZZ:hp (.c Mn 0 8)=some (.row 2 (vY F p w.ZZ))
 bx:∀ (k:Nat) g,w.ZZ[k]?=some g->hp (.u 8 k 0)=some (.row 1 [[iv g.1]])/\hp (.u 8 k 1)=some (.row 1 [[ptE g.2]])/\hp (.u 8 k 2)=some (.row 1 [[isl (match p[g.1]? with|some b=>b.params|none=>[])]])/\hp (.u 8 k 3)=some (.row 1 [[.pt Mn 0]])
 Zw:hp (.c Mn 0 9)=some (.row 1 (vX Mn w.ZV))
 cls:∀ (k:Nat) c,w.ZV[k]?=some c->∃ ms,hp (.c Mn (k+1) 9)=some (.map (wC ms))/\qAa ms c
 env:∀ (i:Nat) a,w.ZX[i]?=some a->hp (En i)=some (.row 3 [yU i a])
 nms:∀ (i:Nat),i<w.ZX.length->∃ ms,hp (.c (En i) 0 1)=some (.map (wC ms))/\qAa ms (w.nms i)
 only:∀ k i j,fM k=true->hp (.u k i j)≠none->(k=1/\i=0/\j=0)\/(k=7/\i<w.ZX.length/\j=0)\/(k=8/\i<w.ZZ.length/\j<4)
def BW:Option Nat->Nat
 | none=>0
 | some i=>i
theorem BL {p:Z0} {w:Z5} {a:Nat} {x:Int} (hh:zS p) (hw:Zy p w) (ha:a<w.ZX.length):w.nms (BW (w.loc p a x))=w.vars (w.loc p a x)/\BW (w.loc p a x)<w.ZX.length:=by
 obtain⟨a0,h0,hb0⟩:=hw.a0;have hl0:=(gS h0).1;rcases dn (x:=x) hh hw ha with⟨h1,h2⟩|⟨o,i,c,ho,h1,h2,h3,h4,h5,_⟩<;>grind[Z5.nms,BW,Z5.vars]
theorem Z4.hp' {hp hp':Nm->Option AO} {F:Nat} {p:Z0} {w:Z5} (h:Z4 hp F p w) {f:Nm->Option Nm} (hf:∀ m,DM m=true->f m=some m) (hh:∀ m,DM m=true->hp' m=(hp m).map (AO.tr f)):Z4 hp' F p w:=by
 have hE:∀ i,f (En i)=some (En i):=λi=>hf _ rfl;have h8:∀ k j,f (.u 8 k j)=some (.u 8 k j):=λk j=>hf _ rfl;have hc:∀ j,f (.c Mn 0 j)=some (.c Mn 0 j):=λj=>hf _ rfl;refine⟨?_,⟨?_,λj k hj hk=>?_⟩,?_,?_,h.run.imp λl hl=>⟨hl.1,?_⟩,?_,λk g hg=>?_,?_,λk c hc'=>?_,λi a ha=>?_,λi hi=>?_,λk i j hk hn=>?_⟩
 .rw [hh _ rfl,h.top];simp_all[uU]
 .rw [hh _ rfl,h.scs.top];simp only [kv,AO.tr];rw [DK λj=>hf _ rfl]
 .rw [hh _ rfl,h.scs.sc j k hj hk];simp only [kv,AO.tr,gi,Eb,rN];rw [IJ λj=>hf _ rfl]
 .rw [hh _ rfl,h.out];simp
 .rw [hh _ rfl,h.trc];simp
 .rw [hh _ rfl,hl.2]
  simp_all
 .rw [hh _ rfl,h.ZZ]
  simp_all
 .obtain⟨a1,a2,a3,a4⟩:=h.bx k g hg;refine⟨?_,?_,?_,?_⟩
  .rw [hh _ rfl,a1];simp
  .rw [hh _ rfl,a2];simp_all
  .rw [hh _ rfl,a3];simp
  .rw [hh _ rfl,a4];simp [AO.tr,hf Mn rfl]
 .rw [hh _ rfl,h.Zw];simp only [kv,AO.tr];rw [Fu λi=>hf _ rfl]
 .obtain⟨ms,a1,a2⟩:=h.cls k c hc';exact⟨ms,by rw [hh _ rfl,a1];simp,a2⟩
 .rw [hh _ rfl,h.env i a ha];have h1:=hf (.c (En i) 0 1) rfl
  simp_all
 .obtain⟨ms,a1,a2⟩:=h.nms i hi;exact⟨ms,by rw [hh _ rfl,a1];simp,a2⟩
 .refine h.only k i j hk λe=>hn ?_
  simp_all
theorem Z4.fin {hp:Nm->Option AO} {F:Nat} {p:Z0} {w:Z5} {D:Nm->Bool} {sbs:List (Nm×Nm)} (h:Z4 hp F p w) (hD:∀ m,D m=true->m.Zi=false:=by first|exact λ_=>qN|exact λ_=>cD) (hW:∀ m,DM m=true->D m=true:=by intro m hm;first|exact hm|simp [hm]) (hs:∀ q∈sbs,q.1.Zi=true:=by simp [Nm.Zi]):Z4 (lQ D sbs hp) F p w :=
 h.hp' (f:=jc D sbs) (λm hm=>ox hD (hW m hm) hs) (λm hm=>qH)
theorem Z4.re {hp hp':Nm->Option AO} {F:Nat} {p:Z0} {w:Z5} (om:Z4 hp F p w)
  (h0:hp' Mn=some (.row 10 [uU p w]):=by simp [om.top,uU])
  (h1:hp' (.c Mn 0 1)=some (.row 1 (wQ (.c Mn 0 1) p.length p.length)):=by simp [om.scs.top])
  (h2:∀ (j:Nat) k,j<p.length->p[j]?=some k->hp' (.c (.c Mn 0 1) j 0)=some (.row 43 [qp j k (pX (.c Mn 0 1) k.parent) k.params]):=by intro j k hj hk;simp [om.scs.sc j k hj hk])
  (h3:hp' (.c Mn 0 4)=some (.row 1 (qT w.out)):=by simp [om.out])
  (h4:hp' (.c Mn 0 5)=some (.row 2 (yw w.trace)):=by simp [om.trc])
  (h5:∀ l,hp (.c Mn 0 7)=some (.row 1 (zQ (w.stack++l)))->hp' (.c Mn 0 7)=some (.row 1 (zQ (w.stack++l))):=by intro l hl;simp [hl])
  (h6:hp' (.c Mn 0 8)=some (.row 2 (vY F p w.ZZ)):=by simp [om.ZZ])
  (h7:∀ (k:Nat) g,w.ZZ[k]?=some g->hp' (.u 8 k 0)=some (.row 1 [[iv g.1]])/\hp' (.u 8 k 1)=some (.row 1 [[ptE g.2]])/\hp' (.u 8 k 2)=some (.row 1 [[isl (match p[g.1]? with|some b=>b.params|none=>[])]])/\hp' (.u 8 k 3)=some (.row 1 [[.pt Mn 0]]):=by intro k g hg;simp [om.bx k g hg])
  (h8:hp' (.c Mn 0 9)=some (.row 1 (vX Mn w.ZV)):=by simp [om.Zw])
  (h9:∀ (k:Nat) ms,hp (.c Mn (k+1) 9)=some (.map (wC ms))->hp' (.c Mn (k+1) 9)=some (.map (wC ms)):=by intro k ms hm;simp [hm])
  (hA:∀ (i:Nat) a,w.ZX[i]?=some a->hp' (En i)=some (.row 3 [yU i a]):=by intro i a ha;simp [om.env i a ha])
  (hB:∀ (i:Nat) ms,i<w.ZX.length->hp (.c (En i) 0 1)=some (.map (wC ms))->hp' (.c (En i) 0 1)=some (.map (wC ms)):=by intro i ms hi hm;simp [hm])
  (hC:∀ k i j,fM k=true->¬ (k=1/\i=0/\j=0)->hp' (.u k i j)≠none->hp (.u k i j)≠none:=by intro k i j hk e hn;simpa [hk,e] using hn):Z4 hp' F p w :=
 ⟨h0,⟨h1,h2⟩,h3,h4,om.run.imp λl hl=>⟨hl.1,h5 l hl.2⟩,h6,h7,h8,λk c hc=>(om.cls k c hc).imp λms hm=>⟨h9 k ms hm.1,hm.2⟩,hA,λi hi=>(om.nms i hi).imp λms hm=>⟨hB i ms hi hm.1,hm.2⟩,λk i j hk hn=>if e:k=1/\i=0/\j=0 then .inl e else om.only k i j hk (hC k i j hk e hn)⟩
theorem Z4.ext {H hp:Nm->Option AO} {F:Nat} {p:Z0} {w0 w:Z5} (h0:Z4 H F p w0) (h:Z4 hp F p w) (ha:w0.ZX.length<=w.ZX.length) (hf:w0.ZZ.length<=w.ZZ.length):∀ k i j,(H (.u k i j)).isSome=true->DM (.u k i j)=false\/(vC DM hp) (.u k i j)≠none:=by
 intro k i j hs
 cases hD:fM k with
 | false=>simp_all
 | true =>
  right;have hd:DM (.u k i j)=true:=hD;rw [cL,if_pos hd];rcases h0.only k i j hD qj with⟨rfl,rfl,rfl⟩|⟨rfl,hi,rfl⟩|⟨rfl,hi,hj⟩
  .rw [h.top];simp
  .obtain⟨a,ha'⟩:∃ a,w.ZX[i]?=some a:=⟨_,gE qA⟩;rw [h.env i a ha'];simp
  .obtain⟨g,hg⟩:∃ g,w.ZZ[i]?=some g:=⟨_,gE qA⟩;obtain⟨a1,a2,a3,a4⟩:=h.bx i g hg
   grind
theorem Z4.qEX {H hp:Nm->Option AO} {F:Nat} {p:Z0} {w0 w:Z5} (h0:Z4 H F p w0) (h:Z4 hp F p w) (ha:w0.ZX.length<=w.ZX.length) (hf:w0.ZZ.length<=w.ZZ.length) (h2:(hp (.u 2 0 0)).isSome=true):∀ k i j,(H (.u k i j)).isSome=true->DM2 (.u k i j)=false\/(vC DM2 hp) (.u k i j)≠none:=by
 intro k i j hs;by_cases e:Nm.under (.u 2 0 0) (.u k i j)=true
 .simp_all<;>grind
 .simp only [bc] at e;rcases h0.ext h ha hf k i j hs with h1|h1<;>grind[WV,cL]
section
variable {X:Ctx} {st:St} {K:St->Prop} {E:AV->St->Prop} {d f:Nat} {ty:TypeId} {pos:String} {aft:Array Edge} {g:Option (Nat×Bool)} {args:Array Operand} {Ts:Array TypeId} {az:List AV} {R:Nm->AV->(Nm->Option AO)->Prop}
theorem eZ (hext:∀ k i j,X.ext (.u k i j)=true->DM (.u k i j)=false\/(vC DM st.hp) (.u k i j)≠none) (hd:d<X.n:=by first|(simp;done)|fail) (ha:args.toList.map (ev st)=az:=by simp [fx];first|done|rfl)
  (hF:Zj X.P X.gl f DM az (vC DM st.hp) R noE) (h:∀ y H',R (.s d) y H'->K ((st.call d DM (vC DM st.hp) H').put (some d) y)) :
  qS X ⟨some d,.call ⟨.value (.func f),args,Ts⟩,ty,pos,aft,g⟩ K E st:=lq DM (λ_=>qN) hext hd ha hF h
end
@[simp] theorem lok_mp {P:Program} {T:TypeId} {hp:Nm->Option AO} {m:Nm} {k':IntKind} {n:Int} {ok:Bool}:Jz P T hp (.mp m) (.sc (.int k' n)) ok=match nK P T with
  | some q=>if k'=q.1 then (match hp m with
   | some (.map es)=>if cK q.1 es then (match Eu q.1 n es with
    | some y=>some (if ok then .tup [y,.sc (.bool true)] else y)
    | none=>(c9 P q.2).map (λz=>if ok then .tup [z,.sc (.bool false)] else z)) else none
   | _=>none) else none
  | none=>none:=by
 unfold Jz
 cases nK P T with
 | none=>rfl
 | some q=>rfl
theorem Z4.sub {hp:Nm->Option AO} {F:Nat} {p:Z0} {w:Z5} (h:Z4 hp F p w) {D:Nm->Bool} (hD:∀ m,DM m=true->D m=true:=by intro m hm;first|exact hm|simp [hm]):Z4 (vC D hp) F p w:=by
 refine h.hp' (f:=some) (λ_ _=>rfl) (λm hm=>?_);rw [cL,if_pos (hD m hm)]
 cases hp m<;>grind[AO.Zr]
theorem qAa.get' {ms:Iz} {w:Z5} {l:Option Nat} {x:Int} (h:qAa ms (w.vars l)) (hx:0<=x/\x<=7):lk x ms=w.get l x:=by
 rw [h.at hx]
 grind[Z5.get]
theorem BD {hp hp':Nm->Option AO} {F:Nat} {p:Z0} {w:Z5} {a x:Nat} {s:Zt} {l:Option Nat} (hh:zS p) (hw:Zy p w) (ha:a<w.ZX.length) (hx:x<8) (hl:w.loc p a x=l) (hnm:w.nms (BW (w.loc p a x))=w.vars (w.loc p a x)) (h:Z4 hp F p w) {ms:Iz} (hms:qAa ms ((w.vars l).set (x:Int).toNat s)) (hq:∀ m,DM m=true->hp' m=if m=.c (En (BW l)) 0 1 then some (.map (wC ms)) else hp m):Z4 hp' F p (w.set l x s):=by
 obtain⟨e1,e2,e3,e4,e5,e6,e7⟩:=be (w:=w) (l:=l) (x:=(x:Int)) (s:=s);have hlen:(w.set l x s).ZX.length=w.ZX.length:=rK
 have hnms:∀ i,(w.set l x s).nms i=if i=BW l then (w.vars l).set (x:Int).toNat s else w.nms i:=by
  intro i
  cases l with
  | none =>
   grind[Z5.nms,Z5.set,BW]
  | some j =>
   have hj0:j≠0:=by
    rintro rfl;rcases dn (x:=(x:Int)) hh hw ha with⟨_,h2⟩|⟨o,i,c,ho,_,h2,_,h4,h5,_⟩<;>grind[Zy.a0]
   grind[Z5.nms,Z5.set,BW]
 have hget:∀ m,DM m=true->m≠.c (En (BW l)) 0 1->hp' m=hp m:=λm hm hne=>qH;refine⟨?_,⟨?_,λj k hj hk=>?_⟩,?_,?_,h.run.imp λl hl=>⟨qH,?_⟩,?_,λk g hg=>?_,?_,λk c hc=>?_,λi b hb=>?_,λi hi=>?_,λk i j hk hn=>?_⟩
 .rw [hget _ rfl qB,h.top];grind[uU]
 .rw [hget _ rfl qB,h.scs.top]
 .rw [hget _ rfl qB,h.scs.sc j k hj hk]
 .rw [hget _ rfl qB,h.out,e3]
 .rw [hget _ rfl qB,h.trc,e4]
 .rw [hget _ rfl qB,hl.2,e6]
 .rw [hget _ rfl qB,h.ZZ,e1]
 .rw [e1] at hg;obtain⟨a1,a2,a3,a4⟩:=h.bx k g hg;exact⟨by rw [hget _ rfl qB,a1],by rw [hget _ rfl qB,a2],by rw [hget _ rfl qB,a3],by rw [hget _ rfl qB,a4]⟩
 .rw [hget _ rfl qB,h.Zw,e2]
 .rw [e2] at hc;obtain⟨ms,a1,a2⟩:=h.cls k c hc;exact⟨ms,by rw [hget _ rfl qB,a1],a2⟩
 .obtain⟨b',hb',f1,f2,_⟩:=mG hb;rw [hget _ rfl qB,h.env i b' hb']
  grind[yU]
 .rw [hlen] at hi;rw [hnms];by_cases e:i=BW l
  .subst e;rw [if_pos rfl];exact⟨ms,by rw [hq _ rfl,if_pos rfl],hms⟩
  .rw [if_neg e];obtain⟨ms',a1,a2⟩:=h.nms i hi;exact⟨ms',by rw [hget _ rfl (by simp [e]),a1],a2⟩
 .rw [hget (.u k i j) hk qB] at hn;rw [hlen,e1];exact h.only k i j hk hn
section
variable {X:Ctx} {st:St} {K:St->Prop} {E:AV->St->Prop} {ty:TypeId} {pos:String} {aft:Array Edge} {g:Option (Nat×Bool)}
theorem He {dst:Option Nat} {T e:TypeId} {ts:Array TypeId} {m key:Operand} {k:IntKind} {i:Int} {n:Nm} {es:List (AV×AV)} {st':St} (hts:ts[0]?=some T:=by rfl) (hdn:∀ t,dst=some t->t<X.n:=by first|(intro t h;cases h;done)|(intro t h;obtain rfl:=sI h;simp;done)|fail) (ht:nK X.P T=some (k,e):=by simp [fx];first|done|rfl|exact⟨rfl,rfl⟩)
  (hm:ev st m=.mp n:=by simp [fx];first|done|rfl) (hk:ev st key=.sc (.int k i):=by simp [fx];first|done|rfl) (hn:st.hp n=some (.map es):=by simp [fx];first|done|rfl) (hks:cK k es=true:=by simp [fx];first|done|rfl)
  (hs:(st.Zp n (.map (Ev k i es))).put dst (.sc (.tuple #[]))=st':=by simp [fx];first|done|rfl) (h:K st'):qS X ⟨dst,.call { callee:=.builtin .delete,args:=#[m,key],argTypes:=ts },ty,pos,aft,g⟩ K E st:=by
 grind[J0]
end
section
variable {P:Program} {C:Nat->Prop} {wd:World} {g0:Gh} {H:Nm->Option AO} {n:Nat} {gl:Nat->Option (List AV)} {st:St} {K:St->Prop} {E:AV->St->Prop} {d f:Nat} {ty:TypeId} {pos:String} {aft:Array Edge} {g:Option (Nat×Bool)} {c:Operand} {args:Array Operand} {Ts:Array TypeId} {az xs ys:List AV} {R:Nm->AV->(Nm->Option AO)->Prop} {F:Nat} {p:Z0} {w0 w:Z5}
theorem yG (h0:Z4 H F p w0) (hO:Z4 st.hp F p w) (hl:w0.ZX.length<=w.ZX.length) (hf:w0.ZZ.length<=w.ZZ.length) (hd:d<n:=by first|(simp;done)|fail) (ha:args.toList.map (ev st)=az:=by simp [fx];first|done|rfl)
  (hF:Z4 (vC DM st.hp) F p w->Zj P gl f DM az (vC DM st.hp) R noE) (h:∀ y H',R (.s d) y H'->K ((st.call d DM (vC DM st.hp) H').put (some d) y)) :
  qS (dz P C wd g0 H n gl) ⟨some d,.call ⟨.value (.func f),args,Ts⟩,ty,pos,aft,g⟩ K E st:=lq DM (λ_=>qN) (λk i j he=>h0.ext hO hl hf k i j he) hd ha (hF hO.sub) h
theorem A4 (h0:Z4 H F p w0) (hO:Z4 st.hp F p w) (h2:(st.hp (.u 2 0 0)).isSome=true) (hl:w0.ZX.length<=w.ZX.length) (hf:w0.ZZ.length<=w.ZZ.length) (hd:d<n:=by first|(simp;done)|fail) (ha:args.toList.map (ev st)=az:=by simp [fx];first|done|rfl)
  (hF:Z4 (vC DM2 st.hp) F p w->Zj P gl f DM2 az (vC DM2 st.hp) R noE) (h:∀ y H',R (.s d) y H'->K ((st.call d DM2 (vC DM2 st.hp) H').put (some d) y)) :
  qS (dz P C wd g0 H n gl) ⟨some d,.call ⟨.value (.func f),args,Ts⟩,ty,pos,aft,g⟩ K E st:=lq DM2 (λ_=>cD) (λk i j he=>h0.qEX hO hl hf h2 k i j he) hd ha (hF hO.sub) h
theorem PD (h0:Z4 H F p w0) (hO:Z4 st.hp F p w) (h2:(st.hp (.u 2 0 0)).isSome=true) (hl:w0.ZX.length<=w.ZX.length) (hf:w0.ZZ.length<=w.ZZ.length) (hd:d<n:=by first|(simp;done)|fail)
  (hv:ev st c=.fn (.func f) xs ys:=by simp [fx];first|done|rfl) (ha:xs++args.toList.map (ev st)++ys=az:=by simp [fx];first|done|rfl)
  (hF:Z4 (vC DM2 st.hp) F p w->Zj P gl f DM2 az (vC DM2 st.hp) R noE) (h:∀ y H',R (.s d) y H'->K ((st.call d DM2 (vC DM2 st.hp) H').put (some d) y)) :
  qS (dz P C wd g0 H n gl) ⟨some d,.call ⟨.value c,args,Ts⟩,ty,pos,aft,g⟩ K E st:=SX DM2 (λ_=>cD) (λk i j he=>h0.qEX hO hl hf h2 k i j he) hd hv ha (hF hO.sub) h
end
def trI (l:List (Nat×Nat)):List (Int×Int):=l.map λv=>((v.1:Int),(v.2:Int))
section
variable {l:List (Nat×Nat)} {c:Int} {i:Nat}
@[simp] theorem LO:(trI l).length=l.length:=by simp [trI]
theorem M5:yw l=uc (trI l):=by simp [yw,trI,uc]
end
def Rsl.av (r:Rsl):AV:=.agg [isl r.out,iv r.en,iv r.left,isl r.gl]
@[simp] theorem Rsl.av_eq {r:Rsl}:r.av=.agg [isl r.out,iv r.en,iv r.left,isl r.gl]:=rfl
def Rsl.mark (r:Rsl) (c:Int):Rsl:=⟨QW r.out.length c,r.en,r.left,QW r.gl.length (c+r.out.length)⟩
section
variable {hp:Nm->Option AO} {n:Nm} {r:Rsl} {c:Int}
theorem qBf.qAH {H':Nm->Option AO} (h:qBf H' n r):qBf (Hm.qAH H') n r:=⟨zX h.out qB,zX h.gl qB⟩
theorem UA (h:qBf hp n r):∀ (j:Nat) a a',(r.own n)[j]?=some a->[isl r.out,iv r.en,iv r.left,isl r.gl][j]?=some a'->Bw hp noD a a'
 | 0,a,a',ha,ha'=>by obtain rfl:=sI ha;grind[vF,qBf.out]
 | 1,a,a',ha,ha'=>by obtain rfl:=sI ha;obtain rfl:=sI ha';exact .refl _
 | 2,a,a',ha,ha'=>by obtain rfl:=sI ha;obtain rfl:=sI ha';exact .refl _
 | 3,a,a',ha,ha'=>by obtain rfl:=sI ha;grind[vF,qBf.gl]
 | j+4,a,a',ha,_=>qH
theorem ik (h:qBf hp n r):Bw hp noD (.agg [.hs (.c n 0 0) 1 0 r.out.length,iv r.en,iv r.left,.hs (.c n 0 3) 1 0 r.gl.length]) (.agg [isl r.out,iv r.en,iv r.left,isl r.gl]):=.agg _ _ rfl (UA h)
@[simp] theorem Rsl.mark_en:(r.mark c).en=r.en:=rfl
@[simp] theorem Rsl.mark_left:(r.mark c).left=r.left:=rfl
end
section
variable {p:Z0} {f:Int}
theorem Q8 (hs:Sml p) (h:jT p f=true):∃ n:Nat,f=n/\n<=150/\Z7 p/\qCF p n (yI p n):=by
 obtain⟨hpo,n,rfl,hn⟩:=jl h
 grind[Zm.sh,Zm.of,lD]
theorem Pi (hs:Sml p):(Ay p f).out.length<=1000/\(Ay p f).gl.length<=8:=by
 unfold Ay
 split
 .rename_i h;obtain⟨n,rfl,hn,_,hm⟩:=Q8 hs h;have h1:=hm.ok.qBQ;have h2:=hm.ok.Zg.1
  grind[On,yd]
 .simp
end
end Go.Hm
end
section
namespace Go.Hm
open Go
structure qC2 (P:Program):Prop where
 laid:laidOutB P=true
 maps:mapsRowed P=true
 stops:(P.stops==[])=true
 knobs:(P.stopKnobs==[])=true
 keys:P.plainKeys=true
 heard:P.stopsHeard=true
 may:P.mayEnter=true
 qER:P.liftsFinal=false
 make:(P.make==some .cut)=true
theorem md {P:Program} {f:FuncId} {fn:Func} {s:ChangeSpec} {c:OpenClaim} (hp:qC2 P)
  (h1:c.wf (OpenSpec.ofChange s)=true) (h2:fn.params.all (P.readableRec ·)=true) (h3:namedTie P c.named s.vars=true) (h4:(c.stops==[])=true) (h5:(c.knobs==[])=true)
  (h6:(c.inPlace==P.inPlace f)=true) (h7:(c.unfollowed==P.unfollowed f)=true) (h8:(c.recurses==P.recurses f)=true) (h9:(c.named==P.varsNamed f)=true)
  (h10:(c.maps==(fn.params.toList++s.plain.varTypes P).any (P.mapsRec ·))=true) (h11:(c.ifaces==(fn.params.toList++s.plain.varTypes P).any (P.ifacesRec ·))=true) (h12:(c.mapsOut==P.mapsAmong fn.resultTypes.toList)=true)
  (h13:(c.loops==(fn.params.toList++s.plain.varTypes P).any (P.loopsFrom ·))=true) (h14:(c.wideKeys==(fn.params.toList++s.plain.varTypes P++fn.resultTypes.toList).any (P.wideKeysFrom ·))=true)
  (h15:s.vars.all (P.varReadable ·)=true) (h16:fn.resultTypes.all (λt=>P.readableRec t&&decide (t<P.types.size))=true) (h17:(c.ifacesOut==fn.resultTypes.toList.any (P.ifacesRec ·))=true) (h18:(c.loopsOut==fn.resultTypes.toList.any (P.loopsFrom ·))=true)
  (h19:c.plainKeys=true) (h20:c.shortTexts.isNone=true) (h21:c.lifted=false) (h22:c.make=.cut)
  (h23:(c.kinds==(if c.domain.isEmpty then [] else fn.params.toList.map λt=>match P.underlying t with|some (.int k)=>some k|_=>none))=true) (h24:(c.pinned==c.pinnedBy)=true)
  (h25:(c.veiled==(fn.params.toList++s.plain.varTypes P++fn.resultTypes.toList).any (P.veiledRec ·))=true) (h26:c.veiledFits P fn.params.toList (fn.params.toList++s.plain.varTypes P++fn.resultTypes.toList)=true):joinedFacts P f fn s c=true:=by
 have e1:(c.plainKeys==P.plainKeys)=true:=by rw [h19,hp.keys];rfl
 have e2:(c.lifted==P.liftsFinal)=true:=by rw [h21,hp.qER];rfl
 have e3:(P.make==some c.make)=true:=by rw [h22];exact hp.make
 unfold joinedFacts;simp only [hp.laid,hp.maps,hp.stops,hp.knobs,hp.heard,hp.may,h1,h2,h3,h4,h5,h6,h7,h8,h9,h10,h11,h12,h13,h14,h15,h16,h17,h18,h20,h24,h25,h26,e1,e2,e3,Bool.and_true,pP];exact h23
end Go.Hm
end
section
namespace Go.Hm
open Go Go.RowKit
section
variable {p:Z0} {f g n:Nat}
structure More (k:Nat) (w w':Z5):Prop where
 ZZ:w.ZZ.length<=w'.ZZ.length
 cls:w.ZV.length<=w'.ZV.length
 out:w.out <+: w'.out
 tr:w.trace <+: w'.trace
 same:w.en≠1->w'=Yr k w
 none:w.en=1->w.left=0
end
end Go.Hm
end
section
set_option linter.unusedSectionVars false
namespace Go.Hm
open Go Go.RowKit
def stl (t:List (Nat×Nat)) (k:Nat) (w:Z5):Z5:={ w with trace:=t,left:=k }
section
variable {p:Z0} {k m:Nat} {t:List (Nat×Nat)} {w:Z5} {a b i:Nat} {x:Int} {l:Option Nat} {vs:List Zd} {s:Z9} {v:Zd}
@[simp] theorem stl_stl {t':List (Nat×Nat)} {k':Nat}:stl t k (stl t' k' w)=stl t k w:=rfl
@[simp] theorem stl_loc:(stl t k w).loc p a x=w.loc p a x:=rfl
@[simp] theorem stl_blk:(stl t k w).Z1 a=w.Z1 a:=rfl
@[simp] theorem stl_en:(stl t k w).en=w.en:=rfl
@[simp] theorem stl_left:(stl t k w).left=k:=rfl
@[simp] theorem stl_out:(stl t k w).out=w.out:=rfl
end
def Sim (m:Nat) (r r':Z5×Zd):Prop:=(r.1.en≠1/\∃ t,r'=(stl t m r.1,r.2))\/(r.1.en=1/\(m=0->r'.1.out=r.1.out/\r'.1.left=0))
section
variable {p:Z0} {R:Z5->Nat->Z5×Zd} {R2:Nat->Z5->Nat->Z5×Zd} {n:Nat} {w:Z5} {a b i:Nat} {x:Int} {vs:List Zd} {s:Z9} {v:Zd}
variable (hR:∀ w a,w.left<n->w.en=0->∃ g,g+(R w a).1.left<=w.left/\∀ N t m,g+m<N->Sim m (R w a) (R2 N (stl t (g+m) w) a))
include hR
end
end Go.Hm
end
section

end
section

end
section

end
section
namespace Go.Hm
open Go Go.RowKit
section
variable {X:Ctx} {st:St} {K:St->Prop} {E:AV->St->Prop}
def Tw (D:Nm->Bool) (hp:Nm->Option AO):Nm->Option AO:=λm=>if D m then none else hp m
def St.forget (D:Nm->Bool) (st:St):St:={ tm:=st.tm,hp:=Tw D st.hp,n:=st.n,gl:=st.gl }
@[simp] theorem forget_tm {D:Nm->Bool} {t:Nat}:(st.forget D).tm t=st.tm t:=rfl
@[simp] theorem EE {D:Nm->Bool} {m:Nm}:(st.forget D).hp m=if D m then none else st.hp m:=rfl
theorem N5 {D:Nm->Bool}:∀ m o,Tw D st.hp m=some o->st.hp m=some o:=by
 grind[Tw]
theorem A6 {c:Code} {Q:Ex->St->Prop} (D:Nm->Bool) (h:qh X c Q (st.forget D)):qh X c Q st:=λa w hR=>h a w (hR.weaken _ N5)
end
section
variable {P:Program} {own:Nat->Prop} {C:Nat->Prop} {w0:World} {g:Gh} {st:St} {a:Go.Act} {w:World}
theorem Mg {o:Oper} {x y:Operand} {ts:Array TypeId} {i j:Int} (h:Rg P own C w0 g st a w) (ho:o.op=.call { callee:=.builtin .max,args:=#[x,y],argTypes:=ts }) (hdn:∀ t,o.dst=some t->t<st.n)
  (hx:ev st x=iv i) (hy:ev st y=iv j):Es P o a w λa' w'=>Rel P own C w0 g (st.put o.dst (iv (if j > i then j else i))) a' w':=by
 have hxv:=h.ev x;rw [hx] at hxv;have hxv:=hxv.Zo;have hyv:=h.ev y;rw [hy] at hyv;have hyv:=hyv.Zo;refine .inl ⟨.int .i64 (if j > i then j else i),w,?_,g,.refl g,h.put hdn (.sc _)⟩
 simp_all[execOp,resolve,invoke,builtin,Builtin.max_,Builtin.max2]
end
section
variable {X:Ctx} {st:St} {K:St->Prop} {E:AV->St->Prop} {d:Nat} {ty:TypeId} {pos:String} {aft:Array Edge} {g:Option (Nat×Bool)}
theorem PA {x y:Operand} {ts:Array TypeId} {i j:Int} (m:Int) (hm:m=max i j) (hd:d<X.n:=by first|(simp;done)|fail) (hx:ev st x=iv i:=by simp [fx];first|done|rfl) (hy:ev st y=iv j:=by simp [fx];first|done|rfl)
  (h:K (st.put (some d) (iv m))):qS X ⟨some d,.call ⟨.builtin .max,#[x,y],ts⟩,ty,pos,aft,g⟩ K E st:=by
 have e:(if j > i then j else i)=m:=qA;refine .qAq (st':=st.put (some d) (iv m)) (λ_ _ _ _ e' h'=>?_) ⟨Fb _ _ _,r8 _ _ _⟩ h;rw [<- e];exact Mg (o:=⟨some d,.call ⟨.builtin .max,#[x,y],ts⟩,ty,pos,aft,g⟩) h' rfl (λt et=>qH) hx hy
end
theorem OkS.two {D:Nm->Bool} {root n m:Nm} {i j i' j':Nat} (h:n.Zi=true) (h':m.Zi=true) (hne:¬ (i=i'/\j=j')):OkS D root [(n,.c root i j),(m,.c root i' j')]:=by
 refine⟨qj,qB,?_⟩
 grind[Nm.qDR]
def ai (p:Z0):Nat->Nat
 | 0=>0
 | n+1=>max (ai p n) (yI p n).stack.length
def Bc (p:Z0) (f:Int):Int:=if jT p f then (ai p (f.toNat+1):Nat) else -1
def WE (p:Z0) (b i:Nat):List Int:=((List.range i).filter λj=>WF p b j).map λj:Nat=>(j:Int)
section
variable {p:Z0} {b i:Nat} {k:Za}
@[simp] theorem idleTo_zero:WE p b 0=[]:=rfl
end
end Go.Hm
end
