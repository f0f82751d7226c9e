import Derived.Test.YtjgpejikjhojcaaGreatDoorT11
import Derived.Stop.Joined
set_option linter.unusedSimpArgs false
set_option linter.unusedVariables false
set_option maxRecDepth 100000
set_option maxHeartbeats 4000000

section
namespace Go.Hm
open Go Go.RowKit
def CX (p:qC) (t:Nat×Nat):Option qP:=match p[t.1]? with|some k=>k.body[t.2]?|none=>none
def GQ (p:qC) (t:Nat×Nat):Int:=match CX p t with|some s=>s.kind|none=>-1
def fT (p:qC) (d:Int) (tr:List (Nat×Nat)):Nat:=tr.countP λt=>GQ p t==d
def Hc (p:qC) (x:Int):Prop:=∃ (b:Nat) (k:qT),p[b]?=some k/\x∈k.bd/\zA p b x=-1
structure jl (p:qC) (a b c:Nat) (w w':qK):Prop where
 fns:w'.qJ.length+fT p 3 w.trace=w.qJ.length+fT p 3 w'.trace+a
 cls:w'.qO.length+fT p 4 w.trace<=w.qO.length+fT p 4 w'.trace+b
 out:w'.out.length+fT p 7 w.trace=w.out.length+fT p 7 w'.trace+c\/(w'.out.length+1+fT p 7 w.trace=w.out.length+fT p 7 w'.trace+c/\2<=w'.en/\w'.en<=4)
 tr:∀ t∈w'.trace,t∈w.trace\/(CX p t).isSome=true
 zJ:∀ (x:Nat) v,w'.globals[x]?=some (some v)->(∃ u,w.globals[x]?=some (some u))\/Hc p x
theorem jl.refl {p:qC} (w:qK):jl p 0 0 0 w w:=⟨rfl,qX _,.inl rfl,λ_ h=>.inl h,λ_ v h=>.inl ⟨v,h⟩⟩
theorem jl.en {p:qC} {c:Nat} {w:qK} {e:Int} (h:c=0\/(c=1/\2<=e/\e<=4)):jl p 0 0 c w { w with en:=e }:=by
 constructor<;>grind
theorem jl.trans {p:qC} {a b c a' b' c':Nat} {w w' w'':qK} (h:jl p a b c w w') (h0:w'.en=0) (h':jl p a' b' c' w' w''):jl p (a+a') (b+b') (c+c') w w'':=by
 refine⟨?_,?_,?_,λt ht=>?_,λx v hx=>?_⟩
 .have:=h.fns;grind[fns]
 .have:=h.cls;have:=h'.cls;omega
 .rcases h.out with e|⟨_,e,_⟩<;>grind[out]
 .rcases h'.tr t ht with e|e
  .exact h.tr t e
  simp_all
 .rcases h'.zJ x v hx with⟨u,e⟩|e
  .exact h.zJ x u e
  simp_all
theorem SU {p:qC} {b:Nat} {o:Int}:2<=jd p b o/\jd p b o<=4:=by grind[jd]
theorem Jy {p:qC} {w:qK} {a:Nat} {x:Int}:(zh p w a x).1=w\/∃ e,2<=e/\e<=4/\(zh p w a x).1={ w with en:=e }:=by
 unfold zh
 repeat' split
 all_goals simp_all[SU]
theorem TF {p:qC} {a:Nat}:∀ {l:List Int} {w:qK},(zB p w a l).1=w\/∃ e,2<=e/\e<=4/\(zB p w a l).1={ w with en:=e }
 := by intro x0;induction x0<;>grind[zB,Jy]
section
variable {p:qC} {R:qK->Nat->qK×qR} {n:Nat} {w:qK} {a b i:Nat} {x:Int} {vs:List qR} {s:qP} {v:qR} {k:qT}
theorem Uy {u:qR}:jl p 0 0 0 w (uF w v u).1:=by
 grind[uF,jl.en,jl.refl]
theorem Ob:jl p 0 0 0 w (uI w v x).1:=by
 grind[uI,jl.refl,jl.en]
theorem MH {sl:qu} (hx:0<=x) (hn:w.loc p a x=none->sl≠none->Hc p x):jl p 0 0 0 w (w.set (w.loc p a x) x sl):=by
 obtain⟨e1,e2,e3,e4,e5,e6,e7⟩:=nH (w:=w) (l:=w.loc p a x) (x:=x) (s:=sl);refine⟨qL,qL,.inl qL,λt ht=>.inl qL,λy v hy=>?_⟩
 cases hl:w.loc p a x<;>grind[qK.set]
def nn (p:qC) (n:Nat) (R:qK->Nat->qK×qR):Prop:=∀ (w:qK) (a:Nat),qt p w->w.left<n->a<w.qF.length->w.en=0->jl p 0 0 0 w (R w a).1
theorem QM {w':qK} (h:jl p 0 0 0 w w'):jl p 0 0 0 w (kG w'):=by
 unfold kG
 split
 .exact⟨h.fns,h.cls,h.out,h.tr,h.zJ⟩
 .exact h
theorem Ib (hL:nn p n R) (h:qt p w) (hn:w.left<n) (h0:w.en=0) (hm:vL p w.qF b a) (hv:∀ v∈vs,zO w.qJ.length w.qO.length v) (hr:Room 1 w):jl p 0 0 0 w (z8 p R w b a vs).1:=by
 have h1:=hL (zd p w b a vs) w.qF.length (oD h hm hv hr).1 hn oJ h0;have h2:jl p 0 0 0 w (R (zd p w b a vs) w.qF.length).1:=⟨h1.fns,h1.cls,h1.out,h1.tr,h1.zJ⟩;exact QM h2
theorem PN (hL:nn p n R) (h:qt p w) (hn:w.left<n) (h0:w.en=0) (hv:∀ v∈vs,zO w.qJ.length w.qO.length v) (hr:Room 1 w):jl p 0 0 0 w (vb p R w v vs).1:=by
 unfold vb
 split
 .grind[jl.en]
 .split
  .rename_i g hg
   split
   .grind[jl.en]
   .exact Ib hL h hn h0 (h.qJ _ g hg) hv hr
  .exact .refl w
theorem P5 (hL:nn p n R) (h:qt p w) (hn:w.left<n) (h0:w.en=0) (hm:vL p w.qF b a) (hr:Room 1 w):jl p 0 1 0 w (aZ p R w b a).1:=by
 have h1:=Ib (vs:=[]) hL h hn h0 hm (λv hv=>oH) hr;have hc:=h1.cls;constructor<;>grind[aZ,jl.fns,jl.out,jl.tr,jl.zJ]
theorem GP (h:zW p (w.qD a) k s=true) (ha:a<w.qF.length) (e:s.kind=3\/s.kind=4):vL p w.qF s.a.toNat a:=by
 obtain⟨c,hc⟩:=gX ha
 grind[zW.made,v8,vL]
def one (b:Prop) [Decidable b]:Nat:=if b then 1 else 0
theorem qAM (hL:nn p n R) (h:qt p w) (hn:w.left<n) (h0:w.en=0) (ha:a<w.qF.length) (hs:zW p (w.qD a) k s=true) (hv:∀ v∈vs,zO w.qJ.length w.qO.length v) (hr:Room 2 w) :
  jl p (one (s.kind=3)) (one (s.kind=4)) 0 w (j9 p R w a s vs).1:=by
 unfold j9
 split
 .grind[one,jl.refl]
 .split
  .grind[one,Uy]
  .split
   .constructor<;>grind[one]
   .rename_i e3
    split
    .rename_i e;simp only [one,e];exact P5 hL h hn h0 (GP hs ha (.inr e)) (hr.mono qA)
    .rename_i e4;simp only [one,e3,e4,if_false]
     split
     .exact PN hL h hn h0 (λv hv'=>hv v (List.mem_of_mem_tail hv')) (hr.mono qA)
     grind[Ob,jl.refl]
theorem TI (hh:zZ p) (h:qt p w) (ha:a<w.qF.length) (e:w.loc p a x=none):zA p (w.qD a) x=-1:=by
 grind[sK]
theorem Zv (hn:lu k) (hs:s∈k.body) (h:s.cu\/s.kind=11):s.to∈k.bd:=by
 have h1:=hn.zN s hs
 grind[mem_sorted,qT.bd,mM]
theorem Yz (hp:z6 p) (hR:bA p n R) (hL:nn p n R) (h:qt p w) (hn:w.left<n) (h0:w.en=0) (ha:a<w.qF.length) (hk:p[w.qD a]?=some k) (hsk:s∈k.body) (h8:¬ s.kind=8) (hr:Room 2 w) :
  jl p (one (s.kind=3)) (one (s.kind=4)) (one (s.kind=7)) w (vE p R w a s):=by
 have hs:=hp.an _ k hk s hsk;have hnm:=hp.names k (gM hk);have hx:=hnm.zN s hsk;have hkd:=zW.kind hs;unfold vE
 split
 .grind[one,jl.refl]
 .split
  .grind[one,wo,MH,jl.en]
  .rename_i e9 e11;obtain⟨hl1,hl2,_⟩:=ot (a:=a) (l:=s.reads) h;obtain⟨_,hvv⟩:=C7 hR h hn h0 ha hs hr;unfold y7 at hvv ⊢;have hne0:¬ w.en≠0:=qA;rcases TF (p:=p) (w:=w) (a:=a) (l:=s.reads) with hl|⟨e,he1,he2,hl⟩
   .rw [hl] at hvv ⊢;rw [if_neg hne0] at hvv ⊢;have hw:=qAM (s:=s) (vs:=(zB p w a s.reads).2) hL h hn h0 ha hs hl2 hr;by_cases e7:s.kind=7
    .constructor<;>grind[j9,one]
    .have o7:one (s.kind=7)=0:=by simp [one,e7]
     rw [o7]
     split
     .exact hw
     .rename_i he;have he0:(j9 p R w a s (zB p w a s.reads).2).1.en=0:=qA
      try rw [if_neg e7]
      obtain⟨w1,hw1⟩:∃ w1,(j9 p R w a s (zB p w a s.reads).2).1=w1:=⟨_,rfl⟩;have hok:=Gd hR h hn h0 ha hs hl2 hr;rw [hw1] at hw he0 hok ⊢;obtain⟨c,hc⟩:=gX ha;have hb1:=hok.1.grow.qD hc;have ha1:a<w1.qF.length:=uW ha hok.1.grow.aP;have yG:s.cu:=⟨hkd.1,qA⟩;refine hw.trans he0 (MH (p:=p) (w:=w1) (a:=a) hx.1 (λhl _=>?_));have:=TI hp.jR hok.1.ok ha1 hl;rw [hb1] at this;exact⟨w.qD a,k,hk,Zv hnm hsk (.inl yG),this⟩
   grind[qP.reads,zB,one,jl.en]
theorem My {w':qK} {i:Nat} (hk:p[w.qD a]?=some k) (hi:k.body[i]?=some s) {x3 x4 x7:Nat} (h:jl p x3 x4 x7 (zD w a i) w') (h3:x3=one (s.kind=3)) (h4:x4<=one (s.kind=4)) (h7:x7=one (s.kind=7)):jl p 0 0 0 w w':=by
 have hst:CX p (w.qD a,i)=some s:=by grind[CX]
 have hsk:GQ p (w.qD a,i)=s.kind:=by grind[GQ]
 have key:∀ d,fT p d (zD w a i).trace=fT p d w.trace+one (s.kind=d):=λd=>by
  grind[zD,one,fT]
 have k3:=key 3;have k4:=key 4;have k7:=key 7;obtain⟨f1,f2,f3,f4,f5⟩:=h;constructor<;>grind[zD]
theorem PD (hp:z6 p) (hR:bA p n R) (hL:nn p n R) {l:List qP}:∀ {w:qK} {i:Nat},qt p w->w.left<n+1->w.en=0->a<w.qF.length->p[w.qD a]?=some k->k.body.drop i=l->jl p 0 0 0 w (y9 p R a w i l).1:=by
 induction l with
 | nil=>intro w i _ _ _ _ _ _;exact .refl w
 | cons s l ih =>
  intro w i h hn h0 ha hk hd
  have hi:k.body[i]?=some s:=by
   have:=congrArg (·[0]?) hd
   grind
  have hd2:k.body.drop (i+1)=l:=by
   have:=congrArg (List.drop 1) hd
   grind[List.drop_drop]
  have hsk:=gM hi;simp only [y9]
  split
  .grind[jl.en]
  .rename_i hl;obtain⟨t1,t2⟩:=AQ (a:=a) (i:=i) h hl;have tn:(zD w a i).left<n:=by grind[zD]
   split
   .rename_i e8;have e3:¬ s.kind=3:=qA;have e7:¬ s.kind=7:=qA;refine My hk hi (x3:=0) (x4:=0) (x7:=0) ?_ (by simp [one,e3]) qA (by simp [one,e7])
    grind[Jy,jl.refl,jl.en]
   .rename_i e8;have hst:=Yz hp hR hL t1 tn h0 ha hk hsk e8 t2;have hok:=AN hR t1 tn h0 ha (hp.an _ k hk s hsk) t2;have hT:=My hk hi hst rfl (qX _) rfl
    split
    .exact hT
    .rename_i he;have he0:(vE p R (zD w a i) a s).en=0:=qA;have hA:=hok.tick hl;obtain⟨c,hc⟩:=gX ha;have hb:=hA.grow.qD hc;exact hT.trans he0 (ih hA.ok (by have:=hA.grow.left;omega) he0 (uW ha hA.grow.aP) qL hd2)
end
theorem Lh {p:qC} (hp:z6 p):∀ n,nn p n (qg p n)
 | 0=>λw a _ h=>absurd h qA
 | n+1=>by
  intro w a h hn ha h0;obtain⟨c,hc⟩:=gX ha;have hb:=h.wV a c hc;obtain⟨k,hk⟩:=gX hb;simp only [qg];rw [v8 hc,hk];exact PD hp (dZ hp n) (Lh hp n) (k:=k) h hn h0 ha (by grind[v8]) rfl
theorem T5 {p:qC} (hp:z6 p) {f:Nat} (hf:f<=150):jl p 0 0 0 (jX f) (vt p f) :=
 Lh hp 151 (jX f) 0 (AK hp hf) Ai gY rfl
section
variable {X:Ctx} {st:St} {K:St->Prop} {E:AV->St->Prop} {d f:Nat} {ty:TypeId} {pos:String} {aft:Array Edge} {g:Option (Nat×Bool)} {args:Array Operand} {Ts:Array TypeId} {az:List AV} {R:Nm->AV->(Nm->Option AO)->Prop}
theorem Cc (h1:(st.hp (.u 1 0 0)).isSome=true) (h2:(st.hp (.u 2 0 0)).isSome=true) (hd:d<X.n:=by first|(simp;done)|fail) (ha:args.toList.map (ev st)=az:=by simp [fx];first|done|rfl)
  (hF:qV X.P X.gl f vV az (ze vV st.hp) R qy) (h:∀ y H',R (.s d) y H'->K ((st.call d vV (ze vV st.hp) H').put (some d) y)) :
  q8 X ⟨some d,.call ⟨.value (.func f),args,Ts⟩,ty,pos,aft,g⟩ K E st:=by
 refine lh (az:=az) vV (λn h=>bZ h) (λk i j he=>?_) hd ha hF h
 simp_all<;>grind
end
structure zq (p:qC):Prop where
 sh:z6 p
 pm:∀ (b:Nat) k,p[b]?=some k->∀ x∈k.params,zA p b x=b
theorem zq.of {p:qC} (hs:uA p) (h:ye p=true):zq p:=by
 simp only [ye,jh] at h;have hp:=z6.of hs h.1;refine⟨hp,λb k hk x hx=>?_⟩;have hkm:=gM hk;have hxr:=(hp.names k hkm).params x hx
 have hb0:0<b:=by
  cases b with
  | zero =>
   have:=hp.head 0 k hk
   grind
  | succ b=>omega
 have hd:=yS.1 h.2 b (gN.2 (gS hk).1);have hbn:(b==0)=false:=qn;rw [hbn,Bool.false_or] at hd;simp only [aL,hk] at hd;have hdx:=yS.1 hd x.toNat (gN.2 qA)
 grind[w6,qT.bd,mem_sorted,mM,Kl,u7]
def jI (p:qC) (w:qK) (b up:Nat) (vs:List qR) (i:Nat):qK :=
 { w with qF:=w.qF++[⟨b,up,aD ((match p[b]? with|some k=>k.params|none=>[]).take i) (vs.take i)⟩],stack:=w.stack++[w.qF.length] }
theorem HY {p:qC} {w:qK} {b up i:Nat} {vs:List qR} (hi:vT p b<=i) (hv:vs.length<=i):jI p w b up vs i=zd p w b up vs:=by
 grind[jI,zd,vT,yU]
theorem DA {p:qC} {w:qK} {b up i:Nat} {vs:List qR} (h:qt p w) (hm:vL p w.qF b up) (hv:∀ v∈vs,zO w.qJ.length w.qO.length v) (hr:Room 1 w):qt p (jI p w b up vs i):=by
 have h0:=(oD h hm hv hr).1
 have key:∀ (j:Nat) a,(jI p w b up vs i).qF[j]?=some a->∃ a',(zd p w b up vs).qF[j]?=some a'/\a'.qD=a.qD/\a'.up=a.up/\(a.vars=a'.vars\/vF w.qJ.length w.qO.length a.vars):=by
  grind[jI,zd,H5]
 have mk:∀ {c j:Nat},vL p (zd p w b up vs).qF c j->vL p (jI p w b up vs i).qF c j:=by
  rintro c j ⟨a,k,h1,h2,h3,h4⟩;have hj:=(gS h1).1;obtain⟨a',ha'⟩:∃ a',(jI p w b up vs i).qF[j]?=some a':=⟨_,gE (by grind[jI,zd])⟩;obtain⟨a2,e1,e2,_⟩:=key j a' ha';rw [h1] at e1;obtain rfl:=sI e1;exact⟨a',k,ha',h2,qA,h4⟩
 refine⟨?_,λj a ha=>?_,λj a ha=>?_,λj a ha hj=>?_,h0.zJ,λj g hg=>mk (h0.qJ j g hg),h0.cls,λj hj=>by simpa [jI,zd] using h0.zR j hj,by simpa [jI,zd] using h0.ko,h0.ah,h0.wg,h0.kR,h0.wh,by simpa [jI,zd] using h0.lP,h0.dV,h0.eH⟩
 .grind[qt.a0,jI]
 .obtain⟨a',e1,e2,e3,e4⟩:=key j a ha;rcases e4 with e4|e4
  .rw [e4];exact h0.vars j a' e1
  .exact e4
 .obtain⟨a',e1,e2,e3,e4⟩:=key j a ha;rw [<- e2];exact h0.wV j a' e1
 .obtain⟨a',e1,e2,e3,e4⟩:=key j a ha;obtain⟨f1,f2⟩:=h0.up j a' e1 hj
  simp_all
theorem HZ {p:qC} {w:qK} {b up i:Nat} {k:qT} {x:Int} {v:qR} {vs:List qR} (hp:zq p) (hk:p[b]?=some k) (hx:k.params[i]?=some x) (hv:vs[i]?=some v):cz p (jI p w b up vs i) w.qF.length x v=jI p w b up vs (i+1):=by
 have hat:(jI p w b up vs i).qF[w.qF.length]?=some ⟨b,up,aD (k.params.take i) (vs.take i)⟩:=by simp [jI,hk]
 have ho:=hp.pm b k hk x (gM hx)
 have hloc:(jI p w b up vs i).loc p w.qF.length x=some w.qF.length:=by
  simp_all[qK.loc,v8,dQ]
 have hi:=(gS hx).1;have hj:=(gS hv).1
 have ht:aD (k.params.take (i+1)) (vs.take (i+1))=(aD (k.params.take i) (vs.take i)).set x.toNat (some v):=by
  unfold aD;rw [vM,vM,hx,hv];simp only [Option.toList_some];rw [List.zip_append qn];simp
 unfold cz;rw [hloc];simp only [qK.set,jI,hk];rw [ht]
 congr 1
 apply vl
 grind
theorem vL.shape {p:qC} {qF:List Act} {b i:Nat} (h:vL p qF b i):∃ k,p[b]?=some k/\vT p b=k.params.length:=by
 grind[vT,vL]
def fX (p:qC) (f:Int):Bool:=ye p&&(decide (0<=f)&&decide (f<=150))
structure eu where
 out:List Int
 en:Int
 left:Int
 gl:List Int
def eV (w:qK):eu:=⟨w.out,w.en,w.left,kx w.globals⟩
def xu (p:qC) (f:Int):eu:=if fX p f=true then eV (vt p f.toNat) else ⟨[],0,0,[]⟩
def eu.own (n:Nm) (r:eu):List AV:=[.hs (.c n 0 0) 1 0 r.out.length,iv r.en,iv r.left,.hs (.c n 0 3) 1 0 r.gl.length]
@[simp] theorem eu.FM {n:Nm} {r:eu}:r.own n=[.hs (.c n 0 0) 1 0 r.out.length,iv r.en,iv r.left,.hs (.c n 0 3) 1 0 r.gl.length]:=rfl
structure Co (hp:Nm->Option AO) (n:Nm) (r:eu):Prop where
 out:hp (.c n 0 0)=some (.row 1 (qm r.out))
 gl:hp (.c n 0 3)=some (.row 1 (qm r.gl))
structure Nu (p:qC) (f:Nat) (w:qK):Prop where
 ok:qt p w
 led:jl p 0 0 0 (jX f) w
 grow:Grow 0 (jX f) w
theorem El {p:qC} (hp:z6 p) {f:Nat} (hf:f<=150):Nu p f (vt p f) :=
 ⟨(KL hp hf).ok,T5 hp hf,(KL hp hf).grow⟩
theorem JE {p:qC} {f:Int} (h:fX p f=true):ye p=true/\∃ n:Nat,f=n/\n<=150:=by
 simp only [fX,jh,decide_eq_true_eq] at h;exact⟨h.1,f.toNat,qA,qA⟩
section
variable {n:Nm} {len i j:Nat} {f:Nm->Option Nm} {q:Int}
@[simp] theorem Xl (h:∀ j,f (.c n j 0)=some (.c n j 0)):(un n len i).map (λr=>r.map (AV.tr f))=un n len i:=xz λj _=>h j
@[simp] theorem UZ (h:∀ j,f (.c n j 0)=some (.c n j 0)):(kS n q).tr f=kS n q:=sV λ_=>h _
end
@[simp] theorem YY {P:Program} {T:TypeId} {hp:Nm->Option AO} {n:Nm} {z q len:Nat} {lo hi:Option Int}:uo P T hp (.hs n z q len) lo hi=match yQ P T with
  | some e=>if z=qd P e/\0<=lo.getD 0/\lo.getD 0<=hi.getD len/\(hi.getD len<=len\/q+(hi.getD len).toNat<=iF hp n z) then some (.hs n z (q+(lo.getD 0).toNat) ((hi.getD len).toNat - (lo.getD 0).toNat)) else none
  | none=>none:=rfl
def fM (k:Nat):Bool:=k==1||k==7||k==8
def DM:Nm->Bool:=Du fM
def kY (n:Nm):Bool:=DM n||Nm.under (.u 2 0 0) n
section
variable {n:Nm} {k i j d:Nat}
@[simp] theorem DM_s:DM (.s d)=false:=rfl
@[simp] theorem DM_u:DM (.u k i j)=fM k:=rfl
@[simp] theorem DM_c:DM (.c n i j)=DM n:=rfl
@[simp] theorem fM_1:fM 1=true:=rfl
@[simp] theorem fM_2:fM 2=false:=rfl
@[simp] theorem fM_7:fM 7=true:=rfl
@[simp] theorem fM_8:fM 8=true:=rfl
@[simp] theorem Nk:kY n=(DM n||Nm.under (.u 2 0 0) n):=rfl
theorem qv {n:Nm} (h:DM n=true):n.zo=false:=Np h
theorem n9 {n:Nm} (h:kY n=true):n.zo=false:=by
 simp only [kY,Bool.or_eq_true] at h;rcases h with h|h
 .exact qv h
 .exact yq rfl h
end
section
variable {l m:List Nat} {i:Nat} {f:Nm->Option Nm}
@[simp] theorem erows_len:(zV l).length=l.length:=oP
@[simp] theorem If:(zV l)[i]?=(l[i]?).map λi=>[vh i]:=oP
theorem QT:zV l++zV m=zV (l++m):=oP
theorem QU:zV l++[[vh i]]=zV (l++[i]):=oP
@[simp] theorem erows_take {n:Nat}:(zV l).take n=zV (l.take n):=oP
@[simp] theorem rq (h:∀ i,f (En i)=some (En i)):(zV l).map (λr=>r.map (AV.tr f))=zV l:=by
 simp_all[zV]
end
theorem rr {l:List Nat} {f:Nm->Option Nm} (h:∀ i∈l,f (En i)=some (En i)):(zV l).map (λr=>r.map (AV.tr f))=zV l:=by
 simp_all[zV]
def fR (F:Nat) (p:qC) (k:Nat) (g:Nat×Nat):List AV:=[iv (vT p g.1),.fn (.func F) [] [.pt (.u 8 k 0) 0,.pt (.u 8 k 1) 0,.pt (.u 8 k 2) 0,.pt (.u 8 k 3) 0]]
def wZ (F:Nat) (p:qC) (gs:List (Nat×Nat)):List (List AV):=gs.mapIdx λk g=>fR F p k g
def w5 (n:Nm) (cs:List (List qu)):List (List AV):=cs.mapIdx λk _=>[.mp (.c n (k+1) 9)]
section
variable {F:Nat} {p:qC} {gs:List (Nat×Nat)} {g:Nat×Nat} {cs:List (List qu)} {c:List qu} {n m:Nm} {i:Nat} {f:Nm->Option Nm}
@[simp] theorem cloRows_len:(wZ F p gs).length=gs.length:=by simp [wZ]
@[simp] theorem IW:(wZ F p gs)[i]?=(gs[i]?).map λg=>fR F p i g:=by simp [wZ]
@[simp] theorem cloRows_getE {h:i<(wZ F p gs).length}:(wZ F p gs)[i]=fR F p i (gs[i]' qL):=by simp [wZ]
theorem P9:wZ F p gs++[fR F p gs.length g]=wZ F p (gs++[g]):=by simp [wZ]
@[simp] theorem cloRows_fix (h:∀ k j,f (.u 8 k j)=some (.u 8 k j)):(wZ F p gs).map (λr=>r.map (AV.tr f))=wZ F p gs:=by
 apply vl;intro j;rw [jg,IW]
 cases hj:gs[j]?<;>simp_all[fR]
@[simp] theorem cmpRows_len:(w5 n cs).length=cs.length:=by simp [w5]
@[simp] theorem Ph:(w5 n cs)[i]?=(cs[i]?).map λ_=>[AV.mp (.c n (i+1) 9)]:=by simp [w5]
@[simp] theorem cmpRows_getE {h:i<(w5 n cs).length}:(w5 n cs)[i]=[AV.mp (.c n (i+1) 9)]:=by simp [w5]
theorem Pf:w5 n cs++[[.mp (.c n (cs.length+1) 9)]]=w5 n (cs++[c]):=by simp [w5]
theorem IZ {g:List AV->List AV} (h:∀ (i:Nat) c,cs[i]?=some c->g [.mp (.c n (i+1) 9)]=[.mp (.c m (i+1) 9)]):(w5 n cs).map g=w5 m cs:=by
 apply vl
 grind[Ph]
@[simp] theorem Pg (h:∀ i,f (.c n (i+1) 9)=some (.c n (i+1) 9)):(w5 n cs).map (λr=>r.map (AV.tr f))=w5 n cs:=IZ λi c _=>by simp [h i]
end
def zj (p:qC) (w:qK):List AV:=[vK p,.hs (.c Mn 0 1) 1 0 p.length,iv w.left,iv w.en,.hs (.c Mn 0 4) 1 0 w.out.length,.hs (.c Mn 0 5) 2 0 w.trace.length,vh 0,.hs (.c Mn 0 7) 1 0 w.stack.length,.hs (.c Mn 0 8) 2 0 w.qJ.length,.hs (.c Mn 0 9) 1 0 w.qO.length]
def uk (i:Nat) (a:Act):List AV:=[iv a.qD,.mp (.c (En i) 0 1),if i=0 then aR else vh a.up]
@[simp] theorem envRow_len {i:Nat} {a:Act}:(uk i a).length=3:=rfl
@[simp] theorem envRow_fix {i:Nat} {a:Act} {f:Nm->Option Nm} (h1:f (.c (En i) 0 1)=some (.c (En i) 0 1)) (h2:∀ j,f (En j)=some (En j)):(uk i a).map (AV.tr f)=uk i a:=by
 by_cases e:i=0<;>simp_all[uk]
def qK.ju (w:qK) (i:Nat):List qu:=if i=0 then w.globals else match w.qF[i]? with|some a=>a.vars|none=>[]
structure qZ (hp:Nm->Option AO) (F:Nat) (p:qC) (w:qK):Prop where
 top:hp Mn=some (.row 10 [zj p w])
 kW:eh hp (.c Mn 0 1) p p.length
 out:hp (.c Mn 0 4)=some (.row 1 (qm w.out))
 yH:hp (.c Mn 0 5)=some (.row 2 (vf w.trace))
 run:∃ l,(∀ i∈l,i<w.qF.length)/\hp (.c Mn 0 7)=some (.row 1 (zV (w.stack++l)))
 qJ:hp (.c Mn 0 8)=some (.row 2 (wZ F p w.qJ))
 bx:∀ (k:Nat) g,w.qJ[k]?=some g->hp (.u 8 k 0)=some (.row 1 [[iv g.1]])/\hp (.u 8 k 1)=some (.row 1 [[vh g.2]])/\hp (.u 8 k 2)=some (.row 1 [[vJ (match p[g.1]? with|some b=>b.params|none=>[])]])/\hp (.u 8 k 3)=some (.row 1 [[.pt Mn 0]])
 jk:hp (.c Mn 0 9)=some (.row 1 (w5 Mn w.qO))
 cls:∀ (k:Nat) c,w.qO[k]?=some c->∃ ms,hp (.c Mn (k+1) 9)=some (.map (uM ms))/\kZ ms c
 env:∀ (i:Nat) a,w.qF[i]?=some a->hp (En i)=some (.row 3 [uk i a])
 ju:∀ (i:Nat),i<w.qF.length->∃ ms,hp (.c (En i) 0 1)=some (.map (uM ms))/\kZ ms (w.ju i)
 only:∀ k i j,fM k=true->hp (.u k i j)≠none->(k=1/\i=0/\j=0)\/(k=7/\i<w.qF.length/\j=0)\/(k=8/\i<w.qJ.length/\j<4)
def w9:Option Nat->Nat
 | none=>0
 | some i=>i
theorem Bp {p:qC} {w:qK} {a:Nat} {x:Int} (hh:zZ p) (hw:qt p w) (ha:a<w.qF.length):w.ju (w9 (w.loc p a x))=w.vars (w.loc p a x)/\w9 (w.loc p a x)<w.qF.length:=by
 obtain⟨a0,h0,hb0⟩:=hw.a0;have hl0:=(gS h0).1;rcases sK (x:=x) hh hw ha with⟨h1,h2⟩|⟨o,i,c,ho,h1,h2,h3,h4,h5,_⟩<;>grind[qK.ju,w9,qK.vars]
theorem qZ.hp' {hp hp':Nm->Option AO} {F:Nat} {p:qC} {w:qK} (h:qZ hp F p w) {f:Nm->Option Nm} (hf:∀ m,DM m=true->f m=some m) (hh:∀ m,DM m=true->hp' m=(hp m).map (AO.tr f)):qZ hp' F p w:=by
 have hE:∀ i,f (En i)=some (En i):=λi=>hf _ rfl;have h8:∀ k j,f (.u 8 k j)=some (.u 8 k j):=λk j=>hf _ rfl;have hc:∀ j,f (.c Mn 0 j)=some (.c Mn 0 j):=λj=>hf _ rfl;refine⟨?_,⟨?_,λj k hj hk=>?_⟩,?_,?_,h.run.imp λl hl=>⟨hl.1,?_⟩,?_,λk g hg=>?_,?_,λk c hc'=>?_,λi a ha=>?_,λi hi=>?_,λk i j hk hn=>?_⟩
 .rw [hh _ rfl,h.top];simp_all[zj]
 .rw [hh _ rfl,h.kW.top];simp only [uX,AO.tr];rw [Xl λj=>hf _ rfl]
 .rw [hh _ rfl,h.kW.sc j k hj hk];simp only [uX,AO.tr,cR,List.map_nil,Xx];rw [UZ λj=>hf _ rfl]
 .rw [hh _ rfl,h.out];simp
 .rw [hh _ rfl,h.yH];simp
 .rw [hh _ rfl,hl.2]
  simp_all
 .rw [hh _ rfl,h.qJ]
  simp_all
 .obtain⟨a1,a2,a3,a4⟩:=h.bx k g hg;refine⟨?_,?_,?_,?_⟩
  .rw [hh _ rfl,a1];simp
  .rw [hh _ rfl,a2];simp_all
  .rw [hh _ rfl,a3];simp
  .rw [hh _ rfl,a4];simp [AO.tr,hf Mn rfl]
 .rw [hh _ rfl,h.jk];simp only [uX,AO.tr];rw [Pg λi=>hf _ rfl]
 .obtain⟨ms,a1,a2⟩:=h.cls k c hc';exact⟨ms,by rw [hh _ rfl,a1];simp,a2⟩
 .rw [hh _ rfl,h.env i a ha];have h1:=hf (.c (En i) 0 1) rfl
  simp_all
 .obtain⟨ms,a1,a2⟩:=h.ju i hi;exact⟨ms,by rw [hh _ rfl,a1];simp,a2⟩
 .refine h.only k i j hk λe=>hn ?_
  simp_all
theorem qZ.fin {hp:Nm->Option AO} {F:Nat} {p:qC} {w:qK} {D:Nm->Bool} {sbs:List (Nm×Nm)} (h:qZ hp F p w) (hD:∀ m,D m=true->m.zo=false:=by first|exact λ_=>qv|exact λ_=>n9) (hW:∀ m,DM m=true->D m=true:=by intro m hm;first|exact hm|simp [hm]) (hs:∀ q∈sbs,q.1.zo=true:=by simp [Nm.zo]):qZ (vd D sbs hp) F p w :=
 h.hp' (f:=zE D sbs) (λm hm=>md hD (hW m hm) hs) (λm hm=>qL)
theorem qZ.re {hp hp':Nm->Option AO} {F:Nat} {p:qC} {w:qK} (om:qZ hp F p w)
  (h0:hp' Mn=some (.row 10 [zj p w]):=by simp [om.top,zj])
  (h1:hp' (.c Mn 0 1)=some (.row 1 (un (.c Mn 0 1) p.length p.length)):=by simp [om.kW.top])
  (h2:∀ (j:Nat) k,j<p.length->p[j]?=some k->hp' (.c (.c Mn 0 1) j 0)=some (.row 43 [yK j k (kS (.c Mn 0 1) k.parent) k.params]):=by intro j k hj hk;simp [om.kW.sc j k hj hk])
  (h3:hp' (.c Mn 0 4)=some (.row 1 (qm w.out)):=by simp [om.out])
  (h4:hp' (.c Mn 0 5)=some (.row 2 (vf w.trace)):=by simp [om.yH])
  (h5:∀ l,hp (.c Mn 0 7)=some (.row 1 (zV (w.stack++l)))->hp' (.c Mn 0 7)=some (.row 1 (zV (w.stack++l))):=by intro l hl;simp [hl])
  (h6:hp' (.c Mn 0 8)=some (.row 2 (wZ F p w.qJ)):=by simp [om.qJ])
  (h7:∀ (k:Nat) g,w.qJ[k]?=some g->hp' (.u 8 k 0)=some (.row 1 [[iv g.1]])/\hp' (.u 8 k 1)=some (.row 1 [[vh g.2]])/\hp' (.u 8 k 2)=some (.row 1 [[vJ (match p[g.1]? with|some b=>b.params|none=>[])]])/\hp' (.u 8 k 3)=some (.row 1 [[.pt Mn 0]]):=by intro k g hg;simp [om.bx k g hg])
  (h8:hp' (.c Mn 0 9)=some (.row 1 (w5 Mn w.qO)):=by simp [om.jk])
  (h9:∀ (k:Nat) ms,hp (.c Mn (k+1) 9)=some (.map (uM ms))->hp' (.c Mn (k+1) 9)=some (.map (uM ms)):=by intro k ms hm;simp [hm])
  (hA:∀ (i:Nat) a,w.qF[i]?=some a->hp' (En i)=some (.row 3 [uk i a]):=by intro i a ha;simp [om.env i a ha])
  (hB:∀ (i:Nat) ms,i<w.qF.length->hp (.c (En i) 0 1)=some (.map (uM ms))->hp' (.c (En i) 0 1)=some (.map (uM ms)):=by intro i ms hi hm;simp [hm])
  (hC:∀ k i j,fM k=true->¬ (k=1/\i=0/\j=0)->hp' (.u k i j)≠none->hp (.u k i j)≠none:=by intro k i j hk e hn;simpa [hk,e] using hn):qZ hp' F p w :=
 ⟨h0,⟨h1,h2⟩,h3,h4,om.run.imp λl hl=>⟨hl.1,h5 l hl.2⟩,h6,h7,h8,λk c hc=>(om.cls k c hc).imp λms hm=>⟨h9 k ms hm.1,hm.2⟩,hA,λi hi=>(om.ju i hi).imp λms hm=>⟨hB i ms hi hm.1,hm.2⟩,λk i j hk hn=>if e:k=1/\i=0/\j=0 then .inl e else om.only k i j hk (hC k i j hk e hn)⟩
theorem qZ.ext {H hp:Nm->Option AO} {F:Nat} {p:qC} {w0 w:qK} (h0:qZ H F p w0) (h:qZ hp F p w) (ha:w0.qF.length<=w.qF.length) (hf:w0.qJ.length<=w.qJ.length):∀ k i j,(H (.u k i j)).isSome=true->DM (.u k i j)=false\/(ze DM hp) (.u k i j)≠none:=by
 intro k i j hs
 cases hD:fM k with
 | false=>simp_all
 | true =>
  right;have hd:DM (.u k i j)=true:=hD;rw [xL,if_pos hd];rcases h0.only k i j hD qp with⟨rfl,rfl,rfl⟩|⟨rfl,hi,rfl⟩|⟨rfl,hi,hj⟩
  .rw [h.top];simp
  .obtain⟨a,ha'⟩:∃ a,w.qF[i]?=some a:=⟨_,gE qA⟩;rw [h.env i a ha'];simp
  .obtain⟨g,hg⟩:∃ g,w.qJ[i]?=some g:=⟨_,gE qA⟩;obtain⟨a1,a2,a3,a4⟩:=h.bx i g hg
   grind
theorem qZ.Ih {H hp:Nm->Option AO} {F:Nat} {p:qC} {w0 w:qK} (h0:qZ H F p w0) (h:qZ hp F p w) (ha:w0.qF.length<=w.qF.length) (hf:w0.qJ.length<=w.qJ.length) (h2:(hp (.u 2 0 0)).isSome=true):∀ k i j,(H (.u k i j)).isSome=true->kY (.u k i j)=false\/(ze kY hp) (.u k i j)≠none:=by
 intro k i j hs;by_cases e:Nm.under (.u 2 0 0) (.u k i j)=true
 .simp_all<;>grind
 .simp only [kN] at e;rcases h0.ext h ha hf k i j hs with h1|h1<;>grind[Nk,xL]
section
variable {X:Ctx} {st:St} {K:St->Prop} {E:AV->St->Prop} {d f:Nat} {ty:TypeId} {pos:String} {aft:Array Edge} {g:Option (Nat×Bool)} {args:Array Operand} {Ts:Array TypeId} {az:List AV} {R:Nm->AV->(Nm->Option AO)->Prop}
theorem tA (hext:∀ k i j,X.ext (.u k i j)=true->DM (.u k i j)=false\/(ze DM st.hp) (.u k i j)≠none) (hd:d<X.n:=by first|(simp;done)|fail) (ha:args.toList.map (ev st)=az:=by simp [fx];first|done|rfl)
  (hF:qV X.P X.gl f DM az (ze DM st.hp) R qy) (h:∀ y H',R (.s d) y H'->K ((st.call d DM (ze DM st.hp) H').put (some d) y)) :
  q8 X ⟨some d,.call ⟨.value (.func f),args,Ts⟩,ty,pos,aft,g⟩ K E st:=lh DM (λ_=>qv) hext hd ha hF h
end
@[simp] theorem lok_mp {P:Program} {T:TypeId} {hp:Nm->Option AO} {m:Nm} {k':IntKind} {n:Int} {ok:Bool}:sL P T hp (.mp m) (.sc (.int k' n)) ok=match eb P T with
  | some q=>if k'=q.1 then (match hp m with
   | some (.map es)=>if we q.1 es then (match ci q.1 n es with
    | some y=>some (if ok then .zT [y,.sc (.bool true)] else y)
    | none=>(wx P q.2).map (λz=>if ok then .zT [z,.sc (.bool false)] else z)) else none
   | _=>none) else none
  | none=>none:=by
 unfold sL
 cases eb P T with
 | none=>rfl
 | some q=>rfl
theorem qZ.sub {hp:Nm->Option AO} {F:Nat} {p:qC} {w:qK} (h:qZ hp F p w) {D:Nm->Bool} (hD:∀ m,DM m=true->D m=true:=by intro m hm;first|exact hm|simp [hm]):qZ (ze D hp) F p w:=by
 refine h.hp' (f:=some) (λ_ _=>rfl) (λm hm=>?_);rw [xL,if_pos (hD m hm)]
 cases hp m<;>grind[AO.ud]
theorem kZ.get' {ms:cN} {w:qK} {l:Option Nat} {x:Int} (h:kZ ms (w.vars l)) (hx:0<=x/\x<=7):lk x ms=w.get l x:=by
 rw [h.at hx]
 grind[qK.get]
theorem FK {hp hp':Nm->Option AO} {F:Nat} {p:qC} {w:qK} {a x:Nat} {s:qu} {l:Option Nat} (hh:zZ p) (hw:qt p w) (ha:a<w.qF.length) (hx:x<8) (hl:w.loc p a x=l) (hnm:w.ju (w9 (w.loc p a x))=w.vars (w.loc p a x)) (h:qZ hp F p w) {ms:cN} (hms:kZ ms ((w.vars l).set (x:Int).toNat s)) (hq:∀ m,DM m=true->hp' m=if m=.c (En (w9 l)) 0 1 then some (.map (uM ms)) else hp m):qZ hp' F p (w.set l x s):=by
 obtain⟨e1,e2,e3,e4,e5,e6,e7⟩:=nH (w:=w) (l:=l) (x:=(x:Int)) (s:=s);have hlen:(w.set l x s).qF.length=w.qF.length:=AE
 have hnms:∀ i,(w.set l x s).ju i=if i=w9 l then (w.vars l).set (x:Int).toNat s else w.ju i:=by
  intro i
  cases l with
  | none =>
   grind[qK.ju,qK.set,w9]
  | some j =>
   have hj0:j≠0:=by
    rintro rfl;rcases sK (x:=(x:Int)) hh hw ha with⟨_,h2⟩|⟨o,i,c,ho,_,h2,_,h4,h5,_⟩<;>grind[qt.a0]
   grind[qK.ju,qK.set,w9]
 have hget:∀ m,DM m=true->m≠.c (En (w9 l)) 0 1->hp' m=hp m:=λm hm hne=>qL;refine⟨?_,⟨?_,λj k hj hk=>?_⟩,?_,?_,h.run.imp λl hl=>⟨qL,?_⟩,?_,λk g hg=>?_,?_,λk c hc=>?_,λi b hb=>?_,λi hi=>?_,λk i j hk hn=>?_⟩
 .rw [hget _ rfl qB,h.top];grind[zj]
 .rw [hget _ rfl qB,h.kW.top]
 .rw [hget _ rfl qB,h.kW.sc j k hj hk]
 .rw [hget _ rfl qB,h.out,e3]
 .rw [hget _ rfl qB,h.yH,e4]
 .rw [hget _ rfl qB,hl.2,e6]
 .rw [hget _ rfl qB,h.qJ,e1]
 .rw [e1] at hg;obtain⟨a1,a2,a3,a4⟩:=h.bx k g hg;exact⟨by rw [hget _ rfl qB,a1],by rw [hget _ rfl qB,a2],by rw [hget _ rfl qB,a3],by rw [hget _ rfl qB,a4]⟩
 .rw [hget _ rfl qB,h.jk,e2]
 .rw [e2] at hc;obtain⟨ms,a1,a2⟩:=h.cls k c hc;exact⟨ms,by rw [hget _ rfl qB,a1],a2⟩
 .obtain⟨b',hb',f1,f2,_⟩:=AD hb;rw [hget _ rfl qB,h.env i b' hb']
  grind[uk]
 .rw [hlen] at hi;rw [hnms];by_cases e:i=w9 l
  .subst e;rw [if_pos rfl];exact⟨ms,by rw [hq _ rfl,if_pos rfl],hms⟩
  .rw [if_neg e];obtain⟨ms',a1,a2⟩:=h.ju i hi;exact⟨ms',by rw [hget _ rfl (by simp [e]),a1],a2⟩
 .rw [hget (.u k i j) hk qB] at hn;rw [hlen,e1];exact h.only k i j hk hn
section
variable {X:Ctx} {st:St} {K:St->Prop} {E:AV->St->Prop} {ty:TypeId} {pos:String} {aft:Array Edge} {g:Option (Nat×Bool)}
theorem qAY {dst:Option Nat} {T e:TypeId} {ts:Array TypeId} {m key:Operand} {k:IntKind} {i:Int} {n:Nm} {es:List (AV×AV)} {st':St} (hts:ts[0]?=some T:=by rfl) (hdn:∀ t,dst=some t->t<X.n:=by first|(intro t h;cases h;done)|(intro t h;obtain rfl:=sI h;simp;done)|fail) (ht:eb X.P T=some (k,e):=by simp [fx];first|done|rfl|exact⟨rfl,rfl⟩)
  (hm:ev st m=.mp n:=by simp [fx];first|done|rfl) (hk:ev st key=.sc (.int k i):=by simp [fx];first|done|rfl) (hn:st.hp n=some (.map es):=by simp [fx];first|done|rfl) (hks:we k es=true:=by simp [fx];first|done|rfl)
  (hs:(st.zS n (.map (cg k i es))).put dst (.sc (.tuple #[]))=st':=by simp [fx];first|done|rfl) (h:K st'):q8 X ⟨dst,.call { callee:=.builtin .delete,args:=#[m,key],argTypes:=ts },ty,pos,aft,g⟩ K E st:=by
 grind[YF]
end
section
variable {P:Program} {C:Nat->Prop} {wd:World} {g0:Gh} {H:Nm->Option AO} {n:Nat} {gl:Nat->Option (List AV)} {st:St} {K:St->Prop} {E:AV->St->Prop} {d f:Nat} {ty:TypeId} {pos:String} {aft:Array Edge} {g:Option (Nat×Bool)} {c:Operand} {args:Array Operand} {Ts:Array TypeId} {az xs ys:List AV} {R:Nm->AV->(Nm->Option AO)->Prop} {F:Nat} {p:qC} {w0 w:qK}
theorem kM (h0:qZ H F p w0) (hO:qZ st.hp F p w) (hl:w0.qF.length<=w.qF.length) (hf:w0.qJ.length<=w.qJ.length) (hd:d<n:=by first|(simp;done)|fail) (ha:args.toList.map (ev st)=az:=by simp [fx];first|done|rfl)
  (hF:qZ (ze DM st.hp) F p w->qV P gl f DM az (ze DM st.hp) R qy) (h:∀ y H',R (.s d) y H'->K ((st.call d DM (ze DM st.hp) H').put (some d) y)) :
  q8 (jb P C wd g0 H n gl) ⟨some d,.call ⟨.value (.func f),args,Ts⟩,ty,pos,aft,g⟩ K E st:=lh DM (λ_=>qv) (λk i j he=>h0.ext hO hl hf k i j he) hd ha (hF hO.sub) h
theorem Gf (h0:qZ H F p w0) (hO:qZ st.hp F p w) (h2:(st.hp (.u 2 0 0)).isSome=true) (hl:w0.qF.length<=w.qF.length) (hf:w0.qJ.length<=w.qJ.length) (hd:d<n:=by first|(simp;done)|fail) (ha:args.toList.map (ev st)=az:=by simp [fx];first|done|rfl)
  (hF:qZ (ze kY st.hp) F p w->qV P gl f kY az (ze kY st.hp) R qy) (h:∀ y H',R (.s d) y H'->K ((st.call d kY (ze kY st.hp) H').put (some d) y)) :
  q8 (jb P C wd g0 H n gl) ⟨some d,.call ⟨.value (.func f),args,Ts⟩,ty,pos,aft,g⟩ K E st:=lh kY (λ_=>n9) (λk i j he=>h0.Ih hO hl hf h2 k i j he) hd ha (hF hO.sub) h
theorem qAW (h0:qZ H F p w0) (hO:qZ st.hp F p w) (h2:(st.hp (.u 2 0 0)).isSome=true) (hl:w0.qF.length<=w.qF.length) (hf:w0.qJ.length<=w.qJ.length) (hd:d<n:=by first|(simp;done)|fail)
  (hv:ev st c=.fn (.func f) xs ys:=by simp [fx];first|done|rfl) (ha:xs++args.toList.map (ev st)++ys=az:=by simp [fx];first|done|rfl)
  (hF:qZ (ze kY st.hp) F p w->qV P gl f kY az (ze kY st.hp) R qy) (h:∀ y H',R (.s d) y H'->K ((st.call d kY (ze kY st.hp) H').put (some d) y)) :
  q8 (jb P C wd g0 H n gl) ⟨some d,.call ⟨.value c,args,Ts⟩,ty,pos,aft,g⟩ K E st:=qA1 kY (λ_=>n9) (λk i j he=>h0.Ih hO hl hf h2 k i j he) hd hv ha (hF hO.sub) h
end
end Go.Hm
end
section

end
section

end
section
namespace Go.Hm
open Go
structure HL (P:Program):Prop where
 laid:laidOutB P=true
 maps:mapsRowed P=true
 stops:(P.stops==[])=true
 knobs:(P.stopKnobs==[])=true
 keys:P.plainKeys=true
 heard:P.stopsHeard=true
 may:P.mayEnter=true
 Sr:P.liftsFinal=false
 make:(P.make==some .cut)=true
theorem SH {P:Program} {f:FuncId} {fn:Func} {s:ChangeSpec} {c:OpenClaim} (hp:HL P)
  (h1:c.wf (OpenSpec.ofChange s)=true) (h2:fn.params.all (P.readableRec ·)=true) (h3:namedTie P c.named s.vars=true) (h4:(c.stops==[])=true) (h5:(c.knobs==[])=true)
  (h6:(c.inPlace==P.inPlace f)=true) (h7:(c.unfollowed==P.unfollowed f)=true) (h8:(c.recurses==P.recurses f)=true) (h9:(c.named==P.varsNamed f)=true)
  (h10:(c.maps==(fn.params.toList++s.plain.varTypes P).any (P.mapsRec ·))=true) (h11:(c.ifaces==(fn.params.toList++s.plain.varTypes P).any (P.ifacesRec ·))=true) (h12:(c.mapsOut==P.mapsAmong fn.resultTypes.toList)=true)
  (h13:(c.loops==(fn.params.toList++s.plain.varTypes P).any (P.loopsFrom ·))=true) (h14:(c.wideKeys==(fn.params.toList++s.plain.varTypes P++fn.resultTypes.toList).any (P.wideKeysFrom ·))=true)
  (h15:s.vars.all (P.varReadable ·)=true) (h16:fn.resultTypes.all (λt=>P.readableRec t&&decide (t<P.types.size))=true) (h17:(c.ifacesOut==fn.resultTypes.toList.any (P.ifacesRec ·))=true) (h18:(c.loopsOut==fn.resultTypes.toList.any (P.loopsFrom ·))=true)
  (h19:c.plainKeys=true) (h20:c.shortTexts.isNone=true) (h21:c.lifted=false) (h22:c.make=.cut)
  (h23:(c.kinds==(if c.domain.isEmpty then [] else fn.params.toList.map λt=>match P.underlying t with|some (.int k)=>some k|_=>none))=true) (h24:(c.pinned==c.pinnedBy)=true)
  (h25:(c.veiled==(fn.params.toList++s.plain.varTypes P++fn.resultTypes.toList).any (P.veiledRec ·))=true) (h26:c.veiledFits P fn.params.toList (fn.params.toList++s.plain.varTypes P++fn.resultTypes.toList)=true):joinedFacts P f fn s c=true:=by
 have e1:(c.plainKeys==P.plainKeys)=true:=by rw [h19,hp.keys];rfl
 have e2:(c.lifted==P.liftsFinal)=true:=by rw [h21,hp.Sr];rfl
 have e3:(P.make==some c.make)=true:=by rw [h22];exact hp.make
 unfold joinedFacts;simp only [hp.laid,hp.maps,hp.stops,hp.knobs,hp.heard,hp.may,h1,h2,h3,h4,h5,h6,h7,h8,h9,h10,h11,h12,h13,h14,h15,h16,h17,h18,h20,h24,h25,h26,e1,e2,e3,Bool.and_true,dk];exact h23
end Go.Hm
end
section
namespace Go.Hm
open Go Go.RowKit
section
variable {p:qC} {f g n:Nat}
structure More (k:Nat) (w w':qK):Prop where
 qJ:w.qJ.length<=w'.qJ.length
 cls:w.qO.length<=w'.qO.length
 out:w.out <+: w'.out
 tr:w.trace <+: w'.trace
 same:w.en≠1->w'=Cw k w
 none:w.en=1->w.left=0
end
end Go.Hm
end
section
set_option linter.unusedSectionVars false
namespace Go.Hm
open Go Go.RowKit
def wR (t:List (Nat×Nat)) (k:Nat) (w:qK):qK:={ w with trace:=t,left:=k }
section
variable {p:qC} {k m:Nat} {t:List (Nat×Nat)} {w:qK} {a b i:Nat} {x:Int} {l:Option Nat} {vs:List qR} {s:qP} {v:qR}
@[simp] theorem stl_stl {t':List (Nat×Nat)} {k':Nat}:wR t k (wR t' k' w)=wR t k w:=rfl
@[simp] theorem stl_loc:(wR t k w).loc p a x=w.loc p a x:=rfl
@[simp] theorem stl_blk:(wR t k w).qD a=w.qD a:=rfl
@[simp] theorem stl_en:(wR t k w).en=w.en:=rfl
@[simp] theorem stl_left:(wR t k w).left=k:=rfl
@[simp] theorem stl_out:(wR t k w).out=w.out:=rfl
end
def Nx (m:Nat) (r r':qK×qR):Prop:=(r.1.en≠1/\∃ t,r'=(wR t m r.1,r.2))\/(r.1.en=1/\(m=0->r'.1.out=r.1.out/\r'.1.left=0))
section
variable {p:qC} {R:qK->Nat->qK×qR} {R2:Nat->qK->Nat->qK×qR} {n:Nat} {w:qK} {a b i:Nat} {x:Int} {vs:List qR} {s:qP} {v:qR}
variable (hR:∀ w a,w.left<n->w.en=0->∃ g,g+(R w a).1.left<=w.left/\∀ N t m,g+m<N->Nx m (R w a) (R2 N (wR t (g+m) w) a))
include hR
end
end Go.Hm
end
section

end
section

end
section

end
section
namespace Go.Hm
open Go Go.RowKit
section
variable {X:Ctx} {st:St} {K:St->Prop} {E:AV->St->Prop}
def Pz (D:Nm->Bool) (hp:Nm->Option AO):Nm->Option AO:=λm=>if D m then none else hp m
def St.forget (D:Nm->Bool) (st:St):St:={ tm:=st.tm,hp:=Pz D st.hp,n:=st.n,gl:=st.gl }
@[simp] theorem forget_tm {D:Nm->Bool} {t:Nat}:(st.forget D).tm t=st.tm t:=rfl
@[simp] theorem forget_hp {D:Nm->Bool} {m:Nm}:(st.forget D).hp m=if D m then none else st.hp m:=rfl
end
section
variable {P:Program} {own:Nat->Prop} {C:Nat->Prop} {w0:World} {g:Gh} {st:St} {a:Go.Act} {w:World}
theorem T0 {o:Oper} {x y:Operand} {ts:Array TypeId} {i j:Int} (h:Rg P own C w0 g st a w) (ho:o.op=.call { callee:=.builtin .max,args:=#[x,y],argTypes:=ts }) (hdn:∀ t,o.dst=some t->t<st.n)
  (hx:ev st x=iv i) (hy:ev st y=iv j):aU P o a w λa' w'=>uy P own C w0 g (st.put o.dst (iv (if j > i then j else i))) a' w':=by
 have hxv:=h.ev x;rw [hx] at hxv;have hxv:=hxv.zi;have hyv:=h.ev y;rw [hy] at hyv;have hyv:=hyv.zi;refine .inl ⟨.int .i64 (if j > i then j else i),w,?_,g,.refl g,h.put hdn (.sc _)⟩
 simp_all[execOp,resolve,invoke,builtin,Builtin.max_,Builtin.max2]
end
section
variable {X:Ctx} {st:St} {K:St->Prop} {E:AV->St->Prop} {d:Nat} {ty:TypeId} {pos:String} {aft:Array Edge} {g:Option (Nat×Bool)}
theorem qA0 {x y:Operand} {ts:Array TypeId} {i j:Int} (m:Int) (hm:m=max i j) (hd:d<X.n:=by first|(simp;done)|fail) (hx:ev st x=iv i:=by simp [fx];first|done|rfl) (hy:ev st y=iv j:=by simp [fx];first|done|rfl)
  (h:K (st.put (some d) (iv m))):q8 X ⟨some d,.call ⟨.builtin .max,#[x,y],ts⟩,ty,pos,aft,g⟩ K E st:=by
 have e:(if j > i then j else i)=m:=qA;refine .ck (st':=st.put (some d) (iv m)) (λ_ _ _ _ e' h'=>?_) ⟨pD _ _ _,pC _ _ _⟩ h;rw [<- e];exact T0 (o:=⟨some d,.call ⟨.builtin .max,#[x,y],ts⟩,ty,pos,aft,g⟩) h' rfl (λt et=>qL) hx hy
end
def Rb (p:qC) (b i:Nat):List Int:=((List.range i).filter λj=>Ra p b j).map λj:Nat=>(j:Int)
section
variable {p:qC} {b i:Nat} {k:qT}
@[simp] theorem idleTo_zero:Rb p b 0=[]:=rfl
end
end Go.Hm
end
section

end
section

end
section
namespace Go.Hm
open Go Go.RowKit
def R3 (g:Int->qu) (l:List Int):List (AV×AV):=l.map λx=>(iv x,.agg (j6 (g x)))
section
variable {g:Int->qu} {l:List Int} {n:Int} {f:Nm->Option Nm}
@[simp] theorem grows_nil:R3 g []=[]:=rfl
theorem GJ {xs:List Int}:∀ n:Nat,(uR xs n).Pairwise (·<·)
 | 0=>.nil
 | n+1=>by
  simp only [uR]
  split
  .refine List.pairwise_append.2 ⟨GJ n,qB,?_⟩
   grind[Bm]
  .exact GJ n
end
structure qN where
 qD:Nat
 pc:Nat
 qw:List qu
 cells:List Nat
 names:List qu
 stack:List qR
structure qU where
 cells:List qu
 globals:List qu
 qJ:List (Nat×List Nat)
 qO:List (List qu)
 qW:List qN
 made:Nat
 deep:Nat
 out:List Int
 trace:List (Nat×Nat)
 en:Int
 left:Nat
def kU (p:qC) (b:Nat):Nat:=match p[b]? with|some k=>k.parent.toNat|none=>0
def jr (p:qC) (b:Nat):List Int:=(jF p b).map (eG p (kU p b))
theorem EE {p:qC} {b:Nat}:(jr p b).length<=8:=by simp [jr,oh]
section
variable (p:qC) (m:qU) (fs:List qN) (f:qN) (o:Int×Int)
def qU.top:qU:={ m with qW:=fs++[f] }
def qU.stop (e:Int):qU:={ m.top fs f with en:=e }
def qN.push (v:qR):qN:={ f with stack:=f.stack++[v] }
def qN.pop:qN:={ f with stack:=f.stack.dropLast }
def qN.zN:qR:=f.stack.getLastD (0,0)
def zn (l:List qu) (i:Nat):qu:=match l[i]? with|some s=>s|none=>none
def uB:qu :=
 if o.1<=4 then zn f.qw o.2.toNat
 else if o.1<=7 then zn m.cells (f.cells.getD o.2.toNat 0)
 else if o.1<=10 then zn m.globals o.2.toNat else zn f.names o.2.toNat
def wS:Int:=if o.1<=4 then 2 else if o.1<=7 then (if o.2<(qh p f.qD).length then 2 else 3) else 4
def yY (s:qu):qU :=
 if o.1<=4 then m.top fs { f with qw:=f.qw.set o.2.toNat s }
 else if o.1<=7 then { m.top fs f with cells:=m.cells.set (f.cells.getD o.2.toNat 0) s }
 else if o.1<=10 then { m.top fs f with globals:=m.globals.set o.2.toNat s } else m.top fs { f with names:=f.names.set o.2.toNat s }
def wc:qU:=match uB m f o with
 | some v=>m.top fs (f.push v)
 | none=>if wS p f o=4 then
   match zn m.globals o.2.toNat with
   | some v=>m.top fs (f.push v)
   | none=>if o.2=7 then m.top fs (f.push (1,70)) else m.stop fs f 4
  else m.stop fs f (wS p f o)
def CW:qU:=yY m fs f.pop o (some f.zN)
def mb:qU:=match uB m f o with
 | some _=>yY m fs f o none
 | none=>m.stop fs f (wS p f o)
def vP (b:Nat) (cs:List Nat) (vs:List qR):qU :=
 let F:qN:=⟨b,0,List.replicate (zK p b).length none,((List.range (qh p b).length).map (m.cells.length+·))++cs,j3,[]⟩
 let M:qU:={ m with cells:=m.cells++List.replicate (qh p b).length none,made:=m.made+1,deep:=max m.deep (m.qW.length+1),qW:=m.qW++[F] }
 match (zr p b).params,vs with
 | [x],[v]=>if x∈zK p b then { M with qW:=m.qW++[{ F with qw:=F.qw.set (vg (zK p b) x).toNat (some v) }] }
  else { M with cells:=M.cells.set (m.cells.length+(vg (qh p b) x).toNat) (some v) }
 | _,_=>M
def eE:qU :=
 let n:=o.2.toNat
 let k:=f.stack.length - n - 1
 let F:qN:={ f with stack:=f.stack.take k }
 let g:=f.stack.getD k (0,0)
 if g.1≠2 then m.stop fs F 5 else
 match m.qJ[g.2.toNat]? with
 | some h=>if vT p h.1≠n then m.stop fs F 6 else vP p (m.top fs F) h.1 h.2 (f.stack.drop (k+1))
 | none=>m.stop fs F 5
def jV (b:Nat):List Nat:=(jr p b).map λk=>f.cells.getD k.toNat 0
def fH:qU :=
 let v:=f.zN
 if v.1≠3 then m.stop fs f.pop 5 else
 match zn (m.qO.getD v.2.toNat []) o.2.toNat with
 | some u=>m.top fs (f.pop.push u)
 | none=>m.stop fs f.pop 7
def iZ:qU :=
 let b:=f.zN
 let a:=f.pop.zN
 if a.1≠1\/b.1≠1 then m.stop fs f.pop.pop 5 else m.top fs (f.pop.pop.push (1,(a.2+b.2).tmod 1000))
def vr (v:qR):qU:=match fs.getLast? with
 | some g=>{ m with qW:=fs.dropLast++[g.push v] }
 | none=>{ m with qW:=[] }
def iz:qU:=if zt p f.qD=2 then vr { m with qO:=m.qO++[f.names] } fs (3,m.qO.length) else vr m fs (0,0)
def dB:qU:=if m.left=0 then m.stop fs f 1 else
 { m.top fs f with left:=m.left - 1,trace:=m.trace++[(f.qD,uc ((zm p f.qD).take (f.pc - 1)))] }
def ur:qU :=
 if o.1=1 then m.top fs (f.push (1,o.2))
 else if o.1=14 then iZ m fs f
 else if o.1=15 then { m.top fs (f.push (2,m.qJ.length)) with qJ:=m.qJ++[(o.2.toNat,jV p f o.2.toNat)] }
 else if o.1=16 then vP p (m.top fs f) o.2.toNat (jV p f o.2.toNat) []
 else if o.1=17 then eE p m fs f o
 else if o.1=18 then fH m fs f o
 else if o.1=19 then { m.top fs f.pop with out:=m.out++[shown f.zN] }
 else vr m fs f.zN
def jW:qU :=
 if o.1=0 then dB p m fs f
 else if 2<=o.1/\o.1<=13 then
  (if (o.1 - 2) % 3=0 then wc p m fs f o else if (o.1 - 2) % 3=1 then CW m fs f o else mb p m fs f o)
 else ur p m fs f o
end
def cD (p:qC) (m:qU):qU:=match m.qW.getLast? with
 | some f=>match (zm p f.qD)[f.pc]? with
  | some o=>jW p m m.qW.dropLast { f with pc:=f.pc+1 } o
  | none=>iz p m m.qW.dropLast f
 | none=>m
def qU.ended (m:qU):Prop:=m.qW=[]\/m.en≠0
instance (m:qU):Decidable m.ended:=decidable_of_iff (m.qW.length=0\/m.en≠0) (by simp [qU.ended])
def jH (p:qC):Nat->qU->qU
 | 0,m=>m
 | n+1,m=>if m.ended then m else jH p n (cD p m)
def uj (fuel:Nat):qU:=⟨[],j3,[],[],[],0,0,[],[],0,fuel⟩
def j7 (p:qC) (fuel:Nat):qU:=vP p (uj fuel) 0 [] []
end Go.Hm
end
