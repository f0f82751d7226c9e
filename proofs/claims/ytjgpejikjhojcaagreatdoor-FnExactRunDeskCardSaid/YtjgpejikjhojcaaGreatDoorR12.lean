import Derived.Test.YtjgpejikjhojcaaGreatDoorR11
import Derived.Stop.Joined
set_option linter.unusedSimpArgs false
set_option linter.unusedVariables false
set_option maxRecDepth 100000
set_option maxHeartbeats 4000000

section
namespace Go.Hm
open Go Go.RowKit
def pg (p:qC) (t:Nat×Nat):Option q8:=match p[t.1]? with|some k=>k.body[t.2]?|none=>none
def tL (p:qC) (t:Nat×Nat):Int:=match pg p t with|some s=>s.kind|none=>-1
def fZ (p:qC) (d:Int) (tr:List (Nat×Nat)):Nat:=tr.countP λt=>tL p t==d
def Hq (p:qC) (x:Int):Prop:=∃ (b:Nat) (k:qX),p[b]?=some k/\x∈k.bd/\zI p b x=-1
structure yD (p:qC) (a b c:Nat) (w w':qL):Prop where
 fns:w'.qH.length+fZ p 3 w.trace=w.qH.length+fZ p 3 w'.trace+a
 cls:w'.qT.length+fZ p 4 w.trace<=w.qT.length+fZ p 4 w'.trace+b
 out:w'.out.length+fZ p 7 w.trace=w.out.length+fZ p 7 w'.trace+c\/(w'.out.length+1+fZ p 7 w.trace=w.out.length+fZ p 7 w'.trace+c/\2<=w'.en/\w'.en<=4)
 tr:∀ t∈w'.trace,t∈w.trace\/(pg p t).isSome=true
 zJ:∀ (x:Nat) v,w'.globals[x]?=some (some v)->(∃ u,w.globals[x]?=some (some u))\/Hq p x
theorem yD.refl {p:qC} (w:qL):yD p 0 0 0 w w:=⟨rfl,qa _,.inl rfl,λ_ h=>.inl h,λ_ v h=>.inl ⟨v,h⟩⟩
theorem yD.en {p:qC} {c:Nat} {w:qL} {e:Int} (h:c=0\/(c=1/\2<=e/\e<=4)):yD p 0 0 c w { w with en:=e }:=by
 constructor<;>grind
theorem yD.trans {p:qC} {a b c a' b' c':Nat} {w w' w'':qL} (h:yD p a b c w w') (h0:w'.en=0) (h':yD p a' b' c' w' w''):yD p (a+a') (b+b') (c+c') w w'':=by
 refine⟨?_,?_,?_,λt ht=>?_,λx v hx=>?_⟩
 .have:=h.fns;grind[fns]
 .have:=h.cls;have:=h'.cls;omega
 .rcases h.out with e|⟨_,e,_⟩<;>grind[out]
 .rcases h'.tr t ht with e|e
  .exact h.tr t e
  simp_all
 .rcases h'.zJ x v hx with⟨u,e⟩|e
  .exact h.zJ x u e
  simp_all
theorem Sh {p:qC} {b:Nat} {o:Int}:2<=yf p b o/\yf p b o<=4:=by grind[yf]
theorem K6 {p:qC} {w:qL} {a:Nat} {x:Int}:(jY p w a x).1=w\/∃ e,2<=e/\e<=4/\(jY p w a x).1={ w with en:=e }:=by
 unfold jY
 repeat' split
 all_goals simp_all[Sh]
theorem T5 {p:qC} {a:Nat}:∀ {l:List Int} {w:qL},(zW p w a l).1=w\/∃ e,2<=e/\e<=4/\(zW p w a l).1={ w with en:=e }
 := by intro x0;induction x0<;>grind[zW,K6]
section
variable {p:qC} {R:qL->Nat->qL×qW} {n:Nat} {w:qL} {a b i:Nat} {x:Int} {vs:List qW} {s:q8} {v:qW} {k:qX}
theorem VK {u:qW}:yD p 0 0 0 w (uM w v u).1:=by
 grind[uM,yD.en,yD.refl]
theorem Oz:yD p 0 0 0 w (ut w v x).1:=by
 grind[ut,yD.refl,yD.en]
theorem Mf {sl:qr} (hx:0<=x) (hn:w.loc p a x=none->sl≠none->Hq p x):yD p 0 0 0 w (w.set (w.loc p a x) x sl):=by
 obtain⟨e1,e2,e3,e4,e5,e6,e7⟩:=na (w:=w) (l:=w.loc p a x) (x:=x) (s:=sl);refine⟨qP,qP,.inl qP,λt ht=>.inl qP,λy v hy=>?_⟩
 cases hl:w.loc p a x<;>grind[qL.set]
def oK (p:qC) (n:Nat) (R:qL->Nat->qL×qW):Prop:=∀ (w:qL) (a:Nat),zF p w->w.left<n->a<w.qI.length->w.en=0->yD p 0 0 0 w (R w a).1
theorem Q3 {w':qL} (h:yD p 0 0 0 w w'):yD p 0 0 0 w (aw w'):=by
 unfold aw
 split
 .exact⟨h.fns,h.cls,h.out,h.tr,h.zJ⟩
 .exact h
theorem JB (hL:oK p n R) (h:zF p w) (hn:w.left<n) (h0:w.en=0) (hm:uf p w.qI b a) (hv:∀ v∈vs,ze w.qH.length w.qT.length v) (hr:Room 1 w):yD p 0 0 0 w (j8 p R w b a vs).1:=by
 have h1:=hL (j2 p w b a vs) w.qI.length (rN h hm hv hr).1 hn rV h0;have h2:yD p 0 0 0 w (R (j2 p w b a vs) w.qI.length).1:=⟨h1.fns,h1.cls,h1.out,h1.tr,h1.zJ⟩;exact Q3 h2
theorem P1 (hL:oK p n R) (h:zF p w) (hn:w.left<n) (h0:w.en=0) (hv:∀ v∈vs,ze w.qH.length w.qT.length v) (hr:Room 1 w):yD p 0 0 0 w (uH p R w v vs).1:=by
 unfold uH
 split
 .grind[yD.en]
 .split
  .rename_i g hg
   split
   .grind[yD.en]
   .exact JB hL h hn h0 (h.qH _ g hg) hv hr
  .exact .refl w
theorem Pt (hL:oK p n R) (h:zF p w) (hn:w.left<n) (h0:w.en=0) (hm:uf p w.qI b a) (hr:Room 1 w):yD p 0 1 0 w (bc p R w b a).1:=by
 have h1:=JB (vs:=[]) hL h hn h0 hm (λv hv=>rZ) hr;have hc:=h1.cls;constructor<;>grind[bc,yD.fns,yD.out,yD.tr,yD.zJ]
theorem G7 (h:zt p (w.qG a) k s=true) (ha:a<w.qI.length) (e:s.kind=3\/s.kind=4):uf p w.qI s.a.toNat a:=by
 obtain⟨c,hc⟩:=gX ha
 grind[zt.made,wI,uf]
def one (b:Prop) [Decidable b]:Nat:=if b then 1 else 0
theorem qBX (hL:oK p n R) (h:zF p w) (hn:w.left<n) (h0:w.en=0) (ha:a<w.qI.length) (hs:zt p (w.qG a) k s=true) (hv:∀ v∈vs,ze w.qH.length w.qT.length v) (hr:Room 2 w) :
  yD p (one (s.kind=3)) (one (s.kind=4)) 0 w (yN p R w a s vs).1:=by
 unfold yN
 split
 .grind[one,yD.refl]
 .split
  .grind[one,VK]
  .split
   .constructor<;>grind[one]
   .rename_i e3
    split
    .rename_i e;simp only [one,e];exact Pt hL h hn h0 (G7 hs ha (.inr e)) (hr.mono qA)
    .rename_i e4;simp only [one,e3,e4,if_false]
     split
     .exact P1 hL h hn h0 (λv hv'=>hv v (List.mem_of_mem_tail hv')) (hr.mono qA)
     grind[Oz,yD.refl]
theorem T7 (hh:zj p) (h:zF p w) (ha:a<w.qI.length) (e:w.loc p a x=none):zI p (w.qG a) x=-1:=by
 grind[se]
theorem qAa (hn:lz k) (hs:s∈k.body) (h:s.cz\/s.kind=11):s.to∈k.bd:=by
 have h1:=hn.zB s hs
 grind[mem_sorted,qX.bd,mP]
theorem Zz (hp:zr p) (hR:gR p n R) (hL:oK p n R) (h:zF p w) (hn:w.left<n) (h0:w.en=0) (ha:a<w.qI.length) (hk:p[w.qG a]?=some k) (hsk:s∈k.body) (h8:¬ s.kind=8) (hr:Room 2 w) :
  yD p (one (s.kind=3)) (one (s.kind=4)) (one (s.kind=7)) w (uD p R w a s):=by
 have hs:=hp.ed _ k hk s hsk;have hnm:=hp.names k (gM hk);have hx:=hnm.zB s hsk;have hkd:=zt.kind hs;unfold uD
 split
 .grind[one,yD.refl]
 .split
  .grind[one,aN,Mf,yD.en]
  .rename_i e9 e11;obtain⟨hl1,hl2,_⟩:=sd (a:=a) (l:=s.reads) h;obtain⟨_,hvv⟩:=Gm hR h hn h0 ha hs hr;unfold vO at hvv ⊢;have hne0:¬ w.en≠0:=qA;rcases T5 (p:=p) (w:=w) (a:=a) (l:=s.reads) with hl|⟨e,he1,he2,hl⟩
   .rw [hl] at hvv ⊢;rw [if_neg hne0] at hvv ⊢;have hw:=qBX (s:=s) (vs:=(zW p w a s.reads).2) hL h hn h0 ha hs hl2 hr;by_cases e7:s.kind=7
    .constructor<;>grind[yN,one]
    .have o7:one (s.kind=7)=0:=by simp [one,e7]
     rw [o7]
     split
     .exact hw
     .rename_i he;have he0:(yN p R w a s (zW p w a s.reads).2).1.en=0:=qA
      try rw [if_neg e7]
      obtain⟨w1,hw1⟩:∃ w1,(yN p R w a s (zW p w a s.reads).2).1=w1:=⟨_,rfl⟩;have hok:=Gr hR h hn h0 ha hs hl2 hr;rw [hw1] at hw he0 hok ⊢;obtain⟨c,hc⟩:=gX ha;have hb1:=hok.1.grow.qG hc;have ha1:a<w1.qI.length:=uQ ha hok.1.grow.aF;have yX:s.cz:=⟨hkd.1,qA⟩;refine hw.trans he0 (Mf (p:=p) (w:=w1) (a:=a) hx.1 (λhl _=>?_));have:=T7 hp.jj hok.1.ok ha1 hl;rw [hb1] at this;exact⟨w.qG a,k,hk,qAa hnm hsk (.inl yX),this⟩
   grind[q8.reads,zW,one,yD.en]
theorem NV {w':qL} {i:Nat} (hk:p[w.qG a]?=some k) (hi:k.body[i]?=some s) {x3 x4 x7:Nat} (h:yD p x3 x4 x7 (zV w a i) w') (h3:x3=one (s.kind=3)) (h4:x4<=one (s.kind=4)) (h7:x7=one (s.kind=7)):yD p 0 0 0 w w':=by
 have hst:pg p (w.qG a,i)=some s:=by grind[pg]
 have hsk:tL p (w.qG a,i)=s.kind:=by grind[tL]
 have key:∀ d,fZ p d (zV w a i).trace=fZ p d w.trace+one (s.kind=d):=λd=>by
  grind[zV,one,fZ]
 have k3:=key 3;have k4:=key 4;have k7:=key 7;obtain⟨f1,f2,f3,f4,f5⟩:=h;constructor<;>grind[zV]
theorem PP (hp:zr p) (hR:gR p n R) (hL:oK p n R) {l:List q8}:∀ {w:qL} {i:Nat},zF p w->w.left<n+1->w.en=0->a<w.qI.length->p[w.qG a]?=some k->k.body.drop i=l->yD p 0 0 0 w (vM p R a w i l).1:=by
 induction l with
 | nil=>intro w i _ _ _ _ _ _;exact .refl w
 | cons s l ih =>
  intro w i h hn h0 ha hk hd
  have hi:k.body[i]?=some s:=by
   have:=congrArg (·[0]?) hd
   grind
  have hd2:k.body.drop (i+1)=l:=by
   have:=congrArg (List.drop 1) hd
   grind[List.drop_drop]
  have hsk:=gM hi;simp only [vM]
  split
  .grind[yD.en]
  .rename_i hl;obtain⟨t1,t2⟩:=Cn (a:=a) (i:=i) h hl;have tn:(zV w a i).left<n:=by grind[zV]
   split
   .rename_i e8;have e3:¬ s.kind=3:=qA;have e7:¬ s.kind=7:=qA;refine NV hk hi (x3:=0) (x4:=0) (x7:=0) ?_ (by simp [one,e3]) qA (by simp [one,e7])
    grind[K6,yD.refl,yD.en]
   .rename_i e8;have hst:=Zz hp hR hL t1 tn h0 ha hk hsk e8 t2;have hok:=Ci hR t1 tn h0 ha (hp.ed _ k hk s hsk) t2;have hT:=NV hk hi hst rfl (qa _) rfl
    split
    .exact hT
    .rename_i he;have he0:(uD p R (zV w a i) a s).en=0:=qA;have hA:=hok.tick hl;obtain⟨c,hc⟩:=gX ha;have hb:=hA.grow.qG hc;exact hT.trans he0 (ih hA.ok (by have:=hA.grow.left;omega) he0 (uQ ha hA.grow.aF) qP hd2)
end
theorem MO {p:qC} (hp:zr p):∀ n,oK p n (qi p n)
 | 0=>λw a _ h=>absurd h qA
 | n+1=>by
  intro w a h hn ha h0;obtain⟨c,hc⟩:=gX ha;have hb:=h.wo a c hc;obtain⟨k,hk⟩:=gX hb;simp only [qi];rw [wI hc,hk];exact PP hp (eZ hp n) (MO hp n) (k:=k) h hn h0 ha (by grind[wI]) rfl
theorem Tn {p:qC} (hp:zr p) {f:Nat} (hf:f<=150):yD p 0 0 0 (j4 f) (uB p f) :=
 MO hp 151 (j4 f) 0 (Ch hp hf) (by grind[j4]) gk rfl
section
variable {X:Ctx} {st:St} {K:St->Prop} {E:AV->St->Prop} {d f:Nat} {ty:TypeId} {pos:String} {aft:Array Edge} {g:Option (Nat×Bool)} {args:Array Operand} {Ts:Array TypeId} {az:List AV} {R:Nm->AV->(Nm->Option AO)->Prop}
theorem wF (h1:(st.hp (.u 1 0 0)).isSome=true) (h2:(st.hp (.u 2 0 0)).isSome=true) (hd:d<X.n:=by first|(simp;done)|fail) (ha:args.toList.map (ev st)=az:=by simp [fx];first|done|rfl)
  (hF:qZ X.P X.gl f zd az (z6 zd st.hp) R zG) (h:∀ y H',R (.s d) y H'->K ((st.call d zd (z6 zd st.hp) H').put (some d) y)) :
  qn X ⟨some d,.call ⟨.value (.func f),args,Ts⟩,ty,pos,aft,g⟩ K E st:=by
 refine po (az:=az) zd (λn h=>vK h) (λk i j he=>?_) hd ha hF h
 simp_all<;>grind
end
structure zk (p:qC):Prop where
 sh:zr p
 pm:∀ (b:Nat) k,p[b]?=some k->∀ x∈k.params,zI p b x=b
theorem zk.of {p:qC} (hs:jt p) (h:jq p=true):zk p:=by
 simp only [jq,ju] at h;have hp:=zr.of hs h.1;refine⟨hp,λb k hk x hx=>?_⟩;have hkm:=gM hk;have hxr:=(hp.names k hkm).params x hx
 have hb0:0<b:=by
  cases b with
  | zero =>
   have:=hp.head 0 k hk
   grind
  | succ b=>omega
 have hd:=y5.1 h.2 b (gT.2 (gS hk).1);have hbn:(b==0)=false:=qu;rw [hbn,Bool.false_or] at hd;simp only [aB,hk] at hd;have hdx:=y5.1 hd x.toNat (gT.2 qA)
 grind[w4,qX.bd,mem_sorted,mP,LU,uA]
def jT (p:qC) (w:qL) (b up:Nat) (vs:List qW) (i:Nat):qL :=
 { w with qI:=w.qI++[⟨b,up,cK ((match p[b]? with|some k=>k.params|none=>[]).take i) (vs.take i)⟩],stack:=w.stack++[w.qI.length] }
theorem Hg {p:qC} {w:qL} {b up i:Nat} {vs:List qW} (hi:vl p b<=i) (hv:vs.length<=i):jT p w b up vs i=j2 p w b up vs:=by
 grind[jT,j2,vl,yG]
theorem Hh {p:qC} {w:qL} {b up i:Nat} {vs:List qW} (h:zF p w) (hm:uf p w.qI b up) (hv:∀ v∈vs,ze w.qH.length w.qT.length v) (hr:Room 1 w):zF p (jT p w b up vs i):=by
 have h0:=(rN h hm hv hr).1
 have key:∀ (j:Nat) a,(jT p w b up vs i).qI[j]?=some a->∃ a',(j2 p w b up vs).qI[j]?=some a'/\a'.qG=a.qG/\a'.up=a.up/\(a.vars=a'.vars\/vL w.qH.length w.qT.length a.vars):=by
  grind[jT,j2,Hk]
 have mk:∀ {c j:Nat},uf p (j2 p w b up vs).qI c j->uf p (jT p w b up vs i).qI c j:=by
  rintro c j ⟨a,k,h1,h2,h3,h4⟩;have hj:=(gS h1).1;obtain⟨a',ha'⟩:∃ a',(jT p w b up vs i).qI[j]?=some a':=⟨_,gE (by grind[jT,j2])⟩;obtain⟨a2,e1,e2,_⟩:=key j a' ha';rw [h1] at e1;obtain rfl:=sI e1;exact⟨a',k,ha',h2,qA,h4⟩
 refine⟨?_,λj a ha=>?_,λj a ha=>?_,λj a ha hj=>?_,h0.zJ,λj g hg=>mk (h0.qH j g hg),h0.cls,λj hj=>by simpa [jT,j2] using h0.jl j hj,by simpa [jT,j2] using h0.ky,h0.aY,h0.w8,h0.w9,h0.wQ,by simpa [jT,j2] using h0.lW,h0.iF,h0.eK⟩
 .grind[zF.a0,jT]
 .obtain⟨a',e1,e2,e3,e4⟩:=key j a ha;rcases e4 with e4|e4
  .rw [e4];exact h0.vars j a' e1
  .exact e4
 .obtain⟨a',e1,e2,e3,e4⟩:=key j a ha;rw [<- e2];exact h0.wo j a' e1
 .obtain⟨a',e1,e2,e3,e4⟩:=key j a ha;obtain⟨f1,f2⟩:=h0.up j a' e1 hj
  simp_all
theorem Hi {p:qC} {w:qL} {b up i:Nat} {k:qX} {x:Int} {v:qW} {vs:List qW} (hp:zk p) (hk:p[b]?=some k) (hx:k.params[i]?=some x) (hv:vs[i]?=some v):di p (jT p w b up vs i) w.qI.length x v=jT p w b up vs (i+1):=by
 have hat:(jT p w b up vs i).qI[w.qI.length]?=some ⟨b,up,cK (k.params.take i) (vs.take i)⟩:=by simp [jT,hk]
 have ho:=hp.pm b k hk x (gM hx)
 have hloc:(jT p w b up vs i).loc p w.qI.length x=some w.qI.length:=by
  simp_all[qL.loc,wI,sK]
 have hi:=(gS hx).1;have hj:=(gS hv).1
 have ht:cK (k.params.take (i+1)) (vs.take (i+1))=(cK (k.params.take i) (vs.take i)).set x.toNat (some v):=by
  unfold cK;rw [uG,uG,hx,hv];simp only [Option.toList_some];rw [List.zip_append qu];simp
 unfold di;rw [hloc];simp only [qL.set,jT,hk];rw [ht]
 congr 1
 apply y6
 grind
theorem uf.shape {p:qC} {qI:List Act} {b i:Nat} (h:uf p qI b i):∃ k,p[b]?=some k/\vl p b=k.params.length:=by
 grind[vl,uf]
def kF (p:qC) (f:Int):Bool:=jq p&&(decide (0<=f)&&decide (f<=150))
structure oJ where
 out:List Int
 en:Int
 left:Int
 gl:List Int
def nV (w:qL):oJ:=⟨w.out,w.en,w.left,nh w.globals⟩
def fz (p:qC) (f:Int):oJ:=if kF p f=true then nV (uB p f.toNat) else ⟨[],0,0,[]⟩
def pf (p:qC):Int:=if jq p=true then 150 - (uB p 150).left else -1
def oJ.own (n:Nm) (r:oJ):List AV:=[.hs (.c n 0 0) 1 0 r.out.length,iv r.en,iv r.left,.hs (.c n 0 3) 1 0 r.gl.length]
@[simp] theorem oJ.AN {n:Nm} {r:oJ}:r.own n=[.hs (.c n 0 0) 1 0 r.out.length,iv r.en,iv r.left,.hs (.c n 0 3) 1 0 r.gl.length]:=rfl
structure HT (hp:Nm->Option AO) (n:Nm) (r:oJ):Prop where
 out:hp (.c n 0 0)=some (.row 1 (qj r.out))
 gl:hp (.c n 0 3)=some (.row 1 (qj r.gl))
structure tX (p:qC) (f:Nat) (w:qL):Prop where
 ok:zF p w
 led:yD p 0 0 0 (j4 f) w
 grow:Grow 0 (j4 f) w
theorem nL {p:qC} (hp:zr p) {f:Nat} (hf:f<=150):tX p f (uB p f) :=
 ⟨(Kh hp hf).ok,Tn hp hf,(Kh hp hf).grow⟩
theorem tX.left {p:qC} {f:Nat} {w:qL} (h:tX p f w):w.left<=f:=h.grow.left
theorem tX.tr {p:qC} {f:Nat} {w:qL} (h:tX p f w):w.trace.length+w.left=f:=by
 have:=h.grow.wQ
 grind[j4]
theorem xl {p:qC} {f:Int} (h:kF p f=true):jq p=true/\∃ n:Nat,f=n/\n<=150:=by
 simp only [kF,ju,decide_eq_true_eq] at h;exact⟨h.1,f.toNat,qA,qA⟩
section
variable {n:Nm} {len i j:Nat} {f:Nm->Option Nm} {q:Int}
@[simp] theorem Yf (h:∀ j,f (.c n j 0)=some (.c n j 0)):(uj n len i).map (λr=>r.map (AV.tr f))=uj n len i:=A4 λj _=>h j
@[simp] theorem Uc (h:∀ j,f (.c n j 0)=some (.c n j 0)):(kX n q).tr f=kX n q:=sx λ_=>h _
end
@[simp] theorem ZO {P:Program} {T:TypeId} {hp:Nm->Option AO} {n:Nm} {z q len:Nat} {lo hi:Option Int}:wC P T hp (.hs n z q len) lo hi=match yU P T with
  | some e=>if z=qf P e/\0<=lo.getD 0/\lo.getD 0<=hi.getD len/\(hi.getD len<=len\/q+(hi.getD len).toNat<=pX hp n z) then some (.hs n z (q+(lo.getD 0).toNat) ((hi.getD len).toNat - (lo.getD 0).toNat)) else none
  | none=>none:=rfl
def fM (k:Nat):Bool:=k==1||k==7||k==8
def DM:Nm->Bool:=Du fM
def km (n:Nm):Bool:=DM n||Nm.under (.u 2 0 0) n
section
variable {n:Nm} {k i j d:Nat}
@[simp] theorem DM_s:DM (.s d)=false:=rfl
@[simp] theorem DM_u:DM (.u k i j)=fM k:=rfl
@[simp] theorem DM_c:DM (.c n i j)=DM n:=rfl
@[simp] theorem fM_1:fM 1=true:=rfl
@[simp] theorem fM_2:fM 2=false:=rfl
@[simp] theorem fM_7:fM 7=true:=rfl
@[simp] theorem fM_8:fM 8=true:=rfl
@[simp] theorem OH:km n=(DM n||Nm.under (.u 2 0 0) n):=rfl
theorem zC {n:Nm} (h:DM n=true):n.zg=false:=OK h
theorem oE {n:Nm} (h:km n=true):n.zg=false:=by
 simp only [km,tk] at h;rcases h with h|h
 .exact zC h
 .exact vN rfl h
end
section
variable {l m:List Nat} {i:Nat} {f:Nm->Option Nm}
@[simp] theorem erows_len:(za l).length=l.length:=ot
@[simp] theorem JD:(za l)[i]?=(l[i]?).map λi=>[vo i]:=ot
theorem Qb:za l++za m=za (l++m):=ot
theorem Qc:za l++[[vo i]]=za (l++[i]):=ot
@[simp] theorem erows_take {n:Nat}:(za l).take n=za (l.take n):=ot
@[simp] theorem sN (h:∀ i,f (En i)=some (En i)):(za l).map (λr=>r.map (AV.tr f))=za l:=by
 simp_all[za]
end
theorem sO {l:List Nat} {f:Nm->Option Nm} (h:∀ i∈l,f (En i)=some (En i)):(za l).map (λr=>r.map (AV.tr f))=za l:=by
 simp_all[za]
def fY (F:Nat) (p:qC) (k:Nat) (g:Nat×Nat):List AV:=[iv (vl p g.1),.fn (.func F) [] [.pt (.u 8 k 0) 0,.pt (.u 8 k 1) 0,.pt (.u 8 k 2) 0,.pt (.u 8 k 3) 0]]
def wY (F:Nat) (p:qC) (gs:List (Nat×Nat)):List (List AV):=gs.mapIdx λk g=>fY F p k g
def wZ (n:Nm) (cs:List (List qr)):List (List AV):=cs.mapIdx λk _=>[.mp (.c n (k+1) 9)]
section
variable {F:Nat} {p:qC} {gs:List (Nat×Nat)} {g:Nat×Nat} {cs:List (List qr)} {c:List qr} {n m:Nm} {i:Nat} {f:Nm->Option Nm}
@[simp] theorem cloRows_len:(wY F p gs).length=gs.length:=by simp [wY]
@[simp] theorem Ih:(wY F p gs)[i]?=(gs[i]?).map λg=>fY F p i g:=by simp [wY]
@[simp] theorem cloRows_getE {h:i<(wY F p gs).length}:(wY F p gs)[i]=fY F p i (gs[i]' qP):=by simp [wY]
theorem Pw:wY F p gs++[fY F p gs.length g]=wY F p (gs++[g]):=by simp [wY]
@[simp] theorem cloRows_fix (h:∀ k j,f (.u 8 k j)=some (.u 8 k j)):(wY F p gs).map (λr=>r.map (AV.tr f))=wY F p gs:=by
 apply y6;intro j;rw [jZ,Ih]
 cases hj:gs[j]?<;>simp_all[fY]
@[simp] theorem cmpRows_len:(wZ n cs).length=cs.length:=by simp [wZ]
@[simp] theorem QH:(wZ n cs)[i]?=(cs[i]?).map λ_=>[AV.mp (.c n (i+1) 9)]:=by simp [wZ]
@[simp] theorem cmpRows_getE {h:i<(wZ n cs).length}:(wZ n cs)[i]=[AV.mp (.c n (i+1) 9)]:=by simp [wZ]
theorem QD:wZ n cs++[[.mp (.c n (cs.length+1) 9)]]=wZ n (cs++[c]):=by simp [wZ]
theorem Ik {g:List AV->List AV} (h:∀ (i:Nat) c,cs[i]?=some c->g [.mp (.c n (i+1) 9)]=[.mp (.c m (i+1) 9)]):(wZ n cs).map g=wZ m cs:=by
 apply y6
 grind[QH]
@[simp] theorem QF (h:∀ i,f (.c n (i+1) 9)=some (.c n (i+1) 9)):(wZ n cs).map (λr=>r.map (AV.tr f))=wZ n cs:=Ik λi c _=>by simp [h i]
end
def zx (p:qC) (w:qL):List AV:=[jc p,.hs (.c Mn 0 1) 1 0 p.length,iv w.left,iv w.en,.hs (.c Mn 0 4) 1 0 w.out.length,.hs (.c Mn 0 5) 2 0 w.trace.length,vo 0,.hs (.c Mn 0 7) 1 0 w.stack.length,.hs (.c Mn 0 8) 2 0 w.qH.length,.hs (.c Mn 0 9) 1 0 w.qT.length]
def ud (i:Nat) (a:Act):List AV:=[iv a.qG,.mp (.c (En i) 0 1),if i=0 then aH else vo a.up]
@[simp] theorem envRow_len {i:Nat} {a:Act}:(ud i a).length=3:=rfl
@[simp] theorem envRow_fix {i:Nat} {a:Act} {f:Nm->Option Nm} (h1:f (.c (En i) 0 1)=some (.c (En i) 0 1)) (h2:∀ j,f (En j)=some (En j)):(ud i a).map (AV.tr f)=ud i a:=by
 by_cases e:i=0<;>simp_all[ud]
def qL.yJ (w:qL) (i:Nat):List qr:=if i=0 then w.globals else match w.qI[i]? with|some a=>a.vars|none=>[]
structure qb (hp:Nm->Option AO) (F:Nat) (p:qC) (w:qL):Prop where
 top:hp Mn=some (.row 10 [zx p w])
 kg:ez hp (.c Mn 0 1) p p.length
 out:hp (.c Mn 0 4)=some (.row 1 (qj w.out))
 zo:hp (.c Mn 0 5)=some (.row 2 (yy w.trace))
 run:∃ l,(∀ i∈l,i<w.qI.length)/\hp (.c Mn 0 7)=some (.row 1 (za (w.stack++l)))
 qH:hp (.c Mn 0 8)=some (.row 2 (wY F p w.qH))
 bx:∀ (k:Nat) g,w.qH[k]?=some g->hp (.u 8 k 0)=some (.row 1 [[iv g.1]])/\hp (.u 8 k 1)=some (.row 1 [[vo g.2]])/\hp (.u 8 k 2)=some (.row 1 [[jG (match p[g.1]? with|some b=>b.params|none=>[])]])/\hp (.u 8 k 3)=some (.row 1 [[.pt Mn 0]])
 jA:hp (.c Mn 0 9)=some (.row 1 (wZ Mn w.qT))
 cls:∀ (k:Nat) c,w.qT[k]?=some c->∃ ms,hp (.c Mn (k+1) 9)=some (.map (uJ ms))/\kn ms c
 env:∀ (i:Nat) a,w.qI[i]?=some a->hp (En i)=some (.row 3 [ud i a])
 yJ:∀ (i:Nat),i<w.qI.length->∃ ms,hp (.c (En i) 0 1)=some (.map (uJ ms))/\kn ms (w.yJ i)
 only:∀ k i j,fM k=true->hp (.u k i j)≠none->(k=1/\i=0/\j=0)\/(k=7/\i<w.qI.length/\j=0)\/(k=8/\i<w.qH.length/\j<4)
def w6:Option Nat->Nat
 | none=>0
 | some i=>i
theorem CP {p:qC} {w:qL} {a:Nat} {x:Int} (hh:zj p) (hw:zF p w) (ha:a<w.qI.length):w.yJ (w6 (w.loc p a x))=w.vars (w.loc p a x)/\w6 (w.loc p a x)<w.qI.length:=by
 obtain⟨a0,h0,hb0⟩:=hw.a0;have hl0:=(gS h0).1;rcases se (x:=x) hh hw ha with⟨h1,h2⟩|⟨o,i,c,ho,h1,h2,h3,h4,h5,_⟩<;>grind[qL.yJ,w6,qL.vars]
theorem qb.hp' {hp hp':Nm->Option AO} {F:Nat} {p:qC} {w:qL} (h:qb hp F p w) {f:Nm->Option Nm} (hf:∀ m,DM m=true->f m=some m) (hh:∀ m,DM m=true->hp' m=(hp m).map (AO.tr f)):qb hp' F p w:=by
 have hE:∀ i,f (En i)=some (En i):=λi=>hf _ rfl;have h8:∀ k j,f (.u 8 k j)=some (.u 8 k j):=λk j=>hf _ rfl;have hc:∀ j,f (.c Mn 0 j)=some (.c Mn 0 j):=λj=>hf _ rfl;refine⟨?_,⟨?_,λj k hj hk=>?_⟩,?_,?_,h.run.imp λl hl=>⟨hl.1,?_⟩,?_,λk g hg=>?_,?_,λk c hc'=>?_,λi a ha=>?_,λi hi=>?_,λk i j hk hn=>?_⟩
 .rw [hh _ rfl,h.top];simp_all[zx]
 .rw [hh _ rfl,h.kg.top];simp only [u7,AO.tr];rw [Yf λj=>hf _ rfl]
 .rw [hh _ rfl,h.kg.sc j k hj hk];simp only [u7,AO.tr,al,oW,Yr];rw [Uc λj=>hf _ rfl]
 .rw [hh _ rfl,h.out];simp
 .rw [hh _ rfl,h.zo];simp
 .rw [hh _ rfl,hl.2]
  simp_all
 .rw [hh _ rfl,h.qH]
  simp_all
 .obtain⟨a1,a2,a3,a4⟩:=h.bx k g hg;refine⟨?_,?_,?_,?_⟩
  .rw [hh _ rfl,a1];simp
  .rw [hh _ rfl,a2];simp_all
  .rw [hh _ rfl,a3];simp
  .rw [hh _ rfl,a4];simp [AO.tr,hf Mn rfl]
 .rw [hh _ rfl,h.jA];simp only [u7,AO.tr];rw [QF λi=>hf _ rfl]
 .obtain⟨ms,a1,a2⟩:=h.cls k c hc';exact⟨ms,by rw [hh _ rfl,a1];simp,a2⟩
 .rw [hh _ rfl,h.env i a ha];have h1:=hf (.c (En i) 0 1) rfl
  simp_all
 .obtain⟨ms,a1,a2⟩:=h.yJ i hi;exact⟨ms,by rw [hh _ rfl,a1];simp,a2⟩
 .refine h.only k i j hk λe=>hn ?_
  simp_all
theorem qb.fin {hp:Nm->Option AO} {F:Nat} {p:qC} {w:qL} {D:Nm->Bool} {sbs:List (Nm×Nm)} (h:qb hp F p w) (hD:∀ m,D m=true->m.zg=false:=by first|exact λ_=>zC|exact λ_=>oE) (hW:∀ m,DM m=true->D m=true:=by intro m hm;first|exact hm|simp [hm]) (hs:∀ q∈sbs,q.1.zg=true:=by simp [Nm.zg]):qb (vF D sbs hp) F p w :=
 h.hp' (f:=zL D sbs) (λm hm=>lK hD (hW m hm) hs) (λm hm=>qP)
theorem qb.re {hp hp':Nm->Option AO} {F:Nat} {p:qC} {w:qL} (om:qb hp F p w)
  (h0:hp' Mn=some (.row 10 [zx p w]):=by simp [om.top,zx])
  (h1:hp' (.c Mn 0 1)=some (.row 1 (uj (.c Mn 0 1) p.length p.length)):=by simp [om.kg.top])
  (h2:∀ (j:Nat) k,j<p.length->p[j]?=some k->hp' (.c (.c Mn 0 1) j 0)=some (.row 43 [yS j k (kX (.c Mn 0 1) k.parent) k.params]):=by intro j k hj hk;simp [om.kg.sc j k hj hk])
  (h3:hp' (.c Mn 0 4)=some (.row 1 (qj w.out)):=by simp [om.out])
  (h4:hp' (.c Mn 0 5)=some (.row 2 (yy w.trace)):=by simp [om.zo])
  (h5:∀ l,hp (.c Mn 0 7)=some (.row 1 (za (w.stack++l)))->hp' (.c Mn 0 7)=some (.row 1 (za (w.stack++l))):=by intro l hl;simp [hl])
  (h6:hp' (.c Mn 0 8)=some (.row 2 (wY F p w.qH)):=by simp [om.qH])
  (h7:∀ (k:Nat) g,w.qH[k]?=some g->hp' (.u 8 k 0)=some (.row 1 [[iv g.1]])/\hp' (.u 8 k 1)=some (.row 1 [[vo g.2]])/\hp' (.u 8 k 2)=some (.row 1 [[jG (match p[g.1]? with|some b=>b.params|none=>[])]])/\hp' (.u 8 k 3)=some (.row 1 [[.pt Mn 0]]):=by intro k g hg;simp [om.bx k g hg])
  (h8:hp' (.c Mn 0 9)=some (.row 1 (wZ Mn w.qT)):=by simp [om.jA])
  (h9:∀ (k:Nat) ms,hp (.c Mn (k+1) 9)=some (.map (uJ ms))->hp' (.c Mn (k+1) 9)=some (.map (uJ ms)):=by intro k ms hm;simp [hm])
  (hA:∀ (i:Nat) a,w.qI[i]?=some a->hp' (En i)=some (.row 3 [ud i a]):=by intro i a ha;simp [om.env i a ha])
  (hB:∀ (i:Nat) ms,i<w.qI.length->hp (.c (En i) 0 1)=some (.map (uJ ms))->hp' (.c (En i) 0 1)=some (.map (uJ ms)):=by intro i ms hi hm;simp [hm])
  (hC:∀ k i j,fM k=true->¬ (k=1/\i=0/\j=0)->hp' (.u k i j)≠none->hp (.u k i j)≠none:=by intro k i j hk e hn;simpa [hk,e] using hn):qb hp' F p w :=
 ⟨h0,⟨h1,h2⟩,h3,h4,om.run.imp λl hl=>⟨hl.1,h5 l hl.2⟩,h6,h7,h8,λk c hc=>(om.cls k c hc).imp λms hm=>⟨h9 k ms hm.1,hm.2⟩,hA,λi hi=>(om.yJ i hi).imp λms hm=>⟨hB i ms hi hm.1,hm.2⟩,λk i j hk hn=>if e:k=1/\i=0/\j=0 then .inl e else om.only k i j hk (hC k i j hk e hn)⟩
theorem qb.ext {H hp:Nm->Option AO} {F:Nat} {p:qC} {w0 w:qL} (h0:qb H F p w0) (h:qb hp F p w) (ha:w0.qI.length<=w.qI.length) (hf:w0.qH.length<=w.qH.length):∀ k i j,(H (.u k i j)).isSome=true->DM (.u k i j)=false\/(z6 DM hp) (.u k i j)≠none:=by
 intro k i j hs
 cases hD:fM k with
 | false=>simp_all
 | true =>
  right;have hd:DM (.u k i j)=true:=hD;rw [xf,if_pos hd];rcases h0.only k i j hD qw with⟨rfl,rfl,rfl⟩|⟨rfl,hi,rfl⟩|⟨rfl,hi,hj⟩
  .rw [h.top];simp
  .obtain⟨a,ha'⟩:∃ a,w.qI[i]?=some a:=⟨_,gE qA⟩;rw [h.env i a ha'];simp
  .obtain⟨g,hg⟩:∃ g,w.qH[i]?=some g:=⟨_,gE qA⟩;obtain⟨a1,a2,a3,a4⟩:=h.bx i g hg
   grind
theorem qb.JF {H hp:Nm->Option AO} {F:Nat} {p:qC} {w0 w:qL} (h0:qb H F p w0) (h:qb hp F p w) (ha:w0.qI.length<=w.qI.length) (hf:w0.qH.length<=w.qH.length) (h2:(hp (.u 2 0 0)).isSome=true):∀ k i j,(H (.u k i j)).isSome=true->km (.u k i j)=false\/(z6 km hp) (.u k i j)≠none:=by
 intro k i j hs;by_cases e:Nm.under (.u 2 0 0) (.u k i j)=true
 .simp_all<;>grind
 .simp only [wl] at e;rcases h0.ext h ha hf k i j hs with h1|h1<;>grind[OH,xf]
section
variable {X:Ctx} {st:St} {K:St->Prop} {E:AV->St->Prop} {d f:Nat} {ty:TypeId} {pos:String} {aft:Array Edge} {g:Option (Nat×Bool)} {args:Array Operand} {Ts:Array TypeId} {az:List AV} {R:Nm->AV->(Nm->Option AO)->Prop}
theorem pp (hext:∀ k i j,X.ext (.u k i j)=true->DM (.u k i j)=false\/(z6 DM st.hp) (.u k i j)≠none) (hd:d<X.n:=by first|(simp;done)|fail) (ha:args.toList.map (ev st)=az:=by simp [fx];first|done|rfl)
  (hF:qZ X.P X.gl f DM az (z6 DM st.hp) R zG) (h:∀ y H',R (.s d) y H'->K ((st.call d DM (z6 DM st.hp) H').put (some d) y)) :
  qn X ⟨some d,.call ⟨.value (.func f),args,Ts⟩,ty,pos,aft,g⟩ K E st:=po DM (λ_=>zC) hext hd ha hF h
end
@[simp] theorem lok_mp {P:Program} {T:TypeId} {hp:Nm->Option AO} {m:Nm} {k':IntKind} {n:Int} {ok:Bool}:sf P T hp (.mp m) (.sc (.int k' n)) ok=match eg P T with
  | some q=>if k'=q.1 then (match hp m with
   | some (.map es)=>if w7 q.1 es then (match cg q.1 n es with
    | some y=>some (if ok then .zX [y,.sc (.bool true)] else y)
    | none=>(wg P q.2).map (λz=>if ok then .zX [z,.sc (.bool false)] else z)) else none
   | _=>none) else none
  | none=>none:=by
 unfold sf
 cases eg P T with
 | none=>rfl
 | some q=>rfl
theorem qb.sub {hp:Nm->Option AO} {F:Nat} {p:qC} {w:qL} (h:qb hp F p w) {D:Nm->Bool} (hD:∀ m,DM m=true->D m=true:=by intro m hm;first|exact hm|simp [hm]):qb (z6 D hp) F p w:=by
 refine h.hp' (f:=some) (λ_ _=>rfl) (λm hm=>?_);rw [xf,if_pos (hD m hm)]
 cases hp m<;>grind[AO.vv]
theorem kn.get' {ms:cD} {w:qL} {l:Option Nat} {x:Int} (h:kn ms (w.vars l)) (hx:0<=x/\x<=7):lk x ms=w.get l x:=by
 rw [h.at hx]
 grind[qL.get]
theorem F4 {hp hp':Nm->Option AO} {F:Nat} {p:qC} {w:qL} {a x:Nat} {s:qr} {l:Option Nat} (hh:zj p) (hw:zF p w) (ha:a<w.qI.length) (hx:x<8) (hl:w.loc p a x=l) (hnm:w.yJ (w6 (w.loc p a x))=w.vars (w.loc p a x)) (h:qb hp F p w) {ms:cD} (hms:kn ms ((w.vars l).set (x:Int).toNat s)) (hq:∀ m,DM m=true->hp' m=if m=.c (En (w6 l)) 0 1 then some (.map (uJ ms)) else hp m):qb hp' F p (w.set l x s):=by
 obtain⟨e1,e2,e3,e4,e5,e6,e7⟩:=na (w:=w) (l:=l) (x:=(x:Int)) (s:=s);have hlen:(w.set l x s).qI.length=w.qI.length:=A9
 have hnms:∀ i,(w.set l x s).yJ i=if i=w6 l then (w.vars l).set (x:Int).toNat s else w.yJ i:=by
  intro i
  cases l with
  | none =>
   grind[qL.yJ,qL.set,w6]
  | some j =>
   have hj0:j≠0:=by
    rintro rfl;rcases se (x:=(x:Int)) hh hw ha with⟨_,h2⟩|⟨o,i,c,ho,_,h2,_,h4,h5,_⟩<;>grind[zF.a0]
   grind[qL.yJ,qL.set,w6]
 have hget:∀ m,DM m=true->m≠.c (En (w6 l)) 0 1->hp' m=hp m:=λm hm hne=>qP;refine⟨?_,⟨?_,λj k hj hk=>?_⟩,?_,?_,h.run.imp λl hl=>⟨qP,?_⟩,?_,λk g hg=>?_,?_,λk c hc=>?_,λi b hb=>?_,λi hi=>?_,λk i j hk hn=>?_⟩
 .rw [hget _ rfl qB,h.top];grind[zx]
 .rw [hget _ rfl qB,h.kg.top]
 .rw [hget _ rfl qB,h.kg.sc j k hj hk]
 .rw [hget _ rfl qB,h.out,e3]
 .rw [hget _ rfl qB,h.zo,e4]
 .rw [hget _ rfl qB,hl.2,e6]
 .rw [hget _ rfl qB,h.qH,e1]
 .rw [e1] at hg;obtain⟨a1,a2,a3,a4⟩:=h.bx k g hg;exact⟨by rw [hget _ rfl qB,a1],by rw [hget _ rfl qB,a2],by rw [hget _ rfl qB,a3],by rw [hget _ rfl qB,a4]⟩
 .rw [hget _ rfl qB,h.jA,e2]
 .rw [e2] at hc;obtain⟨ms,a1,a2⟩:=h.cls k c hc;exact⟨ms,by rw [hget _ rfl qB,a1],a2⟩
 .obtain⟨b',hb',f1,f2,_⟩:=A8 hb;rw [hget _ rfl qB,h.env i b' hb']
  grind[ud]
 .rw [hlen] at hi;rw [hnms];by_cases e:i=w6 l
  .subst e;rw [if_pos rfl];exact⟨ms,by rw [hq _ rfl,if_pos rfl],hms⟩
  .rw [if_neg e];obtain⟨ms',a1,a2⟩:=h.yJ i hi;exact⟨ms',by rw [hget _ rfl (by simp [e]),a1],a2⟩
 .rw [hget (.u k i j) hk qB] at hn;rw [hlen,e1];exact h.only k i j hk hn
section
variable {X:Ctx} {st:St} {K:St->Prop} {E:AV->St->Prop} {ty:TypeId} {pos:String} {aft:Array Edge} {g:Option (Nat×Bool)}
theorem qB7 {dst:Option Nat} {T e:TypeId} {ts:Array TypeId} {m key:Operand} {k:IntKind} {i:Int} {n:Nm} {es:List (AV×AV)} {st':St} (hts:ts[0]?=some T:=by rfl) (hdn:∀ t,dst=some t->t<X.n:=by first|(intro t h;cases h;done)|(intro t h;obtain rfl:=sI h;simp;done)|fail) (ht:eg X.P T=some (k,e):=by simp [fx];first|done|rfl|exact⟨rfl,rfl⟩)
  (hm:ev st m=.mp n:=by simp [fx];first|done|rfl) (hk:ev st key=.sc (.int k i):=by simp [fx];first|done|rfl) (hn:st.hp n=some (.map es):=by simp [fx];first|done|rfl) (hks:w7 k es=true:=by simp [fx];first|done|rfl)
  (hs:(st.zT n (.map (ce k i es))).put dst (.sc (.tuple #[]))=st':=by simp [fx];first|done|rfl) (h:K st'):qn X ⟨dst,.call { callee:=.builtin .delete,args:=#[m,key],argTypes:=ts },ty,pos,aft,g⟩ K E st:=by
 grind[Yz]
end
section
variable {P:Program} {C:Nat->Prop} {wd:World} {g0:Gh} {H:Nm->Option AO} {n:Nat} {gl:Nat->Option (List AV)} {st:St} {K:St->Prop} {E:AV->St->Prop} {d f:Nat} {ty:TypeId} {pos:String} {aft:Array Edge} {g:Option (Nat×Bool)} {c:Operand} {args:Array Operand} {Ts:Array TypeId} {az xs ys:List AV} {R:Nm->AV->(Nm->Option AO)->Prop} {F:Nat} {p:qC} {w0 w:qL}
theorem kP (h0:qb H F p w0) (hO:qb st.hp F p w) (hl:w0.qI.length<=w.qI.length) (hf:w0.qH.length<=w.qH.length) (hd:d<n:=by first|(simp;done)|fail) (ha:args.toList.map (ev st)=az:=by simp [fx];first|done|rfl)
  (hF:qb (z6 DM st.hp) F p w->qZ P gl f DM az (z6 DM st.hp) R zG) (h:∀ y H',R (.s d) y H'->K ((st.call d DM (z6 DM st.hp) H').put (some d) y)) :
  qn (yR P C wd g0 H n gl) ⟨some d,.call ⟨.value (.func f),args,Ts⟩,ty,pos,aft,g⟩ K E st:=po DM (λ_=>zC) (λk i j he=>h0.ext hO hl hf k i j he) hd ha (hF hO.sub) h
theorem Gt (h0:qb H F p w0) (hO:qb st.hp F p w) (h2:(st.hp (.u 2 0 0)).isSome=true) (hl:w0.qI.length<=w.qI.length) (hf:w0.qH.length<=w.qH.length) (hd:d<n:=by first|(simp;done)|fail) (ha:args.toList.map (ev st)=az:=by simp [fx];first|done|rfl)
  (hF:qb (z6 km st.hp) F p w->qZ P gl f km az (z6 km st.hp) R zG) (h:∀ y H',R (.s d) y H'->K ((st.call d km (z6 km st.hp) H').put (some d) y)) :
  qn (yR P C wd g0 H n gl) ⟨some d,.call ⟨.value (.func f),args,Ts⟩,ty,pos,aft,g⟩ K E st:=po km (λ_=>oE) (λk i j he=>h0.JF hO hl hf h2 k i j he) hd ha (hF hO.sub) h
theorem qB5 (h0:qb H F p w0) (hO:qb st.hp F p w) (h2:(st.hp (.u 2 0 0)).isSome=true) (hl:w0.qI.length<=w.qI.length) (hf:w0.qH.length<=w.qH.length) (hd:d<n:=by first|(simp;done)|fail)
  (hv:ev st c=.fn (.func f) xs ys:=by simp [fx];first|done|rfl) (ha:xs++args.toList.map (ev st)++ys=az:=by simp [fx];first|done|rfl)
  (hF:qb (z6 km st.hp) F p w->qZ P gl f km az (z6 km st.hp) R zG) (h:∀ y H',R (.s d) y H'->K ((st.call d km (z6 km st.hp) H').put (some d) y)) :
  qn (yR P C wd g0 H n gl) ⟨some d,.call ⟨.value c,args,Ts⟩,ty,pos,aft,g⟩ K E st:=qB9 km (λ_=>oE) (λk i j he=>h0.JF hO hl hf h2 k i j he) hd hv ha (hF hO.sub) h
end
end Go.Hm
end
section

end
section

end
section
namespace Go.Hm
open Go
structure HU (P:Program):Prop where
 laid:laidOutB P=true
 maps:mapsRowed P=true
 stops:(P.stops==[])=true
 knobs:(P.stopKnobs==[])=true
 keys:P.plainKeys=true
 heard:P.stopsHeard=true
 may:P.mayEnter=true
 TN:P.liftsFinal=false
 make:(P.make==some .cut)=true
theorem S6 {P:Program} {f:FuncId} {fn:Func} {s:ChangeSpec} {c:OpenClaim} (hp:HU P)
  (h1:c.wf (OpenSpec.ofChange s)=true) (h2:fn.params.all (P.readableRec ·)=true) (h3:namedTie P c.named s.vars=true) (h4:(c.stops==[])=true) (h5:(c.knobs==[])=true)
  (h6:(c.inPlace==P.inPlace f)=true) (h7:(c.unfollowed==P.unfollowed f)=true) (h8:(c.recurses==P.recurses f)=true) (h9:(c.named==P.varsNamed f)=true)
  (h10:(c.maps==(fn.params.toList++s.plain.varTypes P).any (P.mapsRec ·))=true) (h11:(c.ifaces==(fn.params.toList++s.plain.varTypes P).any (P.ifacesRec ·))=true) (h12:(c.mapsOut==P.mapsAmong fn.resultTypes.toList)=true)
  (h13:(c.loops==(fn.params.toList++s.plain.varTypes P).any (P.loopsFrom ·))=true) (h14:(c.wideKeys==(fn.params.toList++s.plain.varTypes P++fn.resultTypes.toList).any (P.wideKeysFrom ·))=true)
  (h15:s.vars.all (P.varReadable ·)=true) (h16:fn.resultTypes.all (λt=>P.readableRec t&&decide (t<P.types.size))=true) (h17:(c.ifacesOut==fn.resultTypes.toList.any (P.ifacesRec ·))=true) (h18:(c.loopsOut==fn.resultTypes.toList.any (P.loopsFrom ·))=true)
  (h19:c.plainKeys=true) (h20:c.shortTexts.isNone=true) (h21:c.lifted=false) (h22:c.make=.cut)
  (h23:(c.kinds==(if c.domain.isEmpty then [] else fn.params.toList.map λt=>match P.underlying t with|some (.int k)=>some k|_=>none))=true) (h24:(c.pinned==c.pinnedBy)=true)
  (h25:(c.veiled==(fn.params.toList++s.plain.varTypes P++fn.resultTypes.toList).any (P.veiledRec ·))=true) (h26:c.veiledFits P fn.params.toList (fn.params.toList++s.plain.varTypes P++fn.resultTypes.toList)=true):joinedFacts P f fn s c=true:=by
 have e1:(c.plainKeys==P.plainKeys)=true:=by rw [h19,hp.keys];rfl
 have e2:(c.lifted==P.liftsFinal)=true:=by rw [h21,hp.TN];rfl
 have e3:(P.make==some c.make)=true:=by rw [h22];exact hp.make
 unfold joinedFacts;simp only [hp.laid,hp.maps,hp.stops,hp.knobs,hp.heard,hp.may,h1,h2,h3,h4,h5,h6,h7,h8,h9,h10,h11,h12,h13,h14,h15,h16,h17,h18,h20,h24,h25,h26,e1,e2,e3,Bool.and_true,fJ];exact h23
end Go.Hm
end
section
namespace Go.Hm
open Go Go.RowKit
section
variable {p:qC} {f g n:Nat}
structure More (k:Nat) (w w':qL):Prop where
 qH:w.qH.length<=w'.qH.length
 cls:w.qT.length<=w'.qT.length
 out:w.out <+: w'.out
 tr:w.trace <+: w'.trace
 same:w.en≠1->w'=DQ k w
 none:w.en=1->w.left=0
end
end Go.Hm
end
section
set_option linter.unusedSectionVars false
namespace Go.Hm
open Go Go.RowKit
def ki (t:List (Nat×Nat)) (k:Nat) (w:qL):qL:={ w with trace:=t,left:=k }
section
variable {p:qC} {k m:Nat} {t:List (Nat×Nat)} {w:qL} {a b i:Nat} {x:Int} {l:Option Nat} {vs:List qW} {s:q8} {v:qW}
@[simp] theorem stl_stl {t':List (Nat×Nat)} {k':Nat}:ki t k (ki t' k' w)=ki t k w:=rfl
@[simp] theorem stl_loc:(ki t k w).loc p a x=w.loc p a x:=rfl
@[simp] theorem stl_blk:(ki t k w).qG a=w.qG a:=rfl
@[simp] theorem stl_en:(ki t k w).en=w.en:=rfl
@[simp] theorem stl_left:(ki t k w).left=k:=rfl
@[simp] theorem stl_out:(ki t k w).out=w.out:=rfl
end
def OV (m:Nat) (r r':qL×qW):Prop:=(r.1.en≠1/\∃ t,r'=(ki t m r.1,r.2))\/(r.1.en=1/\(m=0->r'.1.out=r.1.out/\r'.1.left=0))
section
variable {p:qC} {R:qL->Nat->qL×qW} {R2:Nat->qL->Nat->qL×qW} {n:Nat} {w:qL} {a b i:Nat} {x:Int} {vs:List qW} {s:q8} {v:qW}
variable (hR:∀ w a,w.left<n->w.en=0->∃ g,g+(R w a).1.left<=w.left/\∀ N t m,g+m<N->OV m (R w a) (R2 N (ki t (g+m) w) a))
include hR
end
end Go.Hm
end
section

end
section

end
section

end
section
namespace Go.Hm
open Go Go.RowKit
section
variable {X:Ctx} {st:St} {K:St->Prop} {E:AV->St->Prop}
def E9 (D:Nm->Bool) (hp:Nm->Option AO):Nm->Option AO:=λm=>if D m then none else hp m
def St.forget (D:Nm->Bool) (st:St):St:={ tm:=st.tm,hp:=E9 D st.hp,n:=st.n,gl:=st.gl }
@[simp] theorem forget_tm {D:Nm->Bool} {t:Nat}:(st.forget D).tm t=st.tm t:=rfl
@[simp] theorem JZ {D:Nm->Bool} {m:Nm}:(st.forget D).hp m=if D m then none else st.hp m:=rfl
theorem QT {D:Nm->Bool}:∀ m o,E9 D st.hp m=some o->st.hp m=some o:=by
 grind[E9]
theorem qBM {c:Code} {Q:Ex->St->Prop} (D:Nm->Bool) (h:jD X c Q (st.forget D)):jD X c Q st:=λa w hR=>h a w (hR.weaken _ QT)
end
section
variable {P:Program} {own:Nat->Prop} {C:Nat->Prop} {w0:World} {g:Gh} {st:St} {a:Go.Act} {w:World}
theorem Tl {o:Oper} {x y:Operand} {ts:Array TypeId} {i j:Int} (h:Rg P own C w0 g st a w) (ho:o.op=.call { callee:=.builtin .max,args:=#[x,y],argTypes:=ts }) (hdn:∀ t,o.dst=some t->t<st.n)
  (hx:ev st x=iv i) (hy:ev st y=iv j):aQ P o a w λa' w'=>kA P own C w0 g (st.put o.dst (iv (if j > i then j else i))) a' w':=by
 have hxv:=h.ev x;rw [hx] at hxv;have hxv:=hxv.zy;have hyv:=h.ev y;rw [hy] at hyv;have hyv:=hyv.zy;refine .inl ⟨.int .i64 (if j > i then j else i),w,?_,g,.refl g,h.put hdn (.sc _)⟩
 simp_all[execOp,resolve,invoke,builtin,Builtin.max_,Builtin.max2]
end
section
variable {X:Ctx} {st:St} {K:St->Prop} {E:AV->St->Prop} {d:Nat} {ty:TypeId} {pos:String} {aft:Array Edge} {g:Option (Nat×Bool)}
theorem Ni {x y:Operand} {ts:Array TypeId} {i j:Int} (m:Int) (hm:m=max i j) (hd:d<X.n:=by first|(simp;done)|fail) (hx:ev st x=iv i:=by simp [fx];first|done|rfl) (hy:ev st y=iv j:=by simp [fx];first|done|rfl)
  (h:K (st.put (some d) (iv m))):qn X ⟨some d,.call ⟨.builtin .max,#[x,y],ts⟩,ty,pos,aft,g⟩ K E st:=by
 have e:(if j > i then j else i)=m:=qA;refine .ck (st':=st.put (some d) (iv m)) (λ_ _ _ _ e' h'=>?_) ⟨pV _ _ _,pU _ _ _⟩ h;rw [<- e];exact Tl (o:=⟨some d,.call ⟨.builtin .max,#[x,y],ts⟩,ty,pos,aft,g⟩) h' rfl (λt et=>qP) hx hy
end
def Rz (p:qC) (b i:Nat):List Int:=((List.range i).filter λj=>Ry p b j).map λj:Nat=>(j:Int)
section
variable {p:qC} {b i:Nat} {k:qX}
@[simp] theorem idleTo_zero:Rz p b 0=[]:=rfl
end
end Go.Hm
end
section

end
section

end
section
namespace Go.Hm
open Go Go.RowKit
def grows (g:Int->qr) (l:List Int):List (AV×AV):=l.map λx=>(iv x,.agg (jk (g x)))
structure qO where
 qG:Nat
 pc:Nat
 qq:List qr
 cells:List Nat
 names:List qr
 stack:List qW
structure qR where
 cells:List qr
 globals:List qr
 qH:List (Nat×List Nat)
 qT:List (List qr)
 qN:List qO
 made:Nat
 deep:Nat
 out:List Int
 trace:List (Nat×Nat)
 en:Int
 left:Nat
def kZ (p:qC) (b:Nat):Nat:=match p[b]? with|some k=>k.parent.toNat|none=>0
def zw (p:qC) (b:Nat):List Int:=(zZ p b).map (bb p (kZ p b))
theorem sH {p:qC} {b:Nat}:(zw p b).length<=8:=by simp [zw,fg]
section
variable (p:qC) (m:qR) (fs:List qO) (f:qO) (o:Int×Int)
def qR.top:qR:={ m with qN:=fs++[f] }
def qR.stop (e:Int):qR:={ m.top fs f with en:=e }
def qO.push (v:qW):qO:={ f with stack:=f.stack++[v] }
def qO.pop:qO:={ f with stack:=f.stack.dropLast }
def qO.zB:qW:=f.stack.getLastD (0,0)
def jW (l:List qr) (i:Nat):qr:=match l[i]? with|some s=>s|none=>none
def kG:qr :=
 if o.1<=4 then jW f.qq o.2.toNat
 else if o.1<=7 then jW m.cells (f.cells.getD o.2.toNat 0)
 else if o.1<=10 then jW m.globals o.2.toNat else jW f.names o.2.toNat
def uE:Int:=if o.1<=4 then 2 else if o.1<=7 then (if o.2<(qY p f.qG).length then 2 else 3) else 4
def jr (s:qr):qR :=
 if o.1<=4 then m.top fs { f with qq:=f.qq.set o.2.toNat s }
 else if o.1<=7 then { m.top fs f with cells:=m.cells.set (f.cells.getD o.2.toNat 0) s }
 else if o.1<=10 then { m.top fs f with globals:=m.globals.set o.2.toNat s } else m.top fs { f with names:=f.names.set o.2.toNat s }
def vj:qR:=match kG m f o with
 | some v=>m.top fs (f.push v)
 | none=>if uE p f o=4 then
   match jW m.globals o.2.toNat with
   | some v=>m.top fs (f.push v)
   | none=>if o.2=7 then m.top fs (f.push (1,70)) else m.stop fs f 4
  else m.stop fs f (uE p f o)
def Aj:qR:=jr m fs f.pop o (some f.zB)
def be:qR:=match kG m f o with
 | some _=>jr m fs f o none
 | none=>m.stop fs f (uE p f o)
def jv (b:Nat) (cs:List Nat) (vs:List qW):qR :=
 let F:qO:=⟨b,0,List.replicate (qx p b).length none,((List.range (qY p b).length).map (m.cells.length+·))++cs,jR,[]⟩
 let M:qR:={ m with cells:=m.cells++List.replicate (qY p b).length none,made:=m.made+1,deep:=max m.deep (m.qN.length+1),qN:=m.qN++[F] }
 match (zO p b).params,vs with
 | [x],[v]=>if x∈qx p b then { M with qN:=m.qN++[{ F with qq:=F.qq.set (yj (qx p b) x).toNat (some v) }] }
  else { M with cells:=M.cells.set (m.cells.length+(yj (qY p b) x).toNat) (some v) }
 | _,_=>M
def b9:qR :=
 let n:=o.2.toNat
 let k:=f.stack.length - n - 1
 let F:qO:={ f with stack:=f.stack.take k }
 let g:=f.stack.getD k (0,0)
 if g.1≠2 then m.stop fs F 5 else
 match m.qH[g.2.toNat]? with
 | some h=>if vl p h.1≠n then m.stop fs F 6 else jv p (m.top fs F) h.1 h.2 (f.stack.drop (k+1))
 | none=>m.stop fs F 5
def jF (b:Nat):List Nat:=(zw p b).map λk=>f.cells.getD k.toNat 0
def cI:qR :=
 let v:=f.zB
 if v.1≠3 then m.stop fs f.pop 5 else
 match jW (m.qT.getD v.2.toNat []) o.2.toNat with
 | some u=>m.top fs (f.pop.push u)
 | none=>m.stop fs f.pop 7
def dl:qR :=
 let b:=f.zB
 let a:=f.pop.zB
 if a.1≠1\/b.1≠1 then m.stop fs f.pop.pop 5 else m.top fs (f.pop.pop.push (1,(a.2+b.2).tmod 1000))
def yq (v:qW):qR:=match fs.getLast? with
 | some g=>{ m with qN:=fs.dropLast++[g.push v] }
 | none=>{ m with qN:=[] }
def aC:qR:=if j9 p f.qG=2 then yq { m with qT:=m.qT++[f.names] } fs (3,m.qT.length) else yq m fs (0,0)
def wU:qR:=if m.left=0 then m.stop fs f 1 else
 { m.top fs f with left:=m.left - 1,trace:=m.trace++[(f.qG,vB ((zR p f.qG).take (f.pc - 1)))] }
def y3:qR :=
 if o.1=1 then m.top fs (f.push (1,o.2))
 else if o.1=14 then dl m fs f
 else if o.1=15 then { m.top fs (f.push (2,m.qH.length)) with qH:=m.qH++[(o.2.toNat,jF p f o.2.toNat)] }
 else if o.1=16 then jv p (m.top fs f) o.2.toNat (jF p f o.2.toNat) []
 else if o.1=17 then b9 p m fs f o
 else if o.1=18 then cI m fs f o
 else if o.1=19 then { m.top fs f.pop with out:=m.out++[shown f.zB] }
 else yq m fs f.zB
def jp:qR :=
 if o.1=0 then wU p m fs f
 else if 2<=o.1/\o.1<=13 then
  (if (o.1 - 2) % 3=0 then vj p m fs f o else if (o.1 - 2) % 3=1 then Aj m fs f o else be p m fs f o)
 else y3 p m fs f o
end
def kh (p:qC) (m:qR):qR:=match m.qN.getLast? with
 | some f=>match (zR p f.qG)[f.pc]? with
  | some o=>jp p m m.qN.dropLast { f with pc:=f.pc+1 } o
  | none=>aC p m m.qN.dropLast f
 | none=>m
def qR.ended (m:qR):Prop:=m.qN=[]\/m.en≠0
instance (m:qR):Decidable m.ended:=decidable_of_iff (m.qN.length=0\/m.en≠0) (by simp [qR.ended])
def zS (p:qC):Nat->qR->qR
 | 0,m=>m
 | n+1,m=>if m.ended then m else zS p n (kh p m)
def jQ (fuel:Nat):qR:=⟨[],jR,[],[],[],0,0,[],[],0,fuel⟩
def zU (p:qC) (fuel:Nat):qR:=jv p (jQ fuel) 0 [] []
end Go.Hm
end
