import Derived.Test.YtdnebaieamppbaaGreatDoorF17
set_option linter.unusedSimpArgs false
set_option linter.unusedVariables false
set_option maxRecDepth 100000
set_option maxHeartbeats 4000000

section
namespace Go.Hm
open Go Go.RowKit
structure GenP (p:YU):Prop where
 Y9:zD p
 len:1<=p.length/\p.length<=8
 params:∀ k∈p,k.params.length<=2
 body:∀ k∈p,k.body.length<=14
theorem GenP.sml {p:YU} (h:GenP p):Zm p:=⟨by grind[len],λk hk=>by have:=h.params k hk;omega,λk hk=>by have:=h.body k hk;omega⟩
theorem GenP.one {k:Y4} (h:k.parent=-1) (hp:k.params.length<=2) (hb:k.body.length<=14):GenP [k]:=by
 refine⟨λi q hq=>?_,qB,λq hq=>?_,λq hq=>?_⟩<;>grind
theorem GenP.add {p:YU} {k:Y4} (h:GenP p) (hl:p.length<=7) (hp:0<=k.parent/\k.parent<p.length) (h1:k.params.length<=2) (h2:k.body.length<=14):GenP (p++[k]):=by
 refine⟨λi q hq=>?_,qv,λq hq=>?_,λq hq=>?_⟩
 .rw [Dv] at hq
  split at hq
  .exact h.Y9 i q hq
  grind
 .rcases cK.1 hq with hq|hq
  .exact h.params q hq
  simp_all
 .rcases cK.1 hq with hq|hq
  .exact h.body q hq
  simp_all
theorem aA {p:YU} {i:Nat} {L:List Y5} {q:Y4} (h:q∈setBody p i L):∃ r∈p,q.params=r.params/\(q.body=r.body\/q.body=L):=by
 grind[ab,setBody]
theorem xd {p:YU} {i:Nat} {L:List Y5} (h:zD p):zD (setBody p i L):=by
 grind[zD,setBody]
theorem GenP.setBody {p:YU} {i:Nat} {L:List Y5} (h:GenP p) (hL:L.length<=14):GenP (setBody p i L):=by
 refine⟨xd h.Y9,by simpa using h.len,λq hq=>?_,λq hq=>?_⟩
 .obtain⟨r,hr,h1,_⟩:=aA hq;rw [h1];exact h.params r hr
 .obtain⟨r,hr,_,h2⟩:=aA hq;rcases h2 with h2|h2
  .rw [h2];exact h.body r hr
  simp_all
theorem GenP.bare {p:YU} (h:GenP p):GenP (lY p):=by
 refine⟨λi q hq=>?_,by grind[lY,len],λq hq=>?_,λq hq=>?_⟩
 .simp only [lY,kU] at hq;obtain⟨r,hr,rfl⟩:=ui.1 hq;exact h.Y9 i r hr
 .obtain⟨r,hr,rfl⟩:=eg.1 hq;exact h.params r hr
 .obtain⟨r,hr,rfl⟩:=eg.1 hq;exact uS Dl (h.body r hr)
def G5 (bs:List Int) (Q:YU->Nat->Prop):Nm->AV->(Nm->Option AO)->Prop:=λr z H'=>∃ (p:YU) (pos':Nat),z=.agg [.hs r 4 0 p.length]/\Z3 H' r p/\Q p pos'/\H' (.u 1 0 0)=some (Zo bs pos')
theorem Zm.set {p:YU} {i:Nat} {k:Y4} (h:Zm p) (h1:k.params.length<=1048576) (h2:k.body.length<=1048576):Zm (p.set i k):=by
 refine⟨by grind[len],λq hq=>?_,λq hq=>?_⟩
 .rcases List.mem_or_eq_of_mem_set hq with hq|rfl
  .exact h.params q hq
  .exact h1
 .rcases List.mem_or_eq_of_mem_set hq with hq|rfl
  .exact h.body q hq
  .exact h2
theorem oZ {p:YU} {i:Nat} {L:List Y5} (h:Zm p) (hL:L.length<=1048576):Zm (setBody p i L):=by
 refine⟨by simpa using h.len,λq hq=>?_,λq hq=>?_⟩
 .obtain⟨r,hr,h1,_⟩:=aA hq;rw [h1];exact h.params r hr
 .obtain⟨r,hr,_,h2⟩:=aA hq;rcases h2 with h2|h2
  .rw [h2];exact h.body r hr
  simp_all
theorem C9 {n:Nm} {p:YU} {i:Nat} {k:Y4} {v:Int} (hk:p[i]?=some k):qY (j5 n p) i 1 [iv v]=j5 n (p.set i { k with parent:=v }):=by
 apply aW
 grind[qY,ku,List.getElem?_eq_some_iff]
theorem ou {n:Nm} {a i len:Nat} {p:YU} {k:Y4} {L:List Int} (hk:p[i]?=some k) (hl:len=L.length) (hn:Nm.under (.s a) n=false) (hn':Nm.under (.c n i 2) n=false) :
  (qY (j5 n p) i 2 [.hs (.s a) 1 0 len]).map (λr=>r.map (AV.tr (mv (.s a) (.c n i 2))))=j5 n (p.set i { k with params:=L }):=by
 subst hl;apply aW;intro j;simp only [qY,kU,nV,ku,bT];by_cases e:i=j
 .subst e;simp [(gS hk).1,(gS hk).2,hn,hn']
 .have e':¬ j=i:=λh=>e h.symm
  cases hx:p[j]?<;>simp_all
end Go.Hm
end
section
namespace Go.Hm
open Go Go.RowKit Go.ChangeShapes Go.WideShapes Go.Deep
variable {H:Type} {enc:TypeId×Value->H} {P:Program} {w:World}
theorem Rk {t:TypeId} (ht:P.underlying t=some (.int .u8)):wO enc P w t (λk:Int=>[byt k]) (λk=>0<=k/\k<=255):=by
 intro n cs y h _;obtain⟨k,rfl,_,hw⟩:=DataW.trod_int ht h;refine⟨k,by grind[Lit.wf,IntKind.min,IntKind.max,IntKind.signed,IntKind.bits],rfl,λj v a hv ha=>?_⟩
 cases j with
 | zero =>
  simp at hv ha;subst hv;subst ha;exact⟨.sc _,rfl⟩
 | succ j=>simp at hv
theorem Ou {t e:TypeId} (ht:P.underlying t=some (.slice e)) (he:P.underlying e=some (.int .u8)) (hc:P.cellsOf e=1) (hby:0<P.bytesOf e)
  {r:Reach} {b0:Nat} {v:Value} {d:DataW H} {p:List MemPlace} (hv:Value.okWide P w r b0 t v) (h:DataW.Trod enc P w 0 (λ_=>true) true t v d p) (hw:∀ m∈d.weights P t,m<=reachBytes) :
  ∃ bs:List Int,(bs.length<=1152921504606846976/\∀ x∈bs,0<=x/\x<=255)/\RV (g0 w) w v (bsl bs):=by
 obtain⟨a,len,cap,rfl⟩:=okWide_slice ht hv;obtain⟨fuel,hf⟩:=h;obtain⟨x,hx,hl,hr⟩:=ng (enc:=enc) (w:=w) ht hc qA hby (λ_=>rfl) (Rk he) _ _ _ hf hw;exact⟨x,hx,(hr 0 _ _ rfl rfl).1⟩
end Go.Hm
end
section

end
section

end
section

end
section
namespace Go.Hm
open Go Go.RowKit
theorem txS {k t a b:Int} (hk:0<=k/\k<=11:=by omega) (ht:0<=t/\t<=99:=by omega) (ha:0<=a/\a<=99:=by omega) (hb:(0<=b/\b<=99)\/(k=5/\b=-1):=by omega)
  (hto:k=7\/k=8->t=0/\b=0:=by omega) (hb0:k=0\/k=1\/k=3\/k=4->b=0:=by omega) (ha0:9<=k->a=0/\b=0:=by omega):Zj ⟨k,t,a,b⟩:=by
 refine⟨hk,?_,hto,hb0,ha0⟩;intro n hn
 grind[Qa]
theorem Vp {x:Y5} (h:Zj x):∀ s∈[x],Zj s:=qH
theorem Xm {x y:Y5} (h:Zj x) (h2:Zj y):∀ s∈[x,y],Zj s:=qH
theorem K8 {L M:List Y5} (h:∀ s∈L,Zj s) (h2:∀ s∈M,Zj s):∀ s∈L++M,Zj s:=λs hs=>by
 grind
theorem oV {L:List Y5} {x:Y5} (h:∀ s∈L,Zj s) (h2:Zj x):∀ s∈L++[x],Zj s:=K8 h (Vp h2)
theorem K7 {L M:List Y5} {a:Nat} (h:∀ s∈L,Zj s) (h2:∀ s∈M,Zj s):∀ s∈L.take a++M++L.drop a,Zj s :=
 K8 (K8 (λs hs=>h s (G0 hs)) h2) λs hs=>h s (List.mem_of_mem_drop hs)
def VY (k:Y4):Prop:=(∀ s∈k.body,Zj s)/\B6 k.params/\(¬ k.kind=1->k.params=[])
structure qAO (p:YU):Prop extends GenP p where
 txt:qC9 p
 qCY:∀ k∈p,k.params.length<=1
 qCr:p.length<=7
theorem qAO.one {k:Y4} (h:k.parent=-1) (hk:k.kind=0) (hp:k.params.length<=1) (hb:k.body.length<=14) (hT:VY k):qAO [k]:=by
 refine⟨GenP.one h qA hb,⟨⟨k.body,[],?_⟩,λi q hq hi=>?_,λq hq=>?_⟩,qH,qB⟩
 .have:=hT.2.2 qA;obtain⟨a,b,c,d⟩:=k
  simp_all
 .grind
 grind[VY]
theorem qAO.add {p:YU} {k:Y4} (h:qAO p) (hl:p.length<=6) (hp:0<=k.parent/\k.parent<p.length) (hk:k.kind=1\/k.kind=2) (h1:k.params.length<=1) (h2:k.body.length<=14) (hT:VY k):qAO (p++[k]):=by
 refine⟨GenP.add h.toGenP qA hp qA h2,⟨?_,λi q hq hi=>?_,λq hq=>?_⟩,λq hq=>?_,qv⟩
 .obtain⟨b,ks,e⟩:=h.txt.head
  simp_all
 .rw [Dv] at hq
  split at hq
  .exact h.txt.Y9 i q hq hi
  .have:q=k:=by
    grind
   subst this;exact⟨hk,qA,hT.2.1,λe=>hT.2.2 qA⟩
 .rcases cK.1 hq with hq|hq
  .exact h.txt.qBZ q hq
  grind[VY]
 .rcases cK.1 hq with hq|hq
  .exact h.qCY q hq
  simp_all
theorem CI {p:YU} {i c:Nat} {L:List Y5} {q:Y4} (h:(setBody p i L)[c]?=some q):∃ r,p[c]?=some r/\q.kind=r.kind/\q.parent=r.parent/\q.params=r.params/\(q.body=r.body\/q.body=L):=by
 grind[setBody]
theorem Gj {p q:YU} (h:qC9 p) (hl:q.length=p.length) (hs:∀ (c:Nat) k,q[c]?=some k->∃ r,p[c]?=some r/\k.kind=r.kind/\k.parent=r.parent/\k.params=r.params/\∀ s∈k.body,Zj s):qC9 q:=by
 obtain⟨b,ks,e⟩:=h.head;have hne:0<q.length:=qH;refine⟨?_,λi k hk hi=>?_,λk hk=>?_⟩
 .obtain⟨k,qs,rfl⟩:∃ k qs,q=k::qs:=by cases q<;>grind
  obtain⟨r,hr,e1,e2,e3,_⟩:=hs 0 k rfl;rw [e] at hr;obtain rfl:=sI hr;obtain⟨a,b,c,d⟩:=k
  simp_all
 .obtain⟨r,hr,e1,e2,e3,_⟩:=hs i k hk;obtain⟨h1,h2,h3,h4⟩:=h.Y9 i r hr hi;constructor<;>grind
 grind[ab]
theorem qAO.setBody {p:YU} {i:Nat} {L:List Y5} (h:qAO p) (hL:L.length<=14) (hT:∀ s∈L,Zj s):qAO (setBody p i L):=by
 refine⟨GenP.setBody h.toGenP hL,Gj h.txt u4 λc k hk=>?_,λk hk=>?_,by simp_all[qCr]⟩
 .obtain⟨r,hr,e1,e2,e3,e4⟩:=CI hk;refine⟨r,hr,e1,e2,e3,?_⟩;rcases e4 with e|e <;> rw [e]
  .exact h.txt.qBZ r (gM hr)
  .exact hT
 .obtain⟨r,hr,h1,_⟩:=aA hk;rw [h1];exact h.qCY r hr
theorem qAO.bare {p:YU} (h:qAO p):qAO (lY p):=by
 refine⟨GenP.bare h.toGenP,Gj h.txt (by simp [lY]) λc k hk=>?_,λk hk=>?_,by grind[lY,qCr]⟩
 .simp only [lY,kU] at hk;obtain⟨r,hr,rfl⟩:=ui.1 hk;exact⟨r,hr,rfl,rfl,rfl,λs hs=>h.txt.qBZ r (gM hr) s (Ds.1 hs).1⟩
 .obtain⟨r,hr,rfl⟩:=eg.1 hk;exact h.qCY r hr
end Go.Hm
end
