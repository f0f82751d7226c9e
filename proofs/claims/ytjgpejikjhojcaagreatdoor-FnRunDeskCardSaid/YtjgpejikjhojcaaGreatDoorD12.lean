import Derived.Test.YtjgpejikjhojcaaGreatDoorD11
import Derived.Stop.Joined
set_option linter.all false
set_option maxRecDepth 100000
set_option maxHeartbeats 4000000
open Option renaming some->Z,none->Y
open Bool renaming true->B,false->M
open List renaming length->O

section
namespace Go.Hm
open Go Go.RowKit
variable{D:Nm->Bool}{F a b f i up:Nat}{H hp:Nm->Option AO}{P:Program}{T:TypeId}{l:Option Nat}{ms:dK}{n:Nm}{p:qC}{vs:List q8}{w w' w0:qM}{x:Int}
def sL(p:qC)(t:Nat×Nat):Option qT:=match p[t.1]? with|some k=>k.body[t.2]?|none=>Y
def AA(p:qC)(t:Nat×Nat):Int:=match sL p t with|some s=>s.kind|none=>-1
def iI(p:qC)(d:Int)(tr:List (Nat×Nat)):Nat:=tr.countP λt=>AA p t==d
def Jq(p:qC)(x:Int):Prop:=∃(b:Nat)(k:qY),p[b]?=Z k/\x∈k.bd/\zN p b x=-1
structure yP(p:qC)(a b c:Nat)(w w':qM):Prop where
 fns:O w'.qI+iI p 3 w.trace=O w.qI+iI p 3 w'.trace+a
 cls:O w'.qU+iI p 4 w.trace<=O w.qU+iI p 4 w'.trace+b
 out:O w'.out+iI p 7 w.trace=O w.out+iI p 7 w'.trace+c\/(O w'.out+1+iI p 7 w.trace=O w.out+iI p 7 w'.trace+c/\2<=w'.en/\w'.en<=4)
 tr:∀t∈w'.trace,t∈w.trace\/(sL p t).isSome=B
 zM:∀(x:Nat)v,w'.globals[x]?=Z (Z v)->(∃u,w.globals[x]?=Z (Z u))\/Jq p x
theorem yP.refl(w:qM):yP p 0 0 0 w w:=⟨rfl,qb _,.inl rfl,λ_ h=>.inl h,λ_ v h=>.inl ⟨v,h⟩⟩
theorem yP.en{p:qC}{c:Nat}{w:qM}{e:Int}(h:c=0\/(c=1/\2<=e/\e<=4)):yP p 0 0 c w {w with en:=e}:=by
 constructor<;>grind
theorem yP.trans{c a' b' c':Nat}{w'':qM}(h:yP p a b c w w')(h0:w'.en=0)(h':yP p a' b' c' w' w''):yP p (a+a') (b+b') (c+c') w w'':=by
 refine⟨?_,?_,?_,λt ht=>?_,λx v hx=>?_⟩
 .have:=h.fns;grind[fns]
 .have:=h.cls;have:=h'.cls;omega
 .rcases h.out with e|⟨_,e,_⟩<;>grind[out]
 .rcases h'.tr t ht with e|e
  .exact h.tr t e
  simp_all
 .rcases h'.zM x v hx with⟨u,e⟩|e
  .exact h.zM x u e
  simp_all
theorem VG{o:Int}:2<=yw p b o/\yw p b o<=4:=by grind[yw]
theorem M9:(j9 p w a x).1=w\/∃e,2<=e/\e<=4/\(j9 p w a x).1={w with en:=e}:=by
 unfold j9
 repeat' split
 all_goals simp_all[VG]
theorem Vu:∀{l:List Int}{w:qM},(z7 p w a l).1=w\/∃e,2<=e/\e<=4/\(z7 p w a l).1={w with en:=e}
 :=by intro x0;induction x0<;>grind[z7,M9]
section
variable{p:qC}{R:qM->Nat->qM×q8}{n:Nat}{w:qM}{a b i:Nat}{x:Int}{vs:List q8}{s:qT}{v:q8}{k:qY}
theorem Xk{u:q8}:yP p 0 0 0 w (uf w v u).1:=by
 grind[uf,yP.en,yP.refl]
theorem RN:yP p 0 0 0 w (kO w v x).1:=by
 grind[kO,yP.refl,yP.en]
theorem Oi{sl:qr}(hx:0<=x)(hn:w.loc p a x=Y->sl≠Y->Jq p x):yP p 0 0 0 w (w.set (w.loc p a x) x sl):=by
 obtain⟨e1,e2,e3,e4,e5,e6,e7⟩:=pL (w:=w) (l:=w.loc p a x) (x:=x) (s:=sl);refine⟨qQ,qQ,.inl qQ,λt ht=>.inl qQ,λy v hy=>?_⟩
 cases hl:w.loc p a x<;>grind[qM.set]
def pn(p:qC)(n:Nat)(R:qM->Nat->qM×q8):Prop:=∀(w:qM)(a:Nat),zI p w->w.left<n->a<O w.qJ->w.en=0->yP p 0 0 0 w (R w a).1
def Sx(h:yP p 0 0 0 w w'):yP p 0 0 0 w (cA w'):=by
 unfold cA
 split
 .exact⟨h.fns,h.cls,h.out,h.tr,h.zM⟩
 .exact h
def LA(hL:pn p n R)(h:zI p w)(hn:w.left<n)(h0:w.en=0)(hm:kH p w.qJ b a)(hv:∀v∈vs,zh (O w.qI) (O w.qU) v)(hr:Room 1 w):yP p 0 0 0 w (jj p R w b a vs).1:=by
 have h1:=hL (ja p w b a vs) (O w.qJ) (sm h hm hv hr).1 hn tB h0;have h2:yP p 0 0 0 w (R (ja p w b a vs) (O w.qJ)).1:=⟨h1.fns,h1.cls,h1.out,h1.tr,h1.zM⟩;exact Sx h2
theorem Rp(hL:pn p n R)(h:zI p w)(hn:w.left<n)(h0:w.en=0)(hv:∀v∈vs,zh (O w.qI) (O w.qU) v)(hr:Room 1 w):yP p 0 0 0 w (ub p R w v vs).1:=by
 unfold ub
 split
 .grind[yP.en]
 .split
  .rename_i g hg
   split
   .grind[yP.en]
   .exact LA hL h hn h0 (h.qI _ g hg) hv hr
  .exact .refl w
theorem SS(hL:pn p n R)(h:zI p w)(hn:w.left<n)(h0:w.en=0)(hm:kH p w.qJ b a)(hr:Room 1 w):yP p 0 1 0 w (co p R w b a).1:=by
 have h1:=LA (vs:=[]) hL h hn h0 hm (λv hv=>tD) hr;have hc:=h1.cls;constructor<;>grind[co,yP.fns,yP.out,yP.tr,yP.zM]
theorem I7(h:zp p (w.qG a) k s=B)(ha:a<O w.qJ)(e:s.kind=3\/s.kind=4):kH p w.qJ s.a.toNat a:=by
 obtain⟨c,hc⟩:=gX ha
 grind[zp.made,wk,kH]
def one(b:Prop)[Decidable b]:Nat:=if b then 1 else 0
theorem qEH(hL:pn p n R)(h:zI p w)(hn:w.left<n)(h0:w.en=0)(ha:a<O w.qJ)(hs:zp p (w.qG a) k s=B)(hv:∀v∈vs,zh (O w.qI) (O w.qU) v)(hr:Room 2 w):
  yP p (one (s.kind=3)) (one (s.kind=4)) 0 w (yY p R w a s vs).1:=by
 unfold yY
 split
 .grind[one,yP.refl]
 .split
  .grind[one,Xk]
  .split
   .constructor<;>grind[one]
   .rename_i e3
    split
    .rename_i e;simp only[one,e];exact SS hL h hn h0 (I7 hs ha (.inr e)) (hr.mono qA)
    .rename_i e4;simp only[one,e3,e4,if_false]
     split
     .exact Rp hL h hn h0 (λv hv'=>hv v (List.mem_of_mem_tail hv')) (hr.mono qA)
     grind[RN,yP.refl]
theorem Vw(hh:ze p)(h:zI p w)(ha:a<O w.qJ)(e:w.loc p a x=Y):zN p (w.qG a) x=-1:=by
 grind[xX]
theorem qDR(hn:nr k)(hs:s∈k.body)(h:s.eK\/s.kind=11):s.to∈k.bd:=by
 have h1:=hn.zE s hs
 grind[mem_sorted,qY.bd,oK]
theorem qCT(hp:zw p)(hR:ir p n R)(hL:pn p n R)(h:zI p w)(hn:w.left<n)(h0:w.en=0)(ha:a<O w.qJ)(hk:p[w.qG a]?=Z k)(hsk:s∈k.body)(h8:¬s.kind=8)(hr:Room 2 w):
  yP p (one (s.kind=3)) (one (s.kind=4)) (one (s.kind=7)) w (uZ p R w a s):=by
 have hs:=hp.fD _ k hk s hsk;have hnm:=hp.names k (gM hk);have hx:=hnm.zE s hsk;have hkd:=zp.kind hs;unfold uZ
 split
 .grind[one,yP.refl]
 .split
  .grind[one,bD,Oi,yP.en]
  .rename_i e9 e11;obtain⟨hl1,hl2,_⟩:=xW (a:=a) (l:=s.reads) h;obtain⟨_,hvv⟩:=In hR h hn h0 ha hs hr;unfold vf at hvv ⊢;have hne0:¬w.en≠0:=qA;rcases Vu (p:=p) (w:=w) (a:=a) (l:=s.reads)with hl|⟨e,he1,he2,hl⟩
   .rw [hl]at hvv ⊢;rw[if_neg hne0]at hvv ⊢;have hw:=qEH (s:=s) (vs:=(z7 p w a s.reads).2) hL h hn h0 ha hs hl2 hr;by_cases e7:s.kind=7
    .constructor<;>grind[yY,one]
    .have o7:one (s.kind=7)=0:=by simp[one,e7]
     rw[o7]
     split
     .exact hw
     .rename_i he;have he0:(yY p R w a s (z7 p w a s.reads).2).1.en=0:=qA
      try rw[if_neg e7]
      obtain⟨w1,hw1⟩:∃w1,(yY p R w a s (z7 p w a s.reads).2).1=w1:=⟨_,rfl⟩;have hok:=Is hR h hn h0 ha hs hl2 hr;rw[hw1]at hw he0 hok ⊢;obtain⟨c,hc⟩:=gX ha;have hb1:=hok.1.grow.qG hc;have ha1:a<O w1.qJ:=um ha hok.1.grow.aq;have jz:s.eK:=⟨hkd.1,qA⟩;refine hw.trans he0 (Oi (p:=p) (w:=w1) (a:=a) hx.1 (λhl _=>?_));have:=Vw hp.jK hok.1.ok ha1 hl;rw[hb1]at this;exact⟨w.qG a,k,hk,qDR hnm hsk (.inl jz),this⟩
   grind[qT.reads,z7,one,yP.en]
theorem P7(hk:p[w.qG a]?=Z k)(hi:k.body[i]?=Z s){x3 x4 x7:Nat}(h:yP p x3 x4 x7 (zZ w a i) w')(h3:x3=one (s.kind=3))(h4:x4<=one (s.kind=4))(h7:x7=one (s.kind=7)):yP p 0 0 0 w w':=by
 have hst:sL p (w.qG a,i)=Z s:=by grind[sL]
 have hsk:AA p (w.qG a,i)=s.kind:=by grind[AA]
 have key:∀d,iI p d (zZ w a i).trace=iI p d w.trace+one (s.kind=d):=λd=>by
  grind[zZ,one,iI]
 have k3:=key 3;have k4:=key 4;have k7:=key 7;obtain⟨f1,f2,f3,f4,f5⟩:=h;constructor<;>grind[zZ]
theorem Rc(hp:zw p)(hR:ir p n R)(hL:pn p n R){l:List qT}:∀{w:qM}{i:Nat},zI p w->w.left<n+1->w.en=0->a<O w.qJ->p[w.qG a]?=Z k->k.body.drop i=l->yP p 0 0 0 w (ve p R a w i l).1:=by
 induction l with
 |nil=>intro w i _ _ _ _ _ _;exact .refl w
 |cons s l ih=>
  intro w i h hn h0 ha hk hd
  have hi:k.body[i]?=Z s:=by
   have:=congrArg (·[0]?) hd
   grind
  have hd2:k.body.drop (i+1)=l:=by
   have:=congrArg (List.drop 1) hd
   grind[List.drop_drop]
  have hsk:=gM hi;simp only[ve]
  split
  .grind[yP.en]
  .rename_i hl;obtain⟨t1,t2⟩:=E4 (a:=a) (i:=i) h hl;have tn:(zZ w a i).left<n:=by grind[zZ]
   split
   .rename_i e8;have e3:¬s.kind=3:=qA;have e7:¬s.kind=7:=qA;refine P7 hk hi (x3:=0) (x4:=0) (x7:=0) ?_ (by simp[one,e3]) qA (by simp[one,e7])
    grind[M9,yP.refl,yP.en]
   .rename_i e8;have hst:=qCT hp hR hL t1 tn h0 ha hk hsk e8 t2;have hok:=EW hR t1 tn h0 ha (hp.fD _ k hk s hsk) t2;have hT:=P7 hk hi hst rfl (qb _) rfl
    split
    .exact hT
    .rename_i he;have he0:(uZ p R (zZ w a i) a s).en=0:=qA;have hA:=hok.tick hl;obtain⟨c,hc⟩:=gX ha;have hb:=hA.grow.qG hc;exact hT.trans he0 (ih hA.ok (by have:=hA.grow.left;omega) he0 (um ha hA.grow.aq) qQ hd2)
end
theorem OT{p:qC}(hp:zw p):∀n,pn p n (qm p n)
 |0=>λw a _ h=>absurd h qA
 |n+1=>by
  intro w a h hn ha h0;obtain⟨c,hc⟩:=gX ha;have hb:=h.af a c hc;obtain⟨k,hk⟩:=gX hb;simp only[qm];rw[wk hc,hk];exact Rc hp (fz hp n) (OT hp n) (k:=k) h hn h0 ha (by grind[wk]) rfl
theorem WQ(hp:zw p)(hf:f<=150):yP p 0 0 0 (jb f) (v7 p f):=
 OT hp 151 (jb f) 0 (EV hp hf) (by grind[jb]) lK rfl
section
variable{X:Ctx}{st:St}{K:St->Prop}{E:AV->St->Prop}{d f:Nat}{ty:TypeId}{pos:String}{aft:Array Edge}{g:Option (Nat×Bool)}{args:Array Operand}{Ts:Array TypeId}{az:List AV}{R:Nm->AV->(Nm->Option AO)->Prop}
theorem w9(h1:(st.hp (.u 1 0 0)).isSome=B)(h2:(st.hp (.u 2 0 0)).isSome=B)(hd:d<X.n:=by first|(simp;done)|fail)(ha:args.toList.map (ev st)=az:=by simp[fx];first|done|rfl)
  (hF:qX X.P X.gl f zP az (zU zP st.hp) R qw)(h:∀y H',R (.s d) y H'->K ((st.call d zP (zU zP st.hp) H').put (Z d) y)):
  qe X ⟨Z d,.call ⟨.value (.func f),args,Ts⟩,ty,pos,aft,g⟩ K E st:=by
 refine nT (az:=az) zP (λn h=>vF h) (λk i j he=>?_) hd ha hF h
 simp_all<;>grind
end
structure zi(p:qC):Prop where
 sh:zw p
 pm:∀(b:Nat)k,p[b]?=Z k->∀x∈k.params,zN p b x=b
theorem zi.of{p:qC}(hs:jm p)(h:j2 p=B):zi p:=by
 simp only[j2,yF]at h;have hp:=zw.of hs h.1;refine⟨hp,λb k hk x hx=>?_⟩;have hkm:=gM hk;have hxr:=(hp.names k hkm).params x hx
 have hb0:0<b:=by
  cases b with
  |zero=>
   have:=hp.head 0 k hk
   grind
  |succ b=>omega
 have hd:=yn.1 h.2 b (ix.2 (gS hk).1);have hbn:(b==0)=M:=qp;rw[hbn,Bool.false_or]at hd;simp only[am,hk]at hd;have hdx:=yn.1 hd x.toNat (ix.2 qA)
 grind[aM,qY.bd,mem_sorted,oK,NZ,uW]
def j4(p:qC)(w:qM)(b up:Nat)(vs:List q8)(i:Nat):qM:=
 {w with qJ:=w.qJ++[⟨b,up,dR ((match p[b]? with|some k=>k.params|none=>[]).take i) (vs.take i)⟩],stack:=w.stack++[O w.qJ]}
theorem Jf(hi:uG p b<=i)(hv:O vs<=i):j4 p w b up vs i=ja p w b up vs:=by
 grind[j4,ja,uG,jg]
theorem Jg(h:zI p w)(hm:kH p w.qJ b up)(hv:∀v∈vs,zh (O w.qI) (O w.qU) v)(hr:Room 1 w):zI p (j4 p w b up vs i):=by
 have h0:=(sm h hm hv hr).1
 have key:∀(j:Nat)a,(j4 p w b up vs i).qJ[j]?=Z a->∃a',(ja p w b up vs).qJ[j]?=Z a'/\a'.qG=a.qG/\a'.up=a.up/\(a.vars=a'.vars\/va (O w.qI) (O w.qU) a.vars):=by
  grind[j4,ja,Jj]
 have mk:∀{c j:Nat},kH p (ja p w b up vs).qJ c j->kH p (j4 p w b up vs i).qJ c j:=by
  rintro c j ⟨a,k,h1,h2,h3,h4⟩;have hj:=(gS h1).1;obtain⟨a',ha'⟩:∃a',(j4 p w b up vs i).qJ[j]?=Z a':=⟨_,gE (by grind[j4,ja])⟩;obtain⟨a2,e1,e2,_⟩:=key j a' ha';rw[h1]at e1;obtain rfl:=sI e1;exact⟨a',k,ha',h2,qA,h4⟩
 refine⟨?_,λj a ha=>?_,λj a ha=>?_,λj a ha hj=>?_,h0.zM,λj g hg=>mk (h0.qI j g hg),h0.cls,λj hj=>by simpa[j4,ja]using h0.jw j hj,by simpa[j4,ja]using h0.wU,h0.b6,h0.aR,h0.aS,h0.aA,by simpa[j4,ja]using h0.mu,h0.l6,h0.eg⟩
 .grind[zI.a0,j4]
 .obtain⟨a',e1,e2,e3,e4⟩:=key j a ha;rcases e4 with e4|e4
  .rw [e4];exact h0.vars j a' e1
  .exact e4
 .obtain⟨a',e1,e2,e3,e4⟩:=key j a ha;rw[<- e2];exact h0.af j a' e1
 .obtain⟨a',e1,e2,e3,e4⟩:=key j a ha;obtain⟨f1,f2⟩:=h0.up j a' e1 hj
  simp_all
theorem Jh{k:qY}{v:q8}(hp:zi p)(hk:p[b]?=Z k)(hx:k.params[i]?=Z x)(hv:vs[i]?=Z v):fE p (j4 p w b up vs i) (O w.qJ) x v=j4 p w b up vs (i+1):=by
 have hat:(j4 p w b up vs i).qJ[O w.qJ]?=Z ⟨b,up,dR (k.params.take i) (vs.take i)⟩:=by simp[j4,hk]
 have ho:=hp.pm b k hk x (gM hx)
 have hloc:(j4 p w b up vs i).loc p (O w.qJ) x=Z (O w.qJ):=by
  simp_all[qM.loc,wk,xC]
 have hi:=(gS hx).1;have hj:=(gS hv).1
 have ht:dR (k.params.take (i+1)) (vs.take (i+1))=(dR (k.params.take i) (vs.take i)).set x.toNat (Z v):=by
  unfold dR;rw[vd,vd,hx,hv];simp only[Option.toList_some];rw[List.zip_append qp];simp
 unfold fE;rw[hloc];simp only[qM.set,j4,hk];rw[ht]
 congr 1
 apply yp
 grind
theorem kH.shape{qJ:List Act}(h:kH p qJ b i):∃k,p[b]?=Z k/\uG p b=O k.params:=by
 grind[uG,kH]
def kZ(p:qC)(f:Int):Bool:=j2 p&&(decide (0<=f)&&decide (f<=150))
structure pj where
 out:List Int
 en:Int
 left:Int
 gl:List Int
def pI(w:qM):pj:=⟨w.out,w.en,w.left,pM w.globals⟩
def iZ(p:qC)(f:Int):pj:=if kZ p f=B then pI (v7 p f.toNat)else⟨[],0,0,[]⟩
def sK(p:qC):Int:=if j2 p=B then 150-(v7 p 150).left else -1
def pj.own(n:Nm)(r:pj):List AV:=[.hs (.c n 0 0) 1 0 (O r.out),iv r.en,iv r.left,.hs (.c n 0 3) 1 0 (O r.gl)]
@[simp]theorem pj.B7{r:pj}:r.own n=[.hs (.c n 0 0) 1 0 (O r.out),iv r.en,iv r.left,.hs (.c n 0 3) 1 0 (O r.gl)]:=rfl
structure JW(hp:Nm->Option AO)(n:Nm)(r:pj):Prop where
 out:hp (.c n 0 0)=Z (.row 1 (qh r.out))
 gl:hp (.c n 0 3)=Z (.row 1 (qh r.gl))
structure AN(p:qC)(f:Nat)(w:qM):Prop where
 ok:zI p w
 led:yP p 0 0 0 (jb f) w
 grow:Grow 0 (jb f) w
def mq(hp:zw p)(hf:f<=150):AN p f (v7 p f):=
 ⟨(Mm hp hf).ok,WQ hp hf,(Mm hp hf).grow⟩
def AN.left{p:qC}{f:Nat}{w:qM}(h:AN p f w):w.left<=f:=h.grow.left
theorem AN.tr(h:AN p f w):O w.trace+w.left=f:=by
 have:=h.grow.aA
 grind[jb]
def BI{f:Int}(h:kZ p f=B):j2 p=B/\∃n:Nat,f=n/\n<=150:=by
 simp only[kZ,yF,decide_eq_true_eq]at h;exact⟨h.1,f.toNat,qA,qA⟩
section
variable{n:Nm}{len i j:Nat}{f:Nm->Option Nm}{q:Int}
@[simp]theorem qAs(h:∀j,f (.c n j 0)=Z (.c n j 0)):(kK n len i).map (λr=>r.map (AV.tr f))=kK n len i:=Bp λj _=>h j
@[simp]theorem XL(h:∀j,f (.c n j 0)=Z (.c n j 0)):(wC n q).tr f=wC n q:=xj λ_=>h _
end
@[simp]theorem qB5{z q len:Nat}{lo hi:Option Int}:kM P T hp (.hs n z q len) lo hi=match y7 P T with
  |some e=>if z=qi P e/\0<=lo.getD 0/\lo.getD 0<=hi.getD len/\(hi.getD len<=len\/q+(hi.getD len).toNat<=lh hp n z)then Z (.hs n z (q+(lo.getD 0).toNat) ((hi.getD len).toNat-(lo.getD 0).toNat))else Y
  |none=>Y:=rfl
def fM(k:Nat):Bool:=k==1||k==7||k==8
def DM:Nm->Bool:=Du fM
def wM(n:Nm):Bool:=DM n||Nm.under (.u 2 0 0) n
section
variable{n:Nm}{k i j d:Nat}
@[simp]theorem DM_s:DM (.s d)=M:=rfl
@[simp]theorem DM_u:DM (.u k i j)=fM k:=rfl
@[simp]theorem DM_c:DM (.c n i j)=DM n:=rfl
@[simp]theorem fM_1:fM 1=B:=rfl
@[simp]theorem fM_2:fM 2=M:=rfl
@[simp]theorem fM_7:fM 7=B:=rfl
@[simp]theorem fM_8:fM 8=B:=rfl
@[simp]theorem QU:wM n=(DM n||Nm.under (.u 2 0 0) n):=rfl
theorem zF(h:DM n=B):n.zj=M:=QZ h
def pa(h:wM n=B):n.zj=M:=by
 simp only[wM,AX]at h;rcases h with h|h
 .exact zF h
 .exact y8 rfl h
end
section
variable{l m:List Nat}{i:Nat}{f:Nm->Option Nm}
@[simp]theorem erows_len:O (zd l)=O l:=rI
@[simp]theorem LC:(zd l)[i]?=(l[i]?).map λi=>[uH i]:=rI
def TE:zd l++zd m=zd (l++m):=rI
def TF:zd l++[[uH i]]=zd (l++[i]):=rI
@[simp]theorem erows_take{n:Nat}:(zd l).take n=zd (l.take n):=rI
@[simp]theorem xE(h:∀i,f (En i)=Z (En i)):(zd l).map (λr=>r.map (AV.tr f))=zd l:=by
 simp_all[zd]
end
theorem xF{l:List Nat}{f:Nm->Option Nm}(h:∀i∈l,f (En i)=Z (En i)):(zd l).map (λr=>r.map (AV.tr f))=zd l:=by
 simp_all[zd]
def iH(F:Nat)(p:qC)(k:Nat)(g:Nat×Nat):List AV:=[iv (uG p g.1),.fn (.func F) [] [.pt (.u 8 k 0) 0,.pt (.u 8 k 1) 0,.pt (.u 8 k 2) 0,.pt (.u 8 k 3) 0]]
def aK(F:Nat)(p:qC)(gs:List (Nat×Nat)):List (List AV):=gs.mapIdx λk g=>iH F p k g
def aL(n:Nm)(cs:List (List qr)):List (List AV):=cs.mapIdx λk _=>[.mp (.c n (k+1) 9)]
section
variable{F:Nat}{p:qC}{gs:List (Nat×Nat)}{g:Nat×Nat}{cs:List (List qr)}{c:List qr}{n m:Nm}{i:Nat}{f:Nm->Option Nm}
@[simp]theorem cloRows_len:O (aK F p gs)=O gs:=by simp[aK]
@[simp]theorem Kj:(aK F p gs)[i]?=(gs[i]?).map λg=>iH F p i g:=by simp[aK]
@[simp]theorem cloRows_getE{h:i<O (aK F p gs)}:(aK F p gs)[i]=iH F p i (gs[i]' qQ):=by simp[aK]
def SW:aK F p gs++[iH F p (O gs) g]=aK F p (gs++[g]):=by simp[aK]
@[simp]theorem cloRows_fix(h:∀k j,f (.u 8 k j)=Z (.u 8 k j)):(aK F p gs).map (λr=>r.map (AV.tr f))=aK F p gs:=by
 apply yp;intro j;rw[j3,Kj]
 cases hj:gs[j]?<;>simp_all[iH]
@[simp]theorem cmpRows_len:O (aL n cs)=O cs:=by simp[aL]
@[simp]theorem S5:(aL n cs)[i]?=(cs[i]?).map λ_=>[AV.mp (.c n (i+1) 9)]:=by simp[aL]
@[simp]theorem cmpRows_getE{h:i<O (aL n cs)}:(aL n cs)[i]=[AV.mp (.c n (i+1) 9)]:=by simp[aL]
def S3:aL n cs++[[.mp (.c n (O cs+1) 9)]]=aL n (cs++[c]):=by simp[aL]
theorem Km{g:List AV->List AV}(h:∀(i:Nat)c,cs[i]?=Z c->g [.mp (.c n (i+1) 9)]=[.mp (.c m (i+1) 9)]):(aL n cs).map g=aL m cs:=by
 apply yp
 grind[S5]
@[simp]theorem S4(h:∀i,f (.c n (i+1) 9)=Z (.c n (i+1) 9)):(aL n cs).map (λr=>r.map (AV.tr f))=aL n cs:=Km λi c _=>by simp[h i]
end
def jE(p:qC)(w:qM):List AV:=[j6 p,.hs (.c Mn 0 1) 1 0 (O p),iv w.left,iv w.en,.hs (.c Mn 0 4) 1 0 (O w.out),.hs (.c Mn 0 5) 2 0 (O w.trace),uH 0,.hs (.c Mn 0 7) 1 0 (O w.stack),.hs (.c Mn 0 8) 2 0 (O w.qI),.hs (.c Mn 0 9) 1 0 (O w.qU)]
def kF(i:Nat)(a:Act):List AV:=[iv a.qG,.mp (.c (En i) 0 1),if i=0 then au else uH a.up]
@[simp]theorem envRow_len{a:Act}:O (kF i a)=3:=rfl
@[simp]theorem envRow_fix{a:Act}{f:Nm->Option Nm}(h1:f (.c (En i) 0 1)=Z (.c (En i) 0 1))(h2:∀j,f (En j)=Z (En j)):(kF i a).map (AV.tr f)=kF i a:=by
 by_cases e:i=0<;>simp_all[kF]
def qM.yS(w:qM)(i:Nat):List qr:=if i=0 then w.globals else match w.qJ[i]? with|some a=>a.vars|none=>[]
structure qd(hp:Nm->Option AO)(F:Nat)(p:qC)(w:qM):Prop where
 top:hp Mn=Z (.row 10 [jE p w])
 wH:gU hp (.c Mn 0 1) p (O p)
 out:hp (.c Mn 0 4)=Z (.row 1 (qh w.out))
 zt:hp (.c Mn 0 5)=Z (.row 2 (vR w.trace))
 run:∃l,(∀i∈l,i<O w.qJ)/\hp (.c Mn 0 7)=Z (.row 1 (zd (w.stack++l)))
 qI:hp (.c Mn 0 8)=Z (.row 2 (aK F p w.qI))
 bx:∀(k:Nat)g,w.qI[k]?=Z g->hp (.u 8 k 0)=Z (.row 1 [[iv g.1]])/\hp (.u 8 k 1)=Z (.row 1 [[uH g.2]])/\hp (.u 8 k 2)=Z (.row 1 [[jO (match p[g.1]? with|some b=>b.params|none=>[])]])/\hp (.u 8 k 3)=Z (.row 1 [[.pt Mn 0]])
 jG:hp (.c Mn 0 9)=Z (.row 1 (aL Mn w.qU))
 cls:∀(k:Nat)c,w.qU[k]?=Z c->∃ms,hp (.c Mn (k+1) 9)=Z (.map (ud ms))/\wN ms c
 env:∀(i:Nat)a,w.qJ[i]?=Z a->hp (En i)=Z (.row 3 [kF i a])
 yS:∀(i:Nat),i<O w.qJ->∃ms,hp (.c (En i) 0 1)=Z (.map (ud ms))/\wN ms (w.yS i)
 only:∀k i j,fM k=B->hp (.u k i j)≠Y->(k=1/\i=0/\j=0)\/(k=7/\i<O w.qJ/\j=0)\/(k=8/\i<O w.qI/\j<4)
def aP:Option Nat->Nat
 |none=>0
 |some i=>i
theorem Dp(hh:ze p)(hw:zI p w)(ha:a<O w.qJ):w.yS (aP (w.loc p a x))=w.vars (w.loc p a x)/\aP (w.loc p a x)<O w.qJ:=by
 obtain⟨a0,h0,hb0⟩:=hw.a0;have hl0:=(gS h0).1;rcases xX (x:=x) hh hw ha with⟨h1,h2⟩|⟨o,i,c,ho,h1,h2,h3,h4,h5,_⟩<;>grind[qM.yS,aP,qM.vars]
theorem qd.hp'{hp hp':Nm->Option AO}{F:Nat}{p:qC}{w:qM}(h:qd hp F p w){f:Nm->Option Nm}(hf:∀m,DM m=B->f m=Z m)(hh:∀m,DM m=B->hp' m=(hp m).map (AO.tr f)):qd hp' F p w:=by
 have hE:∀i,f (En i)=Z (En i):=λi=>hf _ rfl;have h8:∀k j,f (.u 8 k j)=Z (.u 8 k j):=λk j=>hf _ rfl;have hc:∀j,f (.c Mn 0 j)=Z (.c Mn 0 j):=λj=>hf _ rfl;refine⟨?_,⟨?_,λj k hj hk=>?_⟩,?_,?_,h.run.imp λl hl=>⟨hl.1,?_⟩,?_,λk g hg=>?_,?_,λk c hc'=>?_,λi a ha=>?_,λi hi=>?_,λk i j hk hn=>?_⟩
 .rw [hh _ rfl,h.top];simp_all[jE]
 .rw [hh _ rfl,h.wH.top];simp only[kB,AO.tr];rw[qAs λj=>hf _ rfl]
 .rw [hh _ rfl,h.wH.sc j k hj hk];simp only[kB,AO.tr,cX,rE,qBD];rw[XL λj=>hf _ rfl]
 .rw [hh _ rfl,h.out];simp
 .rw [hh _ rfl,h.zt];simp
 .rw [hh _ rfl,hl.2]
  simp_all
 .rw [hh _ rfl,h.qI]
  simp_all
 .obtain⟨a1,a2,a3,a4⟩:=h.bx k g hg;refine⟨?_,?_,?_,?_⟩
  .rw [hh _ rfl,a1];simp
  .rw [hh _ rfl,a2];simp_all
  .rw [hh _ rfl,a3];simp
  .rw [hh _ rfl,a4];simp[AO.tr,hf Mn rfl]
 .rw [hh _ rfl,h.jG];simp only[kB,AO.tr];rw[S4 λi=>hf _ rfl]
 .obtain⟨ms,a1,a2⟩:=h.cls k c hc';exact⟨ms,by rw[hh _ rfl,a1];simp,a2⟩
 .rw [hh _ rfl,h.env i a ha];have h1:=hf (.c (En i) 0 1) rfl
  simp_all
 .obtain⟨ms,a1,a2⟩:=h.yS i hi;exact⟨ms,by rw[hh _ rfl,a1];simp,a2⟩
 .refine h.only k i j hk λe=>hn ?_
  simp_all
def qd.fin{sbs:List (Nm×Nm)}(h:qd hp F p w)(hD:∀m,D m=B->m.zj=M:=by first|exact λ_=>zF|exact λ_=>pa)(hW:∀m,DM m=B->D m=B:=by intro m hm;first|exact hm|simp[hm])(hs:∀q∈sbs,q.1.zj=B:=by simp[Nm.zj]):qd (vW D sbs hp) F p w:=
 h.hp' (f:=zH D sbs) (λm hm=>mb hD (hW m hm) hs) (λm hm=>qQ)
def qd.re{hp':Nm->Option AO}(om:qd hp F p w)
  (h0:hp' Mn=Z (.row 10 [jE p w]):=by simp[om.top,jE])
  (h1:hp' (.c Mn 0 1)=Z (.row 1 (kK (.c Mn 0 1) (O p) (O p))):=by simp[om.wH.top])
  (h2:∀(j:Nat)k,j<O p->p[j]?=Z k->hp' (.c (.c Mn 0 1) j 0)=Z (.row 43 [yb j k (wC (.c Mn 0 1) k.parent) k.params]):=by intro j k hj hk;simp[om.wH.sc j k hj hk])
  (h3:hp' (.c Mn 0 4)=Z (.row 1 (qh w.out)):=by simp[om.out])
  (h4:hp' (.c Mn 0 5)=Z (.row 2 (vR w.trace)):=by simp[om.zt])
  (h5:∀l,hp (.c Mn 0 7)=Z (.row 1 (zd (w.stack++l)))->hp' (.c Mn 0 7)=Z (.row 1 (zd (w.stack++l))):=by intro l hl;simp[hl])
  (h6:hp' (.c Mn 0 8)=Z (.row 2 (aK F p w.qI)):=by simp[om.qI])
  (h7:∀(k:Nat)g,w.qI[k]?=Z g->hp' (.u 8 k 0)=Z (.row 1 [[iv g.1]])/\hp' (.u 8 k 1)=Z (.row 1 [[uH g.2]])/\hp' (.u 8 k 2)=Z (.row 1 [[jO (match p[g.1]? with|some b=>b.params|none=>[])]])/\hp' (.u 8 k 3)=Z (.row 1 [[.pt Mn 0]]):=by intro k g hg;simp[om.bx k g hg])
  (h8:hp' (.c Mn 0 9)=Z (.row 1 (aL Mn w.qU)):=by simp[om.jG])
  (h9:∀(k:Nat)ms,hp (.c Mn (k+1) 9)=Z (.map (ud ms))->hp' (.c Mn (k+1) 9)=Z (.map (ud ms)):=by intro k ms hm;simp[hm])
  (hA:∀(i:Nat)a,w.qJ[i]?=Z a->hp' (En i)=Z (.row 3 [kF i a]):=by intro i a ha;simp[om.env i a ha])
  (hB:∀(i:Nat)ms,i<O w.qJ->hp (.c (En i) 0 1)=Z (.map (ud ms))->hp' (.c (En i) 0 1)=Z (.map (ud ms)):=by intro i ms hi hm;simp[hm])
  (hC:∀k i j,fM k=B->¬(k=1/\i=0/\j=0)->hp' (.u k i j)≠Y->hp (.u k i j)≠Y:=by intro k i j hk e hn;simpa[hk,e]using hn):qd hp' F p w:=
 ⟨h0,⟨h1,h2⟩,h3,h4,om.run.imp λl hl=>⟨hl.1,h5 l hl.2⟩,h6,h7,h8,λk c hc=>(om.cls k c hc).imp λms hm=>⟨h9 k ms hm.1,hm.2⟩,hA,λi hi=>(om.yS i hi).imp λms hm=>⟨hB i ms hi hm.1,hm.2⟩,λk i j hk hn=>if e:k=1/\i=0/\j=0 then .inl e else om.only k i j hk (hC k i j hk e hn)⟩
theorem qd.ext(h0:qd H F p w0)(h:qd hp F p w)(ha:O w0.qJ<=O w.qJ)(hf:O w0.qI<=O w.qI):∀k i j,(H (.u k i j)).isSome=B->DM (.u k i j)=M\/(zU DM hp) (.u k i j)≠Y:=by
 intro k i j hs
 cases hD:fM k with
 |false=>simp_all
 |true=>
  right;have hd:DM (.u k i j)=B:=hD;rw[BD,if_pos hd];rcases h0.only k i j hD qx with⟨rfl,rfl,rfl⟩|⟨rfl,hi,rfl⟩|⟨rfl,hi,hj⟩
  .rw [h.top];simp
  .obtain⟨a,ha'⟩:∃a,w.qJ[i]?=Z a:=⟨_,gE qA⟩;rw[h.env i a ha'];simp
  .obtain⟨g,hg⟩:∃g,w.qI[i]?=Z g:=⟨_,gE qA⟩;obtain⟨a1,a2,a3,a4⟩:=h.bx i g hg
   grind
theorem qd.LF(h0:qd H F p w0)(h:qd hp F p w)(ha:O w0.qJ<=O w.qJ)(hf:O w0.qI<=O w.qI)(h2:(hp (.u 2 0 0)).isSome=B):∀k i j,(H (.u k i j)).isSome=B->wM (.u k i j)=M\/(zU wM hp) (.u k i j)≠Y:=by
 intro k i j hs;by_cases e:Nm.under (.u 2 0 0) (.u k i j)=B
 .simp_all<;>grind
 .simp only[kr]at e;rcases h0.ext h ha hf k i j hs with h1|h1<;>grind[QU,BD]
section
variable{X:Ctx}{st:St}{K:St->Prop}{E:AV->St->Prop}{d f:Nat}{ty:TypeId}{pos:String}{aft:Array Edge}{g:Option (Nat×Bool)}{args:Array Operand}{Ts:Array TypeId}{az:List AV}{R:Nm->AV->(Nm->Option AO)->Prop}
def sR(hext:∀k i j,X.ext (.u k i j)=B->DM (.u k i j)=M\/(zU DM st.hp) (.u k i j)≠Y)(hd:d<X.n:=by first|(simp;done)|fail)(ha:args.toList.map (ev st)=az:=by simp[fx];first|done|rfl)
  (hF:qX X.P X.gl f DM az (zU DM st.hp) R qw)(h:∀y H',R (.s d) y H'->K ((st.call d DM (zU DM st.hp) H').put (Z d) y)):
  qe X ⟨Z d,.call ⟨.value (.func f),args,Ts⟩,ty,pos,aft,g⟩ K E st:=nT DM (λ_=>zF) hext hd ha hF h
end
@[simp]theorem lok_mp{m:Nm}{k':IntKind}{n:Int}{ok:Bool}:xY P T hp (.mp m) (.sc (.int k' n)) ok=match gJ P T with
  |some q=>if k'=q.1 then(match hp m with
   |some (.map es)=>if aQ q.1 es then(match dq q.1 n es with
    |some y=>Z (if ok then .zT [y,.sc (.bool B)]else y)
    |none=>(a7 P q.2).map (λz=>if ok then .zT [z,.sc (.bool M)]else z))else Y
   |_=>Y)else Y
  |none=>Y:=by
 unfold xY
 cases gJ P T with
 |none=>rfl
 |some q=>rfl
theorem qd.sub(h:qd hp F p w)(hD:∀m,DM m=B->D m=B:=by intro m hm;first|exact hm|simp[hm]):qd (zU D hp) F p w:=by
 refine h.hp' (f:=Z) (λ_ _=>rfl) (λm hm=>?_);rw[BD,if_pos (hD m hm)]
 cases hp m<;>grind[AO.uO]
theorem wN.get'(h:wN ms (w.vars l))(hx:0<=x/\x<=7):lk x ms=w.get l x:=by
 rw[h.at hx]
 grind[qM.get]
theorem HT{hp':Nm->Option AO}{x:Nat}{s:qr}(hh:ze p)(hw:zI p w)(ha:a<O w.qJ)(hx:x<8)(hl:w.loc p a x=l)(hnm:w.yS (aP (w.loc p a x))=w.vars (w.loc p a x))(h:qd hp F p w)(hms:wN ms ((w.vars l).set (x:Int).toNat s))(hq:∀m,DM m=B->hp' m=if m=.c (En (aP l)) 0 1 then Z (.map (ud ms))else hp m):qd hp' F p (w.set l x s):=by
 obtain⟨e1,e2,e3,e4,e5,e6,e7⟩:=pL (w:=w) (l:=l) (x:=(x:Int)) (s:=s);have hlen:O (w.set l x s).qJ=O w.qJ:=Bv
 have hnms:∀i,(w.set l x s).yS i=if i=aP l then(w.vars l).set (x:Int).toNat s else w.yS i:=by
  intro i
  cases l with
  |none=>
   grind[qM.yS,qM.set,aP]
  |some j=>
   have hj0:j≠0:=by
    rintro rfl;rcases xX (x:=(x:Int)) hh hw ha with⟨_,h2⟩|⟨o,i,c,ho,_,h2,_,h4,h5,_⟩<;>grind[zI.a0]
   grind[qM.yS,qM.set,aP]
 have hget:∀m,DM m=B->m≠.c (En (aP l)) 0 1->hp' m=hp m:=λm hm hne=>qQ;refine⟨?_,⟨?_,λj k hj hk=>?_⟩,?_,?_,h.run.imp λl hl=>⟨qQ,?_⟩,?_,λk g hg=>?_,?_,λk c hc=>?_,λi b hb=>?_,λi hi=>?_,λk i j hk hn=>?_⟩
 .rw [hget _ rfl qB,h.top];grind[jE]
 .rw [hget _ rfl qB,h.wH.top]
 .rw [hget _ rfl qB,h.wH.sc j k hj hk]
 .rw [hget _ rfl qB,h.out,e3]
 .rw [hget _ rfl qB,h.zt,e4]
 .rw [hget _ rfl qB,hl.2,e6]
 .rw [hget _ rfl qB,h.qI,e1]
 .rw [e1]at hg;obtain⟨a1,a2,a3,a4⟩:=h.bx k g hg;exact⟨by rw[hget _ rfl qB,a1],by rw[hget _ rfl qB,a2],by rw[hget _ rfl qB,a3],by rw[hget _ rfl qB,a4]⟩
 .rw [hget _ rfl qB,h.jG,e2]
 .rw [e2]at hc;obtain⟨ms,a1,a2⟩:=h.cls k c hc;exact⟨ms,by rw[hget _ rfl qB,a1],a2⟩
 .obtain⟨b',hb',f1,f2,_⟩:=Bu hb;rw[hget _ rfl qB,h.env i b' hb']
  grind[kF]
 .rw [hlen]at hi;rw[hnms];by_cases e:i=aP l
  .subst e;rw[if_pos rfl];exact⟨ms,by rw[hq _ rfl,if_pos rfl],hms⟩
  .rw [if_neg e];obtain⟨ms',a1,a2⟩:=h.yS i hi;exact⟨ms',by rw[hget _ rfl (by simp[e]),a1],a2⟩
 .rw [hget (.u k i j) hk qB]at hn;rw[hlen,e1];exact h.only k i j hk hn
section
variable{X:Ctx}{st:St}{K:St->Prop}{E:AV->St->Prop}{ty:TypeId}{pos:String}{aft:Array Edge}{g:Option (Nat×Bool)}
theorem qES{dst:Option Nat}{e:TypeId}{ts:Array TypeId}{m key:Operand}{k:IntKind}{i:Int}{es:List (AV×AV)}{st':St}(hts:ts[0]?=Z T:=by rfl)(hdn:∀t,dst=Z t->t<X.n:=by first|(intro t h;cases h;done)|(intro t h;obtain rfl:=sI h;simp;done)|fail)(ht:gJ X.P T=Z (k,e):=by simp[fx];first|done|rfl|exact⟨rfl,rfl⟩)
  (hm:ev st m=.mp n:=by simp[fx];first|done|rfl)(hk:ev st key=.sc (.int k i):=by simp[fx];first|done|rfl)(hn:st.hp n=Z (.map es):=by simp[fx];first|done|rfl)(hks:aQ k es=B:=by simp[fx];first|done|rfl)
  (hs:(st.zW n (.map (dl k i es))).put dst (.sc (.tuple #[]))=st':=by simp[fx];first|done|rfl)(h:K st'):qe X ⟨dst,.call {callee:=.builtin .delete,args:=#[m,key],argTypes:=ts},ty,pos,aft,g⟩ K E st:=by
 grind[qBL]
end
section
variable{P:Program}{C:Nat->Prop}{wd:World}{g0:Gh}{H:Nm->Option AO}{n:Nat}{gl:Nat->Option (List AV)}{st:St}{K:St->Prop}{E:AV->St->Prop}{d f:Nat}{ty:TypeId}{pos:String}{aft:Array Edge}{g:Option (Nat×Bool)}{c:Operand}{args:Array Operand}{Ts:Array TypeId}{az xs ys:List AV}{R:Nm->AV->(Nm->Option AO)->Prop}{F:Nat}{p:qC}{w0 w:qM}
def km(h0:qd H F p w0)(hO:qd st.hp F p w)(hl:O w0.qJ<=O w.qJ)(hf:O w0.qI<=O w.qI)(hd:d<n:=by first|(simp;done)|fail)(ha:args.toList.map (ev st)=az:=by simp[fx];first|done|rfl)
  (hF:qd (zU DM st.hp) F p w->qX P gl f DM az (zU DM st.hp) R qw)(h:∀y H',R (.s d) y H'->K ((st.call d DM (zU DM st.hp) H').put (Z d) y)):
  qe (jt P C wd g0 H n gl) ⟨Z d,.call ⟨.value (.func f),args,Ts⟩,ty,pos,aft,g⟩ K E st:=nT DM (λ_=>zF) (λk i j he=>h0.ext hO hl hf k i j he) hd ha (hF hO.sub) h
def It(h0:qd H F p w0)(hO:qd st.hp F p w)(h2:(st.hp (.u 2 0 0)).isSome=B)(hl:O w0.qJ<=O w.qJ)(hf:O w0.qI<=O w.qI)(hd:d<n:=by first|(simp;done)|fail)(ha:args.toList.map (ev st)=az:=by simp[fx];first|done|rfl)
  (hF:qd (zU wM st.hp) F p w->qX P gl f wM az (zU wM st.hp) R qw)(h:∀y H',R (.s d) y H'->K ((st.call d wM (zU wM st.hp) H').put (Z d) y)):
  qe (jt P C wd g0 H n gl) ⟨Z d,.call ⟨.value (.func f),args,Ts⟩,ty,pos,aft,g⟩ K E st:=nT wM (λ_=>pa) (λk i j he=>h0.LF hO hl hf h2 k i j he) hd ha (hF hO.sub) h
def qEQ(h0:qd H F p w0)(hO:qd st.hp F p w)(h2:(st.hp (.u 2 0 0)).isSome=B)(hl:O w0.qJ<=O w.qJ)(hf:O w0.qI<=O w.qI)(hd:d<n:=by first|(simp;done)|fail)
  (hv:ev st c=.fn (.func f) xs ys:=by simp[fx];first|done|rfl)(ha:xs++args.toList.map (ev st)++ys=az:=by simp[fx];first|done|rfl)
  (hF:qd (zU wM st.hp) F p w->qX P gl f wM az (zU wM st.hp) R qw)(h:∀y H',R (.s d) y H'->K ((st.call d wM (zU wM st.hp) H').put (Z d) y)):
  qe (jt P C wd g0 H n gl) ⟨Z d,.call ⟨.value c,args,Ts⟩,ty,pos,aft,g⟩ K E st:=qEU wM (λ_=>pa) (λk i j he=>h0.LF hO hl hf h2 k i j he) hd hv ha (hF hO.sub) h
end
end Go.Hm
end
section

end
section

end
section
namespace Go.Hm
open Go
structure JY(P:Program):Prop where
 laid:laidOutB P=B
 maps:mapsRowed P=B
 stops:(P.stops==[])=B
 knobs:(P.stopKnobs==[])=B
 keys:P.plainKeys=B
 heard:P.stopsHeard=B
 may:P.mayEnter=B
 Vd:P.liftsFinal=M
 make:(P.make==Z .cut)=B
def Uv{P:Program}{f:FuncId}{fn:Func}{s:ChangeSpec}{c:OpenClaim}(hp:JY P)
  (h1:c.wf (OpenSpec.ofChange s)=B)(h2:fn.params.all (P.readableRec ·)=B)(h3:namedTie P c.named s.vars=B)(h4:(c.stops==[])=B)(h5:(c.knobs==[])=B)
  (h6:(c.inPlace==P.inPlace f)=B)(h7:(c.unfollowed==P.unfollowed f)=B)(h8:(c.recurses==P.recurses f)=B)(h9:(c.named==P.varsNamed f)=B)
  (h10:(c.maps==(fn.params.toList++s.plain.varTypes P).any (P.mapsRec ·))=B)(h11:(c.ifaces==(fn.params.toList++s.plain.varTypes P).any (P.ifacesRec ·))=B)(h12:(c.mapsOut==P.mapsAmong fn.resultTypes.toList)=B)
  (h13:(c.loops==(fn.params.toList++s.plain.varTypes P).any (P.loopsFrom ·))=B)(h14:(c.wideKeys==(fn.params.toList++s.plain.varTypes P++fn.resultTypes.toList).any (P.wideKeysFrom ·))=B)
  (h15:s.vars.all (P.varReadable ·)=B)(h16:fn.resultTypes.all (λt=>P.readableRec t&&decide (t<P.types.size))=B)(h17:(c.ifacesOut==fn.resultTypes.toList.any (P.ifacesRec ·))=B)(h18:(c.loopsOut==fn.resultTypes.toList.any (P.loopsFrom ·))=B)
  (h19:c.plainKeys=B)(h20:c.shortTexts.isNone=B)(h21:c.lifted=M)(h22:c.make=.cut)
  (h23:(c.kinds==(if c.domain.isEmpty then[]else fn.params.toList.map λt=>match P.underlying t with|some (.int k)=>Z k|_=>Y))=B)(h24:(c.pinned==c.pinnedBy)=B)
  (h25:(c.veiled==(fn.params.toList++s.plain.varTypes P++fn.resultTypes.toList).any (P.veiledRec ·))=B)(h26:c.veiledFits P fn.params.toList (fn.params.toList++s.plain.varTypes P++fn.resultTypes.toList)=B):joinedFacts P f fn s c=B:=by
 have e1:(c.plainKeys==P.plainKeys)=B:=by rw[h19,hp.keys];rfl
 have e2:(c.lifted==P.liftsFinal)=B:=by rw[h21,hp.Vd];rfl
 have e3:(P.make==Z c.make)=B:=by rw[h22];exact hp.make
 unfold joinedFacts;simp only[hp.laid,hp.maps,hp.stops,hp.knobs,hp.heard,hp.may,h1,h2,h3,h4,h5,h6,h7,h8,h9,h10,h11,h12,h13,h14,h15,h16,h17,h18,h20,h24,h25,h26,e1,e2,e3,Bool.and_true,gj];exact h23
end Go.Hm
end
section
namespace Go.Hm
open Go Go.RowKit
section
variable{p:qC}{f g n:Nat}
structure More(k:Nat)(w w':qM):Prop where
 qI:O w.qI<=O w'.qI
 cls:O w.qU<=O w'.qU
 out:w.out <+: w'.out
 tr:w.trace <+: w'.trace
 same:w.en≠1->w'=Ey k w
 Y:w.en=1->w.left=0
end
end Go.Hm
end
section
set_option linter.unusedSectionVars false
namespace Go.Hm
open Go Go.RowKit
def wJ(t:List (Nat×Nat))(k:Nat)(w:qM):qM:={w with trace:=t,left:=k}
section
variable{p:qC}{k m:Nat}{t:List (Nat×Nat)}{w:qM}{a b i:Nat}{x:Int}{l:Option Nat}{vs:List q8}{s:qT}{v:q8}
@[simp]theorem stl_stl{t':List (Nat×Nat)}{k':Nat}:wJ t k (wJ t' k' w)=wJ t k w:=rfl
@[simp]theorem stl_loc:(wJ t k w).loc p a x=w.loc p a x:=rfl
@[simp]theorem stl_blk:(wJ t k w).qG a=w.qG a:=rfl
@[simp]theorem stl_en:(wJ t k w).en=w.en:=rfl
@[simp]theorem stl_left:(wJ t k w).left=k:=rfl
@[simp]theorem stl_out:(wJ t k w).out=w.out:=rfl
end
def Qa(m:Nat)(r r':qM×q8):Prop:=(r.1.en≠1/\∃t,r'=(wJ t m r.1,r.2))\/(r.1.en=1/\(m=0->r'.1.out=r.1.out/\r'.1.left=0))
section
variable{p:qC}{R:qM->Nat->qM×q8}{R2:Nat->qM->Nat->qM×q8}{n:Nat}{w:qM}{a b i:Nat}{x:Int}{vs:List q8}{s:qT}{v:q8}
variable(hR:∀w a,w.left<n->w.en=0->∃g,g+(R w a).1.left<=w.left/\∀N t m,g+m<N->Qa m (R w a) (R2 N (wJ t (g+m) w) a))
include hR
end
end Go.Hm
end
section

end
section

end
section

end
section
namespace Go.Hm
open Go Go.RowKit
variable{D:Nm->Bool}{i j:Int}{ts:Array TypeId}{x y:Operand}
section
variable{X:Ctx}{st:St}{K:St->Prop}{E:AV->St->Prop}
def GT(D:Nm->Bool)(hp:Nm->Option AO):Nm->Option AO:=λm=>if D m then Y else hp m
def St.forget(D:Nm->Bool)(st:St):St:={tm:=st.tm,hp:=GT D st.hp,n:=st.n,gl:=st.gl}
@[simp]theorem forget_tm{t:Nat}:(st.forget D).tm t=st.tm t:=rfl
@[simp]theorem L1{m:Nm}:(st.forget D).hp m=if D m then Y else st.hp m:=rfl
theorem Sl:∀m o,GT D st.hp m=Z o->st.hp m=Z o:=by
 grind[GT]
def qDt{c:Code}{Q:Ex->St->Prop}(D:Nm->Bool)(h:jJ X c Q (st.forget D)):jJ X c Q st:=λa w hR=>h a w (hR.weaken _ Sl)
end
section
variable{P:Program}{own:Nat->Prop}{C:Nat->Prop}{w0:World}{g:Gh}{st:St}{a:Go.Act}{w:World}
theorem WO{o:Oper}(h:Rg P own C w0 g st a w)(ho:o.op=.call {callee:=.builtin .max,args:=#[x,y],argTypes:=ts})(hdn:∀t,o.dst=Z t->t<st.n)
  (hx:ev st x=iv i)(hy:ev st y=iv j):bK P o a w λa' w'=>kV P own C w0 g (st.put o.dst (iv (if j > i then j else i))) a' w':=by
 have hxv:=h.ev x;rw[hx]at hxv;have hxv:=hxv.jF;have hyv:=h.ev y;rw[hy]at hyv;have hyv:=hyv.jF;refine .inl ⟨.int .i64 (if j > i then j else i),w,?_,g,.refl g,h.put hdn (.sc _)⟩
 simp_all[execOp,resolve,invoke,builtin,Builtin.max_,Builtin.max2]
end
section
variable{X:Ctx}{st:St}{K:St->Prop}{E:AV->St->Prop}{d:Nat}{ty:TypeId}{pos:String}{aft:Array Edge}{g:Option (Nat×Bool)}
def Pv(m:Int)(hm:m=max i j)(hd:d<X.n:=by first|(simp;done)|fail)(hx:ev st x=iv i:=by simp[fx];first|done|rfl)(hy:ev st y=iv j:=by simp[fx];first|done|rfl)
  (h:K (st.put (Z d) (iv m))):qe X ⟨Z d,.call ⟨.builtin .max,#[x,y],ts⟩,ty,pos,aft,g⟩ K E st:=by
 have e:(if j > i then j else i)=m:=qA;refine .du (st':=st.put (Z d) (iv m)) (λ_ _ _ _ e' h'=>?_) ⟨sC _ _ _,sB _ _ _⟩ h;rw[<- e];exact WO (o:=⟨Z d,.call ⟨.builtin .max,#[x,y],ts⟩,ty,pos,aft,g⟩) h' rfl (λt et=>qQ) hx hy
end
def U1(p:qC)(b i:Nat):List Int:=((List.range i).filter λj=>U0 p b j).map λj:Nat=>(j:Int)
section
variable{p:qC}{b i:Nat}{k:qY}
@[simp]theorem idleTo_zero:U1 p b 0=[]:=rfl
end
end Go.Hm
end
section

end
section

end
section
namespace Go.Hm
open Go Go.RowKit
def grows(g:Int->qr)(l:List Int):List (AV×AV):=l.map λx=>(iv x,.agg (jv (g x)))
structure qO where
 qG:Nat
 pc:Nat
 qt:List qr
 cells:List Nat
 names:List qr
 stack:List q8
structure qR where
 cells:List qr
 globals:List qr
 qI:List (Nat×List Nat)
 qU:List (List qr)
 qN:List qO
 made:Nat
 deep:Nat
 out:List Int
 trace:List (Nat×Nat)
 en:Int
 left:Nat
def wE(p:qC)(b:Nat):Nat:=match p[b]? with|some k=>k.parent.toNat|none=>0
def jD(p:qC)(b:Nat):List Int:=(za p b).map (cn p (wE p b))
def xA{p:qC}{b:Nat}:O (jD p b)<=8:=by simp[jD,iL]
section
variable(p:qC)(m:qR)(fs:List qO)(f:qO)(o:Int×Int)
def qR.top:qR:={m with qN:=fs++[f]}
def qR.stop(e:Int):qR:={m.top fs f with en:=e}
def qO.push(v:q8):qO:={f with stack:=f.stack++[v]}
def qO.pop:qO:={f with stack:=f.stack.dropLast}
def qO.zE:q8:=f.stack.getLastD (0,0)
def j7(l:List qr)(i:Nat):qr:=match l[i]? with|some s=>s|none=>Y
def ka:qr:=
 if o.1<=4 then j7 f.qt o.2.toNat
 else if o.1<=7 then j7 m.cells (f.cells.getD o.2.toNat 0)
 else if o.1<=10 then j7 m.globals o.2.toNat else j7 f.names o.2.toNat
def u0:Int:=if o.1<=4 then 2 else if o.1<=7 then(if o.2<O (qa p f.qG)then 2 else 3)else 4
def yE(s:qr):qR:=
 if o.1<=4 then m.top fs {f with qt:=f.qt.set o.2.toNat s}
 else if o.1<=7 then{m.top fs f with cells:=m.cells.set (f.cells.getD o.2.toNat 0) s}
 else if o.1<=10 then{m.top fs f with globals:=m.globals.set o.2.toNat s}else m.top fs {f with names:=f.names.set o.2.toNat s}
def uE:qR:=match ka m f o with
 |some v=>m.top fs (f.push v)
 |none=>if u0 p f o=4 then
  match j7 m.globals o.2.toNat with
  |some v=>m.top fs (f.push v)
  |none=>if o.2=7 then m.top fs (f.push (1,70))else m.stop fs f 4
  else m.stop fs f (u0 p f o)
def CG:qR:=yE m fs f.pop o (Z f.zE)
def cp:qR:=match ka m f o with
 |some _=>yE m fs f o Y
 |none=>m.stop fs f (u0 p f o)
def yG(b:Nat)(cs:List Nat)(vs:List q8):qR:=
 let F:qO:=⟨b,0,List.replicate (O (zB p b)) Y,((List.range (O (qa p b))).map (O m.cells+·))++cs,jZ,[]⟩
 let M':qR:={m with cells:=m.cells++List.replicate (O (qa p b)) Y,made:=m.made+1,deep:=max m.deep (O m.qN+1),qN:=m.qN++[F]}
 match(zQ p b).params,vs with
 |[x],[v]=>if x∈zB p b then{M' with qN:=m.qN++[{F with qt:=F.qt.set (yz (zB p b) x).toNat (Z v)}]}
  else{M' with cells:=M'.cells.set (O m.cells+(yz (qa p b) x).toNat) (Z v)}
 |_,_=>M'
def ck:qR:=
 let n:=o.2.toNat
 let k:=O f.stack-n-1
 let F:qO:={f with stack:=f.stack.take k}
 let g:=f.stack.getD k (0,0)
 if g.1≠2 then m.stop fs F 5 else
 match m.qI[g.2.toNat]? with
 |some h=>if uG p h.1≠n then m.stop fs F 6 else yG p (m.top fs F) h.1 h.2 (f.stack.drop (k+1))
 |none=>m.stop fs F 5
def jM(b:Nat):List Nat:=(jD p b).map λk=>f.cells.getD k.toNat 0
def dO:qR:=
 let v:=f.zE
 if v.1≠3 then m.stop fs f.pop 5 else
 match j7 (m.qU.getD v.2.toNat []) o.2.toNat with
 |some u=>m.top fs (f.pop.push u)
 |none=>m.stop fs f.pop 7
def fI:qR:=
 let b:=f.zE
 let a:=f.pop.zE
 if a.1≠1\/b.1≠1 then m.stop fs f.pop.pop 5 else m.top fs (f.pop.pop.push (1,(a.2+b.2).tmod 1000))
def vK(v:q8):qR:=match fs.getLast? with
 |some g=>{m with qN:=fs.dropLast++[g.push v]}
 |none=>{m with qN:=[]}
def an:qR:=if jk p f.qG=2 then vK {m with qU:=m.qU++[f.names]} fs (3,O m.qU)else vK m fs (0,0)
def aD:qR:=if m.left=0 then m.stop fs f 1 else
 {m.top fs f with left:=m.left-1,trace:=m.trace++[(f.qG,vU ((zS p f.qG).take (f.pc-1)))]}
def yl:qR:=
 if o.1=1 then m.top fs (f.push (1,o.2))
 else if o.1=14 then fI m fs f
 else if o.1=15 then{m.top fs (f.push (2,O m.qI))with qI:=m.qI++[(o.2.toNat,jM p f o.2.toNat)]}
 else if o.1=16 then yG p (m.top fs f) o.2.toNat (jM p f o.2.toNat) []
 else if o.1=17 then ck p m fs f o
 else if o.1=18 then dO m fs f o
 else if o.1=19 then{m.top fs f.pop with out:=m.out++[shown f.zE]}
 else vK m fs f.zE
def yD:qR:=
 if o.1=0 then aD p m fs f
 else if 2<=o.1/\o.1<=13 then
  (if(o.1-2)%3=0 then uE p m fs f o else if(o.1-2)%3=1 then CG m fs f o else cp p m fs f o)
 else yl p m fs f o
end
def wI(p:qC)(m:qR):qR:=match m.qN.getLast? with
 |some f=>match(zS p f.qG)[f.pc]? with
  |some o=>yD p m m.qN.dropLast {f with pc:=f.pc+1} o
  |none=>an p m m.qN.dropLast f
 |none=>m
def qR.ended(m:qR):Prop:=m.qN=[]\/m.en≠0
instance(m:qR):Decidable m.ended:=decidable_of_iff (O m.qN=0\/m.en≠0) (by simp[qR.ended])
def zV(p:qC):Nat->qR->qR
 |0,m=>m
 |n+1,m=>if m.ended then m else zV p n (wI p m)
def jY(fuel:Nat):qR:=⟨[],jZ,[],[],[],0,0,[],[],0,fuel⟩
def zX(p:qC)(fuel:Nat):qR:=yG p (jY fuel) 0 [] []
end Go.Hm
end
