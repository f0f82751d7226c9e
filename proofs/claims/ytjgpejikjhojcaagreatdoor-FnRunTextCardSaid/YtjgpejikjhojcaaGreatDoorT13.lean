import Derived.Test.YtjgpejikjhojcaaGreatDoorT12
set_option linter.unusedSimpArgs false
set_option linter.unusedVariables false
set_option maxRecDepth 100000
set_option maxHeartbeats 4000000

section
namespace Go.Hm
open Go Go.RowKit
section
variable {p:qC} {b o c:Nat} {k q:qT} {x:Int}
theorem Rs (hh:zZ p):∀ c:Nat,c<p.length->jS p c b=true->jS p b o=true->jS p c o=true:=by
 intro c
 induction c using Nat.strongRecOn with
 | ind c ih =>
  intro hl h1 h2;have g1:=fZ h1;have g2:=fZ h2;by_cases e:c=b
  .simp_all
  .obtain⟨q,hq⟩:=gX hl;obtain⟨f1,f2,f3⟩:=hh c q hq;have f4:=f3 qA;obtain⟨m,hm⟩:∃ m:Nat,q.parent=m:=⟨q.parent.toNat,qA⟩
   grind[eK]
theorem U9 (hh:zZ p) (hk:p[b]?=some k) (hb0:0<b) {o:Int} (h0:0<o) (hob:o<b):∀ c:Nat,jS p c b=true->jx p x p.length c=o->outer p b x=o:=by
 intro c
 induction c using Nat.strongRecOn with
 | ind c ih =>
  intro hi h;have hbc:=fZ hi;have hc0:0<c:=qA
  cases hq:p[c]? with
  | none =>
   by_cases e:c=b
   .simp_all
   .have:p.length=0\/∃ n,p.length=n+1:=by
     cases p.length<;>grind
    grind[jx]
  | some q =>
   rw [lR hh hq hc0] at h;obtain⟨g1,g2,g3⟩:=hh c q hq;have g4:=g3 hc0;obtain⟨m,hm⟩:∃ m:Nat,q.parent=m:=⟨q.parent.toNat,qA⟩
   grind[lT,eK]
theorem FH (hh:zZ p):∀ (n:Nat) (j:Int),jx p x n j=o->0<o->zt p o=1
 | 0,j,h,h0=>by grind[jx]
 | n+1,j,h,h0=>by
  simp only [jx] at h
  split at h
  .omega
  .split at h
   .omega
   .rename_i q hq
    split at h
    .exact FH hh n _ h h0
    .rename_i hk1
     split at h
     .omega
     .split at h
      .grind[zt]
      .exact FH hh n _ h h0
theorem Qu (hq:p[c]?=some q) (hx:x∈q.us) (ho:zA p c x=o) (h0:0<o) (hob:o<b) (hi:jS p c b=true):x∈jF p b:=by
 have hbc:=fZ hi;have hcl:=(gS hq).1;simp only [jF,mem_sorted,oi,eQ];refine⟨⟨c - b,qA,?_⟩,(mem_sorted.1 hx).2⟩
 grind[oc,oe]
theorem PY (hk:zt p o=1) (hq:p[c]?=some q) (hx:x∈q.us) (ho:zA p c x=o) (hc:o<c):x∈qh p o:=by
 have hcl:=(gS hq).1;simp only [qh,hk,if_true,mem_sorted,rl,eQ];refine⟨⟨c - (o+1),qA,?_⟩,(mem_sorted.1 hx).2⟩
 grind[ri,rj]
theorem PX (h:x∈qh p o) (hk:p[o]?=some k):u7 o k x=true/\x∉k.dc 9/\k.kind=1:=by
 unfold qh at h
 split at h
 .rename_i h1;simp only [mem_sorted,rl,eQ] at h
  grind[ri,rj,FN,zt]
 grind
theorem BT (h:x∈jF p b):0<b:=by
 simp only [jF,mem_sorted,oi,eQ] at h
 grind[oc,oe]
theorem rx (hh:zZ p) (hk:p[b]?=some k) (hx:x∈jF p b):∃ (o c:Nat) (q:qT),0<o/\o<b/\outer p b x=o/\jS p b o=true/\p[c]?=some q/\x∈q.us/\zA p c x=o/\jS p c b=true:=by
 have hb0:=BT hx;simp only [jF,mem_sorted,oi,eQ] at hx;obtain⟨⟨i,hi,hx⟩,_⟩:=hx;unfold oc at hx
 cases hq:p[b+i]? with
 | none=>simp_all
 | some q =>
  rw [hq] at hx;simp only at hx
  split at hx
  case isFalse=>simp at hx
  rename_i hin;obtain⟨hus,hf⟩:=List.mem_filter.1 hx;simp only [oe,jh,decide_eq_true_eq] at hf;obtain⟨o,hO⟩:∃ o:Nat,zA p (b+i) x=o:=⟨(zA p (b+i) x).toNat,qA⟩;rw [hO] at hf
  have key:outer p b x=o:=by
   have hO':=hO;simp only [zA,hq] at hO'
   split at hO'
   .omega
   .split at hO'
    .omega
    .by_cases e:i=0
     .simp_all
     .rw [lT hh hq] at hO';obtain⟨g1,g2,g3⟩:=hh (b+i) q hq;have g4:=g3 qA;obtain⟨m,hm⟩:∃ m:Nat,q.parent=m:=⟨q.parent.toNat,qA⟩;have hs:=eK hh (b:=(b:Int)) qA hq qA
      grind[U9]
  grind[JY]
theorem JD (hh:zZ p) (hk:p[b]?=some k) (hx:x∈jF p b) {o:Nat} (ho:outer p b x=o):x∈qh p o:=by
 obtain⟨o',c,q,h0,hob,e,hi,hq,hu,hw,hc⟩:=rx hh hk hx;obtain rfl:o=o':=qA
 have hk1:zt p o=1:=by
  rw [lT hh hk] at e
  grind[FH]
 have:=fZ hc
 grind[PY]
theorem ED (hh:zZ p) (hk:p[b]?=some k) (hx:x∈jF p b) {o:Nat} (ho:outer p b x=o) :
  kU p b<b/\(p[kU p b]?).isSome/\0<o/\jS p (kU p b) o=true/\((o=kU p b/\x∈qh p (kU p b))\/(o<kU p b/\x∉qh p (kU p b)/\x∈jF p (kU p b)/\outer p (kU p b) x=o)):=by
 have hcl:=JD hh hk hx ho;obtain⟨o',c,q,h0,hob,e,hi,hq,hu,hw,hc⟩:=rx hh hk hx;obtain rfl:o=o':=qA;have zF:=(gS hk).1;have hcl':=(gS hq).1;obtain⟨g1,g2,g3⟩:=hh b k hk;have g4:=g3 qA;obtain⟨P,hP⟩:∃ P:Nat,k.parent=P:=⟨k.parent.toNat,qA⟩;have hpa:kU p b=P:=by grind[kU]
 rw [hpa];obtain⟨kp,hkp⟩:∃ kp,p[P]?=some kp:=⟨_,gE qA⟩;have hs:=eK hh (b:=(o:Int)) qA hk qA;rw [hi,hP] at hs;have hge:=fZ hs.symm;refine⟨qA,by simp [hkp],h0,hs.symm,?_⟩;by_cases eo:o=P
 .simp_all
 have hbp:jS p b P=true:=by
  grind[eK,bo]
 have hcp:=Rs hh c hcl' hc hbp;refine .inr ⟨qA,λhm=>?_,Qu hq hu hw h0 qA hcp,?_⟩
 .obtain⟨l1,l2,l3⟩:=PX hm hkp
  grind[lT,lR]
 .rw [lT hh hk,hP,lR hh hkp qA] at e
  grind[lT]
end
def uz (p:qC) (m m':qU):Prop:=∃ N,∀ k,jH p (N+k) m=jH p k m'
theorem uz.refl {p:qC} (m:qU):uz p m m:=⟨0,λk=>qB⟩
theorem uz.trans {p:qC} {a b c:qU} (h:uz p a b) (h':uz p b c):uz p a c:=by
 obtain⟨N,h⟩:=h;obtain⟨M,h'⟩:=h';exact⟨N+M,λk=>qp⟩
theorem uz.one {p:qC} {m:qU} (h:¬ m.ended):uz p m (cD p m):=⟨1,λk=>by grind[jH]⟩
theorem Eu {m:qU} {fs:List qN} {f:qN} (hf:m.qW=fs++[f]) (he:m.en=0):¬ m.ended:=by simp_all[qU.ended]
theorem AL {p:qC} {m:qU} {fs:List qN} {f:qN} {o:Int×Int} (hf:m.qW=fs++[f]) (ho:(zm p f.qD)[f.pc]?=some o):cD p m=jW p m fs { f with pc:=f.pc+1 } o:=by
 grind[cD]
theorem step_end {p:qC} {m:qU} {fs:List qN} {f:qN} (hf:m.qW=fs++[f]) (ho:(zm p f.qD)[f.pc]?=none):cD p m=iz p m fs f:=by
 grind[cD]
theorem Yy {p:qC} {m:qU} {fs:List qN} {f:qN} {o:Int×Int} (hf:m.qW=fs++[f]) (he:m.en=0) (ho:(zm p f.qD)[f.pc]?=some o):uz p m (jW p m fs { f with pc:=f.pc+1 } o):=by
 rw [<- AL hf ho]
 grind[uz.one,Eu]
def iw (p:qC) (qF:List Act) (B:List Nat) (x:Int) (o a:Nat):Nat:=B.getD (uZ qF o a a) 0+(vg (qh p o) x).toNat
def kh (p:qC) (qF:List Act) (B:List Nat) (b up:Nat):List Nat:=(jF p b).map λx=>iw p qF B x (outer p b x).toNat up
def ez (p:qC) (qF:List Act) (B:List Nat) (a:Nat) (c:Act):List Nat:=(List.range (qh p c.qD).length).map (B.getD a 0+·)++kh p qF B c.qD c.up
structure wB (p:qC) (qF:List Act) (B:List Nat) (a:Nat) (c:Act) (f:qN):Prop where
 qD:f.qD=c.qD
 cells:f.cells=ez p qF B a c
 qw:f.qw=(zK p c.qD).map λx=>zn c.vars x.toNat
 names:zt p c.qD=2->f.names=c.vars
structure jB (p:qC) (w:qK) (m:qU) (B:List Nat):Prop where
 en:m.en=w.en
 out:m.out=w.out
 tr:m.trace=w.trace
 left:m.left=w.left
 zJ:m.globals=w.globals
 cls:m.qO=w.qO
 qJ:m.qJ=w.qJ.map λg=>(g.1,kh p w.qF B g.1 g.2)
 made:m.made=w.qF.length
 dq:B.length=w.qF.length
 top:∀ (a:Nat) c,w.qF[a]?=some c->B.getD a 0+(qh p c.qD).length<=m.cells.length
 bM:∀ (a a':Nat) c,a<a'->a'<w.qF.length->w.qF[a]?=some c->B.getD a 0+(qh p c.qD).length<=B.getD a' 0
 val:∀ (a j:Nat) c x,w.qF[a]?=some c->(qh p c.qD)[j]?=some x->m.cells[B.getD a 0+j]?=some (zn c.vars x.toNat)
 dR:m.qW.length=w.stack.length
 bk:∀ (i a:Nat) c f,w.stack[i]?=some a->w.qF[a]?=some c->m.qW[i]?=some f->wB p w.qF B a c f
 zR:w.stack.Pairwise (·<·)
 fk:∀ g∈w.qJ,zt p g.1=1
section
variable {p:qC} {w:qK} {m:qU} {B:List Nat} {a b o:Nat} {c:Act} {k:qT} {f:qN} {x:Int} {fs:List qN}
theorem P0:(qh p b).Pairwise (·<·):=by
 unfold qh
 split
 .exact GJ _
 simp
theorem FV {g:Nat->Bool}:∀ n:Nat,(jy g n).Pairwise (·<·)
 | 0=>.nil
 | n+1=>by
  simp only [jy]
  split
  .refine List.pairwise_append.2 ⟨FV n,qB,λu hu v hv=>?_⟩
   grind[ou]
  .exact FV n
theorem Q0:(zK p b).Pairwise (·<·):=by
 unfold zK
 split<;>simp_all[FV]
theorem VM {l:List Int} (h:l.Pairwise (·<·)):l.Nodup:=h.imp λh=>qA
theorem LG {l:List Int} (h:l.Pairwise (·<·)) {i j:Nat} (hi:l[i]?=some x) (hj:l[j]?=some x):i=j :=
 (List.getElem?_inj (gS hi).1 (VM h)).1 (hi.trans hj.symm)
theorem BJ (h:x∈qh p b):0<=x/\x<=7:=by
 grind[qh,mem_sorted]
theorem IS (h:x∈qh p b):zt p b=1:=by
 grind[qh]
theorem EP (h:x∈zK p b):0<=x/\x<=7:=by
 grind[zK,ou]
theorem BN (h:x∈zK p b):x∉qh p b:=by
 grind[zK,ou,fV]
theorem MO {l:List qu} {i:Nat} {s:qu} (h:l[i]?=some s):zn l i=s:=by simp [zn,h]
theorem se {l:List qu} {i j:Nat} {s:qu} (hi:i<l.length):zn (l.set i s) j=if j=i then s else zn l j:=by
 grind[zn]
theorem JK {l:List Nat} {i v d:Nat} (h:l[i]?=some v):l.getD i d=v:=qL
def iW (l l':List Act):Prop:=∀ i:Nat,(l[i]?).map (λc=>(c.qD,c.up))=(l'[i]?).map (λc=>(c.qD,c.up))
theorem IV {l l':List Act} (h:iW l l'):∀ n a:Nat,uZ l o n a=uZ l' o n a
 | 0,_=>rfl
 | n+1,a=>by
  have ha:=h a;simp only [uZ]
  cases h1:l[a]? with
  | none =>
   grind
  | some d =>
   cases h2:l'[a]? with
   | none=>simp_all
   | some e =>
    rw [h1,h2] at ha;simp only [uX,fC,Prod.mk.injEq] at ha;simp only [ha.1,ha.2,IV h n]
theorem BH {l l':List Act} (h:iW l l') {up:Nat}:kh p l B b up=kh p l' B b up:=by
 grind[kh,iw,IV]
theorem iW.modify {l:List Act} {i:Nat} {g:List qu->List qu}:iW l (l.modify i λa=>{ a with vars:=g a.vars }):=by
 intro j
 grind
theorem wB.same {l l':List Act} {c':Act} (h:wB p l B a c f) (hs:iW l l') (h1:c'.qD=c.qD) (h2:c'.up=c.up) (h3:f.qw=(zK p c.qD).map λx=>zn c'.vars x.toNat) (h4:zt p c.qD=2->f.names=c'.vars):wB p l' B a c' f:=by
 refine⟨by grind[qD],?_,qL,qL⟩;rw [h.cells,ez,ez,h1,h2,BH hs]
theorem B6 (hp:z6 p) (hk:p[b]?=some k):k.kind=0\/k.kind=1\/k.kind=2:=by
 have h:=hp.head b k hk
 grind
theorem FL (hF:wB p w.qF B a c f) {i:Nat} (hi:i<(qh p c.qD).length):f.cells.getD i 0=B.getD a 0+i:=by
 apply JK;rw [hF.cells,ez,vn qL];simp [hi]
theorem EW (hF:wB p w.qF B a c f) {i:Nat} (hi:(jF p c.qD)[i]?=some x):f.cells.getD ((qh p c.qD).length+i) 0=iw p w.qF B x (outer p c.qD x).toNat c.up:=by
 apply JK;rw [hF.cells,ez,kD qB];simp [kh,hi]
theorem JC (hh:zZ p) (hW:qt p w) (hc:w.qF[a]?=some c) (hk:p[c.qD]?=some k) (hx:x∈jF p c.qD):∃ (o d:Nat) (e:Act) (j:Nat),0<o/\outer p c.qD x=o/\jS p c.qD o=true/\o≠c.qD/\d=uZ w.qF o a a/\w.qF[d]?=some e/\e.qD=o/\x∈qh p o/\(qh p o)[j]?=some x/\iw p w.qF B x o c.up=B.getD d 0+j:=by
 obtain⟨o,c',q,h0,hob,hou,hi,_,_,_,_⟩:=rx hh hk hx;have hcl:=JD hh hk hx hou;have hb:=v8 hc;have hal:=(gS hc).1;have hi':jS p (w.qD a) o=true:=qL;obtain⟨e,he,heb⟩:=EI hh hW h0 a a (qX _) hal hi'
 simp_all<;>grind[fg,iw,rm]
theorem JL (hp:z6 p) (hW:qt p w) (hR:jB p w m B) (hc:w.qF[a]?=some c) (hF:wB p w.qF B a c f) (hk:p[c.qD]?=some k) (hu:x∈k.us) {v:Int} (hv:0<=v/\v<=2) :
  uB m f (zy p c.qD x v)=w.get (w.loc p a x) x/\wS p f (zy p c.qD x v)=jd p c.qD (zA p c.qD x):=by
 have hx:0<=x/\x<=7:=by
  grind[qT.us,mem_sorted]
 have hb:=v8 hc;have hka:zt p c.qD=k.kind:=ge;rcases Et (w:=v) hp hk hu with⟨hs,e⟩|⟨hs,e⟩|⟨hs,i,e,hi,hil⟩|⟨hs,i,e,hi,hil⟩|⟨hs,i,e,hi,hil⟩
 .have ho:zA p c.qD x<0:=by
   grind[jY]
  refine⟨?_,?_⟩
  .rw [e,uB,if_neg qA,if_neg qA,if_pos qA,qK.loc,hb,if_pos ho,qK.get,qK.vars,hR.zJ]
   rfl
  grind[wS,jd]
 all_goals
  have ho:¬ zA p c.qD x<0:=λh=>by grind[jY]
 .have hob:zA p c.qD x=c.qD/\zt p c.qD=2:=by
   grind[jY]
  refine⟨?_,?_⟩
  .rw [e,uB,if_neg qA,if_neg qA,if_neg qA,qK.loc,hb,if_neg ho,hob.1,vN c.qD,dQ hc rfl,qK.get,qK.vars,hc,hF.names hob.2]
   rfl
  grind[wS,jd]
 .grind[jY,uB,qK.loc,dQ,qK.get,qK.vars,wB.qw,zn,Int.toNat,wS,jd]
 .have hob:zA p c.qD x=c.qD/\¬ zt p c.qD=2:=by
   grind[jY]
  rw [vn hi] at hil;refine⟨?_,?_⟩
  .rw [e,uB,if_neg qA,if_pos qA,qK.loc,hb,if_neg ho,hob.1,vN c.qD,dQ hc rfl,qK.get,qK.vars,hc,vN,FL hF hi,MO (hR.val a i c x hc hil)]
   rfl
  grind[wS,wB.qD,jd]
 .rw [kD qA,Nat.add_sub_cancel_left] at hil;obtain⟨hfx,hcx⟩:=GT hp hk hu hs
  have hob:zA p c.qD x≠c.qD:=by
   grind[jY]
  obtain⟨o,d,q,j,h0,hou,hi',hne,hd,hq,hqb,hcl,hj,hcn⟩:=JC (B:=B) hp.jR hW hc hk hfx
  have hoo:zA p c.qD x=o:=by
   grind[zA]
  refine⟨?_,?_⟩
  .rw [e,uB,if_neg qA,if_pos qA,qK.loc,hb,if_neg ho,hoo,vN o,<- hd,qK.get,qK.vars,hq,vN,EW hF hil,hou,vN o,hcn,MO (hR.val d j q x hq qL)]
   rfl
  grind[wS,wB.qD,jd]
end
section
variable {p:qC} {w:qK} {m:qU} {B:List Nat} {a b o d:Nat} {c e:Act} {k:qT} {f:qN} {x:Int} {fs:List qN} {s:qu}
theorem wB.zR {l:List Act} {g:qN} (h:wB p l B a c f) (h1:g.qD=f.qD) (h2:g.cells=f.cells) (h3:g.qw=f.qw) (h4:g.names=f.names):wB p l B a c g :=
 ⟨h1.trans h.qD,h2.trans h.cells,h3.trans h.qw,λe=>h4.trans (h.names e)⟩
theorem jB.nL {st:List Nat} (h:jB p w (m.top fs f) B) (hs:w.stack=st++[a]) (hc:w.qF[a]?=some c):st.length=fs.length/\wB p w.qF B a c f:=by
 have hl:st.length=fs.length:=by
  have:=h.dR
  grind[qU.top]
 exact⟨hl,h.bk st.length a c f (by simp [hs]) hc (by simp [qU.top,hl])⟩
theorem jB.nC {st:List Nat} {g:qN} (h:jB p w (m.top fs f) B) (h1:g.qD=f.qD) (h2:g.cells=f.cells) (h3:g.qw=f.qw) (h4:g.names=f.names):jB p w (m.top fs g) B:=by
 refine⟨h.en,h.out,h.tr,h.left,h.zJ,h.cls,h.qJ,h.made,h.dq,h.top,h.bM,h.val,?_,λi a c q hi hc hq=>?_,h.zR,h.fk⟩
 .have:=h.dR
  grind[qU.top]
 .simp only [qU.top] at hq;rcases aC i fs.length with e|e
  .rw [vn e] at hq;exact h.bk i a c q hi hc (by grind[qU.top])
  .rw [kD e] at hq
   have:i - fs.length=0:=by
    grind
   rw [this] at hq;simp only [bE,fC] at hq;subst hq;exact (h.bk i a c f hi hc (by grind[qU.top])).zR h1 h2 h3 h4
theorem jB.lA {E:Int} {g:qN} (h:jB p w (m.top fs f) B) (h1:g.qD=f.qD) (h2:g.cells=f.cells) (h3:g.qw=f.qw) (h4:g.names=f.names):jB p { w with en:=E } (m.stop fs g E) B:=by
 have h:=h.nC (st:=[]) h1 h2 h3 h4;exact⟨rfl,h.out,h.tr,h.left,h.zJ,h.cls,h.qJ,h.made,h.dq,h.top,h.bM,h.val,h.dR,h.bk,h.zR,h.fk⟩
theorem mA {l:List Act} {g:List qu->List qu} {i:Nat} (h:(l.modify d λa=>{ a with vars:=g a.vars })[i]?=some c):∃ e,l[i]?=some e/\c.qD=e.qD/\c.up=e.up/\c.vars=if d=i then g e.vars else e.vars:=by
 grind
theorem MK:w.set (some d) x s={ w with qF:=w.qF.modify d λa=>{ a with vars:=a.vars.set x.toNat s } }:=rfl
theorem Q2 {vars:List qu} (hx:x∈qh p b) (hv:vars.length=8):((zK p b).map λy=>zn (vars.set x.toNat s) y.toNat)=(zK p b).map λy=>zn vars y.toNat:=by
 refine fE λy hy=>?_;have h1:=BJ hx;have h2:=EP hy
 grind[BN,se]
theorem GC (hW:qt p w) (hR:jB p w m B) (hd:w.qF[d]?=some e) (hx:x∈qh p e.qD) {j:Nat} (hj:(qh p e.qD)[j]?=some x):jB p (w.set (some d) x s) { m with cells:=m.cells.set (B.getD d 0+j) s } B:=by
 have hsm:iW w.qF (w.qF.modify d λa=>{ a with vars:=a.vars.set x.toNat s }):=iW.modify (g:=λv=>v.set x.toNat s);have hx7:=BJ hx;have hev:=(hW.vars d e hd).1;have hjl:=(gS hj).1;have hdl:=(gS hd).1;rw [MK];refine⟨hR.en,hR.out,hR.tr,hR.left,hR.zJ,hR.cls,?_,by simp [hR.made],by simp [hR.dq],λa q hq=>?_,λa a' q h1 h2 hq=>?_,λa i q y hq hy=>?_,hR.dR,λi a q f hi hq hf=>?_,hR.zR,hR.fk⟩
 .grind[jB.qJ,BH]
 .obtain⟨q',h1,h2,_,_⟩:=mA (g:=λv=>v.set x.toNat s) hq;rw [h2]
  simpa using hR.top a q' h1
 .obtain⟨q',h3,h4,_,_⟩:=mA (g:=λv=>v.set x.toNat s) hq;rw [h4];exact hR.bM a a' q' h1 qL h3
 .obtain⟨q',h3,h4,_,h5⟩:=mA (g:=λv=>v.set x.toNat s) hq;rw [h4] at hy;have hyl:=(gS hy).1;have hy7:=BJ (gM hy);have hval:=hR.val a i q' y h3 hy;have htop:=hR.top d e hd;by_cases ed:d=a
  .grind[se,LG,P0]
  .rw [h5,if_neg ed,List.getElem?_set_ne ?_,hval];have hal:=(gS h3).1;rcases aC d a with hlt|hge
   .have:=hR.bM d a e hlt hal hd;omega
   .have:=hR.bM a d q' qA hdl h3;omega
 .obtain⟨q',h3,h4,h4',h5⟩:=mA (g:=λv=>v.set x.toNat s) hq;have hF:=hR.bk i a q' f hi h3 hf;refine hF.same hsm h4 h4' ?_ λhk2=>?_
  .rw [h5];by_cases ed:d=a
   .subst ed;rw [hd] at h3;obtain rfl:=sI h3;rw [if_pos rfl,Q2 hx hev];exact hF.qw
   grind[wB.qw]
  .rw [h5];by_cases ed:d=a
   .grind[IS]
   .rw [if_neg ed];exact hF.names hk2
theorem Im {vars:List qu} {i:Nat} (hi:(zK p b)[i]?=some x) (hv:vars.length=8):((zK p b).map λy=>zn vars y.toNat).set i s=(zK p b).map λy=>zn (vars.set x.toNat s) y.toNat:=by
 have hx:=EP (gM hi);have hil:=(gS hi).1;apply vl;intro j;rw [ic,jg,jg];by_cases ej:i=j
 .grind[se]
 .rw [if_neg ej]
  cases hy:(zK p b)[j]? with
  | none=>rfl
  | some y =>
   have hy7:=EP (gM hy)
   grind[LG,Q0,se]
theorem GE {st:List Nat} {g:qN} (hW:qt p w) (hR:jB p w (m.top fs f) B) (hs:w.stack=st++[a]) (hc:w.qF[a]?=some c) (hx:0<=x/\x<=7) (hnc:x∉qh p c.qD) (h1:g.qD=f.qD) (h2:g.cells=f.cells) (h3:g.qw=(zK p c.qD).map λy=>zn (c.vars.set x.toNat s) y.toNat) (h4:zt p c.qD=2->g.names=c.vars.set x.toNat s) :
  jB p (w.set (some a) x s) (m.top fs g) B:=by
 have hsm:iW w.qF (w.qF.modify a λa=>{ a with vars:=a.vars.set x.toNat s }):=iW.modify (g:=λv=>v.set x.toNat s);have hev:=(hW.vars a c hc).1;obtain⟨hl,hF⟩:=hR.nL hs hc;rw [MK];refine⟨hR.en,hR.out,hR.tr,hR.left,hR.zJ,hR.cls,?_,by have:=hR.made;grind[qU.top],by simp [hR.dq],λa' q hq=>?_,λa' a'' q e1 e2 hq=>?_,λa' i q y hq hy=>?_,?_,λi a' q f' hi hq hf=>?_,hR.zR,hR.fk⟩
 .have:=hR.qJ
  grind[qU.top,BH]
 .obtain⟨q',e1,e2,_,_⟩:=mA (g:=λv=>v.set x.toNat s) hq;rw [e2];exact hR.top a' q' e1
 .obtain⟨q',e3,e4,_,_⟩:=mA (g:=λv=>v.set x.toNat s) hq;rw [e4];exact hR.bM a' a'' q' e1 qL e3
 .obtain⟨q',e3,e4,_,e5⟩:=mA (g:=λv=>v.set x.toNat s) hq;rw [e4] at hy;have hy7:=BJ (gM hy);have hval:=hR.val a' i q' y e3 hy;by_cases ed:a=a'
  .subst ed;rw [hc] at e3;obtain rfl:=sI e3;have hyx:y.toNat≠x.toNat:=λe'=>hnc qp;rw [e5,if_pos rfl,se qA,if_neg hyx];exact hval
  .rw [e5,if_neg ed];exact hval
 .grind[qU.top]
 .obtain⟨q',e3,e4,e4',e5⟩:=mA (g:=λv=>v.set x.toNat s) hq;simp only [qU.top] at hf;have hpw:=hR.zR;have hil:i<w.stack.length:=(gS hi).1;rw [hs,kC,b8] at hil;by_cases ei:i=fs.length
  .subst ei;rw [kD (qX _),gI] at hf;simp only [bE,fC] at hf;subst hf;rw [hs,kD qA,hl,gI] at hi;simp only [bE,fC] at hi;subst hi;rw [hc] at e3;obtain rfl:=sI e3;refine⟨by grind[wB.qD],?_,qL,λhk2=>qL⟩;rw [h2,hF.cells,ez,ez,e4,e4',BH hsm]
  .have hilt:i<fs.length:=qA;rw [vn hilt] at hf
   have hne:¬ a=a':=by
    grind
   have hF':=hR.bk i a' q' f' hi e3 (by grind[qU.top]);exact hF'.same hsm e4 e4' (by grind[wB.qw]) λhk2=>by rw [e5,if_neg hne];exact hF'.names hk2
theorem YP (hR:jB p w m B):jB p (w.set none x s) { m with globals:=m.globals.set x.toNat s } B :=
 ⟨hR.en,hR.out,hR.tr,hR.left,by simp only [qK.set,hR.zJ],hR.cls,hR.qJ,hR.made,hR.dq,hR.top,hR.bM,hR.val,hR.dR,hR.bk,hR.zR,hR.fk⟩
theorem MJ {st:List Nat} {g:qN} (hp:z6 p) (hW:qt p w) (hR:jB p w (m.top fs f) B) (hs:w.stack=st++[a]) (hc:w.qF[a]?=some c) (hk:p[c.qD]?=some k) (hu:x∈k.us) {v:Int} (hv:0<=v/\v<=2) (h1:g.qD=f.qD) (h2:g.cells=f.cells) (h3:g.qw=f.qw) (h4:g.names=f.names) :
  jB p (w.set (w.loc p a x) x s) (yY m fs g (zy p c.qD x v) s) B/\∃ g',(yY m fs g (zy p c.qD x v) s).qW=fs++[g']/\g'.qD=g.qD/\g'.pc=g.pc/\g'.stack=g.stack:=by
 have hR:=hR.nC (st:=st) h1 h2 h3 h4;obtain⟨hl,hF⟩:=hR.nL hs hc
 have hx:0<=x/\x<=7:=by
  grind[qT.us,mem_sorted]
 have hb:=v8 hc;have hev:=(hW.vars a c hc).1;have hka:zt p c.qD=k.kind:=ge;rcases Et (w:=v) hp hk hu with⟨hs',e⟩|⟨hs',e⟩|⟨hs',i,e,hi,hil⟩|⟨hs',i,e,hi,hil⟩|⟨hs',i,e,hi,hil⟩
 .have ho:zA p c.qD x<0:=by
   grind[jY]
  rw [e,yY,if_neg qA,if_neg qA,if_pos qA,qK.loc,hb,if_pos ho];exact⟨YP hR,g,rfl,rfl,rfl,rfl⟩
 all_goals
  have ho:¬ zA p c.qD x<0:=λh=>by grind[jY]
 .have hob:zA p c.qD x=c.qD/\zt p c.qD=2:=by
   grind[jY]
  rw [e,yY,if_neg qA,if_neg qA,if_neg qA,qK.loc,hb,if_neg ho,hob.1,vN c.qD,dQ hc rfl];have hnc:x∉qh p c.qD:=λh=>by grind[IS]
  have hnf:zK p c.qD=[]:=by grind[zK]
  refine⟨GE hW hR hs hc hx hnc rfl rfl ?_ λhk2=>?_,_,rfl,rfl,rfl,rfl⟩
  .grind[wB.qw]
  .simp only [hF.names hk2]
 .have hob:zA p c.qD x=c.qD/\¬ zt p c.qD=2:=by
   grind[jY]
  rw [e,yY,if_pos qA,qK.loc,hb,if_neg ho,hob.1,vN c.qD,dQ hc rfl];have hnc:x∉qh p c.qD:=BN (gM hil);refine⟨GE hW hR hs hc hx hnc rfl rfl ?_ λhk2=>absurd hk2 hob.2,_,rfl,rfl,rfl,rfl⟩;simp only [hF.qw,vN]
  grind[Im]
 .have hob:zA p c.qD x=c.qD:=by
   grind[jY]
  rw [vn hi] at hil;rw [e,yY,if_neg qA,if_pos qA,qK.loc,hb,if_neg ho,hob,vN c.qD,dQ hc rfl];simp only [vN];rw [FL hF hi];exact⟨GC hW hR hc (gM hil) hil,g,rfl,rfl,rfl,rfl⟩
 .rw [kD qA,Nat.add_sub_cancel_left] at hil;obtain⟨hfx,hcx⟩:=GT hp hk hu hs'
  have hob:zA p c.qD x≠c.qD:=by
   grind[jY]
  obtain⟨o,d,q,j,h0,hou,hi',hne,hd,hq,hqb,hcl,hj,hcn⟩:=JC (B:=B) hp.jR hW hc hk hfx
  have hoo:zA p c.qD x=o:=by
   grind[zA]
  rw [e,yY,if_neg qA,if_pos qA,qK.loc,hb,if_neg ho,hoo,vN o,<- hd];simp only [vN];rw [EW hF hil,hou,vN o,hcn];exact⟨GC hW hR hq qL qL,g,rfl,rfl,rfl,rfl⟩
end
section
variable {p:qC} {w:qK} {m:qU} {B:List Nat} {a b o d up:Nat} {c e:Act} {k:qT} {f:qN} {x:Int} {fs:List qN} {vs:List qR} {cs:List Nat}
theorem IT {z:Act} (hh:zZ p) (hW:qt p w) (h0:0<o):∀ n a:Nat,a<w.qF.length->jS p (w.qD a) o=true->uZ (w.qF++[z]) o n a=uZ w.qF o n a/\uZ w.qF o n a<w.qF.length
 | 0,a,hl,_=>⟨rfl,hl⟩
 | n+1,a,hl,hi=>by
  obtain⟨c,hc⟩:=gX hl;have hc':(w.qF++[z])[a]?=some c:=qp;simp only [uZ,hc,hc'];by_cases e:c.qD=o
  .simp_all
  .simp only [e,if_false];obtain⟨h1,h2,h3⟩:=lH hh hW hc e h0 hi;exact IT hh hW h0 n c.up qA h3
theorem xP {l:List Nat} {i n:Nat} (h:i<l.length):(l++[n]).getD i 0=l.getD i 0:=by
 grind
theorem RI {l:List Nat} {n:Nat}:(l++[n]).getD l.length 0=n:=qB
theorem Kn (hm:vL p w.qF b up):kU p b=w.qD up/\up<w.qF.length:=by
 obtain⟨c,k,h1,h2,h3,_⟩:=hm
 grind[v8,kU]
theorem EC {z:Act} {n:Nat} (hh:zZ p) (hW:qt p w) (hB:B.length=w.qF.length) (hm:vL p w.qF b up):kh p (w.qF++[z]) (B++[n]) b up=kh p w.qF B b up:=by
 obtain⟨hpa,hul⟩:=Kn hm;obtain⟨c,k,_,hk,_,_⟩:=hm;refine fE λx hx=>?_;obtain⟨o,_,_,_,_,ho,_⟩:=rx hh hk hx;obtain⟨_,_,h0,hi,_⟩:=ED hh hk hx ho
 grind[IT,iw]
theorem II {qF:List Act}:kh p qF B 0 up=[]:=by
 have:jF p 0=[]:=by
  rw [A8];intro x hx;exact absurd (BT hx) qc
 grind[kh]
theorem IK (hh:zZ p) (hW:qt p w) (hc:w.qF[a]?=some c) (hF:wB p w.qF B a c f) (hm:vL p w.qF b a):jV p f b=kh p w.qF B b a:=by
 obtain⟨hpa,hul⟩:=Kn hm;obtain⟨c',k,_,hk,_,_⟩:=hm;have hb:=v8 hc;rw [hb] at hpa;simp only [jV,jr,ie,kh];refine fE λx hx=>?_;obtain⟨o,_,_,_,_,ho,_⟩:=rx hh hk hx;obtain⟨_,hks,h0,hi,hcase⟩:=ED hh hk hx ho;rw [ho,vN];simp only [Function.comp];rw [hpa] at hi hcase hks ⊢;rcases hcase with⟨e1,e2⟩|⟨e1,e2,e3,e4⟩
 .grind[fg,eG,FL,iw,dQ]
 .obtain⟨j,hj1,hj2,hj3⟩:=fg e3;rw [eG,if_neg e2,hj1];have:(((qh p c.qD).length:Int)+(j:Int)).toNat=(qh p c.qD).length+j:=qA;rw [this,EW hF hj3,e4,vN,iw,iw,rm hh hW h0 hc qA qL]
theorem MP {n i:Nat}:zn (List.replicate n none) i=none:=by
 grind[zn]
theorem Om (hp:z6 p) (hW:qt p w) (hR:jB p w m B) (hm:vL p w.qF b up) (hcs:cs=kh p w.qF B b up) {pc:Nat} {st:List qR} {D:Nat} :
  jB p { w with qF:=w.qF++[⟨b,up,j3⟩],stack:=w.stack++[w.qF.length] }
   { m with cells:=m.cells++List.replicate (qh p b).length none,made:=m.made+1,deep:=D,qW:=m.qW++[⟨b,pc,List.replicate (zK p b).length none,((List.range (qh p b).length).map (m.cells.length+·))++cs,j3,st⟩] } (B++[m.cells.length]):=by
 have hh:=hp.jR;have hB:=hR.dq
 have hold:∀ (i:Nat) c,(w.qF++[⟨b,up,j3⟩])[i]?=some c->(i<w.qF.length/\w.qF[i]?=some c)\/(i=w.qF.length/\c=⟨b,up,j3⟩):=by
  grind
 have hcap:∀ (i:Nat) c,w.qF[i]?=some c->kh p (w.qF++[⟨b,up,j3⟩]) (B++[m.cells.length]) c.qD c.up=kh p w.qF B c.qD c.up:=by
  intro i c hc;rcases dJ i with e|e
  .grind[qt.a0,II]
  .exact EC hh hW hB (hW.up i c hc e).2
 refine⟨hR.en,hR.out,hR.tr,hR.left,hR.zJ,hR.cls,?_,by simp [hR.made],by simp [hB],λi c hc=>?_,λi j c h1 h2 hc=>?_,λi j c y hc hy=>?_,by simp [hR.dR],λi q c g hi hc hg=>?_,?_,hR.fk⟩
 .simp only [hR.qJ];refine fE λg hg=>?_;obtain⟨i,hi⟩:=kB hg;rw [EC hh hW hB (hW.qJ i g hi)]
 .rcases hold i c hc with⟨h1,h2⟩|⟨h1,h2⟩
  .rw [xP qA];have:=hR.top i c h2
   grind
  simp_all
 .rw [kC,b8] at h2;rcases hold i c hc with⟨h3,h4⟩|⟨h3,h4⟩
  .rw [xP qA];rcases aC j w.qF.length with h5|h5
   .rw [xP qA];exact hR.bM i j c h1 h5 h4
   .obtain rfl:j=w.qF.length:=qA;rw [<- hB,RI];exact hR.top i c h4
  .omega
 .rcases hold i c hc with⟨h3,h4⟩|⟨h3,h4⟩
  .have ht:=hR.top i c h4;have hjl:=(gS hy).1;simp only;rw [xP qA,vn qA];exact hR.val i j c y h4 hy
  grind[MP]
 .have hfl:=hR.dR;have hil:=(gS hi).1;rw [kC,b8] at hil;rcases aC i w.stack.length with h1|h1
  .simp only at hi hg;rw [vn h1] at hi;rw [vn qA] at hg;have hql:=hW.zR q (gM hi);rcases hold q c hc with⟨h3,h4⟩|⟨h3,h4⟩
   .have hF:=hR.bk i q c g hi h4 hg;refine⟨hF.qD,?_,hF.qw,hF.names⟩;rw [hF.cells,ez,ez,hcap q c h4,xP qA]
   .omega
  .obtain rfl:i=w.stack.length:=qA;simp only at hi hg;rw [kD (qX _),gI] at hi;rw [kD qA,hfl,gI] at hg;simp only [bE,fC] at hi hg;subst hi hg;rcases hold _ c hc with⟨h3,_⟩|⟨_,h4⟩
   .omega
   .subst h4;refine⟨rfl,?_,?_,λ_=>rfl⟩
    .grind[ez,EC]
    .apply vl
     grind[MP]
 .refine List.pairwise_append.2 ⟨hR.zR,qB,λu hu v hv=>?_⟩;simp only [yj] at hv;subst hv;exact hW.zR u hu
theorem Ol (h:(zr p b).params=[]):zd p w b up vs={ w with qF:=w.qF++[⟨b,up,j3⟩],stack:=w.stack++[w.qF.length] }:=by
 unfold zr at h;unfold zd
 cases hk:p[b]?<;>simp_all[aD]
theorem KP {z:Act} {g:Act->Act}:∀ l:List Act,(l++[z]).modify l.length g=l++[g z]
 | []=>rfl
 | a::l=>by simp [KP l]
theorem Oo (hp:zq p) (hW:qt p w) (hR:jB p w m B) (hm:vL p w.qF b up) (hcs:cs=kh p w.qF B b up) (hv:vs.length=vT p b) (hvo:∀ v∈vs,zO w.qJ.length w.qO.length v) (hr:Room 1 w) :
  jB p (zd p w b up vs) (vP p m b cs vs) (B++[m.cells.length])/\∃ f',(vP p m b cs vs).qW=m.qW++[f']/\f'.qD=b/\f'.pc=0/\f'.stack=[]:=by
 have hE:=Om hp.sh hW hR hm hcs (pc:=0) (st:=[]) (D:=max m.deep (m.qW.length+1));have hm0:=hm;obtain⟨_,k,_,hk,_,hb0⟩:=hm;have hpar:(zr p b).params=k.params:=mS;have hvl:vs.length=k.params.length:=by grind[vT]
 have hhd:=hp.sh.head b k hk;unfold uU at hhd;rw [if_neg qA] at hhd
 have hpl:k.params.length<=1/\(k.params.length=1->k.kind=1):=by
  omega
 have hcase:(k.params=[]/\vs=[])\/∃ x v,k.params=[x]/\vs=[v]:=by
  grind[pX]
 unfold vP;rcases hcase with⟨hps,rfl⟩|⟨x,v,hps,rfl⟩
 .grind[Ol]
 .rw [hpar,hps];simp only;have hkm:=gM hk;have hxp:x∈k.params:=by simp [hps]
  have hx:=(hp.sh.names k hkm).params x hxp;have how:=hp.pm b k hk x hxp;have hk1:k.kind=1:=hpl.2 (by simp [hps]);have hka:zt p b=1:=xC
  have hbw:zd p w b up [v]=({ w with qF:=w.qF++[⟨b,up,j3⟩],stack:=w.stack++[w.qF.length] }:qK).set (some w.qF.length) x (some v):=by
   simp_all[zd,aD,qK.set,KP]
  rw [hbw]
  have hW2:qt p ({ w with qF:=w.qF++[⟨b,up,j3⟩],stack:=w.stack++[w.qF.length] }:qK):=by
   have:=DA (i:=0) hW hm0 hvo hr
   simp_all[jI,aD]
  have hB:=hR.dq;have hc2:({ w with qF:=w.qF++[⟨b,up,j3⟩],stack:=w.stack++[w.qF.length] }:qK).qF[w.qF.length]?=some ⟨b,up,j3⟩:=qB;by_cases hf:x∈zK p b
  .rw [if_pos hf];obtain⟨i,hi1,hi2,hi3⟩:=fg hf;have hT:=jB.nL (m:={ m with cells:=m.cells++List.replicate (qh p b).length none,made:=m.made+1,deep:=max m.deep (m.qW.length+1) }) (fs:=m.qW) hE rfl hc2;refine⟨GE (m:={ m with cells:=m.cells++List.replicate (qh p b).length none,made:=m.made+1,deep:=max m.deep (m.qW.length+1) }) (fs:=m.qW) hW2 hE rfl hc2 hx (BN hf) (g:=⟨b,0,(List.replicate (zK p b).length none).set (vg (zK p b) x).toNat (some v),_,j3,[]⟩) rfl rfl ?_ (λh2=>?_),_,rfl,rfl,rfl,rfl⟩
   .have h3:=hT.2.qw
    simp_all[Im]
   simp_all
  .rw [if_neg hf]
   have hcl:x∈qh p b:=by
    apply Classical.byContradiction;intro hno
    simp_all[GS,zq.sh,jY]
   obtain⟨j,hj1,hj2,hj3⟩:=fg hcl;have hS:=GC (s:=some v) hW2 hE hc2 hcl hj3
   grind
end
section
variable {p:qC} {w:qK} {m:qU} {B:List Nat} {a b o d up:Nat} {c e:Act} {k:qT} {f:qN} {x:Int} {fs:List qN} {vs:List qR} {cs:List Nat} {st:List Nat} {s:qP}
def qN.at (p:qC) (f:qN) (l:List (Int×Int)):Prop:=(zm p f.qD).drop f.pc=l
def qN.next (f:qN):qN:={ f with pc:=f.pc+1 }
theorem qN.dK {o:Int×Int} {l:List (Int×Int)} (h:f.at p (o::l)):(zm p f.qD)[f.pc]?=some o/\f.next.at p l:=by
 unfold qN.at at h ⊢;refine⟨?_,?_⟩
 .have:=congrArg (λl=>l[0]?) h
  grind
 grind[next,List.tail_drop]
theorem qN.O9 (h:f.at p []):(zm p f.qD)[f.pc]?=none:=by
 unfold qN.at at h
 simp_all
structure yx (p:qC) (w:qK) (m:qU) (B:List Nat) (fs:List qN) (f:qN) (st:List Nat) (a:Nat) (c:Act) (k:qT):Prop where
 yv:jB p w (m.top fs f) B
 ok:qt p w
 en:w.en=0
 zR:w.stack=st++[a]
 act:w.qF[a]?=some c
 qD:p[c.qD]?=some k
theorem yx.fr (h:yx p w m B fs f st a c k):wB p w.qF B a c f:=(h.yv.nL h.zR h.act).2
theorem yx.re {g:qN} (h:yx p w m B fs f st a c k) (h1:g.qD=f.qD) (h2:g.cells=f.cells) (h3:g.qw=f.qw) (h4:g.names=f.names):yx p w m B fs g st a c k :=
 ⟨h.yv.nC (st:=st) h1 h2 h3 h4,h.ok,h.en,h.zR,h.act,h.qD⟩
theorem yx.step {o:Int×Int} (h:yx p w m B fs f st a c k) (ho:(zm p f.qD)[f.pc]?=some o):uz p (m.top fs f) (jW p m fs f.next o):=by
 have he:(m.top fs f).en=0:=h.yv.en.trans h.en;exact Yy (m:=m.top fs f) (fs:=fs) rfl he ho
theorem Bx (hp:z6 p) (hk:p[b]?=some k) (hu:x∈k.us) {v:Int} (hv:v=0\/v=1\/v=2) :
  jW p m fs f (zy p b x v)=(if v=0 then wc p m fs f (zy p b x v) else if v=1 then CW m fs f (zy p b x v) else mb p m fs f (zy p b x v)):=by
 grind[jW,zy]
theorem qAH (hp:z6 p) (hk:p[b]?=some k) (hu:x∈k.us) {v:Int} (hv:0<=v/\v<=2) (h:wS p f (zy p b x v)=4):(zy p b x v).2=x:=by
 grind[wS,zy]
theorem KA (hp:z6 p) (h:yx p w m B fs f st a c k) (hu:x∈k.us) :
  ((zh p w a x).1=w/\wc p m fs f (zy p c.qD x 0)=m.top fs (f.push (zh p w a x).2)) \/
  ((zh p w a x).1.en≠0/\(zh p w a x).1={ w with en:=(zh p w a x).1.en }/\wc p m fs f (zy p c.qD x 0)=m.stop fs f (zh p w a x).1.en):=by
 obtain⟨h1,h2⟩:=JL (v:=0) hp h.ok h.yv h.act h.fr h.qD hu qc;have hb:=v8 h.act;have hg:m.globals=w.globals:=h.yv.zJ;have h1:uB m f (zy p c.qD x 0)=w.get (w.loc p a x) x:=h1;unfold zh wc;rw [h1,h2,hb]
 cases hget:w.get (w.loc p a x) x with
 | some v=>simp
 | none =>
  by_cases h4:jd p c.qD (zA p c.qD x)=4
  .have hx:=qAH (f:=f) hp h.qD hu (v:=0) qc (h2.trans h4);simp only [if_pos h4,hx];have hgx:zn m.globals x.toNat=w.get none x:=by rw [hg];rfl
   grind
  grind[oo]
theorem KC (hp:z6 p) {rest:List (Int×Int)}:∀ (l:List Int) (f:qN),yx p w m B fs f st a c k->(∀ x∈l,x∈k.us)->f.at p (l.map (λx=>zy p c.qD x 0)++rest) ->
  ((zB p w a l).1=w/\∃ g,uz p (m.top fs f) (m.top fs g)/\g.at p rest/\g.qD=f.qD/\g.cells=f.cells/\g.qw=f.qw/\g.names=f.names/\g.stack=f.stack++(zB p w a l).2) \/
  ((zB p w a l).1.en≠0/\∃ m',uz p (m.top fs f) m'/\jB p (zB p w a l).1 m' B)
 | [],f,h,_,ha=>.inl ⟨rfl,f,.refl _,ha,rfl,rfl,rfl,rfl,by simp [zB]⟩
 | x::l,f,h,hu,ha=>by
  obtain⟨h1,h2⟩:=qN.dK ha;have hs:=h.step h1;rw [Bx hp h.qD (hu x tN) (.inl rfl),if_pos rfl] at hs;have hn:yx p w m B fs f.next st a c k:=h.re rfl rfl rfl rfl;have e0:¬ w.en≠0:=λe=>e h.en;rcases KA (x:=x) hp hn (hu x tN) with⟨g1,g2⟩|⟨g1,g2,g3⟩
  .rw [g2] at hs;have hn2:yx p w m B fs (f.next.push (zh p w a x).2) st a c k:=h.re rfl rfl rfl rfl;have hat:(f.next.push (zh p w a x).2).at p (l.map (λx=>zy p c.qD x 0)++rest):=h2;simp only [zB,if_neg e0,g1];rcases KC hp l _ hn2 (λy hy=>hu y (aB _ hy)) hat with⟨i1,g,i2,i3,i4,i5,i6,i7,i8⟩|⟨i1,m',i2,i3⟩
   .exact .inl ⟨i1,g,hs.trans i2,i3,i4,i5,i6,i7,D0⟩
   .exact .inr ⟨i1,m',hs.trans i2,i3⟩
  .rw [g3] at hs
   have hl:(zB p (zh p w a x).1 a l).1=(zh p w a x).1:=by
    cases l<;>grind[zB]
   simp only [zB,if_neg e0,hl];refine .inr ⟨g1,_,hs,?_⟩;rw [g2];exact hn.yv.lA rfl rfl rfl rfl
def rt (p:qC) (m:qU) (fs:List qN) (f:qN) (v:qR):qU:=if zt p f.qD=2 then vr { m with qO:=m.qO++[f.names] } fs (3,m.qO.length) else vr m fs v
def nq (p:qC) (n:Nat) (R:qK->Nat->qK×qR):Prop:=∀ (w:qK) (a:Nat) (m:qU) (B:List Nat) (fs:List qN) (f:qN) (st:List Nat),
 qt p w->w.left<n->w.en=0->w.stack=st++[a]->jB p w m B->m.qW=fs++[f]->f.qD=w.qD a->f.pc=0->f.stack=[] ->
 ∃ m' B',uz p m m'/\jB p (R w a).1 m' B'/\B <+: B'/\((R w a).1.en=0->∃ f',m'.qW=fs++[f']/\f'.qD=f.qD/\cD p m'=rt p m' fs f' (R w a).2)
theorem jB.pop {g:qN} {v:qR} {d:Nat} (h:jB p w m B) (hs:w.stack=(st++[a])++[d]) (hm:m.qW=(fs++[g])++[f]) (he:w.en=0) :
  jB p (kG w) (vr m (fs++[g]) v) B/\vr m (fs++[g]) v=m.top fs (g.push v):=by
 have hl:vr m (fs++[g]) v=m.top fs (g.push v):=by simp [vr,qU.top]
 rw [hl];refine⟨?_,rfl⟩
 have hlen:fs.length=st.length:=by
  grind[dR]
 rw [kG,if_pos he];refine⟨h.en,h.out,h.tr,h.left,h.zJ,h.cls,h.qJ,h.made,h.dq,h.top,h.bM,h.val,?_,λi q c' f' hi hc hf=>?_,?_,h.fk⟩
 .grind[qU.top]
 .simp only [hs,tJ] at hi;simp only [qU.top] at hf;have hil:i<(st++[a]).length:=(gS hi).1;have hi':w.stack[i]?=some q:=qp;rw [kC,b8] at hil;rcases aC i fs.length with h1|h1
  .rw [vn h1] at hf;exact h.bk i q c' f' hi' hc qp
  .obtain rfl:i=fs.length:=qA;rw [kD (qX _),gI] at hf;simp only [bE,fC] at hf;subst hf;exact (h.bk fs.length q c' g hi' hc qL).zR rfl rfl rfl rfl
 grind[zR]
theorem Ie {n:Nat} {R:qK->Nat->qK×qR} (hp:zq p) (hO:bA p n R) (hS:nq p n R) (h:yx p w m B fs f st a c k) (hn:w.left<n) (hm:vL p w.qF b up) (hcs:cs=kh p w.qF B b up) (hv:vs.length=vT p b) (hvo:∀ v∈vs,zO w.qJ.length w.qO.length v) (hr:Room 1 w) :
  ∃ m' B',uz p (vP p (m.top fs f) b cs vs) m'/\B <+: B' /\
   (((z8 p R w b up vs).1.en≠0/\jB p (z8 p R w b up vs).1 m' B') \/
    ((z8 p R w b up vs).1.en=0/\zt p b≠2/\jB p (z8 p R w b up vs).1 (m'.top fs (f.push (z8 p R w b up vs).2)) B'/\m'=m'.top fs (f.push (z8 p R w b up vs).2)) \/
    ((z8 p R w b up vs).1.en=0/\zt p b=2/\jB p { (z8 p R w b up vs).1 with qO:=(z8 p R w b up vs).1.qO++[(z8 p R w b up vs).1.vars (some w.qF.length)] } (m'.top fs (f.push (3,(z8 p R w b up vs).1.qO.length))) B'/\m'=m'.top fs (f.push (3,(z8 p R w b up vs).1.qO.length)))):=by
 obtain⟨hB,f0,hf0,hb0,hpc,hst⟩:=Oo hp h.ok h.yv hm hcs hv hvo hr;obtain⟨hW,hG⟩:=oD (p:=p) (b:=b) (up:=up) h.ok hm hvo hr
 have hblk:(zd p w b up vs).qD w.qF.length=b:=by
  simp [qK.qD,zd]
 have hstk:(zd p w b up vs).stack=(st++[a])++[w.qF.length]:=by simp [zd,h.zR]
 obtain⟨m',B',s1,s2,s3,s4⟩:=hS (zd p w b up vs) w.qF.length (vP p (m.top fs f) b cs vs) _ (fs++[f]) f0 (st++[a]) hW hn h.en hstk hB hf0 (hb0.trans hblk.symm) hpc hst;obtain⟨⟨r1,r2,r3⟩,_⟩:=hO (zd p w b up vs) w.qF.length hW hn oJ h.en;have hBB:B <+: B':=(List.prefix_append _ _).trans s3;by_cases he:(R (zd p w b up vs) w.qF.length).1.en=0
 .obtain⟨f',t1,t2,t3⟩:=s4 he;have hne:¬ m'.ended:=Eu (fs:=fs++[f]) t1 (s2.en.trans he);have hst':=(r3 he).trans hstk;have hfin:=uz.one (p:=p) hne;rw [t3] at hfin;have hen:(z8 p R w b up vs).1.en=0:=by grind[z8,kG]
  have hcl:(z8 p R w b up vs).1.qO=m'.qO:=by simp only [z8,kG,he,if_true];exact s2.cls.symm
  by_cases hk2:zt p b=2
  .rw [rt,if_pos qL] at hfin;obtain⟨e1,e2⟩:=jB.pop (v:=(3,(m'.qO.length:Int))) s2 hst' t1 he;rw [e2] at e1;have e3:vr { m' with qO:=m'.qO++[f'.names] } (fs++[f]) (3,(m'.qO.length:Int))={ m' with qO:=m'.qO++[f'.names] }.top fs (f.push (3,(m'.qO.length:Int))):=by simp [vr,qU.top]
   rw [e3] at hfin;refine⟨_,B',s1.trans hfin,hBB,.inr (.inr ⟨hen,hk2,?_,by rw [hcl];rfl⟩)⟩;rw [hcl]
   have hz:(zd p w b up vs).qF[w.qF.length]?=some ⟨b,up,aD (match p[b]? with|some k=>k.params|none=>[]) vs⟩:=by
    grind[zd]
   obtain⟨cn,hcn,hcnb,_⟩:=r2.qF w.qF.length _ hz
   have hfl:(fs++[f]).length=(st++[a]).length:=by
    grind[jB.dR]
   have hF:=s2.bk (st++[a]).length w.qF.length cn f' qL hcn qL;have hnm:=hF.names qL
   have hvars:(z8 p R w b up vs).1.vars (some w.qF.length)=f'.names:=by
    grind[z8,kG,qK.vars]
   rw [hvars];have e4:(z8 p R w b up vs).1=kG (R (zd p w b up vs) w.qF.length).1:=rfl;rw [e4];exact⟨e1.en,e1.out,e1.tr,e1.left,e1.zJ,rfl,e1.qJ,e1.made,e1.dq,e1.top,e1.bM,e1.val,e1.dR,e1.bk,e1.zR,e1.fk⟩
  .rw [rt,if_neg qL] at hfin;obtain⟨e1,e2⟩:=jB.pop (v:=(R (zd p w b up vs) w.qF.length).2) s2 hst' t1 he;rw [e2] at e1 hfin;exact⟨_,B',s1.trans hfin,hBB,.inr (.inl ⟨hen,hk2,e1,rfl⟩)⟩
 grind[z8,kG]
end
end Go.Hm
end
