import Derived.Test.YtjgpejikjhojcaaGreatDoorD05
import Derived.KernelRfl
set_option linter.all false
set_option maxRecDepth 100000
set_option maxHeartbeats 4000000
open Option renaming some->Z,none->Y
open Bool renaming true->B,false->M
open List renaming length->O

section
namespace Go.Hm
open Go Go.RowKit
variable{F T ty:TypeId}{K':St->Prop}{LV es ps qs:List Nat}{Q:Ex->St->Prop}{Ts:Array TypeId}{aft:Array Edge}{d e i j off z:Nat}{dst:Option Nat}{f:FuncId}{key:Nat->Nm}{n:Nm}{o:Oper}{op:Op}{p s x:Operand}{pos:String}{r sch:qV}{rows:List (List AV)}{t want:Bool}{v0 xs:List AV}{w:World}
section
variable{X:Ctx}{ops:Array Oper}{st:St}{K:St->Prop}
theorem Rw.put{a:Act}{w:World}{d:Nat}{v:Value}{z:AV}(h:Rw X st a w)(hd:d<X.n)(hv:∀C g,Rg X.P X.own C X.w0 g st a w->RV g w v z):Rw X (st.put (Z d) z) (a.put (Z d) v) w:=h.WV hd hv
def Rw.vA{a:Act}{z:AV}(h:Rw X st a w)(hq:vA X.P st o=Z z)(d:Nat)(hd:d<X.n):∃v,(execOp a.eval o).run X.P w=.ok (.value v) w/\Rw X (st.put (Z d) z) (a.put (Z d) v) w:=by
 obtain⟨C,g,h1,h2,h3,h4,h5,hr⟩:=h;obtain⟨v,e1,e2⟩:=Nj hr hq;exact⟨v,e1,C,g,h1,h2,h3,h4,h5,hr.put (λt e=>qQ) e2⟩
def Xw{a:Act}{v:Value}(h:d<a.tmps.size):(a.put (Z d) v).tmps.getD d undef=v:=by
 simp[Act.put,h]
theorem Hx{b:Act}(hw:ny ops)(ho:ops[i]?=Z o)(hq:aT ops i=B)(hi:i∉v8 ops i)(hR:Rw X st b w)
  (h:QG X (ops.toList.map (·.dst)) o K' st):∃d v st',o.dst=Z d/\K' st'/\Rw X st' (b.put (Z d) v) w/\pg X.P ops (b.put (Z d) v) w i:=by
 have hlt:i<ops.size:=(oA.1 ho).1;simp only[aT,ho,yF]at hq;obtain⟨hq1,hq2⟩:=hq;obtain⟨d,hd⟩:=CU.1 hq2;have hdi:uc ops i=Z d:=rL;have hla:d∉o.looksAt ops:=λhm=>hi (hw.look i o d i ho hm hlt hdi (by grind[aT]))
 have wW:∀v,d<b.tmps.size->((Region.wanted o (yielded ops b.tmps)=B/\(execOp b.eval o).run X.P w=.ok (.value v) w)\/(Region.wanted o (yielded ops b.tmps)=M/\v=undef))->pg X.P ops (b.put (Z d) v) w i:=by
  intro v hlt h;have hag:a8 (λt=>t=d) (b.put (Z d) v) b:=⟨rfl,by simp[Act.put],λt ht=>by grind[Act.put]⟩;have hl:∀t∈o.looksAt ops,¬t=d:=λt ht e=>hla (e ▸ ht);refine⟨o,d,ho,hd,by grind[Act.put],?_⟩;rw[hag.wanted hl,hag.exec (hw.xr i o · · ho) hl,Xw hlt];exact h
 have hsz:=hR.size;rcases h with⟨hg,h⟩|⟨j,want,e,t,hg,hde,ht,h1,h2⟩|⟨j,want,e,hg,hde,ht,hn,hK⟩
 .obtain⟨d',z,e1,hn,hz,hK⟩:=h;rw[hd]at e1;obtain rfl:=sI e1;obtain⟨v,hrun,hR'⟩:=hR.vA hz d hn
  grind[Pk]
 .have hy:=hR.yielded hde ht;by_cases htw:t=want
  .obtain⟨d',z,e1,hn,hz,hK⟩:=h1 htw;rw[hd]at e1;obtain rfl:=sI e1;obtain⟨v,hrun,hR'⟩:=hR.vA hz d hn
   grind[Region.wanted]
  .have hnot:t=!want:=by cases t<;>cases want<;>simp_all
   obtain⟨hn,hK⟩:=h2 hnot;rw[hd]at hK;have hn':=hn d hd;exact⟨d,undef,_,hd,hK,hR.put hn' (λ_ _ _=>RV.sc _),wW undef qQ (.inr ⟨Cm,rfl⟩)⟩
 .have hy:yielded ops b.tmps j=Y:=hR.qFB hde ht;rw[hd]at hK;have hn':=hn d hd;exact⟨d,undef,_,hd,hK,hR.put hn' (λ_ _ _=>RV.sc _),wW undef qQ (.inr ⟨Cm,rfl⟩)⟩
def bz{l:List Nat}{x:Nat}:l.contains x=B↔x∈l:=qB
theorem J9(hw:ny ops):∀(sch:qV){LV:List Nat}{listed:Array Bool}{st:St}{a b:Act}{w:World},yC ops sch LV=B->zn X ops.toList (ops.toList.map (·.dst)) K sch st->DI X ops LV listed st a b w ->
  ∃sch' LV' st' b',(∀i r,sch'≠.q i r)/\yC ops sch' LV'=B/\zn X ops.toList (ops.toList.map (·.dst)) K sch' st'/\DI X ops LV' listed st' a b' w:=by
 intro sch
 induction sch with
 |done=>grind
 |l i ps r _=>grind
 |l2 i ps r j qs s _ _=>grind
 |l3 i ps r j qs s k us t _ _ _=>grind
 |q i r ih=>
  intro LV listed st a b w h1 h2 h3;simp only[yC,yF,decide_eq_true_eq]at h1;obtain⟨⟨⟨hlt,hq⟩,hr⟩,hok⟩:=h1;simp only[Bh,yF,bl]at hr;obtain⟨hni,hpr⟩:=hr;have hni:i∉LV:=λhm=>qQ;have hpr:∀j∈v8 ops i,j∈LV:=λj hj=>bz.1 (yn.1 hpr j hj);have ho:ops[i]?=Z ops[i]:=mI hlt;simp only[zn,bm,ho]at h2;obtain⟨d,v,st',hd,hK,hR',hP⟩:=Hx hw ho hq (λhm=>hni (hpr i hm)) h3.rw h2;have hdi:uc ops i=Z d:=rL
  have hnl:listed.getD i B=M:=by
   cases e:listed.getD i B with
   |false=>rfl
   |true=>exact absurd (h3.sub i hlt e) hni
  refine ih (LV:=i::LV) (listed:=listed) (st:=st') (a:=a) (b:=b.put (Z d) v) (w:=w) hok hK ⟨hR',h3.len,λk hk e=>cY _ (h3.sub k hk e),h3.closed,?_,?_,⟨hni,hlt,hpr,h3.ord⟩⟩
  .intro q hqc e;rcases vV.1 hqc with rfl|hqm
   .simp_all
   .obtain⟨x1,x2⟩:=h3.wW q hqm e;have hqlt:=h3.ord.lt q hqm;refine⟨x1,x2.put hw d v (λo' ho' hm=>?_) (λe'=>?_)⟩
    .have:=hw.look q o' d i ho' hm hlt hdi hq;exact hni (h3.ord.v8 q hqm i this)
    .obtain rfl:=hw.GW q i d hqlt hlt e' hdi
     simp_all
  .refine⟨h3.vN.defers,by simpa[Act.put]using h3.vN.size,λt ht=>?_⟩;have htd:t≠d:=λe=>ht ⟨i,qB,hnl,by rw[hdi,e]⟩;simp only[Act.put];rw[rB (λe=>htd e.symm)];exact h3.vN.tmps t (λ⟨q,x1,x2,x3⟩=>ht ⟨q,cY _ x1,x2,x3⟩)
theorem I1:∀{ps:List Nat},uw X ops.toList (ops.toList.map (·.dst)) ps st->∀q∈ps,∃o,ops[q]?=Z o/\pO X (ops.toList.map (·.dst)) o st
 |[],_,_,h=>by cases h
 |p::ps,h,q,hq=>by
  obtain⟨h1,h2⟩:=h;rcases vV.1 hq with rfl|hq
  .grind
  .exact I1 h2 q hq
theorem IC(hw:ny ops){listed:Array Bool}{b:Act}{w:World}(hR:Rw X st b w):∀(l:List Nat),dJ ops l ->
  (∀q∈l,listed.getD q B=M->aT ops q=B/\∃o,ops[q]?=Z o/\pO X (ops.toList.map (·.dst)) o st/\∀d,o.dst=Z d->d<X.n) ->
  ∃b',Rw X st b' w/\(∀q∈l,listed.getD q B=M->pg X.P ops b' w q)/\a8 (λt=>∃q∈l,listed.getD q B=M/\uc ops q=Z t) b' b
 |[],_,_=>⟨b,hR,qB,⟨rfl,rfl,λ_ _=>rfl⟩⟩
 |x::l,hl,hs=>by
  obtain⟨b1,hR1,hp1,hag⟩:=IC hw hR l hl.2.2.2 (λq hq=>hs q (cY _ hq))
  cases hlx:listed.getD x B with
  |true=>
   refine⟨b1,hR1,λq hq e=>?_,⟨hag.defers,hag.size,λt ht=>hag.tmps t (λ⟨q,x1,x2,x3⟩=>ht ⟨q,cY _ x1,x2,x3⟩)⟩⟩
   grind
  |false=>
   obtain⟨hq,o,ho,hst,hdn⟩:=hs x qB hlx;have hlt:=hl.2.1;obtain⟨hq1,hq2⟩:MA o.op=B/\o.dst.isSome=B:=by grind[aT]
   obtain⟨d,hd⟩:=CU.1 hq2;have hdi:uc ops x=Z d:=rL;have hxx:x∉v8 ops x:=λhm=>hl.1 (hl.2.2.1 x hm)
   -- the operation,az the state holds it
   have hag':QG X (ops.toList.map (·.dst)) o (λs=>s=st) st:=by
    have hdX:=hdn d hd;have quiet:vA X.P st o=Z (st.tm d)->CR X o (λs=>s=st) st:=λhz=>⟨d,_,hd,hdX,hz,sD rfl⟩;unfold pO at hst;rw[hd]at hst;simp only at hst
    split at hst
    .rename_i hg;exact .inl ⟨hg,quiet hst⟩
    .rename_i j want hg
     split at hst
     .rename_i e hde
      split at hst
      .rename_i t ht;refine .inr (.inl ⟨j,want,e,t,hg,hde,ht,λe'=>quiet (hst.1 e'),λe'=>⟨hdn,?_⟩⟩)
       grind[sD]
      .rename_i v _ hv;refine .inr (.inr ⟨j,want,e,hg,hde,qQ,hdn,?_⟩)
       grind[sD]
      simp_all
     simp_all
   obtain⟨d',v,st',hd',rfl,hR2,hP⟩:=Hx hw ho hq hxx hR1 hag';rw[hd]at hd';obtain rfl:=sI hd';refine⟨b1.put (Z d) v,hR2,λq hqc e=>?_,⟨hag.defers,by grind[Act.put,a8.size],λt ht=>?_⟩⟩
   .rcases vV.1 hqc with rfl|hq'
    .exact hP
    .refine (hp1 q hq' e).put hw d v (λo' ho' hm=>?_) (λe'=>?_)
     .exact hl.1 (hl.2.2.2.v8 q hq' x (hw.look q o' d x ho' hm hlt hdi hq))
     .obtain rfl:=hw.GW q x d (hl.2.2.2.lt q hq') hlt e' hdi;exact hl.1 hq'
   .have htd:t≠d:=λe=>ht ⟨x,qB,hlx,by rw[hdi,e]⟩;simp only[Act.put];rw[rB (λe=>htd e.symm)];exact hag.tmps t (λ⟨q,x1,x2,x3⟩=>ht ⟨q,cY _ x1,x2,x3⟩)
end
section
variable{X:Ctx}{ops:Array Oper}{st:St}{K:St->Prop}
theorem LM{p p':Nat->Bool}:∀(l:List Nat),(∀x∈l,p' x=B->p x=B)->(∃x∈l,p x=B/\p' x=M)->O (l.filter p')<O (l.filter p)
 |[],_,h=>by simp_all
 |y::l,h1,h2=>by
  have le:∀(l:List Nat),(∀x∈l,p' x=B->p x=B)->O (l.filter p')<=O (l.filter p):=by
   intro l
   induction l<;>grind
  have hle:=le l (λx hx=>h1 x (cY _ hx));obtain⟨x,hx,e1,e2⟩:=h2;rcases vV.1 hx with rfl|hx
  .grind
  .have:=LM l (λx hx=>h1 x (cY _ hx)) ⟨x,hx,e1,e2⟩
   grind
def ig(ops:Array Oper)(listed:Array Bool):Nat:=O ((List.range ops.size).filter (λi=>!listed.getD i B))
theorem aO{listed:Array Bool}(hi:i<listed.size):(listed.setIfInBounds i B).getD j B=if j=i then B else listed.getD j B:=by
 simp_all<;>grind
theorem AF{listed:Array Bool}(hs:listed.size=ops.size)(hi:i<ops.size)(h:listed.getD i B=M):ig ops (listed.setIfInBounds i B)<ig ops listed:=by
 unfold ig;refine LM _ (λx _ hx=>?_) ⟨i,ix.2 hi,iE,?_⟩<;>grind[aO]
theorem pH{listed:Array Bool}:i∈Region.ready .any ops listed↔listed.getD i B=M/\i<ops.size/\∀j∈v8 ops i,listed.getD j M=B:=by
 grind[mem_ready,v8]
theorem GO{listed:Array Bool}:∀(l:List Nat),dJ ops l->(∃q∈l,listed.getD q B=M)->∃q∈l,listed.getD q B=M/\∀j∈v8 ops q,listed.getD j B=B
 |[],_,h=>by simp_all
 |x::l,hl,h=>by
  by_cases ht:∃q∈l,listed.getD q B=M
  .obtain⟨q,h1,h2,h3⟩:=GO l hl.2.2.2 ht
   grind
  grind[dJ]
theorem qDd{P:Program}{a b:Act}{K1 K2:Act->World->Prop}{Q:Exit->Act->World->Prop}{r:Result Next}(hdef:a.defers=b.defers)
  (hK:∀v D w',K1 (Act.put {b with defers:=D} o.dst v) w'->K2 (Act.put {a with defers:=D} o.dst v) w')(h:o.upon P b K1 (λ_ _ _=>False) r):o.upon P a K2 Q r:=by
 have hb:({b with defers:=b.defers}:Act)=b:=rfl;have ha:({a with defers:=b.defers}:Act)=a:=by rw[<- hdef]
 have hv:∀v w',K1 (b.put o.dst v) w'->K2 (a.put o.dst v) w':=λv w' h=>by
  simp_all
 cases r with
 |ok n w'=>
  cases n with
  |value v=>exact hv v w' h
  |skip=>exact hv undef w' h
  |defer d=>
   have h:K1 (Act.put {b with defers:=d::b.defers} o.dst undef) w':=h
   show K2 (Act.put {a with defers:=d::a.defers} o.dst undef) w'
   simp_all
  |enter f args=>
   refine Calls.mono h λe w'' he=>?_
   cases e with
   |returned v=>simp_all
   |panicked ch=>simp_all
   |outgrown=>obtain⟨_,_,h⟩:=he;grind
  |row row args=>exact Rows.mono h λv w'' he=>hv v w'' he
  |_=>exact h.elim
 |halt x w'=>
  cases x with
  |panic v=>exact h.elim
  |_=>exact h.elim
theorem Dv(h:yC ops .done LV=B):∀i,i<ops.size->i∈LV:=by
 simp_all[yC]
theorem xc:i∈iX ops LV↔i<ops.size/\i∉LV/\∀j∈v8 ops i,j∈LV:=by
 grind[iX,Bh]
theorem LS{listed:Array Bool}{a b:Act}{Q:Exit->Act->World->Prop}(hK:∀a' w' st',Rw X st' a' w'->K st'->Q .normal a' w')(hD:DI X ops LV listed st a b w)
  (hnq:∀i r,sch≠.q i r)(hok:yC ops sch LV=B)(hr:zn X ops.toList (ops.toList.map (·.dst)) K sch st)(hall:∀i,i<ops.size->listed.getD i B=B):Q .normal a w:=by
 have hin:∀i,i<ops.size->i∈LV:=λi hi=>hD.sub i hi (hall i hi)
 have no:∀i,i∉iX ops LV:=λi hm=>by
  grind[xc]
 have hab:a=b:=by
  obtain⟨t1,d1⟩:=a;obtain⟨t2,d2⟩:=b;have hd:d1=d2:=hD.vN.defers
  have ht:t1=t2:=by
   apply Array.ext_getElem?;intro t;exact hD.vN.tmps t (λ⟨q,x1,x2,_⟩=>KZ)
  rw[hd,ht]
 cases sch with
 |done=>grind[DI.rw,zn]
 |q i r=>simp_all
 |l i ps r=>
  simp_all[yC]
 |l2 i ps r j qs s=>
  simp only[yC,yF,beq_iff_eq]at hok
  simp_all<;>grind
 |l3 i ps r j qs s k us t=>
  simp only[yC,yF,beq_iff_eq]at hok
  simp_all<;>grind
theorem xZ{fuel:Nat}{listed:Array Bool}{a b:Act}{Q:Exit->Act->World->Prop}(hw:ny ops)(ho:ops[i]?=Z o)(hq:aT ops i=M)(hD:DI X ops LV listed st a b w)
  (hni:i∉LV)(hlist:∀j∈v8 ops i,listed.getD j M=B)(hps:∀q∈l8 ops LV i,q∈ps)(hok:yC ops r (i::LV)=B)
  (h:uB X (ops.toList.map (·.dst)) o (λs=>uw X ops.toList (ops.toList.map (·.dst)) ps s/\zn X ops.toList (ops.toList.map (·.dst)) K r s) (λ_ _=>False) st)
  (hun:ig ops listed<=fuel+1)
  (ih:∀(sch:qV)(LV:List Nat)(listed:Array Bool)(st:St)(a b:Act)(w:World),DI X ops LV listed st a b w->yC ops sch LV=B->zn X ops.toList (ops.toList.map (·.dst)) K sch st->ig ops listed<=fuel->wpAny X.P .any ops Q fuel listed a w):
  wpOp X.P ops Q i (wpAny X.P .any ops Q fuel (listed.setIfInBounds i B)) a w:=by
 have hlt:i<ops.size:=(oA.1 ho).1;have hlt':i<listed.size:=ti
 have lst:∀j∈v8 ops i,j<ops.size->listed.getD j B=B:=λj hj hjlt=>by
  grind
 have hlook:∀t∈o.looksAt ops,¬∃q∈LV,listed.getD q B=M/\uc ops q=Z t:=by
  rintro t ht ⟨q,x1,x2,x3⟩;have hqlt:=hD.ord.lt q x1;have:=hw.look i o t q ho ht hqlt x3 (hD.wW q x1 x2).1
  simp_all
 have hex:=hD.vN.exec (hw.xr i o · · ho) hlook;have hwt:=hD.vN.wanted hlook
 have hprd:∀j∈v8 ops i,j∈LV:=λj hj=>by
  have hjl:=hlist j hj
  have hjlt:j<ops.size:=by
   grind[DI.len]
  exact hD.sub j hjlt (lst j hj hjlt)
 have hni':listed.getD i B=M:=by
  cases e:listed.getD i B with
  |false=>rfl
  |true=>exact absurd (hD.sub i hlt e) hni
 -- what comes behind
 have next:∀(a' b':Act)(w':World)(s:St),Rw X s b' w'->uw X ops.toList (ops.toList.map (·.dst)) ps s->zn X ops.toList (ops.toList.map (·.dst)) K r s ->
   a8 (λt=>∃q∈LV,listed.getD q B=M/\uc ops q=Z t) a' b'->wpAny X.P .any ops Q fuel (listed.setIfInBounds i B) a' w':=by
  intro a' b' w' s hR hst hrun hag
  have un':∀q,(listed.setIfInBounds i B).getD q B=M->q≠i/\listed.getD q B=M:=by
   grind[aO]
  have lis':∀k,listed.getD k B=B->(listed.setIfInBounds i B).getD k B=B:=by
   grind
  have hord:dJ ops (i::LV):=⟨hni,hlt,hprd,hD.ord⟩
  obtain⟨b2,hR2,hP2,hag2⟩:=IC hw hR (listed:=listed.setIfInBounds i B) (i::LV) hord (λq hqm e=>by
   obtain⟨hne,eq⟩:=un' q e;have hqLV:q∈LV:=(vV.1 hqm).resolve_left hne;obtain⟨x1,o',d',x2,x3,x4,_⟩:=hD.wW q hqLV eq;have hqlt:=hD.ord.lt q hqLV;refine⟨x1,?_⟩
   have hqp:q∈l8 ops LV i:=by
    refine List.mem_filter.2 ⟨hqLV,?_⟩;simp only[x1,gj,bl,List.any_eq_false];intro l hl hc;simp only[yF,bl]at hc;obtain⟨hlq,hlp⟩:=hc;have hlp:=bz.1 hlp
    have hl1:∀q'∈v8 ops l,listed.getD q' M=B:=by
     rcases vV.1 hl with rfl|hl
     .exact hlist
     .exact hD.closed l (hD.ord.lt l hl) (by
       cases e':listed.getD l B with
       |true=>rfl
       |false=>rw[(hD.wW l hl e').1]at hlq;cases hlq)
    have this:listed.getD q M=B:=Ha (L:=λq=>listed.getD q M=B) (λq' h3=>by
     have hlt2:q'<ops.size:=by
      grind[DI.len]
     exact hD.closed q' hlt2 qx) _ _ hl1 q hlp
    grind
   obtain⟨o2,y1,y2⟩:=I1 hst q (hps q hqp);refine⟨o2,y1,y2,λd hd=>?_⟩;rw[x2]at y1;obtain rfl:=sI y1;rw[x3]at hd;obtain rfl:=sI hd;rw[<- hD.rw.size];exact x4)
  refine ih r (i::LV) (listed.setIfInBounds i B) s a' b2 w' ⟨hR2,ti,λk hk e=>?_,λk hk e j hj=>?_,λq hqm e=>?_,⟨?_,?_,λt ht=>?_⟩,hord⟩ hok hrun ?_
  .rw [aO hlt']at e
   split at e
   .simp_all
   .exact cY _ (hD.sub k hk e)
  .have:listed.getD j M=B:=by
    rw[aO hlt']at e
    split at e
    .simp_all
    .exact hD.closed k hk e j hj
   grind
  .obtain⟨hne,e'⟩:=un' q e;have hqLV:q∈LV:=(vV.1 hqm).resolve_left hne;exact⟨(hD.wW q hqLV e').1,hP2 q hqm e⟩
  .rw [hag.defers,hag2.defers]
  .rw [hag.size,hag2.size]
  .rw [hag2.tmps t ht];refine hag.tmps t λ⟨q,x1,x2,x3⟩=>ht ⟨q,cY _ x1,?_,x3⟩
   grind[aO]
  .have:=AF hD.len hlt hni';omega
 -- the operation itself
 have hop:=h ops i rfl ho b w (λ_ _ _=>False) hD.rw (λ_ _ _ _ _ h=>h.elim);have agr':∀v,a8 (λt=>∃q∈LV,listed.getD q B=M/\uc ops q=Z t) (a.put o.dst v) (b.put o.dst v):=λv=>hD.vN.put o.dst v (λt ht=>.inr ht);unfold wpOp at hop ⊢;simp only[ho]at hop ⊢;rw[hwt]
 split at hop
 .rename_i hwd;rw[if_pos hwd];rcases hop with hop|⟨_,_,_,hop⟩
  .left;unfold Oper.wp at hop ⊢;rw[hex];refine qDd hD.vN.defers ?_ hop;rintro v D w' ⟨s,hR,hst,hrun⟩;refine next _ _ w' s hR hst hrun ?_;have:a8 (λt=>∃q∈LV,listed.getD q B=M/\uc ops q=Z t) {a with defers:=D} {b with defers:=D}:=⟨rfl,hD.vN.size,hD.vN.tmps⟩;exact this.put o.dst v (λt ht=>.inr ht)
  simp_all
 grind
theorem po.XA{E:AV->St->Prop}(sch:qV)(hwf:sP ops=B)(hok:yC ops sch []=B)(h:zn X ops.toList (ops.toList.map (·.dst)) K sch st):po X ops K E st:=by
 have hw:=Pp hwf;intro a w Q hR hK _
 have main:∀(fuel:Nat)(sch:qV)(LV:List Nat)(listed:Array Bool)(st:St)(a b:Act)(w:World),DI X ops LV listed st a b w->yC ops sch LV=B->zn X ops.toList (ops.toList.map (·.dst)) K sch st->ig ops listed<=fuel ->
   wpAny X.P .any ops Q fuel listed a w:=by
  intro fuel
  induction fuel with
  |zero=>
   intro sch0 LV0 listed w4 a b0 w hD0 hok0 hr0 hun;obtain⟨sch,LV,st,b,hnq,hok,hr,hD⟩:=J9 hw sch0 hok0 hr0 hD0
   have hall:∀i,i<ops.size->listed.getD i B=B:=by
    intro i hi
    cases e:listed.getD i B with
    |true=>rfl
    |false=>
     have:=AF hD.len hi e;omega
   refine⟨?_,LS hK hD hnq hok hr hall⟩;apply CV.2
   grind[pH]
  |succ fuel ih=>
   intro sch0 LV0 listed w4 a b0 w hD0 hok0 hr0 hun;obtain⟨sch,LV,st,b,hnq,hok,hr,hD⟩:=J9 hw sch0 hok0 hr0 hD0;refine⟨λhnone=>LS hK hD hnq hok hr ?_,λi hi=>?_⟩
   · -- nothing is ready: all is done
    have tf:∀j,listed.getD j M=B↔(j<ops.size/\listed.getD j B=B):=by
     grind[DI.len]
    have hLV:∀q∈LV,listed.getD q B=B:=by
     intro q hq
     cases e:listed.getD q B with
     |true=>rfl
     |false=>
      obtain⟨q',h1,h2,h3⟩:=GO LV hD.ord ⟨q,hq,e⟩;have:q'∈Region.ready .any ops listed:=pH.2 ⟨h2,hD.ord.lt q' h1,λj hj=>(tf j).2 ⟨hD.ord.lt j (hD.ord.v8 q' h1 j hj),h3 j hj⟩⟩
      simp_all
    have no:∀i,i∉iX ops LV:=λi hm=>by
     obtain⟨h1,h2,h3⟩:=xc.1 hm
     have hnl:listed.getD i B=M:=by
      cases e:listed.getD i B with
      |false=>rfl
      |true=>exact absurd (hD.sub i h1 e) h2
     have:i∈Region.ready .any ops listed:=pH.2 ⟨hnl,h1,λj hj=>(tf j).2 ⟨hD.ord.lt j (h3 j hj),hLV j (h3 j hj)⟩⟩
     simp_all
    cases sch with
    |done=>grind[Dv]
    |q i r=>simp_all
    |l i ps r=>
     simp_all[yC]
    |l2 i ps r j qs s=>
     simp only[yC,yF,beq_iff_eq]at hok
     simp_all<;>grind
    |l3 i ps r j qs s k us t=>
     simp only[yC,yF,beq_iff_eq]at hok
     simp_all<;>grind
   .obtain⟨h0,hlt,hlist⟩:=pH.1 hi;have ho:ops[i]?=Z ops[i]:=mI hlt;by_cases hin:i∈LV
    · -- a quiet one that is pending
     obtain⟨hq,o,d,ho',hd,hdlt,hP⟩:=hD.wW i hin h0;rw[ho]at ho';obtain rfl:=sI ho';have hdi:uc ops i=Z d:=rL;have hlt':i<listed.size:=qx
     have hlook:∀t∈ops[i].looksAt ops,¬∃q∈LV,listed.getD q B=M/\uc ops q=Z t:=by
      rintro t ht ⟨q,x1,x2,x3⟩;have hqlt:=hD.ord.lt q x1;have hqp:=hw.look i _ t q ho ht hqlt x3 (hD.wW q x1 x2).1
      grind
     have hex:=hD.vN.exec (hw.xr i _ · · ho) hlook;have hwt:=hD.vN.wanted hlook
     have nx:wpAny X.P .any ops Q fuel (listed.setIfInBounds i B) (a.put (Z d) (b.tmps.getD d undef)) w:=by
      refine ih sch LV _ st _ b w ⟨hD.rw,ti,λk hk e=>?_,λk hk e j hj=>?_,λq hqm e=>?_,⟨hD.vN.defers,by simpa[Act.put]using hD.vN.size,λt ht=>?_⟩,hD.ord⟩ hok hr ?_
      .rw [aO hlt']at e
       split at e
       .simp_all
       .exact hD.sub k hk e
      .have hjl:listed.getD j M=B:=by
        rw[aO hlt']at e
        split at e
        .simp_all
        .exact hD.closed k hk e j hj
       grind[aO]
      .rw [aO hlt']at e
       split at e
       .cases e
       .exact hD.wW q hqm e
      .simp only[Act.put];by_cases htd:d=t
       .subst htd;rw[Array.getElem?_setIfInBounds_self_of_lt (by rw[hD.vN.size];exact hdlt),mI hdlt]
        simp_all
       .rw [rB htd];refine hD.vN.tmps t λ⟨q,x1,x2,x3⟩=>ht ⟨q,x1,?_,x3⟩
        grind[aO]
      .have:=AF hD.len hlt h0;omega
     grind[wpOp,Oper.wp,Oper.upon_value]
    · -- one that is not quiet
     have hprd:∀j∈v8 ops i,j∈LV:=λj hj=>by
      have hjl:=hlist j hj
      have hjlt:j<ops.size:=by
       grind[DI.len]
      exact hD.sub j hjlt qx
     have hrd:i∈iX ops LV:=xc.2 ⟨hlt,hin,hprd⟩
     cases sch with
     |done=>grind[Dv]
     |q i r=>simp_all
     |l i1 ps r=>
      simp only[yC,yF,beq_iff_eq,bl]at hok;obtain⟨⟨⟨k1,k2⟩,k3⟩,k4⟩:=hok;rw[k1]at hrd;obtain rfl:=vG.1 hrd;simp only[zn,bm,ho]at hr;exact xZ hw ho k2 hD hin hlist (λq hq=>bz.1 (yn.1 k3 q hq)) k4 hr hun ih
     |l2 i1 ps r j1 qs s=>
      simp only[yC,yF,beq_iff_eq,bl]at hok;obtain⟨⟨⟨⟨⟨⟨k1,k2⟩,k3⟩,k4⟩,k5⟩,k6⟩,k7⟩:=hok;rw[k1]at hrd;simp only[zn,bm]at hr;rcases vV.1 hrd with rfl|hrd
      .have hr1:=hr.1;simp only[ho]at hr1;exact xZ hw ho k2 hD hin hlist (λq hq=>bz.1 (yn.1 k4 q hq)) k6 hr1 hun ih
      .obtain rfl:=vG.1 hrd;have hr2:=hr.2;simp only[ho]at hr2;exact xZ hw ho k3 hD hin hlist (λq hq=>bz.1 (yn.1 k5 q hq)) k7 hr2 hun ih
     |l3 i1 ps r j1 qs s m1 us t=>
      simp only[yC,yF,beq_iff_eq,bl]at hok;obtain⟨⟨⟨⟨⟨⟨⟨⟨⟨k1,k2⟩,k3⟩,k4⟩,k5⟩,k6⟩,k7⟩,k8⟩,k9⟩,k10⟩:=hok;rw[k1]at hrd;simp only[zn,bm]at hr;rcases vV.1 hrd with rfl|hrd
      .have hr1:=hr.1;simp only[ho]at hr1;exact xZ hw ho k2 hD hin hlist (λq hq=>bz.1 (yn.1 k5 q hq)) k8 hr1 hun ih
      .rcases vV.1 hrd with rfl|hrd
       .have hr2:=hr.2.1;simp only[ho]at hr2;exact xZ hw ho k3 hD hin hlist (λq hq=>bz.1 (yn.1 k6 q hq)) k9 hr2 hun ih
       .obtain rfl:=vG.1 hrd;have hr3:=hr.2.2;simp only[ho]at hr3;exact xZ hw ho k4 hD hin hlist (λq hq=>bz.1 (yn.1 k7 q hq)) k10 hr3 hun ih
 refine main ops.size sch [] (Array.replicate ops.size M) st a a w ⟨hR,qB,?_,?_,qB,⟨rfl,rfl,λ_ _=>rfl⟩,trivial⟩ hok h ?_
 .simp_all
 .simp_all
 grind[ig]
end
section
variable{X:Ctx}{st:St}{K:St->Prop}{E:AV->St->Prop}{ds:List (Option Nat)}{l:List Oper}
def aY{id:Nat}(h:∀K:St->Prop,(∀s,Q .normal s->K s)->yQ X (l.map (·.dst)) K (λx=>Q (.b9 x)) l st):jJ X (.region id l.toArray M) Q st:=
 qDv h
def qDw{id:Nat}(sch:qV)(hm:X.P.follows .mixedOrders=B)(hwf:sP l.toArray=B)(hok:yC l.toArray sch []=B)
  (h:∀K:St->Prop,(∀s,Q .normal s->K s)->zn X l (l.map (·.dst)) K sch st):jJ X (.region id l.toArray B) Q st:=
 Ph hm λK hK=>po.XA sch hwf hok (h K hK)
def qP{id:Nat}(sch:qV)(hm:X.P.follows .mixedOrders=B)(h:∀K:St->Prop,(∀s,Q .normal s->K s)->zn X l (l.map (·.dst)) K sch st)(hwf:sP l.toArray=B:=by kernel_rfl)(hok:yC l.toArray sch []=B:=by kernel_rfl):jJ X (.region id l.toArray B) Q st:=qDw sch hm hwf hok h
def fC(h:K st):yQ X ds K E [] st:=h
def uu(hK:∀s,K' s->K s)(h:K' st):yQ X ds K E [] st:=hK st h
def bk(hK:∀s,K' s->K s)(h:K' st):zn X l ds K .done st:=hK st h
def cO{id:Nat}(h:Q (.exit id) st):thenS K Q (.exit id) st:=h
def bE(h:Q .ret st):thenS K Q .ret st:=h
def P6{id:Nat}(h:Q (.goto id) st):thenS K Q (.goto id) st:=h
def cD{id:Nat}(h:Q .normal st):og id Q .normal st:=h
def bU{id:Nat}(h:Q .ret st):og id Q .ret st:=h
theorem qAv(_ho:o.guard=Z (j,want))(_hj:ds[j]?=Z (Z e))(ht:st.tm e=.sc (.bool t))(h1:t=B->yQ X ds K E (o::l) (st.put (Z e) (.sc (.bool B))))(h2:t=M->yQ X ds K E (o::l) (st.put (Z e) (.sc (.bool M)))):
  yQ X ds K E (o::l) st:=by
 cases t<;>grind[sD]
def kh(h:qe X ⟨dst,op,ty,pos,aft,Y⟩ (yQ X ds K E l) E st):yQ X ds K E (⟨dst,op,ty,pos,aft,Y⟩::l) st:=Le rfl h
def Gx(X:Ctx)(ds:List (Option Nat))(K:St->Prop)(E:AV->St->Prop)(l:List Oper)(st:St)(dst:Option Nat)(op:Op)(ty:TypeId)(pos:String)(aft:Array Edge)(j:Nat)(want:Bool)(e:Nat)(v:AV):Prop:=
 ds[j]?=Z (Z e)->st.tm e=v->yQ X ds K E (⟨dst,op,ty,pos,aft,Z (j,want)⟩::l) st
section
variable{dst:Option Nat}{op:Op}{ty:TypeId}{pos:String}{aft:Array Edge}{j e:Nat}{want:Bool}{v:AV}
def qAw(hj:ds[j]?=Z (Z e))(ht:st.tm e=v)(h:Gx X ds K E l st dst op ty pos aft j want e v):yQ X ds K E (⟨dst,op,ty,pos,aft,Z (j,want)⟩::l) st:=h hj ht
def lQ(h:qe X ⟨dst,op,ty,pos,aft,Z (j,B)⟩ (yQ X ds K E l) E st):Gx X ds K E l st dst op ty pos aft j B e (.sc (.bool B)):=λhj ht=>Lg rfl hj ht h
def mc(h:qe X ⟨dst,op,ty,pos,aft,Z (j,M)⟩ (yQ X ds K E l) E st):Gx X ds K E l st dst op ty pos aft j M e (.sc (.bool M)):=λhj ht=>Lg rfl hj ht h
def UV(hn:∀e,dst=Z e->e<X.n)(h:yQ X ds K E l (st.put dst (.sc undef))):Gx X ds K E l st dst op ty pos aft j B e (.sc (.bool M)):=λhj ht=>Ld rfl hj ht hn h
def UU(hn:∀e,dst=Z e->e<X.n)(h:yQ X ds K E l (st.put dst (.sc undef))):Gx X ds K E l st dst op ty pos aft j M e (.sc (.bool B)):=λhj ht=>Ld rfl hj ht hn h
def UW(hn:∀e,dst=Z e->e<X.n)(h:yQ X ds K E l (st.put dst (.sc undef))):Gx X ds K E l st dst op ty pos aft j want e (.sc undef):=λhj ht=>UD rfl hj ht hn h
def yr(h1:t=B->yQ X ds K E (⟨dst,op,ty,pos,aft,Z (j,want)⟩::l) (st.put (Z e) (.sc (.bool B))))(h2:t=M->yQ X ds K E (⟨dst,op,ty,pos,aft,Z (j,want)⟩::l) (st.put (Z e) (.sc (.bool M)))):
  Gx X ds K E l st dst op ty pos aft j want e (.sc (.bool t)):=λhj ht=>qAv rfl hj ht h1 h2
end
def yk{c:Nat}{x y:Code}(ht:st.tm c=.sc (.bool t))(h1:t=B->jJ X x Q (st.put (Z c) (.sc (.bool B))))(h2:t=M->jJ X y Q (st.put (Z c) (.sc (.bool M)))):jJ X (.cond (.tmp c) x y) Q st:=by
 cases t with
 |true=>have:=h1 rfl;rw[sD ht]at this;exact Ec (c:=.tmp c) ht (λ_=>this) (λe=>vi)
 |false=>have:=h2 rfl;rw[sD ht]at this;exact Ec (c:=.tmp c) ht (λe=>vi) (λ_=>this)
section
variable{d:Nat}{ty:TypeId}{pos:String}{aft:Array Edge}{g:Option (Nat×Bool)}{st' st1:St}
def Wt{z:AV}(hd:d<X.n)(hz:vA X.P st ⟨Z d,op,ty,pos,aft,g⟩=Z z)(h:K (st.put (Z d) z)):qe X ⟨Z d,op,ty,pos,aft,g⟩ K E st:=
 (qBP (λ_ e=>qQ) hz h)
def Wo(hd:d<X.n)(hs:rH X.P ty d (ev st x) st=st')(h:K st'):qe X ⟨Z d,.assign x,ty,pos,aft,g⟩ K E st:=
 (qBH rfl rfl hd (hs ▸ h))
def Wp{cs:List AV}(hd:d<X.n)(hq:(ev st x).cells=Z cs)(hz:O cs=qi X.P T)(hs:ce X.P T d cs st=st')(h:K st'):qe X ⟨Z d,.box T x,ty,pos,aft,g⟩ K E st:=
 (qBI rfl rfl hd hq hz (hs ▸ h))
def Wk{zs:List AV}(hd:d<X.n)(hq:yO X.P T=Z zs)(hs:ce X.P T d zs st=st')(h:K st'):qe X ⟨Z d,.alloc T,ty,pos,aft,g⟩ K E st:=
 (qBF rfl rfl hd hq (hs ▸ h))
theorem NA:∀{v:List AV}{j:Nat},v.all (λx=>!j5 x)=B->vX key es j v=[]
 :=by intro x0;induction x0<;>simp_all[vX]
theorem QR:∀{v:List AV}{j:Nat},v.all (λx=>!j5 x)=B->vM key es j v=v
 :=by intro x0;induction x0<;>simp_all[vM,zc]
theorem Ww(hT:(X.P.info? T).isSome=B)(hv0:(ev st x).cells=Z v0)(hnil:v0.all (λx=>!j5 x)=B)(hlen:O v0=qi X.P T)
  (hp:pl (ev st p)=Z (n,i,off))(hrows:lg st (ev st p)=Z (z,rows))(hi:i<O rows)(hoff:off+O v0<=z)(hs:canon (kg (λj=>.c n i (off+j)) 0 v0) (st.zW n (.row z (jn rows i off v0)))=st')(h:K st'):
  qe X ⟨Y,.store T p x,ty,pos,aft,g⟩ K E st:=by
 have e1:w5 X.P T n i off v0 st=st:=by simp only[w5,NA hnil];rfl
 grind[ll,QR,Of,nP]
theorem Wv{v1:List AV}(hT:(X.P.info? T).isSome=B)(hv0:(ev st x).cells=Z v0)(hlen:O v0=qi X.P T)
  (hp:pl (ev st p)=Z (n,i,off))(hk:w5 X.P T n i off v0 st=st1)(hp1:pl (ev st1 p)=Z (n,i,off))(hv1:(ev st1 x).cells=Z v1)(hsame:v1.map j5=v0.map j5)(hrows:lg st1 (ev st1 p)=Z (z,rows))(hi:i<O rows)(hoff:off+O v1<=z)
  (hs:nP n z i off rows (ll X.P T n i off v1) st1=st')(h:K st'):qe X ⟨Y,.store T p x,ty,pos,aft,g⟩ K E st:=by
 grind[Of]
def Wl{len:Nat}{rows0 rows2:List (List AV)}(hd:d<X.n)(hT:yW X.P T=Z F)(hz:qi X.P F=z)(hs:ev st s=.hs n z 0 len)(hn:st.hp n=Z (.row z rows0))(hle:len<=O rows0)
  (hx:be st z (ev st x)=Z rows2)(hlen:len+O rows2<=4294967296)(hq:wO d z (len+O rows2) (Z n) (rows0.take len++rows2) st=st')(h:K st'):qe X ⟨Z d,.call ⟨.builtin .append,#[s,x],#[T,T]⟩,ty,pos,aft,g⟩ K E st:=
 (Oe rfl rfl hd hT hz hs hn hle hx hlen (hq ▸ h))
def Wm{rows2:List (List AV)}(hd:d<X.n)(hT:yW X.P T=Z F)(hz:qi X.P F=z)(hs:ev st s=.sc (.slice Y 0 0))(hx:be st z (ev st x)=Z rows2)(hlen:O rows2<=4294967296)
  (hq:wO d z (O rows2) Y rows2 st=st')(h:K st'):qe X ⟨Z d,.call ⟨.builtin .append,#[s,x],#[T,T]⟩,ty,pos,aft,g⟩ K E st:=
 (qBG rfl rfl hd hT hz hs hx hlen (hq ▸ h))
def Ws{y:Operand}{ln:Nat}{k k':IntKind}{zv:List AV}(hd:d<X.n)(hx:ev st x=.sc (.int k ln))(hy:ev st y=.sc (.int k' ln))(hE:yW X.P T=Z F)(hz:qi X.P F=z)(hzv:yO X.P F=Z zv)(hl:ln<=4294967296)
  (hq:BY d z ln zv st=st')(h:K st'):qe X ⟨Z d,.makeSlice T x y,ty,pos,aft,g⟩ K E st:=
 (qBM rfl rfl hd hx hy hE hz hzv hl (hq ▸ h))
def Wq{len:Nat}{parts:Array (Nat×Operand)}(hd:d<X.n)(hE:yW X.P T=Z F)(hz:qi X.P F=z)(hrows:li st parts.toList=Z rows)(c1:parts.toList.map (·.1)=List.range len)(c2:len*z<=16777216)
  (c3:rows.all (λr=>O r==z)=B)(hs:mN X.P F d z rows st=st')(h:K st'):qe X ⟨Z d,.buildSlice T len parts,ty,pos,aft,g⟩ K E st:=
 (qBJ rfl rfl hd hE hz hrows c1 c2 c3 (hs ▸ h))
end
def Qf{z:AV}(ho:l[i]?=Z ⟨Z d,op,ty,pos,aft,Y⟩)(hd:d<X.n)(hz:vA X.P st ⟨Z d,op,ty,pos,aft,Y⟩=Z z)(h:zn X l ds K r (st.put (Z d) z)):zn X l ds K (.q i r) st:=by
 unfold zn;rw[ho];exact .inl ⟨rfl,d,z,rfl,hd,hz,h⟩
def Qh{z:AV}(ho:l[i]?=Z ⟨Z d,op,ty,pos,aft,Z (j,want)⟩)(hj:ds[j]?=Z (Z e))(ht:st.tm e=.sc (.bool want))(hd:d<X.n)(hz:vA X.P st ⟨Z d,op,ty,pos,aft,Z (j,want)⟩=Z z)
  (h:zn X l ds K r (st.put (Z d) z)):zn X l ds K (.q i r) st:=by
 unfold zn;rw[ho];exact .inr (.inl ⟨j,want,e,want,rfl,hj,ht,λ_=>⟨d,z,rfl,hd,hz,h⟩,λe=>qx⟩)
def Qg(ho:l[i]?=Z ⟨Z d,op,ty,pos,aft,Z (j,want)⟩)(hj:ds[j]?=Z (Z e))(ht:st.tm e=.sc (.bool (!want)))(hd:d<X.n)
  (h:zn X l ds K r (st.put (Z d) (.sc undef))):zn X l ds K (.q i r) st:=by
 unfold zn;rw[ho];exact .inr (.inl ⟨j,want,e,!want,rfl,hj,ht,(λe=>qQ),(λ_=>⟨λ_ e=>qQ,h⟩)⟩)
def Qi(ho:l[i]?=Z ⟨Z d,op,ty,pos,aft,Z (j,want)⟩)(hj:ds[j]?=Z (Z e))(ht:st.tm e=.sc undef)(hd:d<X.n)
  (h:zn X l ds K r (st.put (Z d) (.sc undef))):zn X l ds K (.q i r) st:=by
 unfold zn;rw[ho];exact .inr (.inr ⟨j,want,e,rfl,hj,ht,λ_ e=>qQ,h⟩)
theorem Qe(e:Nat)(ht:st.tm e=.sc (.bool t))(h1:t=B->zn X l ds K sch (st.put (Z e) (.sc (.bool B))))(h2:t=M->zn X l ds K sch (st.put (Z e) (.sc (.bool M)))):zn X l ds K sch st:=by
 cases t<;>grind[sD]
def gZ(ho:l[i]?=Z o)(h:yQ X ds (λs=>uw X l ds ps s/\zn X l ds K r s) (λ_ _=>False) [o] st):zn X l ds K (.l i ps r) st:=by
 unfold zn;rw[ho];exact h
def mE{s:qV}(h1:zn X l ds K (.l i ps r) st)(h2:zn X l ds K (.l j qs s) st):zn X l ds K (.l2 i ps r j qs s) st:=⟨h1,h2⟩
def mF{k:Nat}{us:List Nat}{s t:qV}(h1:zn X l ds K (.l i ps r) st)(h2:zn X l ds K (.l j qs s) st)(h3:zn X l ds K (.l k us t) st):zn X l ds K (.l3 i ps r j qs s k us t) st:=⟨h1,h2,h3⟩
def gF:uw X l ds [] st:=trivial
theorem qCI{q:Nat}(ho:l[q]?=Z o)(h1:pO X ds o st)(h2:uw X l ds ps st):uw X l ds (q::ps) st:=by
 grind[uw]
def dB{args:Array Operand}{g:Option (Nat×Bool)}(f':FuncId)(_hf:f=f')(h:qe X ⟨dst,.call ⟨.value (.func f),args,Ts⟩,ty,pos,aft,g⟩ K E st):
  qe X ⟨dst,.call ⟨.value (.func f),args,Ts⟩,ty,pos,aft,g⟩ K E st:=h
def lP(h:yQ X ds K E (⟨dst,op,ty,pos,aft,Z (j,want)⟩::l) st):yQ X ds K E (⟨dst,op,ty,pos,aft,Z (j,want)⟩::l) st:=h
def wh(h:zn X l ds K (.q i r) st):zn X l ds K (.q i r) st:=h
def qe.pT(h:qe X o K' E st)(hK:∀s,K' s->∃hp':Nm->Option AO,(∀m ob,hp' m=Z ob->s.hp m=Z ob)/\K {tm:=s.tm,hp:=hp',n:=s.n,gl:=s.gl}):qe X o K E st:=by
 intro a w Q hR hE;refine Oper.wp_mono ?_ (h a w Q hR hE);rintro a' w' ⟨s,h1,h2⟩;obtain⟨hp',e1,e2⟩:=hK s h2;exact⟨_,h1.weaken hp' e1,e2⟩
theorem r8:cf d zl y6=kl (.s d):=by
 grind[cf,kl,zl]
theorem IP{args:Array Operand}{az:List AV}{R:Nm->AV->(Nm->Option AO)->Prop}(ho:o.op=.call ⟨.value (.func f),args,Ts⟩)(hd:o.dst=Z d)(hn:d<X.n)(hF:qL X.P X.gl f az R)
  (hB:bJ st.hp zl (args.toList.map (ev st)) az)(hK:∀x H',R (.s d) x H'->K ((st.call d zl y6 (vj H')).put (Z d) (ni x))):qe X o K E st:=by
 refine mY (D:=zl) (H:=y6) (R:=R) hF (oc hF.1 ho) B hB (λ_ _=>rfl) (λn h=>kv) (λn h=>absurd rfl h) (λk i j _=>.inl rfl) (λe he=>qQ) ?_ (λ_ _ h=>h.elim)
 simp_all
section
variable{d f:Nat}{ty:TypeId}{pos:String}{aft:Array Edge}{g:Option (Nat×Bool)}{args:Array Operand}{Ts:Array TypeId}{az avs:List AV}
theorem NM{x:AV}(hd:d<X.n)(ha:args.toList.map (ev st)=avs)(hB:bJ st.hp zl avs az)(hF:qL X.P X.gl f az (λ_ y _=>y=x))(hc:x.jX=B)(h:K ((st.kill (.s d)).put (Z d) x)):
  qe X ⟨Z d,.call ⟨.value (.func f),args,Ts⟩,ty,pos,aft,g⟩ K E st:=by
 subst ha;refine(qe.pT (IP (K:=λs=>∃H',s=(st.call d zl y6 H').put (Z d) x) rfl rfl hd hF hB ?_) ?_)
 .rintro y H' rfl;exact⟨vj H',by simp[ni,hc]⟩
 .rintro s ⟨H',rfl⟩;refine⟨(st.kill (.s d)).hp,λm ob e=>?_,?_⟩<;>simp_all[St.kill,St.nm,jN,St.put,St.call,zl,r8]
theorem NN{n:Nat}(hd:d<X.n)(ha:args.toList.map (ev st)=avs)(hB:bJ st.hp zl avs az)(hF:qL X.P X.gl f az (λr y H'=>y=.hs r z 0 n/\H' r=Z (.row z rows)))(hc:rows.all (λr=>r.all AV.jX)=B)
  (h:K (((st.kill (.s d)).zW (.s d) (.row z rows)).put (Z d) (.hs (.s d) z 0 n))):qe X ⟨Z d,.call ⟨.value (.func f),args,Ts⟩,ty,pos,aft,g⟩ K E st:=by
 subst ha;refine(qe.pT (IP (K:=λs=>∃H',s=(st.call d zl y6 H').put (Z d) (.hs (.s d) z 0 n)/\H' (.s d)=Z (.row z rows)) rfl rfl hd hF hB ?_) ?_)
 .rintro y H' ⟨rfl,e⟩;exact⟨_,rfl,by grind[vj,AO.jX]⟩
 .rintro s ⟨H',rfl,e'⟩;refine⟨((st.kill (.s d)).zW (.s d) (.row z rows)).hp,λm ob e=>?_,?_⟩
  .simp only[St.kill,St.nm,jN,St.zW]at e
   grind[St.put,St.call,St.nm,Nm.uQ,zl,r8]
  simp_all[St.put,St.call,St.nm,St.kill,St.zW,r8]
end
end
section
variable{P:Program}{root:Nm}{rs:List ResultVar}{R E:Nm->AV->(Nm->Option AO)->Prop}{st:St}{D:Nm->Bool}
def qE(sbs:List (Nm×Nm))(hok:eU D root sbs)(hx:aU P st rs=Z xs)(h:R root ((iY xs).tr (zH D sbs)) (vW D sbs st.hp)):rm P D root rs R E .ret st:=⟨sbs,xs,hok,hx,h⟩
def yu(sbs:List (Nm×Nm))(hok:eU D root sbs)(hx:aU P st rs=Z xs)(h:R root ((iY xs).tr (zH D sbs)) (vW D sbs st.hp)):rm P D root rs R E .normal st:=⟨sbs,xs,hok,hx,h⟩
theorem yg{t n:Nat}(hx:aU P st rs=Z [.hs (.s t) z 0 n])(hn:st.hp (.s t)=Z (.row z rows))(hc:∀f:Nm->Option Nm,rows.map (λr=>r.map (AV.tr f))=rows):
  rm P zl root rs (λr y H'=>y=.hs r z 0 n/\H' r=Z (.row z rows)) E .ret st:=by
 refine qE [(.s t,root)] (.one rfl) hx ⟨?_,?_⟩
 .simp [iY,AV.tr,zH,Nm.under,Nm.qy]
 .have:Nm.qy root (.s t) root=.s t:=by cases root<;>simp[Nm.qy]
  simp_all[vW,zl,rj,Nm.uQ,zH,Nm.qy,AO.tr]
end
end Go.Hm
end
