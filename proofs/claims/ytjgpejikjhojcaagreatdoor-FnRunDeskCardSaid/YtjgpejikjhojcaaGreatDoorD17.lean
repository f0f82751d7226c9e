import Derived.Test.YtjgpejikjhojcaaGreatDoorD16
import Derived.Lib.AppendIntMem
import Derived.Lib.LaidTab
set_option linter.all false
set_option maxRecDepth 100000
set_option maxHeartbeats 4000000
open Option renaming some->Z,none->Y
open Bool renaming true->B,false->M
open List renaming length->O

section
namespace Go.Hm
open Go Go.RowKit
variable{K1 K2:St->Prop}{L M':List qT}{LV:List Nat}{Q:Exit->Go.Act->World->Prop}{a b:Go.Act}{ds:List (Option Nat)}{i:Nat}{l:List Oper}{o:Oper}{p:qC}{w:World}{x:qT}
def vh(X:Ctx)(ops:List Oper)(ds:List (Option Nat))(E0:AV->Prop)(K:St->Prop):qV->St->Prop
 |.done,st=>K st
 |.q i r,st=>match ops[i]? with|some o=>QG X ds o (vh X ops ds E0 K r) st|none=>False
 |.l i ps r,st=>match ops[i]? with|some o=>uB X ds o (λs=>uw X ops ds ps s/\vh X ops ds E0 K r s) (λx _=>E0 x) st|none=>False
 |.l2 i ps r j qs s,st=>(match ops[i]? with|some o=>uB X ds o (λs=>uw X ops ds ps s/\vh X ops ds E0 K r s) (λx _=>E0 x) st|none=>False) /\
  (match ops[j]? with|some o=>uB X ds o (λs'=>uw X ops ds qs s'/\vh X ops ds E0 K s s') (λx _=>E0 x) st|none=>False)
 |.l3 i ps r j qs s k us t,st=>(match ops[i]? with|some o=>uB X ds o (λs=>uw X ops ds ps s/\vh X ops ds E0 K r s) (λx _=>E0 x) st|none=>False) /\
  (match ops[j]? with|some o=>uB X ds o (λs'=>uw X ops ds qs s'/\vh X ops ds E0 K s s') (λx _=>E0 x) st|none=>False) /\
  (match ops[k]? with|some o=>uB X ds o (λs'=>uw X ops ds us s'/\vh X ops ds E0 K t s') (λx _=>E0 x) st|none=>False)
section
variable{X:Ctx}{ops:Array Oper}{st:St}{K:St->Prop}{E0:AV->Prop}
def QE(X:Ctx)(E0:AV->Prop):Exit->Go.Act->World->Prop:=λe b w'=>∃v x st',e=.panic [{v:=v,recovered:=M}]/\gW X st' b w' v x/\E0 x
def gW.dG{v:Value}{x:AV}(h:gW X st b w v x)(hd:a.defers=b.defers)(hs:a.tmps.size=b.tmps.size):gW X {st with tm:=λ_=>.bot} a w v x:=by
 obtain⟨C,g,h1,h2,h3,h4,h5,⟨i,d,s,sl,gl⟩,hv⟩:=h;exact⟨C,g,h1,h2,h3,h4,h5,⟨i,hd.trans d,hs.trans s,λt=>.bot _,gl⟩,hv⟩
theorem qDe{P:Program}{K1 K2:Go.Act->World->Prop}{r:Result Next}(hdef:a.defers=b.defers)
  (hK:∀v D w',K1 (Go.Act.put {b with defers:=D} o.dst v) w'->K2 (Go.Act.put {a with defers:=D} o.dst v) w')(hQ:∀e w',QE X E0 e b w'->Q e a w')(h:o.upon P b K1 (QE X E0) r):o.upon P a K2 Q r:=by
 have hb:({b with defers:=b.defers}:Go.Act)=b:=rfl;have ha:({a with defers:=b.defers}:Go.Act)=a:=by rw[<- hdef]
 have hv:∀v w',K1 (b.put o.dst v) w'->K2 (a.put o.dst v) w':=λv w' h=>by
  simp_all
 cases r with
 |ok n w'=>
  cases n with
  |value v=>exact hv v w' h
  |skip=>exact hv undef w' h
  |defer d=>
   have h:K1 (Go.Act.put {b with defers:=d::b.defers} o.dst undef) w':=h
   show K2 (Go.Act.put {a with defers:=d::a.defers} o.dst undef) w'
   simp_all
  |enter f args=>
   refine Calls.mono h λe w'' he=>?_
   cases e with
   |returned v=>simp_all
   |panicked ch=>simp_all
   |outgrown=>obtain⟨_,_,_,_,_,h,_⟩:=he;cases h
  |row row args=>exact Rows.mono h λv w'' he=>hv v w'' he
  |_=>exact h.elim
 |halt x w'=>
  cases x with
  |panic v=>exact hQ _ _ h
  |_=>exact h.elim
theorem Ja(hw:ny ops):∀(sch:qV){LV:List Nat}{listed:Array Bool}{st:St}{a b:Go.Act}{w:World},yC ops sch LV=B->vh X ops.toList (ops.toList.map (·.dst)) E0 K sch st->DI X ops LV listed st a b w ->
  ∃sch' LV' st' b',(∀i r,sch'≠.q i r)/\yC ops sch' LV'=B/\vh X ops.toList (ops.toList.map (·.dst)) E0 K sch' st'/\DI X ops LV' listed st' a b' w:=by
 intro sch
 induction sch with
 |done=>grind
 |l i ps r _=>grind
 |l2 i ps r j qs s _ _=>grind
 |l3 i ps r j qs s k us t _ _ _=>grind
 |q i r ih=>
  intro LV listed st a b w h1 h2 h3;simp only[yC,yF,decide_eq_true_eq]at h1;obtain⟨⟨⟨hlt,hq⟩,hr⟩,hok⟩:=h1;simp only[Bh,yF,bl]at hr;obtain⟨hni,hpr⟩:=hr;have hni:i∉LV:=λhm=>qQ;have hpr:∀j∈v8 ops i,j∈LV:=λj hj=>bz.1 (yn.1 hpr j hj);have ho:ops[i]?=Z ops[i]:=mI hlt;simp only[vh,bm,ho]at h2;obtain⟨d,v,st',hd,hK,hR',hP⟩:=Hx hw ho hq (λhm=>hni (hpr i hm)) h3.rw h2;have hdi:uc ops i=Z d:=rL
  have hnl:listed.getD i B=M:=by
   cases e:listed.getD i B with
   |false=>rfl
   |true=>exact absurd (h3.sub i hlt e) hni
  refine ih (LV:=i::LV) (listed:=listed) (st:=st') (a:=a) (b:=b.put (Z d) v) (w:=w) hok hK ⟨hR',h3.len,λk hk e=>cY _ (h3.sub k hk e),h3.closed,?_,?_,⟨hni,hlt,hpr,h3.ord⟩⟩
  .intro q hqc e;rcases vV.1 hqc with rfl|hqm
   .simp_all
   .obtain⟨x1,x2⟩:=h3.wW q hqm e;have hqlt:=h3.ord.lt q hqm;refine⟨x1,x2.put hw d v (λo' ho' hm=>?_) (λe'=>?_)⟩
    .have:=hw.look q o' d i ho' hm hlt hdi hq;exact hni (h3.ord.v8 q hqm i this)
    .obtain rfl:=hw.GW q i d hqlt hlt e' hdi
     simp_all
  .refine⟨h3.vN.defers,by simpa[Go.Act.put]using h3.vN.size,λt ht=>?_⟩;have htd:t≠d:=λe=>ht ⟨i,qB,hnl,by rw[hdi,e]⟩;simp only[Go.Act.put];rw[rB (λe=>htd e.symm)];exact h3.vN.tmps t (λ⟨q,x1,x2,x3⟩=>ht ⟨q,cY _ x1,x2,x3⟩)
theorem LU{sch:qV}{listed:Array Bool}(hK:∀a' w' st',Rw X st' a' w'->K st'->Q .normal a' w')(hD:DI X ops LV listed st a b w)
  (hnq:∀i r,sch≠.q i r)(hok:yC ops sch LV=B)(hr:vh X ops.toList (ops.toList.map (·.dst)) E0 K sch st)(hall:∀i,i<ops.size->listed.getD i B=B):Q .normal a w:=by
 have hin:∀i,i<ops.size->i∈LV:=λi hi=>hD.sub i hi (hall i hi)
 have no:∀i,i∉iX ops LV:=λi hm=>by
  grind[xc]
 have hab:a=b:=by
  obtain⟨t1,d1⟩:=a;obtain⟨t2,d2⟩:=b;have hd:d1=d2:=hD.vN.defers
  have ht:t1=t2:=by
   apply Array.ext_getElem?;intro t;exact hD.vN.tmps t (λ⟨q,x1,x2,_⟩=>KZ)
  rw[hd,ht]
 cases sch with
 |done=>grind[DI.rw,vh]
 |q i r=>simp_all
 |l i ps r=>
  simp_all[yC]
 |l2 i ps r j qs s=>
  simp only[yC,yF,beq_iff_eq]at hok
  simp_all<;>grind
 |l3 i ps r j qs s k us t=>
  simp only[yC,yF,beq_iff_eq]at hok
  simp_all<;>grind
theorem xa{fuel:Nat}{ps:List Nat}{r:qV}{listed:Array Bool}(hw:ny ops)(ho:ops[i]?=Z o)(hq:aT ops i=M)(hD:DI X ops LV listed st a b w)
  (hni:i∉LV)(hlist:∀j∈v8 ops i,listed.getD j M=B)(hps:∀q∈l8 ops LV i,q∈ps)(hok:yC ops r (i::LV)=B)
  (h:uB X (ops.toList.map (·.dst)) o (λs=>uw X ops.toList (ops.toList.map (·.dst)) ps s/\vh X ops.toList (ops.toList.map (·.dst)) E0 K r s) (λx _=>E0 x) st)
  (hQ:∀a' v w' st' x,gW X st' a' w' v x->E0 x->Q (.panic [{v:=v,recovered:=M}]) a' w')(hun:ig ops listed<=fuel+1)
  (ih:∀(sch:qV)(LV:List Nat)(listed:Array Bool)(st:St)(a b:Go.Act)(w:World),DI X ops LV listed st a b w->yC ops sch LV=B->vh X ops.toList (ops.toList.map (·.dst)) E0 K sch st->ig ops listed<=fuel->wpAny X.P .any ops Q fuel listed a w):
  wpOp X.P ops Q i (wpAny X.P .any ops Q fuel (listed.setIfInBounds i B)) a w:=by
 have hlt:i<ops.size:=(oA.1 ho).1;have hlt':i<listed.size:=ti
 have lst:∀j∈v8 ops i,j<ops.size->listed.getD j B=B:=λj hj hjlt=>by
  grind
 have hlook:∀t∈o.looksAt ops,¬∃q∈LV,listed.getD q B=M/\uc ops q=Z t:=by
  rintro t ht ⟨q,x1,x2,x3⟩;have hqlt:=hD.ord.lt q x1;have:=hw.look i o t q ho ht hqlt x3 (hD.wW q x1 x2).1
  simp_all
 have hex:=hD.vN.exec (hw.xr i o · · ho) hlook;have hwt:=hD.vN.wanted hlook
 have hprd:∀j∈v8 ops i,j∈LV:=λj hj=>by
  have hjl:=hlist j hj
  have hjlt:j<ops.size:=by
   grind[DI.len]
  exact hD.sub j hjlt (lst j hj hjlt)
 have hni':listed.getD i B=M:=by
  cases e:listed.getD i B with
  |false=>rfl
  |true=>exact absurd (hD.sub i hlt e) hni
 -- what comes behind
 have next:∀(a' b':Go.Act)(w':World)(s:St),Rw X s b' w'->uw X ops.toList (ops.toList.map (·.dst)) ps s->vh X ops.toList (ops.toList.map (·.dst)) E0 K r s ->
   a8 (λt=>∃q∈LV,listed.getD q B=M/\uc ops q=Z t) a' b'->wpAny X.P .any ops Q fuel (listed.setIfInBounds i B) a' w':=by
  intro a' b' w' s hR hst hrun hag
  have un':∀q,(listed.setIfInBounds i B).getD q B=M->q≠i/\listed.getD q B=M:=by
   grind[aO]
  have lis':∀k,listed.getD k B=B->(listed.setIfInBounds i B).getD k B=B:=by
   grind
  have hord:dJ ops (i::LV):=⟨hni,hlt,hprd,hD.ord⟩
  obtain⟨b2,hR2,hP2,hag2⟩:=IC hw hR (listed:=listed.setIfInBounds i B) (i::LV) hord (λq hqm e=>by
   obtain⟨hne,eq⟩:=un' q e;have hqLV:q∈LV:=(vV.1 hqm).resolve_left hne;obtain⟨x1,o',d',x2,x3,x4,_⟩:=hD.wW q hqLV eq;have hqlt:=hD.ord.lt q hqLV;refine⟨x1,?_⟩
   have hqp:q∈l8 ops LV i:=by
    refine List.mem_filter.2 ⟨hqLV,?_⟩;simp only[x1,gj,bl,List.any_eq_false];intro l hl hc;simp only[yF,bl]at hc;obtain⟨hlq,hlp⟩:=hc;have hlp:=bz.1 hlp
    have hl1:∀q'∈v8 ops l,listed.getD q' M=B:=by
     rcases vV.1 hl with rfl|hl
     .exact hlist
     .exact hD.closed l (hD.ord.lt l hl) (by
       cases e':listed.getD l B with
       |true=>rfl
       |false=>rw[(hD.wW l hl e').1]at hlq;cases hlq)
    have this:listed.getD q M=B:=Ha (L:=λq=>listed.getD q M=B) (λq' h3=>by
     have hlt2:q'<ops.size:=by
      grind[DI.len]
     exact hD.closed q' hlt2 qx) _ _ hl1 q hlp
    grind
   obtain⟨o2,y1,y2⟩:=I1 hst q (hps q hqp);refine⟨o2,y1,y2,λd hd=>?_⟩;rw[x2]at y1;obtain rfl:=sI y1;rw[x3]at hd;obtain rfl:=sI hd;rw[<- hD.rw.size];exact x4)
  refine ih r (i::LV) (listed.setIfInBounds i B) s a' b2 w' ⟨hR2,ti,λk hk e=>?_,λk hk e j hj=>?_,λq hqm e=>?_,⟨?_,?_,λt ht=>?_⟩,hord⟩ hok hrun ?_
  .rw [aO hlt']at e
   split at e
   .simp_all
   .exact cY _ (hD.sub k hk e)
  .have:listed.getD j M=B:=by
    rw[aO hlt']at e
    split at e
    .simp_all
    .exact hD.closed k hk e j hj
   grind
  .obtain⟨hne,e'⟩:=un' q e;have hqLV:q∈LV:=(vV.1 hqm).resolve_left hne;exact⟨(hD.wW q hqLV e').1,hP2 q hqm e⟩
  .rw [hag.defers,hag2.defers]
  .rw [hag.size,hag2.size]
  .rw [hag2.tmps t ht];refine hag.tmps t λ⟨q,x1,x2,x3⟩=>ht ⟨q,cY _ x1,?_,x3⟩
   grind[aO]
  .have:=AF hD.len hlt hni';omega
 -- the operation itself
 have hop:=h ops i rfl ho b w (QE X E0) hD.rw (λv w' st' x h1 h2=>⟨v,x,st',rfl,h1,h2⟩);have agr':∀v,a8 (λt=>∃q∈LV,listed.getD q B=M/\uc ops q=Z t) (a.put o.dst v) (b.put o.dst v):=λv=>hD.vN.put o.dst v (λt ht=>.inr ht);unfold wpOp at hop ⊢;simp only[ho]at hop ⊢;rw[hwt]
 split at hop
 .rename_i hwd;rw[if_pos hwd];rcases hop with hop|⟨_,_,_,_,_,_,hop,_⟩
  .left;unfold Oper.wp at hop ⊢;rw[hex];refine qDe hD.vN.defers ?_ ?_ hop
   case refine_2=>
    rintro e w' ⟨v,x,st',rfl,h1,h2⟩;exact hQ a v w' _ x (h1.dG hD.vN.defers hD.vN.size) h2
   rintro v D w' ⟨s,hR,hst,hrun⟩;refine next _ _ w' s hR hst hrun ?_;have:a8 (λt=>∃q∈LV,listed.getD q B=M/\uc ops q=Z t) {a with defers:=D} {b with defers:=D}:=⟨rfl,hD.vN.size,hD.vN.tmps⟩;exact this.put o.dst v (λt ht=>.inr ht)
  grind
 grind
theorem po.XB(sch:qV)(hwf:sP ops=B)(hok:yC ops sch []=B)(h:vh X ops.toList (ops.toList.map (·.dst)) E0 K sch st):po X ops K (λx _=>E0 x) st:=by
 have hw:=Pp hwf;intro a w Q hR hK hQ
 have main:∀(fuel:Nat)(sch:qV)(LV:List Nat)(listed:Array Bool)(st:St)(a b:Go.Act)(w:World),DI X ops LV listed st a b w->yC ops sch LV=B->vh X ops.toList (ops.toList.map (·.dst)) E0 K sch st->ig ops listed<=fuel ->
   wpAny X.P .any ops Q fuel listed a w:=by
  intro fuel
  induction fuel with
  |zero=>
   intro sch0 LV0 listed w4 a b0 w hD0 hok0 hr0 hun;obtain⟨sch,LV,st,b,hnq,hok,hr,hD⟩:=Ja hw sch0 hok0 hr0 hD0
   have hall:∀i,i<ops.size->listed.getD i B=B:=by
    intro i hi
    cases e:listed.getD i B with
    |true=>rfl
    |false=>
     have:=AF hD.len hi e;omega
   refine⟨?_,LU hK hD hnq hok hr hall⟩;apply CV.2
   grind[pH]
  |succ fuel ih=>
   intro sch0 LV0 listed w4 a b0 w hD0 hok0 hr0 hun;obtain⟨sch,LV,st,b,hnq,hok,hr,hD⟩:=Ja hw sch0 hok0 hr0 hD0;refine⟨λhnone=>LU hK hD hnq hok hr ?_,λi hi=>?_⟩
   · -- nothing is ready: all is done
    have tf:∀j,listed.getD j M=B↔(j<ops.size/\listed.getD j B=B):=by
     grind[DI.len]
    have hLV:∀q∈LV,listed.getD q B=B:=by
     intro q hq
     cases e:listed.getD q B with
     |true=>rfl
     |false=>
      obtain⟨q',h1,h2,h3⟩:=GO LV hD.ord ⟨q,hq,e⟩;have:q'∈Region.ready .any ops listed:=pH.2 ⟨h2,hD.ord.lt q' h1,λj hj=>(tf j).2 ⟨hD.ord.lt j (hD.ord.v8 q' h1 j hj),h3 j hj⟩⟩
      simp_all
    have no:∀i,i∉iX ops LV:=λi hm=>by
     obtain⟨h1,h2,h3⟩:=xc.1 hm
     have hnl:listed.getD i B=M:=by
      cases e:listed.getD i B with
      |false=>rfl
      |true=>exact absurd (hD.sub i h1 e) h2
     have:i∈Region.ready .any ops listed:=pH.2 ⟨hnl,h1,λj hj=>(tf j).2 ⟨hD.ord.lt j (h3 j hj),hLV j (h3 j hj)⟩⟩
     simp_all
    cases sch with
    |done=>grind[Dv]
    |q i r=>simp_all
    |l i ps r=>
     simp_all[yC]
    |l2 i ps r j qs s=>
     simp only[yC,yF,beq_iff_eq]at hok
     simp_all<;>grind
    |l3 i ps r j qs s k us t=>
     simp only[yC,yF,beq_iff_eq]at hok
     simp_all<;>grind
   .obtain⟨h0,hlt,hlist⟩:=pH.1 hi;have ho:ops[i]?=Z ops[i]:=mI hlt;by_cases hin:i∈LV
    · -- a quiet one that is pending
     obtain⟨hq,o,d,ho',hd,hdlt,hP⟩:=hD.wW i hin h0;rw[ho]at ho';obtain rfl:=sI ho';have hdi:uc ops i=Z d:=rL;have hlt':i<listed.size:=qx
     have hlook:∀t∈ops[i].looksAt ops,¬∃q∈LV,listed.getD q B=M/\uc ops q=Z t:=by
      rintro t ht ⟨q,x1,x2,x3⟩;have hqlt:=hD.ord.lt q x1;have hqp:=hw.look i _ t q ho ht hqlt x3 (hD.wW q x1 x2).1
      grind
     have hex:=hD.vN.exec (hw.xr i _ · · ho) hlook;have hwt:=hD.vN.wanted hlook
     have nx:wpAny X.P .any ops Q fuel (listed.setIfInBounds i B) (a.put (Z d) (b.tmps.getD d undef)) w:=by
      refine ih sch LV _ st _ b w ⟨hD.rw,ti,λk hk e=>?_,λk hk e j hj=>?_,λq hqm e=>?_,⟨hD.vN.defers,by simpa[Go.Act.put]using hD.vN.size,λt ht=>?_⟩,hD.ord⟩ hok hr ?_
      .rw [aO hlt']at e
       split at e
       .simp_all
       .exact hD.sub k hk e
      .have hjl:listed.getD j M=B:=by
        rw[aO hlt']at e
        split at e
        .simp_all
        .exact hD.closed k hk e j hj
       grind[aO]
      .rw [aO hlt']at e
       split at e
       .cases e
       .exact hD.wW q hqm e
      .simp only[Go.Act.put];by_cases htd:d=t
       .subst htd;rw[Array.getElem?_setIfInBounds_self_of_lt (by rw[hD.vN.size];exact hdlt),mI hdlt]
        simp_all
       .rw [rB htd];refine hD.vN.tmps t λ⟨q,x1,x2,x3⟩=>ht ⟨q,x1,?_,x3⟩
        grind[aO]
      .have:=AF hD.len hlt h0;omega
     grind[wpOp,Oper.wp,Oper.upon_value]
    · -- one that is not quiet
     have hprd:∀j∈v8 ops i,j∈LV:=λj hj=>by
      have hjl:=hlist j hj
      have hjlt:j<ops.size:=by
       grind[DI.len]
      exact hD.sub j hjlt qx
     have hrd:i∈iX ops LV:=xc.2 ⟨hlt,hin,hprd⟩
     cases sch with
     |done=>grind[Dv]
     |q i r=>simp_all
     |l i1 ps r=>
      simp only[yC,yF,beq_iff_eq,bl]at hok;obtain⟨⟨⟨k1,k2⟩,k3⟩,k4⟩:=hok;rw[k1]at hrd;obtain rfl:=vG.1 hrd;simp only[vh,bm,ho]at hr;exact xa hw ho k2 hD hin hlist (λq hq=>bz.1 (yn.1 k3 q hq)) k4 hr hQ hun ih
     |l2 i1 ps r j1 qs s=>
      simp only[yC,yF,beq_iff_eq,bl]at hok;obtain⟨⟨⟨⟨⟨⟨k1,k2⟩,k3⟩,k4⟩,k5⟩,k6⟩,k7⟩:=hok;rw[k1]at hrd;simp only[vh,bm]at hr;rcases vV.1 hrd with rfl|hrd
      .have hr1:=hr.1;simp only[ho]at hr1;exact xa hw ho k2 hD hin hlist (λq hq=>bz.1 (yn.1 k4 q hq)) k6 hr1 hQ hun ih
      .obtain rfl:=vG.1 hrd;have hr2:=hr.2;simp only[ho]at hr2;exact xa hw ho k3 hD hin hlist (λq hq=>bz.1 (yn.1 k5 q hq)) k7 hr2 hQ hun ih
     |l3 i1 ps r j1 qs s m1 us t=>
      simp only[yC,yF,beq_iff_eq,bl]at hok;obtain⟨⟨⟨⟨⟨⟨⟨⟨⟨k1,k2⟩,k3⟩,k4⟩,k5⟩,k6⟩,k7⟩,k8⟩,k9⟩,k10⟩:=hok;rw[k1]at hrd;simp only[vh,bm]at hr;rcases vV.1 hrd with rfl|hrd
      .have hr1:=hr.1;simp only[ho]at hr1;exact xa hw ho k2 hD hin hlist (λq hq=>bz.1 (yn.1 k5 q hq)) k8 hr1 hQ hun ih
      .rcases vV.1 hrd with rfl|hrd
       .have hr2:=hr.2.1;simp only[ho]at hr2;exact xa hw ho k3 hD hin hlist (λq hq=>bz.1 (yn.1 k6 q hq)) k9 hr2 hQ hun ih
       .obtain rfl:=vG.1 hrd;have hr3:=hr.2.2;simp only[ho]at hr3;exact xa hw ho k4 hD hin hlist (λq hq=>bz.1 (yn.1 k7 q hq)) k10 hr3 hQ hun ih
 refine main ops.size sch [] (Array.replicate ops.size M) st a a w ⟨hR,qB,?_,?_,qB,⟨rfl,rfl,λ_ _=>rfl⟩,trivial⟩ hok h ?_
 .simp_all
 .simp_all
 grind[ig]
def uB.xe{E1 E2:AV->St->Prop}(h:uB X ds o K1 E1 st)(hK:∀s,K1 s->K2 s)(hE:∀x s,E1 x s->E2 x s):uB X ds o K2 E2 st:=
 λops i h1 h2 a w Q hR hQ=>wpOp_mono (λa' w' he=>qx) (h ops i h1 h2 a w Q hR λv w' st' x h5 h6=>hQ v w' st' x h5 (hE x st' h6))
theorem QG.mono(h:QG X ds o K1 st)(hK:∀s,K1 s->K2 s):QG X ds o K2 st:=by
 grind[CR,QG]
theorem RL:∀{sch:qV}{st:St},zn X l ds K sch st->vh X l ds E0 K sch st:=by
 intro sch
 induction sch with
 |done=>exact λh=>h
 |q i r ih=>
  grind[zn,vh,QG.mono]
 |l i ps r ih=>
  intro st h;unfold zn at h;unfold vh
  cases ho:l[i]? with
  |none=>simp_all
  |some o=>rw[ho]at h;exact uB.xe h (λs hs=>⟨hs.1,ih hs.2⟩) λ_ _ h=>h.elim
 |l2 i ps r j qs s ih1 ih2=>
  intro st h;unfold zn at h;unfold vh;refine⟨?_,?_⟩
  .have h:=h.1
   cases ho:l[i]? with
   |none=>simp_all
   |some o=>rw[ho]at h;exact uB.xe h (λs hs=>⟨hs.1,ih1 hs.2⟩) λ_ _ h=>h.elim
  .have h:=h.2
   cases ho:l[j]? with
   |none=>simp_all
   |some o=>rw[ho]at h;exact uB.xe h (λs hs=>⟨hs.1,ih2 hs.2⟩) λ_ _ h=>h.elim
 |l3 i ps r j qs s k us t ih1 ih2 ih3=>
  intro st h;unfold zn at h;unfold vh;refine⟨?_,?_,?_⟩
  .have h:=h.1
   cases ho:l[i]? with
   |none=>simp_all
   |some o=>rw[ho]at h;exact uB.xe h (λs hs=>⟨hs.1,ih1 hs.2⟩) λ_ _ h=>h.elim
  .have h:=h.2.1
   cases ho:l[j]? with
   |none=>simp_all
   |some o=>rw[ho]at h;exact uB.xe h (λs hs=>⟨hs.1,ih2 hs.2⟩) λ_ _ h=>h.elim
  .have h:=h.2.2
   cases ho:l[k]? with
   |none=>simp_all
   |some o=>rw[ho]at h;exact uB.xe h (λs hs=>⟨hs.1,ih3 hs.2⟩) λ_ _ h=>h.elim
def qDx{id:Nat}{Q:Ex->St->Prop}(E0:AV->Prop)(hE:∀x s,E0 x->Q (.b9 x) s)(sch:qV)(hm:X.P.follows .mixedOrders=B)(hwf:sP l.toArray=B)(hok:yC l.toArray sch []=B)
  (h:∀K:St->Prop,(∀s,Q .normal s->K s)->vh X l (l.map (·.dst)) E0 K sch st):jJ X (.region id l.toArray B) Q st:=
 Ph hm λK hK a w Q' hR hK' hE'=>po.XB sch hwf hok (h K hK) a w Q' hR hK' λa' v w' st' x h1 h2=>hE' a' v w' st' x h1 (hE x st' h2)
section
variable{l:List Oper}{ds:List (Option Nat)}{i d:Nat}{r:qV}{op:Op}{ty:TypeId}{pos:String}{aft:Array Edge}{z:AV}{ps:List Nat}
def pr(ho:l[i]?=Z ⟨Z d,op,ty,pos,aft,Y⟩:=by rfl)(hd:d<X.n:=by first|(simp;done)|fail)(hz:vA X.P st ⟨Z d,op,ty,pos,aft,Y⟩=Z z:=by simp[fx];first|done|rfl|exact(vt _).symm)(h:vh X l ds E0 K r (st.put (Z d) z)):vh X l ds E0 K (.q i r) st:=by
 unfold vh;rw[ho];exact .inl ⟨rfl,d,z,rfl,hd,hz,h⟩
theorem Qv(ho:l[i]?=Z ⟨Z d,op,ty,pos,aft,Y⟩:=by rfl)(h:qe X ⟨Z d,op,ty,pos,aft,Y⟩ (λs=>uw X l ds ps s/\vh X l ds E0 K r s) (λx _=>E0 x) st):vh X l ds E0 K (.l i ps r) st:=by
 grind[vh,Le]
end
end
section
variable{P:Program}{C:Nat->Prop}{w:World}{g0:Gh}{H:Nm->Option AO}{n:Nat}{gl:Nat->Option (List AV)}{st:St}{K:St->Prop}{E:AV->St->Prop}{d f:Nat}{ty:TypeId}{ps:String}{aft:Array Edge}{gd:Option (Nat×Bool)}{a0 a1:Operand}{Ts:Array TypeId}{bs:List Int}{xs:List qZ}{pos:Nat}
def JU(P:Program)(gl:Nat->Option (List AV))(f:FuncId):Prop:=∀(H:Nm->Option AO)(bs:List Int)(pos:Nat)(xs:List qZ),ab bs->pos<=1000000->(0<O xs/\O xs<=1000)->H (.u 1 0 0)=Z (jT bs pos)->H (.u 2 0 0)=Z (.row 1 (uJ xs)) ->
  qX P gl f zP [.pt (.u 1 0 0) 0,.hs (.u 2 0 0) 1 0 (O xs)] H (λ_ z H'=>∃v,z=tx v/\v∈xs/\H' (.u 1 0 0)=Z (jT bs (pos+1))) qw
theorem Eh{t0 t1:Nat}(hF:JU P gl f)(a:Nat)(xs:List qZ)(hb:ab bs)(hpos:pos<=1000000)(hx:0<O xs/\O xs<=1000:=by first|(simp;done)|fail)(hV:H (.u 2 0 0)=Y)(hd:d<n:=by first|(simp;done)|fail)
  (h0:st.tm t0=.pt (.u 1 0 0) 0)(h1:st.tm t1=.hs (.s a) 1 0 (O xs))(hH:st.hp (.u 1 0 0)=Z (jT bs pos))(hL:st.hp (.s a)=Z (.row 1 (uJ xs)))
  (h:∀v,v∈xs->K ((st.nK a d (jT bs (pos+1))).put (Z d) (tx v))):
  qe (jt P C w g0 H n gl) ⟨Z d,.call ⟨.value (.func f),#[.tmp t0,.tmp t1],Ts⟩,ty,ps,aft,gd⟩ K E st:=by
 have e1:(st.move (.s a) (.u 2 0 0)).hp (.u 1 0 0)=Z (jT bs pos):=zo;have e2:(st.move (.s a) (.u 2 0 0)).hp (.u 2 0 0)=Z (.row 1 (uJ xs)):=ed;have hc:=ON (a:=a) (d:=d) (Hs:=zU zP (st.move (.s a) (.u 2 0 0)).hp) zo ed;refine kU (.s a) (.u 2 0 0) (.inl rfl) (.inr td) ?_;refine qe.pT (K':=λs=>∃v H1,v∈xs/\H1 (.u 1 0 0)=Z (jT bs (pos+1))/\s=(((st.move (.s a) (.u 2 0 0)).call d zP (zU zP (st.move (.s a) (.u 2 0 0)).hp) H1).put (Z d) (tx v))) ?_ ?_
 .refine nT (az:=[.pt (.u 1 0 0) 0,.hs (.u 2 0 0) 1 0 (O xs)]) zP (λn h=>vF h) (λk i j he=>?_) hd ?_ (hF _ bs pos xs hb hpos hx zo ed) ?_
  .simp_all<;>grind
  .simp_all
  simp_all<;>grind
 .rintro s ⟨v,H1,hv,hH1,rfl⟩;refine⟨((st.nK a d (jT bs (pos+1))).put (Z d) (tx v)).hp,λm ob e=>?_,?_⟩
  .simp only[Hb,OH]at e
   split at e<;>simp_all[AO.ui]
  .have ht:(((st.move (.s a) (.u 2 0 0)).call d zP (zU zP (st.move (.s a) (.u 2 0 0)).hp) H1).put (Z d) (tx v)).tm=((st.nK a d (jT bs (pos+1))).put (Z d) (tx v)).tm:=by
    simp_all[St.put,AV.ui]
   rw[ht];exact h v hv
end
theorem w6{k t a b:Int}(hk:0<=k/\k<=11:=by omega)(ht:0<=t/\t<=99:=by omega)(ha:0<=a/\a<=99:=by omega)(hb:(0<=b/\b<=99)\/(k=5/\b=-1):=by omega)
  (hto:k=7\/k=8->t=0/\b=0:=by omega)(hb0:k=0\/k=1\/k=3\/k=4->b=0:=by omega)(ha0:9<=k->a=0/\b=0:=by omega):vb ⟨k,t,a,b⟩:=by
 refine⟨hk,?_,hto,hb0,ha0⟩;intro n hn
 grind[em]
def I4(h:vb x):∀s∈[x],vb s:=qQ
def PQ{y:qT}(h:vb x)(h2:vb y):∀s∈[x,y],vb s:=qQ
theorem I5(h:∀s∈L,vb s)(h2:∀s∈M',vb s):∀s∈L++M',vb s:=λs hs=>by
 grind
def CF(h:∀s∈L,vb s)(h2:vb x):∀s∈L++[x],vb s:=I5 h (I4 h2)
def I6{a:Nat}(h:∀s∈L,vb s)(h2:∀s∈M',vb s):∀s∈L.take a++M'++L.drop a,vb s:=
 I5 (I5 (λs hs=>h s (mH hs)) h2) λs hs=>h s (List.mem_of_mem_drop hs)
def AJ(k:qY):Prop:=(∀s∈k.body,vb s)/\cV k.params/\(¬k.kind=1->k.params=[])
structure wg(p:qC):Prop extends GenP p where
 bg:gY p
 EA:∀k∈p,O k.params<=1
 Dk:O p<=7
def wg.Pd(h:wg p):iu p:=⟨h.bg,h.Dk,h.EA,λk hk=>by have:=h.body k hk;omega⟩
theorem wg.one{k:qY}(h:k.parent=-1)(hk:k.kind=0)(hp:O k.params<=1)(hb:O k.body<=14)(hT:AJ k):wg [k]:=by
 refine⟨GenP.one h qA hb,⟨⟨k.body,[],?_⟩,λi q hq hi=>?_,λq hq=>?_⟩,qQ,qB⟩
 .have:=hT.2.2 qA;obtain⟨a,b,c,d⟩:=k
  simp_all
 .grind
 grind[AJ]
theorem wg.add{p:qC}{k:qY}(h:wg p)(hl:O p<=6)(hp:0<=k.parent/\k.parent<O p)(hk:k.kind=1\/k.kind=2)(h1:O k.params<=1)(h2:O k.body<=14)(hT:AJ k):wg (p++[k]):=by
 refine⟨GenP.add h.toGenP qA hp qA h2,⟨?_,λi q hq hi=>?_,λq hq=>?_⟩,λq hq=>?_,qp⟩
 .obtain⟨b,ks,e⟩:=h.bg.head
  simp_all
 .rw [iw]at hq
  split at hq
  .exact h.bg.jK i q hq hi
  .have:q=k:=by
    grind
   subst this;exact⟨hk,qA,hT.2.1,λe=>hT.2.2 qA⟩
 .rcases yI.1 hq with hq|hq
  .exact h.bg.eM q hq
  grind[AJ]
 .rcases yI.1 hq with hq|hq
  .exact h.EA q hq
  simp_all
theorem qBR{c:Nat}{q:qY}(h:(setBody p i L)[c]?=Z q):∃r,p[c]?=Z r/\q.kind=r.kind/\q.parent=r.parent/\q.params=r.params/\(q.body=r.body\/q.body=L):=by
 grind[setBody]
theorem Pe{q:qC}(h:gY p)(hl:O q=O p)(hs:∀(c:Nat)k,q[c]?=Z k->∃r,p[c]?=Z r/\k.kind=r.kind/\k.parent=r.parent/\k.params=r.params/\∀s∈k.body,vb s):gY q:=by
 obtain⟨b,ks,e⟩:=h.head;have hne:0<O q:=qQ;refine⟨?_,λi k hk hi=>?_,λk hk=>?_⟩
 .obtain⟨k,qs,rfl⟩:∃k qs,q=k::qs:=by cases q<;>grind
  obtain⟨r,hr,e1,e2,e3,_⟩:=hs 0 k rfl;rw[e]at hr;obtain rfl:=sI hr;obtain⟨a,b,c,d⟩:=k
  simp_all
 .obtain⟨r,hr,e1,e2,e3,_⟩:=hs i k hk;obtain⟨h1,h2,h3,h4⟩:=h.jK i r hr hi;constructor<;>grind
 grind[ko]
theorem wg.setBody{p:qC}{i:Nat}{L:List qT}(h:wg p)(hL:O L<=14)(hT:∀s∈L,vb s):wg (setBody p i L):=by
 refine⟨GenP.setBody h.toGenP hL,Pe h.bg sG λc k hk=>?_,λk hk=>?_,by simp_all[Dk]⟩
 .obtain⟨r,hr,e1,e2,e3,e4⟩:=qBR hk;refine⟨r,hr,e1,e2,e3,?_⟩;rcases e4 with e|e<;>rw[e]
  .exact h.bg.eM r (gM hr)
  .exact hT
 .obtain⟨r,hr,h1,_⟩:=Bs hk;rw[h1];exact h.EA r hr
theorem wg.bare{p:qC}(h:wg p):wg (dQ p):=by
 refine⟨GenP.bare h.toGenP,Pe h.bg (by simp[dQ]) λc k hk=>?_,λk hk=>?_,by grind[dQ,Dk]⟩
 .simp only[dQ,j3]at hk;obtain⟨r,hr,rfl⟩:=zq.1 hk;exact⟨r,hr,rfl,rfl,rfl,λs hs=>h.bg.eM r (gM hr) s (List.mem_filter.1 hs).1⟩
 .obtain⟨r,hr,rfl⟩:=wi.1 hk;exact h.EA r hr
end Go.Hm
end
section
namespace Go.Hm
open Go Go.RowKit Go.Proofs Go.Shelf Go.Sort
section
variable{P:Program}{ρ:Ren}
abbrev iT:List Value:=Lib.pow10Tab.map λz=>.int .u64 z
theorem Uq(L:LaysM.n171 P ρ)(gl:Nat->Option (List AV))(hg:gl (ρ.g 17)=Z (iT.map .sc))(n:Int)(h0:-1000000<=n)(h1:n<=1000000):qL P gl (ρ.f 171) [iv n] (λ_ y _=>y=tx (vL n)):=by
 refine⟨⟨_,L.f171,qc,qc⟩,λroot C w g args _ _ _ hinv hgl hsz hargs=>?_⟩
 have ha:args=#[.int .i64 n]:=by
  rw[RK (vs:=[.int .i64 n]) hsz hargs]
 subst ha
 have htab:Lib.TabIs P w "internal/strconv.uint64pow10" .u64 Lib.pow10Tab:=by
  obtain⟨T,b,hb⟩:=(hgl _ _ hg).1.2 Lib.pow10Tab (by simp[Lib.pow10Tab]) (by simp[iT])
  grind[Lib.TabIs,World.var?,LaysM.n171.m17]
 refine(Any.strconv_Itoa L n qA qA w htab).mono λe w' he=>?_;obtain⟨rfl,k,os,rfl⟩:=he;have hb:Below w.heap.size w (grow (w.drewN k) os):=Lib.below_grow _ _ (qb _) _ _
 refine⟨C,g,y6,tx (vL n),⟨λ_ h=>h,λ_ h=>.inl h,⟨hb.os,hb.tape,hb.output,hb.size,λb hl _=>hb.block b hl,hinv.hC,λb hb'=>um (hinv.ur b hb') hb.size,λ_ _ e=>vi,λ_ _ _ e=>vi,λ_ _ _ _ _ e=>vi⟩,
  λ_ e=>absurd rfl e,λ_ _ _=>⟨rfl,rfl⟩,λ_ _ _ _=>⟨rfl,rfl⟩⟩,?_,rfl⟩
 rw[<- Wg];exact .sc _
end
end Go.Hm
end
section
namespace Go.Hm
open Go Go.RowKit
theorem KF{hp:Nm->Option AO}{n:Nm}{p:qC}{b:Bool}(h:uz hp n p):Bw hp zl (.zT [.agg [.hs n 4 0 (O p)],bv b]) (.zT [jB p,bv b]):=by
 refine .zT _ _ rfl λj a a' h1 h2=>?_
 match j,h1,h2 with
 |0,h1,h2=>
  grind[lF,lG]
 |1,h1,h2=>
  obtain rfl:=sI h1;obtain rfl:=sI h2;exact .refl _
 |j+2,h1,h2=>simp at h1
end Go.Hm
end
section
namespace Go.Hm
open Go Go.RowKit Go.ChangeShapes Go.WideShapes Go.Deep
variable{g:Nat}
theorem TH{W:World}{vs:List Value}{T:TypeId}{b:Bool}(h:∃T b,W.heap[g]?=Z (.cells vs.toArray T b)):dI W g (vs.map .sc):=by
 intro zs _ e
 have e2:vs=zs.map λz=>Value.int .u64 z:=by
  have h1:vs.map AV.sc=(zs.map λz=>Value.int .u64 z).map AV.sc:=qQ
  grind[List.map_inj_right]
 simp_all
theorem OF{H:Type}{enc:TypeId×Value->H}{P:Program}{w:World}{base:Nat}{spare:Nat->Bool}{held:Bool}{m n:Nat}{t e:TypeId}{s:String}{cs:Array Value}{d:DataW H}{x:List MemPlace}
  (ht:P.underlying t=Z (.array n e))(he:P.underlying e=Z (.int .u64))(hce:P.cellsOf e=1)(hct:P.cellsOf t=n)(hg:P.globalNamed s=Z g)(hv:w.var? P s=Z cs)
  (h:DataW.trod enc P w base spare held m t cs.toList=Z (d,x))(hd:d=Lib.tabData .u64 Lib.pow10Tab):(∀i v,iT[i]?=Z v->w.cell? ⟨g,i,Y⟩=Z v)/\dI w g (iT.map .sc):=by
 subst hd;have hcs:=Lib.cells_of_tab ht he hce hct h
 have hca:cs=iT.toArray:=by
  grind
 subst hca;refine⟨λi v hi=>?_,?_⟩
 .rw [World.var?_cell hg hv i]
  simp_all
 .refine TH (T:=0) (b:=M) ?_
  grind[World.var?]
end Go.Hm
end
section
namespace Go.Hm
open Go Go.RowKit
variable{e:Int}
theorem IQ{l:List (Nm×Nat)}{st:St}{m:Nm}:(St.ki l st).hp m=match l.find? (λp=>decide (p.1=m))with
  |some p=>Z (.row p.2 [])
  |none=>st.hp m:=by
 induction l with
 |nil=>rfl
 |cons p l ih=>
  grind[qBT,St.zW]
section
variable{hp hp':Nm->Option AO}{p:qC}{n:Nm}{m m':qR}{dp dp':Nat}{fs L:List qO}{f g:qO}{o:Int×Int}{s:qr}
@[simp]theorem Pa:(m.top fs f).cells=m.cells:=rfl
@[simp]theorem qDW:(m.top fs f).globals=m.globals:=rfl
@[simp]theorem sN:(m.top fs f).qI=m.qI:=rfl
@[simp]theorem qDU:(m.top fs f).qU=m.qU:=rfl
@[simp]theorem qDX:(m.top fs f).made=m.made:=rfl
@[simp]theorem top_deep:(m.top fs f).deep=m.deep:=rfl
@[simp]theorem qDY:(m.top fs f).out=m.out:=rfl
@[simp]theorem top_trace:(m.top fs f).trace=m.trace:=rfl
@[simp]theorem top_en:(m.top fs f).en=m.en:=rfl
@[simp]theorem top_left:(m.top fs f).left=m.left:=rfl
@[simp]theorem qDV:(m.top fs f).qN=fs++[f]:=rfl
@[simp]theorem stop_cells:(m.stop fs f e).cells=m.cells:=rfl
@[simp]theorem stop_globals:(m.stop fs f e).globals=m.globals:=rfl
@[simp]theorem stop_funs:(m.stop fs f e).qI=m.qI:=rfl
@[simp]theorem stop_classes:(m.stop fs f e).qU=m.qU:=rfl
@[simp]theorem stop_made:(m.stop fs f e).made=m.made:=rfl
@[simp]theorem stop_deep:(m.stop fs f e).deep=m.deep:=rfl
@[simp]theorem stop_out:(m.stop fs f e).out=m.out:=rfl
@[simp]theorem stop_trace:(m.stop fs f e).trace=m.trace:=rfl
@[simp]theorem stop_left:(m.stop fs f e).left=m.left:=rfl
@[simp]theorem stop_en:(m.stop fs f e).en=e:=rfl
@[simp]theorem stop_frames:(m.stop fs f e).qN=fs++[f]:=rfl
theorem Tq{d:Nat}{v:q8}(hi:L[O fs]?=Z f):(jn (ju p (.u 2 0 0) L) (O fs) 6 [.hs (.s d) 2 0 (O f.stack+1)]).map (λr=>r.map (AV.tr (mv (.s d) (.c (.u 2 0 0) (O fs) 6))))=ju p (.u 2 0 0) (L.set (O fs) (f.push v)):=by
 have hl:=(gS hi).1;apply yp;intro j;simp only[jn,j3,it,lO,fL];by_cases e:O fs=j
 .simp_all[yv,qO.push,vv]
 .simp only[e,if_false]
  cases hj:L[j]? with
  |none=>rfl
  |some g=>
   have e':¬j=O fs:=λh=>e h.symm;simp[yv,e,e']
def qS.ux(h:qS hp p n m dp)(hm:m.qN=fs++[f]):∃(L:List qO)(j:List q8),(∃js,L=fs++f::js)/\L[O fs]?=Z f/\O fs<O L/\hp n=Z (.row 7 (ju p n L))/\hp (.c n (O fs) 3)=Z (.row 3 (zD f.qt))/\hp (.c n (O fs) 5)=Z (.row 3 (zD f.names))/\hp (.c n (O fs) 6)=Z (.row 2 (zm (f.stack++j))):=by
 obtain⟨js,hj⟩:=h.fr.top;have hf:m.qN[O fs]?=Z f:=dS;obtain⟨j,hs⟩:=h.fr.stack _ f hf;refine⟨m.qN++js,j,⟨js,dS⟩,dS,dS,hj,h.fr.qt _ f hf,h.fr.names _ f hf,hs⟩
theorem qS.uY(h:qS hp p n m dp)(hm:m.qN=fs++[f])(hL:∃js,L=fs++f::js)(hm':m'.qN=fs++[g])
  (h8:hp' n=Z (.row 7 (ju p n (L.set (O fs) g))))
  (h9:hp' (.c n (O fs) 3)=Z (.row 3 (zD g.qt)))
  (hA:hp' (.c n (O fs) 5)=Z (.row 3 (zD g.names)))
  (hB:∃j,hp' (.c n (O fs) 6)=Z (.row 2 (zm (g.stack++j))))
  (h0:hp' Xn=Z (.row 13 [zu p n m' dp']):=by simp[h.top,zu])
  (h1:hp' (.c Xn 0 1)=Z (.row 1 (cm mZ p)):=by simp[h.vI])
  (h2:hp' (.c Xn 0 2)=Z (.row 3 (zD m'.cells)):=by simp[h.cells])
  (h3:hp' (.c Xn 0 3)=Z (.row 3 (zD m'.globals)):=by simp[h.zM])
  (h4:hp' (.c Xn 0 4)=Z (.row 2 (cB m'.qI)):=by simp[h.qI])
  (h5:hp' (.c Xn 0 5)=Z (.row 1 (wn m'.qU)):=by simp[h.jG])
  (h6:hp' (.c Xn 0 9)=Z (.row 1 (qh m'.out)):=by simp[h.out])
  (h7:hp' (.c Xn 0 10)=Z (.row 2 (vR m'.trace)):=by simp[h.zt])
  (hC:∀(i:Nat)(f':qO),i<O fs->hp (.c n i 3)=Z (.row 3 (zD f'.qt))->hp' (.c n i 3)=Z (.row 3 (zD f'.qt)):=by intro i f' hi hf;simp[hf,sd hi,Nat.ne_of_gt hi])
  (hD:∀(i:Nat)(f':qO),i<O fs->hp (.c n i 5)=Z (.row 3 (zD f'.names))->hp' (.c n i 5)=Z (.row 3 (zD f'.names)):=by intro i f' hi hf;simp[hf,sd hi,Nat.ne_of_gt hi])
  (hE:∀(i:Nat)(f':qO)j,i<O fs->hp (.c n i 6)=Z (.row 2 (zm (f'.stack++j)))->hp' (.c n i 6)=Z (.row 2 (zm (f'.stack++j))):=by intro i f' j hi hf;simp[hf,sd hi,Nat.ne_of_gt hi]):qS hp' p n m' dp':=by
 obtain⟨js,rfl⟩:=hL;have hs:(fs++f::js).set (O fs) g=m'.qN++js:=qQ;rw[hs]at h8
 have key:∀(i:Nat)f',m'.qN[i]?=Z f'->(i=O fs/\f'=g)\/(i<O fs/\m.qN[i]?=Z f'):=by
  grind
 refine⟨h0,h1,h2,h3,h4,h5,h6,h7,⟨js,h8⟩,λi f' hf=>?_,λi f' hf=>?_,λi f' hf=>?_⟩
 .rcases key i f' hf with⟨rfl,rfl⟩|⟨hi,hf⟩
  .exact h9
  .exact hC i f' hi (h.fr.qt i f' hf)
 .rcases key i f' hf with⟨rfl,rfl⟩|⟨hi,hf⟩
  .exact hA
  .exact hD i f' hi (h.fr.names i f' hf)
 .rcases key i f' hf with⟨rfl,rfl⟩|⟨hi,hf⟩
  .exact hB
  .exact (h.fr.stack i f' hf).imp λj hj=>hE i f' j hi hj
def yV(n:Nm)(i:Nat)(o:Int×Int):Nm:=if o.1<=4 then .c n i 3 else if o.1<=7 then .c Xn 0 2 else if o.1<=10 then .c Xn 0 3 else .c n i 5
def uv(f:qO)(o:Int×Int):Nat:=if o.1<=4 then o.2.toNat else if o.1<=7 then f.cells.getD o.2.toNat 0 else o.2.toNat
def bC(m:qR)(f:qO)(o:Int×Int):List qr:=if o.1<=4 then f.qt else if o.1<=7 then m.cells else if o.1<=10 then m.globals else f.names
theorem UF:ka m f o=j7 (bC m f o) (uv f o):=by
 grind[ka,bC,uv]
def qS.Oo(h:qS hp p n (m.top fs f) dp):hp (yV n (O fs) o)=Z (.row 3 (zD (bC m f o))):=by
 have hf:(m.top fs f).qN[O fs]?=Z f:=qB;unfold yV bC
 repeat' split
 .exact h.fr.qt _ f hf
 .exact h.cells
 .exact h.zM
 .exact h.fr.names _ f hf
theorem qS.yE(h:qS hp p n (m.top fs f) dp)(hn:n=.u 2 0 0)(hh:∀k,zP k=B->hp' k=if k=yV n (O fs) o then Z (.row 3 (zD ((bC m f o).set (uv f o) s)))else hp k):qS hp' p n (Hm.yE m fs f o s) dp:=by
 subst hn;have hf:(m.top fs f).qN[O fs]?=Z f:=qB;have hX:∀j,zP (.c Xn 0 j)=B:=λj=>qB;have hF:∀i j,zP (.c (.u 2 0 0) i j)=B:=λi j=>qB;have h00:zP Xn=B:=qB;have h20:zP (.u 2 0 0)=B:=qB
 have fr:∀{g:qO}(js:List qO),g.qG=f.qG->g.pc=f.pc->g.cells=f.cells->O g.qt=O f.qt->g.stack=f.stack->ju p (.u 2 0 0) (fs++[g]++js)=ju p (.u 2 0 0) (fs++[f]++js):=by
  intro g js e1 e2 e3 e4 e5;apply yp
  grind[lO,yv,vv]
 have key:∀{g:qO}(i:Nat)f',(fs++[g])[i]?=Z f'->(i=O fs/\f'=g)\/(i<O fs/\(m.top fs f).qN[i]?=Z f'):=by
  grind[qR.top]
 have hlc:∀{l:List qr}{i:Nat},O (l.set i s)=O l:=qB;unfold Hm.yE;by_cases c4:o.1<=4
 .have e1:yV (.u 2 0 0) (O fs) o=.c (.u 2 0 0) (O fs) 3:=by simp[yV,c4]
  have e2:bC m f o=f.qt:=by simp[bC,c4]
  have e3:uv f o=o.2.toNat:=by simp[uv,c4]
  rw[e1,e2,e3]at hh;rw[if_pos c4];refine⟨?_,?_,?_,?_,?_,?_,?_,?_,?_,λi f' hf'=>?_,λi f' hf'=>?_,λi f' hf'=>?_⟩
  .rw [hh _ h00,h.top];simp_all[zu]
  .grind[vI]
  .rw [hh _ (hX 2),h.cells];simp
  .rw [hh _ (hX 3),h.zM];simp
  .rw [hh _ (hX 4),h.qI];simp
  .rw [hh _ (hX 5),h.jG];simp
  .rw [hh _ (hX 9),h.out];simp
  .rw [hh _ (hX 10),h.zt];simp
  .obtain⟨js,hj⟩:=h.fr.top
   simp_all<;>grind
  .rcases key i f' hf' with⟨rfl,rfl⟩|⟨hi,hf'⟩
   .simp_all
   .rw [hh _ (hF _ _),h.fr.qt i f' hf'];grind
  .rcases key i f' hf' with⟨rfl,rfl⟩|⟨hi,hf'⟩
   .rw [hh _ (hF _ _),h.fr.names _ f hf];simp
   .rw [hh _ (hF _ _),h.fr.names i f' hf'];simp
  .rcases key i f' hf' with⟨rfl,rfl⟩|⟨hi,hf'⟩
   .exact (h.fr.stack _ f hf).imp λj hj=>qQ
   .exact (h.fr.stack i f' hf').imp λj hj=>qQ
 rw[if_neg c4];by_cases c7:o.1<=7
 .have e1:yV (.u 2 0 0) (O fs) o=.c Xn 0 2:=by grind[yV]
  have e2:bC m f o=m.cells:=by grind[bC]
  have e3:uv f o=f.cells.getD o.2.toNat 0:=by grind[uv]
  rw[e1,e2,e3]at hh;rw[if_pos c7];refine⟨?_,?_,?_,?_,?_,?_,?_,?_,?_,λi f' hf'=>?_,λi f' hf'=>?_,λi f' hf'=>?_⟩
  .rw [hh _ h00,h.top];simp_all[zu]
  .grind[vI]
  .simp_all
  .grind[zM]
  .grind[qI]
  .grind[jG]
  .grind[out]
  .grind[zt]
  .exact h.fr.top.imp λjs hj=>qQ
  .rw [hh _ (hF _ _),h.fr.qt i f' hf'];simp
  .rw [hh _ (hF _ _),h.fr.names i f' hf'];simp
  .exact (h.fr.stack i f' hf').imp λj hj=>qQ
 rw[if_neg c7];by_cases c10:o.1<=10
 .have e1:yV (.u 2 0 0) (O fs) o=.c Xn 0 3:=by grind[yV]
  have e2:bC m f o=m.globals:=by grind[bC]
  have e3:uv f o=o.2.toNat:=by grind[uv]
  rw[e1,e2,e3]at hh;rw[if_pos c10];refine⟨?_,?_,?_,?_,?_,?_,?_,?_,?_,λi f' hf'=>?_,λi f' hf'=>?_,λi f' hf'=>?_⟩
  .rw [hh _ h00,h.top];grind[zu]
  .grind[vI]
  .grind[cells]
  .simp_all
  .grind[qI]
  .grind[jG]
  .grind[out]
  .grind[zt]
  .exact h.fr.top.imp λjs hj=>qQ
  .rw [hh _ (hF _ _),h.fr.qt i f' hf'];simp
  .rw [hh _ (hF _ _),h.fr.names i f' hf'];simp
  .exact (h.fr.stack i f' hf').imp λj hj=>qQ
 .have e1:yV (.u 2 0 0) (O fs) o=.c (.u 2 0 0) (O fs) 5:=by grind[yV]
  have e2:bC m f o=f.names:=by grind[bC]
  have e3:uv f o=o.2.toNat:=by grind[uv]
  rw[e1,e2,e3]at hh;rw[if_neg c10];refine⟨?_,?_,?_,?_,?_,?_,?_,?_,?_,λi f' hf'=>?_,λi f' hf'=>?_,λi f' hf'=>?_⟩
  .rw [hh _ h00,h.top];simp_all[zu]
  .grind[vI]
  .rw [hh _ (hX 2),h.cells];simp
  .rw [hh _ (hX 3),h.zM];simp
  .rw [hh _ (hX 4),h.qI];simp
  .rw [hh _ (hX 5),h.jG];simp
  .rw [hh _ (hX 9),h.out];simp
  .rw [hh _ (hX 10),h.zt];simp
  .obtain⟨js,hj⟩:=h.fr.top
   simp_all<;>grind
  .rcases key i f' hf' with⟨rfl,rfl⟩|⟨hi,hf'⟩
   .rw [hh _ (hF _ _),h.fr.qt _ f hf];simp
   .rw [hh _ (hF _ _),h.fr.qt i f' hf'];simp
  .rcases key i f' hf' with⟨rfl,rfl⟩|⟨hi,hf'⟩
   .simp_all
   .rw [hh _ (hF _ _),h.fr.names i f' hf'];grind
  .rcases key i f' hf' with⟨rfl,rfl⟩|⟨hi,hf'⟩
   .exact (h.fr.stack _ f hf).imp λj hj=>qQ
   .exact (h.fr.stack i f' hf').imp λj hj=>qQ
theorem qS.pB{n':Nm}(h:qS hp p n m dp)(hn:(n=.c Xn 0 6/\n'=.u 2 0 0)\/(n=.u 2 0 0/\n'=.c Xn 0 6)):qS (jP n n' hp) p n' m dp:=by
 rcases hn with⟨rfl,rfl⟩|⟨rfl,rfl⟩<;>
 .refine⟨?_,?_,?_,?_,?_,?_,?_,?_,?_,λi f' hf'=>?_,λi f' hf'=>?_,λi f' hf'=>?_⟩
  .simp [jP,Nm.under,mv,h.top,AO.tr,zu,AV.tr,Nm.qy,AC]
  .simp [jP,Nm.under,h.vI,AO.tr]
  .simp [jP,Nm.under,h.cells,AO.tr]
  .simp [jP,Nm.under,h.zM,AO.tr]
  .simp [jP,Nm.under,h.qI,AO.tr]
  .simp [jP,Nm.under,h.jG,AO.tr]
  .simp [jP,Nm.under,h.out,AO.tr]
  .simp [jP,Nm.under,h.zt,AO.tr]
  .refine h.fr.top.imp λjs hj=>?_
   simp_all[jP,Lb]
  .simp [jP,Nm.under,mv,Nm.qy,h.fr.qt i f' hf',AO.tr]
  .simp [jP,Nm.under,mv,Nm.qy,h.fr.names i f' hf',AO.tr]
  .exact (h.fr.stack i f' hf').imp λj hj=>by simp_all[jP]
end
end Go.Hm
end
