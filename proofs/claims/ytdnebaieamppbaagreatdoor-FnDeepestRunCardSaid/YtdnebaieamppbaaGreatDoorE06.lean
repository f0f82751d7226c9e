import Derived.Test.YtdnebaieamppbaaGreatDoorE05
import Derived.KernelRfl
set_option linter.unusedSimpArgs false
set_option linter.unusedVariables false
set_option maxRecDepth 100000
set_option maxHeartbeats 4000000

section
namespace Go.Hm
open Go Go.RowKit
section
variable {X:Ctx} {ops:Array Oper} {st:St} {K:St->Prop}
theorem Rw.put {a:Act} {w:World} {d:Nat} {v:Value} {z:AV} (h:Rw X st a w) (hd:d<X.n) (hv:∀ C g,Rg X.P X.own C X.w0 g st a w->RV g w v z):Rw X (st.put (some d) z) (a.put (some d) v) w:=h.qDQ hd hv
theorem Rw.qev {a:Act} {w:World} {o:Oper} {z:AV} (h:Rw X st a w) (hq:qev X.P st o=some z) (d:Nat) (hd:d<X.n):∃ v,(execOp a.eval o).run X.P w=.ok (.value v) w/\Rw X (st.put (some d) z) (a.put (some d) v) w:=by
 obtain⟨C,g,h1,h2,h3,h4,h5,hr⟩:=h;obtain⟨v,e1,e2⟩:=DZ hr hq;exact⟨v,e1,C,g,h1,h2,h3,h4,h5,hr.put (λt e=>qH) e2⟩
theorem Px {a:Act} {d:Nat} {v:Value} (h:d<a.tmps.size):(a.put (some d) v).tmps.getD d undef=v:=by
 simp [Act.put,h]
theorem xq {o:Oper} {i:Nat} {K':St->Prop} {b:Act} {w:World} (hw:WfD ops) (ho:ops[i]?=some o) (hq:qui ops i=true) (hi:i∉prd ops i) (hR:Rw X st b w)
  (h:QG X (ops.toList.map (·.dst)) o K' st):∃ d v st',o.dst=some d/\K' st'/\Rw X st' (b.put (some d) v) w/\UJ X.P ops (b.put (some d) v) w i:=by
 have hlt:i<ops.size:=(C3.1 ho).1;simp only [qui,ho,ba] at hq;obtain⟨hq1,hq2⟩:=hq;obtain⟨d,hd⟩:=O9.1 hq2;have hdi:dG ops i=some d:=td;have hla:d∉o.looksAt ops:=λhm=>hi (hw.look i o d i ho hm hlt hdi (by grind[qui]))
 have qBl:∀ v,d<b.tmps.size->((Region.wanted o (yielded ops b.tmps)=true/\(execOp b.eval o).run X.P w=.ok (.value v) w)\/(Region.wanted o (yielded ops b.tmps)=false/\v=undef))->UJ X.P ops (b.put (some d) v) w i:=by
  intro v hlt h;have hag:Agr (λt=>t=d) (b.put (some d) v) b:=⟨rfl,by simp [Act.put],λt ht=>by grind[Act.put]⟩;have hl:∀ t∈o.looksAt ops,¬ t=d:=λt ht e=>hla (e ▸ ht);refine⟨o,d,ho,hd,by grind[Act.put],?_⟩;rw [hag.wanted hl,hag.exec (hw.sel i o · · ho) hl,Px hlt];exact h
 have hsz:=hR.size;rcases h with⟨hg,h⟩|⟨j,want,e,t,hg,hde,ht,h1,h2⟩|⟨j,want,e,hg,hde,ht,hn,hK⟩
 .obtain⟨d',z,e1,hn,hz,hK⟩:=h;rw [hd] at e1;obtain rfl:=sI e1;obtain⟨v,hrun,hR'⟩:=hR.qev hz d hn
  grind[pn]
 .have hy:=hR.yielded hde ht;by_cases htw:t=want
  .obtain⟨d',z,e1,hn,hz,hK⟩:=h1 htw;rw [hd] at e1;obtain rfl:=sI e1;obtain⟨v,hrun,hR'⟩:=hR.qev hz d hn
   grind[Region.wanted]
  .have hnot:t=!want:=by cases t <;> cases want <;> simp_all
   obtain⟨hn,hK⟩:=h2 hnot;rw [hd] at hK;have hn':=hn d hd;exact⟨d,undef,_,hd,hK,hR.put hn' (λ_ _ _=>RV.sc _),qBl undef qH (.inr ⟨By,rfl⟩)⟩
 .have hy:yielded ops b.tmps j=none:=hR.qDJ hde ht;rw [hd] at hK;have hn':=hn d hd;exact⟨d,undef,_,hd,hK,hR.put hn' (λ_ _ _=>RV.sc _),qBl undef qH (.inr ⟨By,rfl⟩)⟩
theorem vO {l:List Nat} {x:Nat}:l.contains x=true↔x∈l:=qB
theorem Oa (hw:WfD ops):∀ (sch:Zh) {LV:List Nat} {listed:Array Bool} {st:St} {a b:Act} {w:World},okD ops sch LV=true->ur X ops.toList (ops.toList.map (·.dst)) K sch st->DI X ops LV listed st a b w ->
  ∃ sch' LV' st' b',(∀ i r,sch'≠.q i r)/\okD ops sch' LV'=true/\ur X ops.toList (ops.toList.map (·.dst)) K sch' st'/\DI X ops LV' listed st' a b' w:=by
 intro sch
 induction sch with
 | done=>grind
 | l i ps r _=>grind
 | l2 i ps r j qs s _ _=>grind
 | l3 i ps r j qs s k us t _ _ _=>grind
 | q i r ih =>
  intro LV listed st a b w h1 h2 h3;simp only [okD,ba,decide_eq_true_eq] at h1;obtain⟨⟨⟨hlt,hq⟩,hr⟩,hok⟩:=h1;simp only [rdy,ba,xE] at hr;obtain⟨hni,hpr⟩:=hr;have hni:i∉LV:=λhm=>qH;have hpr:∀ j∈prd ops i,j∈LV:=λj hj=>vO.1 (dT.1 hpr j hj);have ho:ops[i]?=some ops[i]:=Array.getElem?_eq_getElem hlt;simp only [ur,C2,ho] at h2;obtain⟨d,v,st',hd,hK,hR',hP⟩:=xq hw ho hq (λhm=>hni (hpr i hm)) h3.rw h2;have hdi:dG ops i=some d:=td
  have hnl:listed.getD i true=false:=by
   cases e:listed.getD i true with
   | false=>rfl
   | true=>exact absurd (h3.sub i hlt e) hni
  refine ih (LV:=i::LV) (listed:=listed) (st:=st') (a:=a) (b:=b.put (some d) v) (w:=w) hok hK ⟨hR',h3.len,λk hk e=>lj _ (h3.sub k hk e),h3.closed,?_,?_,⟨hni,hlt,hpr,h3.ord⟩⟩
  .intro q hqc e;rcases aH.1 hqc with rfl|hqm
   .simp_all
   .obtain⟨x1,x2⟩:=h3.qBl q hqm e;have hqlt:=h3.ord.lt q hqm;refine⟨x1,x2.put hw d v (λo' ho' hm=>?_) (λe'=>?_)⟩
    .have:=hw.look q o' d i ho' hm hlt hdi hq;exact hni (h3.ord.prd q hqm i this)
    .obtain rfl:=hw.qE0 q i d hqlt hlt e' hdi
     simp_all
  .refine⟨h3.agr.defers,by simpa [Act.put] using h3.agr.size,λt ht=>?_⟩;have htd:t≠d:=λe=>ht ⟨i,qB,hnl,by rw [hdi,e]⟩;simp only [Act.put];rw [O7 (λe=>htd e.symm)];exact h3.agr.tmps t (λ⟨q,x1,x2,x3⟩=>ht ⟨q,lj _ x1,x2,x3⟩)
theorem Cx:∀ {ps:List Nat},fN X ops.toList (ops.toList.map (·.dst)) ps st->∀ q∈ps,∃ o,ops[q]?=some o/\Cy X (ops.toList.map (·.dst)) o st
 | [],_,_,h=>by cases h
 | p::ps,h,q,hq=>by
  obtain⟨h1,h2⟩:=h;rcases aH.1 hq with rfl|hq
  .grind
  .exact Cx h2 q hq
theorem VD (hw:WfD ops) {listed:Array Bool} {b:Act} {w:World} (hR:Rw X st b w):∀ (l:List Nat),Kl ops l ->
  (∀ q∈l,listed.getD q true=false->qui ops q=true/\∃ o,ops[q]?=some o/\Cy X (ops.toList.map (·.dst)) o st/\∀ d,o.dst=some d->d<X.n) ->
  ∃ b',Rw X st b' w/\(∀ q∈l,listed.getD q true=false->UJ X.P ops b' w q)/\Agr (λt=>∃ q∈l,listed.getD q true=false/\dG ops q=some t) b' b
 | [],_,_=>⟨b,hR,qB,⟨rfl,rfl,λ_ _=>rfl⟩⟩
 | x::l,hl,hs=>by
  obtain⟨b1,hR1,hp1,hag⟩:=VD hw hR l hl.2.2.2 (λq hq=>hs q (lj _ hq))
  cases hlx:listed.getD x true with
  | true =>
   refine⟨b1,hR1,λq hq e=>?_,⟨hag.defers,hag.size,λt ht=>hag.tmps t (λ⟨q,x1,x2,x3⟩=>ht ⟨q,lj _ x1,x2,x3⟩)⟩⟩
   grind
  | false =>
   obtain⟨hq,o,ho,hst,hdn⟩:=hs x qB hlx;have hlt:=hl.2.1;obtain⟨hq1,hq2⟩:isQ o.op=true/\o.dst.isSome=true:=by grind[qui]
   obtain⟨d,hd⟩:=O9.1 hq2;have hdi:dG ops x=some d:=td;have hxx:x∉prd ops x:=λhm=>hl.1 (hl.2.2.1 x hm)
   -- the operation,az the state holds it
   have hag':QG X (ops.toList.map (·.dst)) o (λs=>s=st) st:=by
    have hdX:=hdn d hd;have quiet:qev X.P st o=some (st.tm d)->QOp X o (λs=>s=st) st:=λhz=>⟨d,_,hd,hdX,hz,dj rfl⟩;unfold Cy at hst;rw [hd] at hst;simp only at hst
    split at hst
    .rename_i hg;exact .inl ⟨hg,quiet hst⟩
    .rename_i j want hg
     split at hst
     .rename_i e hde
      split at hst
      .rename_i t ht;refine .inr (.inl ⟨j,want,e,t,hg,hde,ht,λe'=>quiet (hst.1 e'),λe'=>⟨hdn,?_⟩⟩)
       grind[dj]
      .rename_i v _ hv;refine .inr (.inr ⟨j,want,e,hg,hde,qH,hdn,?_⟩)
       grind[dj]
      simp_all
     simp_all
   obtain⟨d',v,st',hd',rfl,hR2,hP⟩:=xq hw ho hq hxx hR1 hag';rw [hd] at hd';obtain rfl:=sI hd';refine⟨b1.put (some d) v,hR2,λq hqc e=>?_,⟨hag.defers,by grind[Act.put,Agr.size],λt ht=>?_⟩⟩
   .rcases aH.1 hqc with rfl|hq'
    .exact hP
    .refine (hp1 q hq' e).put hw d v (λo' ho' hm=>?_) (λe'=>?_)
     .exact hl.1 (hl.2.2.2.prd q hq' x (hw.look q o' d x ho' hm hlt hdi hq))
     .obtain rfl:=hw.qE0 q x d (hl.2.2.2.lt q hq') hlt e' hdi;exact hl.1 hq'
   .have htd:t≠d:=λe=>ht ⟨x,qB,hlx,by rw [hdi,e]⟩;simp only [Act.put];rw [O7 (λe=>htd e.symm)];exact hag.tmps t (λ⟨q,x1,x2,x3⟩=>ht ⟨q,lj _ x1,x2,x3⟩)
end
section
variable {X:Ctx} {ops:Array Oper} {st:St} {K:St->Prop}
theorem EG {p p':Nat->Bool}:∀ (l:List Nat),(∀ x∈l,p' x=true->p x=true)->(∃ x∈l,p x=true/\p' x=false)->(l.filter p').length<(l.filter p).length
 | [],_,h=>by simp_all
 | y::l,h1,h2=>by
  have le:∀ (l:List Nat),(∀ x∈l,p' x=true->p x=true)->(l.filter p').length<=(l.filter p).length:=by
   intro l
   induction l<;>grind
  have hle:=le l (λx hx=>h1 x (lj _ hx));obtain⟨x,hx,e1,e2⟩:=h2;rcases aH.1 hx with rfl|hx
  .grind
  .have:=EG l (λx hx=>h1 x (lj _ hx)) ⟨x,hx,e1,e2⟩
   grind
def unl (ops:Array Oper) (listed:Array Bool):Nat:=((List.range ops.size).filter (λi=>!listed.getD i true)).length
theorem wh {listed:Array Bool} {i j:Nat} (hi:i<listed.size):(listed.setIfInBounds i true).getD j true=if j=i then true else listed.getD j true:=by
 simp_all<;>grind
theorem FG {listed:Array Bool} {i:Nat} (hs:listed.size=ops.size) (hi:i<ops.size) (h:listed.getD i true=false):unl ops (listed.setIfInBounds i true)<unl ops listed:=by
 unfold unl;refine EG _ (λx _ hx=>?_) ⟨i,gh.2 hi,dO,?_⟩<;>grind[wh]
theorem mK {listed:Array Bool} {i:Nat}:i∈Region.ready .any ops listed↔listed.getD i true=false/\i<ops.size/\∀ j∈prd ops i,listed.getD j false=true:=by
 grind[mem_ready,prd]
theorem N7 {listed:Array Bool}:∀ (l:List Nat),Kl ops l->(∃ q∈l,listed.getD q true=false)->∃ q∈l,listed.getD q true=false/\∀ j∈prd ops q,listed.getD j true=true
 | [],_,h=>by simp_all
 | x::l,hl,h=>by
  by_cases ht:∃ q∈l,listed.getD q true=false
  .obtain⟨q,h1,h2,h3⟩:=N7 l hl.2.2.2 ht
   grind
  grind[Kl]
theorem PP {P:Program} {o:Oper} {a b:Act} {K1 K2:Act->World->Prop} {Q:Exit->Act->World->Prop} {r:Result Next} (hdef:a.defers=b.defers)
  (hK:∀ v D w',K1 (Act.put { b with defers:=D } o.dst v) w'->K2 (Act.put { a with defers:=D } o.dst v) w') (h:o.upon P b K1 (λ_ _ _=>False) r):o.upon P a K2 Q r:=by
 have hb:({ b with defers:=b.defers }:Act)=b:=rfl;have ha:({ a with defers:=b.defers }:Act)=a:=by rw [<- hdef]
 have hv:∀ v w',K1 (b.put o.dst v) w'->K2 (a.put o.dst v) w':=λv w' h=>by
  simp_all
 cases r with
 | ok n w' =>
  cases n with
  | value v=>exact hv v w' h
  | skip=>exact hv undef w' h
  | defer d =>
   have h:K1 (Act.put { b with defers:=d::b.defers } o.dst undef) w':=h
   show K2 (Act.put { a with defers:=d::a.defers } o.dst undef) w'
   simp_all
  | enter f args =>
   refine Calls.mono h λe w'' he=>?_
   cases e with
   | returned v=>simp_all
   | panicked ch=>simp_all
   | outgrown=>obtain⟨_,_,h⟩:=he;grind
  | row row args=>exact Rows.mono h λv w'' he=>hv v w'' he
  | _=>exact h.elim
 | halt x w' =>
  cases x with
  | panic v=>exact h.elim
  | _=>exact h.elim
theorem IN {LV:List Nat} (h:okD ops .done LV=true):∀ i,i<ops.size->i∈LV:=by
 simp_all[okD]
theorem BP {LV:List Nat} {i:Nat}:i∈Rl ops LV↔i<ops.size/\i∉LV/\∀ j∈prd ops i,j∈LV:=by
 grind[Rl,rdy]
theorem Ry {sch:Zh} {LV:List Nat} {listed:Array Bool} {a b:Act} {w:World} {Q:Exit->Act->World->Prop} (hK:∀ a' w' st',Rw X st' a' w'->K st'->Q .normal a' w') (hD:DI X ops LV listed st a b w)
  (hnq:∀ i r,sch≠.q i r) (hok:okD ops sch LV=true) (hr:ur X ops.toList (ops.toList.map (·.dst)) K sch st) (hall:∀ i,i<ops.size->listed.getD i true=true):Q .normal a w:=by
 have hin:∀ i,i<ops.size->i∈LV:=λi hi=>hD.sub i hi (hall i hi)
 have no:∀ i,i∉Rl ops LV:=λi hm=>by
  grind[BP]
 have hab:a=b:=by
  obtain⟨t1,d1⟩:=a;obtain⟨t2,d2⟩:=b;have hd:d1=d2:=hD.agr.defers
  have ht:t1=t2:=by
   apply Array.ext_getElem?;intro t;exact hD.agr.tmps t (λ⟨q,x1,x2,_⟩=>by rw [hall q (hD.ord.lt q x1)] at x2;cases x2)
  rw [hd,ht]
 cases sch with
 | done=>grind[DI.rw,ur]
 | q i r=>simp_all
 | l i ps r =>
  simp_all[okD]
 | l2 i ps r j qs s =>
  simp only [okD,ba,beq_iff_eq] at hok
  simp_all<;>grind
 | l3 i ps r j qs s k us t =>
  simp only [okD,ba,beq_iff_eq] at hok
  simp_all<;>grind
theorem UR {fuel i:Nat} {ps LV:List Nat} {r:Zh} {listed:Array Bool} {a b:Act} {w:World} {Q:Exit->Act->World->Prop} {o:Oper} (hw:WfD ops) (ho:ops[i]?=some o) (hq:qui ops i=false) (hD:DI X ops LV listed st a b w)
  (hni:i∉LV) (hlist:∀ j∈prd ops i,listed.getD j false=true) (hps:∀ q∈D5 ops LV i,q∈ps) (hok:okD ops r (i::LV)=true)
  (h:Iy X (ops.toList.map (·.dst)) o (λs=>fN X ops.toList (ops.toList.map (·.dst)) ps s/\ur X ops.toList (ops.toList.map (·.dst)) K r s) (λ_ _=>False) st)
  (hun:unl ops listed<=fuel+1)
  (ih:∀ (sch:Zh) (LV:List Nat) (listed:Array Bool) (st:St) (a b:Act) (w:World),DI X ops LV listed st a b w->okD ops sch LV=true->ur X ops.toList (ops.toList.map (·.dst)) K sch st->unl ops listed<=fuel->wpAny X.P .any ops Q fuel listed a w) :
  wpOp X.P ops Q i (wpAny X.P .any ops Q fuel (listed.setIfInBounds i true)) a w:=by
 have hlt:i<ops.size:=(C3.1 ho).1;have hlt':i<listed.size:=by grind[DI.len]
 have lst:∀ j∈prd ops i,j<ops.size->listed.getD j true=true:=λj hj hjlt=>by
  grind
 have hlook:∀ t∈o.looksAt ops,¬ ∃ q∈LV,listed.getD q true=false/\dG ops q=some t:=by
  rintro t ht ⟨q,x1,x2,x3⟩;have hqlt:=hD.ord.lt q x1;have:=hw.look i o t q ho ht hqlt x3 (hD.qBl q x1 x2).1
  simp_all
 have hex:=hD.agr.exec (hw.sel i o · · ho) hlook;have hwt:=hD.agr.wanted hlook
 have hprd:∀ j∈prd ops i,j∈LV:=λj hj=>by
  have hjl:=hlist j hj
  have hjlt:j<ops.size:=by
   grind[DI.len]
  exact hD.sub j hjlt (lst j hj hjlt)
 have hni':listed.getD i true=false:=by
  cases e:listed.getD i true with
  | false=>rfl
  | true=>exact absurd (hD.sub i hlt e) hni
 -- what comes behind
 have next:∀ (a' b':Act) (w':World) (s:St),Rw X s b' w'->fN X ops.toList (ops.toList.map (·.dst)) ps s->ur X ops.toList (ops.toList.map (·.dst)) K r s ->
   Agr (λt=>∃ q∈LV,listed.getD q true=false/\dG ops q=some t) a' b'->wpAny X.P .any ops Q fuel (listed.setIfInBounds i true) a' w':=by
  intro a' b' w' s hR hst hrun hag
  have un':∀ q,(listed.setIfInBounds i true).getD q true=false->q≠i/\listed.getD q true=false:=by
   grind[wh]
  have lis':∀ k,listed.getD k true=true->(listed.setIfInBounds i true).getD k true=true:=by
   grind
  have hord:Kl ops (i::LV):=⟨hni,hlt,hprd,hD.ord⟩
  obtain⟨b2,hR2,hP2,hag2⟩:=VD hw hR (listed:=listed.setIfInBounds i true) (i::LV) hord (λq hqm e=>by
   obtain⟨hne,eq⟩:=un' q e;have hqLV:q∈LV:=(aH.1 hqm).resolve_left hne;obtain⟨x1,o',d',x2,x3,x4,_⟩:=hD.qBl q hqLV eq;have hqlt:=hD.ord.lt q hqLV;refine⟨x1,?_⟩
   have hqp:q∈D5 ops LV i:=by
    refine xB.2 ⟨hqLV,?_⟩;simp only [x1,pP,xE,List.any_eq_false];intro l hl hc;simp only [ba,xE] at hc;obtain⟨hlq,hlp⟩:=hc;have hlp:=vO.1 hlp
    have hl1:∀ q'∈prd ops l,listed.getD q' false=true:=by
     rcases aH.1 hl with rfl|hl
     .exact hlist
     .exact hD.closed l (hD.ord.lt l hl) (by
       cases e':listed.getD l true with
       | true=>rfl
       | false=>rw [(hD.qBl l hl e').1] at hlq;cases hlq)
    have this:listed.getD q false=true:=IG (L:=λq=>listed.getD q false=true) (λq' h3=>by
     have hlt2:q'<ops.size:=by
      grind[DI.len]
     exact hD.closed q' hlt2 qj) _ _ hl1 q hlp
    grind
   obtain⟨o2,y1,y2⟩:=Cx hst q (hps q hqp);refine⟨o2,y1,y2,λd hd=>?_⟩;rw [x2] at y1;obtain rfl:=sI y1;rw [x3] at hd;obtain rfl:=sI hd;rw [<- hD.rw.size];exact x4)
  refine ih r (i::LV) (listed.setIfInBounds i true) s a' b2 w' ⟨hR2,by grind[DI.len],λk hk e=>?_,λk hk e j hj=>?_,λq hqm e=>?_,⟨?_,?_,λt ht=>?_⟩,hord⟩ hok hrun ?_
  .rw [wh hlt'] at e
   split at e
   .simp_all
   .exact lj _ (hD.sub k hk e)
  .have:listed.getD j false=true:=by
    rw [wh hlt'] at e
    split at e
    .simp_all
    .exact hD.closed k hk e j hj
   grind
  .obtain⟨hne,e'⟩:=un' q e;have hqLV:q∈LV:=(aH.1 hqm).resolve_left hne;exact⟨(hD.qBl q hqLV e').1,hP2 q hqm e⟩
  .rw [hag.defers,hag2.defers]
  .rw [hag.size,hag2.size]
  .rw [hag2.tmps t ht];refine hag.tmps t λ⟨q,x1,x2,x3⟩=>ht ⟨q,lj _ x1,?_,x3⟩
   grind[wh]
  .have:=FG hD.len hlt hni';omega
 -- the operation itself
 have hop:=h ops i rfl ho b w (λ_ _ _=>False) hD.rw (λ_ _ _ _ _ h=>h.elim);have agr':∀ v,Agr (λt=>∃ q∈LV,listed.getD q true=false/\dG ops q=some t) (a.put o.dst v) (b.put o.dst v):=λv=>hD.agr.put o.dst v (λt ht=>.inr ht);unfold wpOp at hop ⊢;simp only [ho] at hop ⊢;rw [hwt]
 split at hop
 .rename_i hwd;rw [if_pos hwd];rcases hop with hop|⟨_,_,_,hop⟩
  .left;unfold Oper.wp at hop ⊢;rw [hex];refine PP hD.agr.defers ?_ hop;rintro v D w' ⟨s,hR,hst,hrun⟩;refine next _ _ w' s hR hst hrun ?_;have:Agr (λt=>∃ q∈LV,listed.getD q true=false/\dG ops q=some t) { a with defers:=D } { b with defers:=D }:=⟨rfl,hD.agr.size,hD.agr.tmps⟩;exact this.put o.dst v (λt ht=>.inr ht)
  simp_all
 grind
theorem W5.qDr {E:AV->St->Prop} (sch:Zh) (hwf:wfD ops=true) (hok:okD ops sch []=true) (h:ur X ops.toList (ops.toList.map (·.dst)) K sch st):W5 X ops K E st:=by
 have hw:=PG hwf;intro a w Q hR hK _
 have main:∀ (fuel:Nat) (sch:Zh) (LV:List Nat) (listed:Array Bool) (st:St) (a b:Act) (w:World),DI X ops LV listed st a b w->okD ops sch LV=true->ur X ops.toList (ops.toList.map (·.dst)) K sch st->unl ops listed<=fuel ->
   wpAny X.P .any ops Q fuel listed a w:=by
  intro fuel
  induction fuel with
  | zero =>
   intro sch0 LV0 listed st0 a b0 w hD0 hok0 hr0 hun;obtain⟨sch,LV,st,b,hnq,hok,hr,hD⟩:=Oa hw sch0 hok0 hr0 hD0
   have hall:∀ i,i<ops.size->listed.getD i true=true:=by
    intro i hi
    cases e:listed.getD i true with
    | true=>rfl
    | false =>
     have:=FG hD.len hi e;omega
   refine⟨?_,Ry hK hD hnq hok hr hall⟩;apply List.eq_nil_iff_forall_not_mem.2
   grind[mK]
  | succ fuel ih =>
   intro sch0 LV0 listed st0 a b0 w hD0 hok0 hr0 hun;obtain⟨sch,LV,st,b,hnq,hok,hr,hD⟩:=Oa hw sch0 hok0 hr0 hD0;refine⟨λhnone=>Ry hK hD hnq hok hr ?_,λi hi=>?_⟩
   · -- nothing is ready: all is done
     have tf:∀ j,listed.getD j false=true↔(j<ops.size/\listed.getD j true=true):=by
      grind[DI.len]
     have hLV:∀ q∈LV,listed.getD q true=true:=by
      intro q hq
      cases e:listed.getD q true with
      | true=>rfl
      | false =>
       obtain⟨q',h1,h2,h3⟩:=N7 LV hD.ord ⟨q,hq,e⟩;have:q'∈Region.ready .any ops listed:=mK.2 ⟨h2,hD.ord.lt q' h1,λj hj=>(tf j).2 ⟨hD.ord.lt j (hD.ord.prd q' h1 j hj),h3 j hj⟩⟩
       simp_all
     have no:∀ i,i∉Rl ops LV:=λi hm=>by
      obtain⟨h1,h2,h3⟩:=BP.1 hm
      have hnl:listed.getD i true=false:=by
       cases e:listed.getD i true with
       | false=>rfl
       | true=>exact absurd (hD.sub i h1 e) h2
      have:i∈Region.ready .any ops listed:=mK.2 ⟨hnl,h1,λj hj=>(tf j).2 ⟨hD.ord.lt j (h3 j hj),hLV j (h3 j hj)⟩⟩
      simp_all
     cases sch with
     | done=>grind[IN]
     | q i r=>simp_all
     | l i ps r =>
      simp_all[okD]
     | l2 i ps r j qs s =>
      simp only [okD,ba,beq_iff_eq] at hok
      simp_all<;>grind
     | l3 i ps r j qs s k us t =>
      simp only [okD,ba,beq_iff_eq] at hok
      simp_all<;>grind
   .obtain⟨h0,hlt,hlist⟩:=mK.1 hi;have ho:ops[i]?=some ops[i]:=Array.getElem?_eq_getElem hlt;by_cases hin:i∈LV
    · -- a quiet one that is pending
      obtain⟨hq,o,d,ho',hd,hdlt,hP⟩:=hD.qBl i hin h0;rw [ho] at ho';obtain rfl:=sI ho';have hdi:dG ops i=some d:=td;have hlt':i<listed.size:=qj
      have hlook:∀ t∈ops[i].looksAt ops,¬ ∃ q∈LV,listed.getD q true=false/\dG ops q=some t:=by
       rintro t ht ⟨q,x1,x2,x3⟩;have hqlt:=hD.ord.lt q x1;have hqp:=hw.look i _ t q ho ht hqlt x3 (hD.qBl q x1 x2).1
       grind
      have hex:=hD.agr.exec (hw.sel i _ · · ho) hlook;have hwt:=hD.agr.wanted hlook
      have nx:wpAny X.P .any ops Q fuel (listed.setIfInBounds i true) (a.put (some d) (b.tmps.getD d undef)) w:=by
       refine ih sch LV _ st _ b w ⟨hD.rw,by grind[DI.len],λk hk e=>?_,λk hk e j hj=>?_,λq hqm e=>?_,⟨hD.agr.defers,by simpa [Act.put] using hD.agr.size,λt ht=>?_⟩,hD.ord⟩ hok hr ?_
       .rw [wh hlt'] at e
        split at e
        .simp_all
        .exact hD.sub k hk e
       .have hjl:listed.getD j false=true:=by
         rw [wh hlt'] at e
         split at e
         .simp_all
         .exact hD.closed k hk e j hj
        grind[wh]
       .rw [wh hlt'] at e
        split at e
        .cases e
        .exact hD.qBl q hqm e
       .simp only [Act.put];by_cases htd:d=t
        .subst htd;rw [Array.getElem?_setIfInBounds_self_of_lt (by rw [hD.agr.size];exact hdlt),Array.getElem?_eq_getElem hdlt]
         simp_all
        .rw [O7 htd];refine hD.agr.tmps t λ⟨q,x1,x2,x3⟩=>ht ⟨q,x1,?_,x3⟩
         grind[wh]
       .have:=FG hD.len hlt h0;omega
      grind[wpOp,Oper.wp,Oper.upon_value]
    · -- one that is not quiet
      have hprd:∀ j∈prd ops i,j∈LV:=λj hj=>by
       have hjl:=hlist j hj
       have hjlt:j<ops.size:=by
        grind[DI.len]
       exact hD.sub j hjlt qj
      have hrd:i∈Rl ops LV:=BP.2 ⟨hlt,hin,hprd⟩
      cases sch with
      | done=>grind[IN]
      | q i r=>simp_all
      | l i1 ps r =>
       simp only [okD,ba,beq_iff_eq,xE] at hok;obtain⟨⟨⟨k1,k2⟩,k3⟩,k4⟩:=hok;rw [k1] at hrd;obtain rfl:=w6.1 hrd;simp only [ur,C2,ho] at hr;exact UR hw ho k2 hD hin hlist (λq hq=>vO.1 (dT.1 k3 q hq)) k4 hr hun ih
      | l2 i1 ps r j1 qs s =>
       simp only [okD,ba,beq_iff_eq,xE] at hok;obtain⟨⟨⟨⟨⟨⟨k1,k2⟩,k3⟩,k4⟩,k5⟩,k6⟩,k7⟩:=hok;rw [k1] at hrd;simp only [ur,C2] at hr;rcases aH.1 hrd with rfl|hrd
       .have hr1:=hr.1;simp only [ho] at hr1;exact UR hw ho k2 hD hin hlist (λq hq=>vO.1 (dT.1 k4 q hq)) k6 hr1 hun ih
       .obtain rfl:=w6.1 hrd;have hr2:=hr.2;simp only [ho] at hr2;exact UR hw ho k3 hD hin hlist (λq hq=>vO.1 (dT.1 k5 q hq)) k7 hr2 hun ih
      | l3 i1 ps r j1 qs s m1 us t =>
       simp only [okD,ba,beq_iff_eq,xE] at hok;obtain⟨⟨⟨⟨⟨⟨⟨⟨⟨k1,k2⟩,k3⟩,k4⟩,k5⟩,k6⟩,k7⟩,k8⟩,k9⟩,k10⟩:=hok;rw [k1] at hrd;simp only [ur,C2] at hr;rcases aH.1 hrd with rfl|hrd
       .have hr1:=hr.1;simp only [ho] at hr1;exact UR hw ho k2 hD hin hlist (λq hq=>vO.1 (dT.1 k5 q hq)) k8 hr1 hun ih
       .rcases aH.1 hrd with rfl|hrd
        .have hr2:=hr.2.1;simp only [ho] at hr2;exact UR hw ho k3 hD hin hlist (λq hq=>vO.1 (dT.1 k6 q hq)) k9 hr2 hun ih
        .obtain rfl:=w6.1 hrd;have hr3:=hr.2.2;simp only [ho] at hr3;exact UR hw ho k4 hD hin hlist (λq hq=>vO.1 (dT.1 k7 q hq)) k10 hr3 hun ih
 refine main ops.size sch [] (Array.replicate ops.size false) st a a w ⟨hR,qB,?_,?_,qB,⟨rfl,rfl,λ_ _=>rfl⟩,trivial⟩ hok h ?_
 .simp_all
 .simp_all
 grind[unl]
end
section
variable {X:Ctx} {st:St} {K:St->Prop} {E:AV->St->Prop} {ds:List (Option Nat)} {l:List Oper}
theorem kL {id:Nat} {l:List Oper} {Q:Ex->St->Prop} (h:∀ K:St->Prop,(∀ s,Q .normal s->K s)->il X (l.map (·.dst)) K (λx=>Q (.pan x)) l st):qh X (.region id l.toArray false) Q st :=
 PI h
theorem W8 {id:Nat} {l:List Oper} {Q:Ex->St->Prop} (sch:Zh) (hm:X.P.follows .mixedOrders=true) (hwf:wfD l.toArray=true) (hok:okD l.toArray sch []=true)
  (h:∀ K:St->Prop,(∀ s,Q .normal s->K s)->ur X l (l.map (·.dst)) K sch st):qh X (.region id l.toArray true) Q st :=
 Ue hm λK hK=>W5.qDr sch hwf hok (h K hK)
theorem Ze {id:Nat} {l:List Oper} {Q:Ex->St->Prop} (sch:Zh) (hm:X.P.follows .mixedOrders=true) (h:∀ K:St->Prop,(∀ s,Q .normal s->K s)->ur X l (l.map (·.dst)) K sch st) (hwf:wfD l.toArray=true:=by kernel_rfl) (hok:okD l.toArray sch []=true:=by kernel_rfl):qh X (.region id l.toArray true) Q st:=W8 sch hm hwf hok h
theorem kz (h:K st):il X ds K E [] st:=h
theorem vA {K':St->Prop} (hK:∀ s,K' s->K s) (h:K' st):il X ds K E [] st:=hK st h
theorem u7 {K':St->Prop} (hK:∀ s,K' s->K s) (h:K' st):ur X l ds K .done st:=hK st h
theorem jQ {Q:Ex->St->Prop} {id:Nat} (h:Q (.exit id) st):FL K Q (.exit id) st:=h
theorem j6 {Q:Ex->St->Prop} (h:Q .ret st):FL K Q .ret st:=h
theorem Cp {Q:Ex->St->Prop} {id:Nat} (h:Q (.goto id) st):FL K Q (.goto id) st:=h
theorem jS {Q:Ex->St->Prop} {id:Nat} (h:Q .normal st):bl id Q .normal st:=h
theorem kH {Q:Ex->St->Prop} {id:Nat} (h:Q .ret st):bl id Q .ret st:=h
theorem ZD {o:Oper} {j e:Nat} {want t:Bool} (_ho:o.guard=some (j,want)) (_hj:ds[j]?=some (some e)) (ht:st.tm e=.sc (.bool t)) (h1:t=true->il X ds K E (o::l) (st.put (some e) (.sc (.bool true)))) (h2:t=false->il X ds K E (o::l) (st.put (some e) (.sc (.bool false)))) :
  il X ds K E (o::l) st:=by
 cases t<;>grind[dj]
theorem jL {dst:Option Nat} {op:Op} {ty:TypeId} {pos:String} {aft:Array Edge} (h:qS X ⟨dst,op,ty,pos,aft,none⟩ (il X ds K E l) E st):il X ds K E (⟨dst,op,ty,pos,aft,none⟩::l) st:=WI rfl h
def Gx (X:Ctx) (ds:List (Option Nat)) (K:St->Prop) (E:AV->St->Prop) (l:List Oper) (st:St) (dst:Option Nat) (op:Op) (ty:TypeId) (pos:String) (aft:Array Edge) (j:Nat) (want:Bool) (e:Nat) (v:AV):Prop :=
 ds[j]?=some (some e)->st.tm e=v->il X ds K E (⟨dst,op,ty,pos,aft,some (j,want)⟩::l) st
section
variable {dst:Option Nat} {op:Op} {ty:TypeId} {pos:String} {aft:Array Edge} {j e:Nat} {want:Bool} {v:AV}
theorem Sm (hj:ds[j]?=some (some e)) (ht:st.tm e=v) (h:Gx X ds K E l st dst op ty pos aft j want e v):il X ds K E (⟨dst,op,ty,pos,aft,some (j,want)⟩::l) st:=h hj ht
theorem sW (h:qS X ⟨dst,op,ty,pos,aft,some (j,true)⟩ (il X ds K E l) E st):Gx X ds K E l st dst op ty pos aft j true e (.sc (.bool true)):=λhj ht=>Rx rfl hj ht h
theorem BX (h:qS X ⟨dst,op,ty,pos,aft,some (j,false)⟩ (il X ds K E l) E st):Gx X ds K E l st dst op ty pos aft j false e (.sc (.bool false)):=λhj ht=>Rx rfl hj ht h
theorem Yh (hn:∀ e,dst=some e->e<X.n) (h:il X ds K E l (st.put dst (.sc undef))):Gx X ds K E l st dst op ty pos aft j true e (.sc (.bool false)):=λhj ht=>NP rfl hj ht hn h
theorem Yi (hn:∀ e,dst=some e->e<X.n) (h:il X ds K E l (st.put dst (.sc undef))):Gx X ds K E l st dst op ty pos aft j false e (.sc (.bool true)):=λhj ht=>NP rfl hj ht hn h
theorem ZJ (hn:∀ e,dst=some e->e<X.n) (h:il X ds K E l (st.put dst (.sc undef))):Gx X ds K E l st dst op ty pos aft j want e (.sc undef):=λhj ht=>To rfl hj ht hn h
theorem dX {t:Bool} (h1:t=true->il X ds K E (⟨dst,op,ty,pos,aft,some (j,want)⟩::l) (st.put (some e) (.sc (.bool true)))) (h2:t=false->il X ds K E (⟨dst,op,ty,pos,aft,some (j,want)⟩::l) (st.put (some e) (.sc (.bool false)))) :
  Gx X ds K E l st dst op ty pos aft j want e (.sc (.bool t)):=λhj ht=>ZD rfl hj ht h1 h2
end
theorem w9 {c:Nat} {x y:Code} {Q:Ex->St->Prop} {t:Bool} (ht:st.tm c=.sc (.bool t)) (h1:t=true->qh X x Q (st.put (some c) (.sc (.bool true)))) (h2:t=false->qh X y Q (st.put (some c) (.sc (.bool false)))):qh X (.cond (.tmp c) x y) Q st:=by
 cases t with
 | true=>have:=h1 rfl;rw [dj ht] at this;exact Hg (c:=.tmp c) ht (λ_=>this) (λe=>um)
 | false=>have:=h2 rfl;rw [dj ht] at this;exact Hg (c:=.tmp c) ht (λe=>um) (λ_=>this)
section
variable {d:Nat} {ty:TypeId} {pos:String} {aft:Array Edge} {g:Option (Nat×Bool)} {st' st1:St}
theorem o_q {op:Op} {z:AV} (hd:d<X.n) (hz:qev X.P st ⟨some d,op,ty,pos,aft,g⟩=some z) (h:K (st.put (some d) z)):qS X ⟨some d,op,ty,pos,aft,g⟩ K E st :=
 (Lv (λ_ e=>qH) hz h)
theorem QQ {x:Operand} (hd:d<X.n) (hs:HO X.P ty d (ev st x) st=st') (h:K st'):qS X ⟨some d,.assign x,ty,pos,aft,g⟩ K E st :=
 (J1 rfl rfl hd (hs ▸ h))
theorem Ya {T:TypeId} {x:Operand} {cs:List AV} (hd:d<X.n) (hq:(ev st x).cells=some cs) (hz:cs.length=Zq X.P T) (hs:lg X.P T d cs st=st') (h:K st'):qS X ⟨some d,.box T x,ty,pos,aft,g⟩ K E st :=
 (Sl rfl rfl hd hq hz (hs ▸ h))
theorem T2 {T:TypeId} {zs:List AV} (hd:d<X.n) (hq:yn X.P T=some zs) (hs:lg X.P T d zs st=st') (h:K st'):qS X ⟨some d,.alloc T,ty,pos,aft,g⟩ K E st :=
 (Ly rfl rfl hd hq (hs ▸ h))
theorem oi {key:Nat->Nm} {es:List Nat}:∀ {v:List AV} {j:Nat},v.all (λx=>!zT x)=true->zj key es j v=[]
 := by intro x0;induction x0<;>simp_all[zj]
theorem H8 {key:Nat->Nm} {es:List Nat}:∀ {v:List AV} {j:Nat},v.all (λx=>!zT x)=true->zcs key es j v=v
 := by intro x0;induction x0<;>simp_all[zcs,zc]
theorem QO {T:TypeId} {p x:Operand} {n:Nm} {z i off:Nat} {v0:List AV} {rows:List (List AV)} (hT:(X.P.info? T).isSome=true) (hv0:(ev st x).cells=some v0) (hnil:v0.all (λx=>!zT x)=true) (hlen:v0.length=Zq X.P T)
  (hp:pl (ev st p)=some (n,i,off)) (hrows:iY st (ev st p)=some (z,rows)) (hi:i<rows.length) (hoff:off+v0.length<=z) (hs:canon (prs (λj=>.c n i (off+j)) 0 v0) (st.Zp n (.row z (qk rows i off v0)))=st') (h:K st') :
  qS X ⟨none,.store T p x,ty,pos,aft,g⟩ K E st:=by
 have e1:xN X.P T n i off v0 st=st:=by simp only [xN,oi hnil];rfl
 grind[Ol,H8,DD,Ac]
theorem T0 {T:TypeId} {p x:Operand} {n:Nm} {z i off:Nat} {v0 v1:List AV} {rows:List (List AV)} (hT:(X.P.info? T).isSome=true) (hv0:(ev st x).cells=some v0) (hlen:v0.length=Zq X.P T)
  (hp:pl (ev st p)=some (n,i,off)) (hk:xN X.P T n i off v0 st=st1) (hp1:pl (ev st1 p)=some (n,i,off)) (hv1:(ev st1 x).cells=some v1) (hsame:v1.map zT=v0.map zT) (hrows:iY st1 (ev st1 p)=some (z,rows)) (hi:i<rows.length) (hoff:off+v1.length<=z)
  (hs:Ac n z i off rows (Ol X.P T n i off v1) st1=st') (h:K st'):qS X ⟨none,.store T p x,ty,pos,aft,g⟩ K E st:=by
 grind[DD]
theorem QR {T F:TypeId} {s x:Operand} {z len:Nat} {n:Nm} {rows0 rows2:List (List AV)} (hd:d<X.n) (hT:cG X.P T=some F) (hz:Zq X.P F=z) (hs:ev st s=.hs n z 0 len) (hn:st.hp n=some (.row z rows0)) (hle:len<=rows0.length)
  (hx:uH st z (ev st x)=some rows2) (hlen:len+rows2.length<=4294967296) (hq:xV d z (len+rows2.length) (some n) (rows0.take len++rows2) st=st') (h:K st'):qS X ⟨some d,.call ⟨.builtin .append,#[s,x],#[T,T]⟩,ty,pos,aft,g⟩ K E st :=
 (xj rfl rfl hd hT hz hs hn hle hx hlen (hq ▸ h))
theorem M3 {T F:TypeId} {s x:Operand} {z:Nat} {rows2:List (List AV)} (hd:d<X.n) (hT:cG X.P T=some F) (hz:Zq X.P F=z) (hs:ev st s=.sc (.slice none 0 0)) (hx:uH st z (ev st x)=some rows2) (hlen:rows2.length<=4294967296)
  (hq:xV d z rows2.length none rows2 st=st') (h:K st'):qS X ⟨some d,.call ⟨.builtin .append,#[s,x],#[T,T]⟩,ty,pos,aft,g⟩ K E st :=
 (FW rfl rfl hd hT hz hs hx hlen (hq ▸ h))
theorem Vu {T F:TypeId} {x y:Operand} {ln z:Nat} {k k':IntKind} {zv:List AV} (hd:d<X.n) (hx:ev st x=.sc (.int k ln)) (hy:ev st y=.sc (.int k' ln)) (hE:cG X.P T=some F) (hz:Zq X.P F=z) (hzv:yn X.P F=some zv) (hl:ln<=4294967296)
  (hq:Vy d z ln zv st=st') (h:K st'):qS X ⟨some d,.makeSlice T x y,ty,pos,aft,g⟩ K E st :=
 (Pd rfl rfl hd hx hy hE hz hzv hl (hq ▸ h))
theorem T1 {T F:TypeId} {len z:Nat} {parts:Array (Nat×Operand)} {rows:List (List AV)} (hd:d<X.n) (hE:cG X.P T=some F) (hz:Zq X.P F=z) (hrows:iX st parts.toList=some rows) (c1:parts.toList.map (·.1)=List.range len) (c2:len * z<=16777216)
  (c3:rows.all (λr=>r.length==z)=true) (hs:RF X.P F d z rows st=st') (h:K st'):qS X ⟨some d,.buildSlice T len parts,ty,pos,aft,g⟩ K E st :=
 (Lx rfl rfl hd hE hz hrows c1 c2 c3 (hs ▸ h))
end
theorem a_q {i d:Nat} {r:Zh} {op:Op} {ty:TypeId} {pos:String} {aft:Array Edge} {z:AV} (ho:l[i]?=some ⟨some d,op,ty,pos,aft,none⟩) (hd:d<X.n) (hz:qev X.P st ⟨some d,op,ty,pos,aft,none⟩=some z) (h:ur X l ds K r (st.put (some d) z)):ur X l ds K (.q i r) st:=by
 unfold ur;rw [ho];exact .inl ⟨rfl,d,z,rfl,hd,hz,h⟩
theorem ZP {i d j e:Nat} {want:Bool} {r:Zh} {op:Op} {ty:TypeId} {pos:String} {aft:Array Edge} {z:AV} (ho:l[i]?=some ⟨some d,op,ty,pos,aft,some (j,want)⟩) (hj:ds[j]?=some (some e)) (ht:st.tm e=.sc (.bool want)) (hd:d<X.n) (hz:qev X.P st ⟨some d,op,ty,pos,aft,some (j,want)⟩=some z)
  (h:ur X l ds K r (st.put (some d) z)):ur X l ds K (.q i r) st:=by
 unfold ur;rw [ho];exact .inr (.inl ⟨j,want,e,want,rfl,hj,ht,λ_=>⟨d,z,rfl,hd,hz,h⟩,λe=>qj⟩)
theorem ZQ {i d j e:Nat} {want:Bool} {r:Zh} {op:Op} {ty:TypeId} {pos:String} {aft:Array Edge} (ho:l[i]?=some ⟨some d,op,ty,pos,aft,some (j,want)⟩) (hj:ds[j]?=some (some e)) (ht:st.tm e=.sc (.bool (!want))) (hd:d<X.n)
  (h:ur X l ds K r (st.put (some d) (.sc undef))):ur X l ds K (.q i r) st:=by
 unfold ur;rw [ho];exact .inr (.inl ⟨j,want,e,!want,rfl,hj,ht,(λe=>qH),(λ_=>⟨λ_ e=>qH,h⟩)⟩)
theorem ZO {i d j e:Nat} {want:Bool} {r:Zh} {op:Op} {ty:TypeId} {pos:String} {aft:Array Edge} (ho:l[i]?=some ⟨some d,op,ty,pos,aft,some (j,want)⟩) (hj:ds[j]?=some (some e)) (ht:st.tm e=.sc undef) (hd:d<X.n)
  (h:ur X l ds K r (st.put (some d) (.sc undef))):ur X l ds K (.q i r) st:=by
 unfold ur;rw [ho];exact .inr (.inr ⟨j,want,e,rfl,hj,ht,λ_ e=>qH,h⟩)
theorem ZR {sch:Zh} (e:Nat) {t:Bool} (ht:st.tm e=.sc (.bool t)) (h1:t=true->ur X l ds K sch (st.put (some e) (.sc (.bool true)))) (h2:t=false->ur X l ds K sch (st.put (some e) (.sc (.bool false)))):ur X l ds K sch st:=by
 cases t<;>grind[dj]
theorem a_l {i:Nat} {ps:List Nat} {r:Zh} {o:Oper} (ho:l[i]?=some o) (h:il X ds (λs=>fN X l ds ps s/\ur X l ds K r s) (λ_ _=>False) [o] st):ur X l ds K (.l i ps r) st:=by
 unfold ur;rw [ho];exact h
theorem Kq {i j:Nat} {ps qs:List Nat} {r s:Zh} (h1:ur X l ds K (.l i ps r) st) (h2:ur X l ds K (.l j qs s) st):ur X l ds K (.l2 i ps r j qs s) st:=⟨h1,h2⟩
theorem Kp {i j k:Nat} {ps qs us:List Nat} {r s t:Zh} (h1:ur X l ds K (.l i ps r) st) (h2:ur X l ds K (.l j qs s) st) (h3:ur X l ds K (.l k us t) st):ur X l ds K (.l3 i ps r j qs s k us t) st:=⟨h1,h2,h3⟩
theorem vL:fN X l ds [] st:=trivial
theorem Se {q:Nat} {ps:List Nat} {o:Oper} (ho:l[q]?=some o) (h1:Cy X ds o st) (h2:fN X l ds ps st):fN X l ds (q::ps) st:=by
 grind[fN]
theorem rr {dst:Option Nat} {f:FuncId} {args:Array Operand} {Ts:Array TypeId} {ty:TypeId} {pos:String} {aft:Array Edge} {g:Option (Nat×Bool)} (f':FuncId) (_hf:f=f') (h:qS X ⟨dst,.call ⟨.value (.func f),args,Ts⟩,ty,pos,aft,g⟩ K E st) :
  qS X ⟨dst,.call ⟨.value (.func f),args,Ts⟩,ty,pos,aft,g⟩ K E st:=h
theorem NO {dst:Option Nat} {op:Op} {ty:TypeId} {pos:String} {aft:Array Edge} {j:Nat} {want:Bool} (h:il X ds K E (⟨dst,op,ty,pos,aft,some (j,want)⟩::l) st):il X ds K E (⟨dst,op,ty,pos,aft,some (j,want)⟩::l) st:=h
theorem dZ {i:Nat} {r:Zh} (h:ur X l ds K (.q i r) st):ur X l ds K (.q i r) st:=h
theorem qS.qCj {o:Oper} {K':St->Prop} (h:qS X o K' E st) (hK:∀ s,K' s->∃ hp':Nm->Option AO,(∀ m ob,hp' m=some ob->s.hp m=some ob)/\K { tm:=s.tm,hp:=hp',n:=s.n,gl:=s.gl }):qS X o K E st:=by
 intro a w Q hR hE;refine Oper.wp_mono ?_ (h a w Q hR hE);rintro a' w' ⟨s,h1,h2⟩;obtain⟨hp',e1,e2⟩:=hK s h2;exact⟨_,h1.weaken hp' e1,e2⟩
theorem so {d:Nat}:cf d noD noH=kl (.s d):=by
 grind[cf,kl,noD]
theorem rM {o:Oper} {f:FuncId} {args:Array Operand} {Ts:Array TypeId} {az:List AV} {R:Nm->AV->(Nm->Option AO)->Prop} {d:Nat} (ho:o.op=.call ⟨.value (.func f),args,Ts⟩) (hd:o.dst=some d) (hn:d<X.n) (hF:qb X.P X.gl f az R)
  (hB:BwL st.hp noD (args.toList.map (ev st)) az) (hK:∀ x H',R (.s d) x H'->K ((st.call d noD noH (qAH H')).put (some d) (LE x))):qS X o K E st:=by
 refine eF (D:=noD) (H:=noH) (R:=R) hF (iL hF.1 ho) true hB (λ_ _=>rfl) (λn h=>uA) (λn h=>absurd rfl h) (λk i j _=>.inl rfl) (λe he=>qH) ?_ (λ_ _ h=>h.elim)
 simp_all
section
variable {d f:Nat} {ty:TypeId} {pos:String} {aft:Array Edge} {g:Option (Nat×Bool)} {args:Array Operand} {Ts:Array TypeId} {az avs:List AV}
theorem Ro {x:AV} (hd:d<X.n) (ha:args.toList.map (ev st)=avs) (hB:BwL st.hp noD avs az) (hF:qb X.P X.gl f az (λ_ y _=>y=x)) (hc:x.cln=true) (h:K ((st.kill (.s d)).put (some d) x)) :
  qS X ⟨some d,.call ⟨.value (.func f),args,Ts⟩,ty,pos,aft,g⟩ K E st:=by
 subst ha;refine (qS.qCj (rM (K:=λs=>∃ H',s=(st.call d noD noH H').put (some d) x) rfl rfl hd hF hB ?_) ?_)
 .rintro y H' rfl;exact⟨qAH H',by simp [LE,hc]⟩
 .rintro s ⟨H',rfl⟩;refine⟨(st.kill (.s d)).hp,λm ob e=>?_,?_⟩<;>simp_all[St.kill,St.nm,hkl,St.put,St.call,noD,so]
theorem M1 {z n:Nat} {rows:List (List AV)} (hd:d<X.n) (ha:args.toList.map (ev st)=avs) (hB:BwL st.hp noD avs az) (hF:qb X.P X.gl f az (λr y H'=>y=.hs r z 0 n/\H' r=some (.row z rows))) (hc:rows.all (λr=>r.all AV.cln)=true)
  (h:K (((st.kill (.s d)).Zp (.s d) (.row z rows)).put (some d) (.hs (.s d) z 0 n))):qS X ⟨some d,.call ⟨.value (.func f),args,Ts⟩,ty,pos,aft,g⟩ K E st:=by
 subst ha;refine (qS.qCj (rM (K:=λs=>∃ H',s=(st.call d noD noH H').put (some d) (.hs (.s d) z 0 n)/\H' (.s d)=some (.row z rows)) rfl rfl hd hF hB ?_) ?_)
 .rintro y H' ⟨rfl,e⟩;exact⟨_,rfl,by grind[qAH,AO.cln]⟩
 .rintro s ⟨H',rfl,e'⟩;refine⟨((st.kill (.s d)).Zp (.s d) (.row z rows)).hp,λm ob e=>?_,?_⟩
  .simp only [St.kill,St.nm,hkl,St.Zp] at e
   grind[St.put,St.call,St.nm,Nm.Z6,noD,so]
  simp_all[St.put,St.call,St.nm,St.kill,St.Zp,so]
end
end
section
variable {P:Program} {root:Nm} {rs:List ResultVar} {R E:Nm->AV->(Nm->Option AO)->Prop} {st:St} {D:Nm->Bool}
theorem qD {xs:List AV} (sbs:List (Nm×Nm)) (hok:OkS D root sbs) (hx:C8 P st rs=some xs) (h:R root ((MK xs).tr (jc D sbs)) (lQ D sbs st.hp)):s9 P D root rs R E .ret st:=⟨sbs,xs,hok,hx,h⟩
theorem zy {xs:List AV} (sbs:List (Nm×Nm)) (hok:OkS D root sbs) (hx:C8 P st rs=some xs) (h:R root ((MK xs).tr (jc D sbs)) (lQ D sbs st.hp)):s9 P D root rs R E .normal st:=⟨sbs,xs,hok,hx,h⟩
theorem jU {t z n:Nat} {rows:List (List AV)} (hx:C8 P st rs=some [.hs (.s t) z 0 n]) (hn:st.hp (.s t)=some (.row z rows)) (hc:∀ f:Nm->Option Nm,rows.map (λr=>r.map (AV.tr f))=rows) :
  s9 P noD root rs (λr y H'=>y=.hs r z 0 n/\H' r=some (.row z rows)) E .ret st:=by
 refine qD [(.s t,root)] (.one rfl) hx ⟨?_,?_⟩
 .simp [MK,AV.tr,jc,Nm.under,Nm.Zn]
 .have:Nm.Zn root (.s t) root=.s t:=by cases root <;> simp [Nm.Zn]
  simp_all[lQ,noD,Tq,Nm.Z6,jc,Nm.Zn,AO.tr]
end
end Go.Hm
end
