import Derived.Test.YtjgpejikjhojcaaGreatDoorR05
import Derived.KernelRfl
set_option linter.unusedSimpArgs false
set_option linter.unusedVariables false
set_option maxRecDepth 100000
set_option maxHeartbeats 4000000

section
namespace Go.Hm
open Go Go.RowKit
section
variable {X:Ctx} {ops:Array Oper} {st:St} {K:St->Prop}
theorem Rw.put {a:Act} {w:World} {d:Nat} {v:Value} {z:AV} (h:Rw X st a w) (hd:d<X.n) (hv:∀ C g,Rg X.P X.own C X.w0 g st a w->RV g w v z):Rw X (st.put (some d) z) (a.put (some d) v) w:=h.Tt hd hv
theorem Rw.yk {a:Act} {w:World} {o:Oper} {z:AV} (h:Rw X st a w) (hq:yk X.P st o=some z) (d:Nat) (hd:d<X.n):∃ v,(execOp a.eval o).run X.P w=.ok (.value v) w/\Rw X (st.put (some d) z) (a.put (some d) v) w:=by
 obtain⟨C,g,h1,h2,h3,h4,h5,hr⟩:=h;obtain⟨v,e1,e2⟩:=Lh hr hq;exact⟨v,e1,C,g,h1,h2,h3,h4,h5,hr.put (λt e=>qP) e2⟩
theorem VZ {a:Act} {d:Nat} {v:Value} (h:d<a.tmps.size):(a.put (some d) v).tmps.getD d undef=v:=by
 simp [Act.put,h]
theorem GA {o:Oper} {i:Nat} {K':St->Prop} {b:Act} {w:World} (hw:mC ops) (ho:ops[i]?=some o) (hq:wb ops i=true) (hi:i∉vJ ops i) (hR:Rw X st b w)
  (h:QG X (ops.toList.map (·.dst)) o K' st):∃ d v st',o.dst=some d/\K' st'/\Rw X st' (b.put (some d) v) w/\oH X.P ops (b.put (some d) v) w i:=by
 have hlt:i<ops.size:=(mE.1 ho).1;simp only [wb,ho,ju] at hq;obtain⟨hq1,hq2⟩:=hq;obtain⟨d,hd⟩:=Aw.1 hq2;have hdi:uI ops i=some d:=oq;have hla:d∉o.looksAt ops:=λhm=>hi (hw.look i o d i ho hm hlt hdi (by grind[wb]))
 have kz:∀ v,d<b.tmps.size->((Region.wanted o (yielded ops b.tmps)=true/\(execOp b.eval o).run X.P w=.ok (.value v) w)\/(Region.wanted o (yielded ops b.tmps)=false/\v=undef))->oH X.P ops (b.put (some d) v) w i:=by
  intro v hlt h;have hag:wh (λt=>t=d) (b.put (some d) v) b:=⟨rfl,by simp [Act.put],λt ht=>by grind[Act.put]⟩;have hl:∀ t∈o.looksAt ops,¬ t=d:=λt ht e=>hla (e ▸ ht);refine⟨o,d,ho,hd,by grind[Act.put],?_⟩;rw [hag.wanted hl,hag.exec (hw.tE i o · · ho) hl,VZ hlt];exact h
 have hsz:=hR.size;rcases h with⟨hg,h⟩|⟨j,want,e,t,hg,hde,ht,h1,h2⟩|⟨j,want,e,hg,hde,ht,hn,hK⟩
 .obtain⟨d',z,e1,hn,hz,hK⟩:=h;rw [hd] at e1;obtain rfl:=sI e1;obtain⟨v,hrun,hR'⟩:=hR.yk hz d hn
  grind[N7]
 .have hy:=hR.yielded hde ht;by_cases htw:t=want
  .obtain⟨d',z,e1,hn,hz,hK⟩:=h1 htw;rw [hd] at e1;obtain rfl:=sI e1;obtain⟨v,hrun,hR'⟩:=hR.yk hz d hn
   grind[Region.wanted]
  .have hnot:t=!want:=by cases t <;> cases want <;> simp_all
   obtain⟨hn,hK⟩:=h2 hnot;rw [hd] at hK;have hn':=hn d hd;exact⟨d,undef,_,hd,hK,hR.put hn' (λ_ _ _=>RV.sc _),kz undef qP (.inr ⟨BR,rfl⟩)⟩
 .have hy:yielded ops b.tmps j=none:=hR.qCQ hde ht;rw [hd] at hK;have hn':=hn d hd;exact⟨d,undef,_,hd,hK,hR.put hn' (λ_ _ _=>RV.sc _),kz undef qP (.inr ⟨BR,rfl⟩)⟩
theorem au {l:List Nat} {x:Nat}:l.contains x=true↔x∈l:=qB
theorem Hb (hw:mC ops):∀ (sch:qV) {LV:List Nat} {listed:Array Bool} {st:St} {a b:Act} {w:World},jo ops sch LV=true->zi X ops.toList (ops.toList.map (·.dst)) K sch st->DI X ops LV listed st a b w ->
  ∃ sch' LV' st' b',(∀ i r,sch'≠.q i r)/\jo ops sch' LV'=true/\zi X ops.toList (ops.toList.map (·.dst)) K sch' st'/\DI X ops LV' listed st' a b' w:=by
 intro sch
 induction sch with
 | done=>grind
 | l i ps r _=>grind
 | l2 i ps r j qs s _ _=>grind
 | l3 i ps r j qs s k us t _ _ _=>grind
 | q i r ih =>
  intro LV listed st a b w h1 h2 h3;simp only [jo,ju,decide_eq_true_eq] at h1;obtain⟨⟨⟨hlt,hq⟩,hr⟩,hok⟩:=h1;simp only [AY,ju,aj] at hr;obtain⟨hni,hpr⟩:=hr;have hni:i∉LV:=λhm=>qP;have hpr:∀ j∈vJ ops i,j∈LV:=λj hj=>au.1 (y5.1 hpr j hj);have ho:ops[i]?=some ops[i]:=io hlt;simp only [zi,ak,ho] at h2;obtain⟨d,v,st',hd,hK,hR',hP⟩:=GA hw ho hq (λhm=>hni (hpr i hm)) h3.rw h2;have hdi:uI ops i=some d:=oq
  have hnl:listed.getD i true=false:=by
   cases e:listed.getD i true with
   | false=>rfl
   | true=>exact absurd (h3.sub i hlt e) hni
  refine ih (LV:=i::LV) (listed:=listed) (st:=st') (a:=a) (b:=b.put (some d) v) (w:=w) hok hK ⟨hR',h3.len,λk hk e=>bU _ (h3.sub k hk e),h3.closed,?_,?_,⟨hni,hlt,hpr,h3.ord⟩⟩
  .intro q hqc e;rcases vQ.1 hqc with rfl|hqm
   .simp_all
   .obtain⟨x1,x2⟩:=h3.kz q hqm e;have hqlt:=h3.ord.lt q hqm;refine⟨x1,x2.put hw d v (λo' ho' hm=>?_) (λe'=>?_)⟩
    .have:=hw.look q o' d i ho' hm hlt hdi hq;exact hni (h3.ord.vJ q hqm i this)
    .obtain rfl:=hw.Ec q i d hqlt hlt e' hdi
     simp_all
  .refine⟨h3.yv.defers,by simpa [Act.put] using h3.yv.size,λt ht=>?_⟩;have htd:t≠d:=λe=>ht ⟨i,qB,hnl,by rw [hdi,e]⟩;simp only [Act.put];rw [oT (λe=>htd e.symm)];exact h3.yv.tmps t (λ⟨q,x1,x2,x3⟩=>ht ⟨q,bU _ x1,x2,x3⟩)
theorem G4:∀ {ps:List Nat},uX X ops.toList (ops.toList.map (·.dst)) ps st->∀ q∈ps,∃ o,ops[q]?=some o/\nj X (ops.toList.map (·.dst)) o st
 | [],_,_,h=>by cases h
 | p::ps,h,q,hq=>by
  obtain⟨h1,h2⟩:=h;rcases vQ.1 hq with rfl|hq
  .grind
  .exact G4 h2 q hq
theorem GE (hw:mC ops) {listed:Array Bool} {b:Act} {w:World} (hR:Rw X st b w):∀ (l:List Nat),cC ops l ->
  (∀ q∈l,listed.getD q true=false->wb ops q=true/\∃ o,ops[q]?=some o/\nj X (ops.toList.map (·.dst)) o st/\∀ d,o.dst=some d->d<X.n) ->
  ∃ b',Rw X st b' w/\(∀ q∈l,listed.getD q true=false->oH X.P ops b' w q)/\wh (λt=>∃ q∈l,listed.getD q true=false/\uI ops q=some t) b' b
 | [],_,_=>⟨b,hR,qB,⟨rfl,rfl,λ_ _=>rfl⟩⟩
 | x::l,hl,hs=>by
  obtain⟨b1,hR1,hp1,hag⟩:=GE hw hR l hl.2.2.2 (λq hq=>hs q (bU _ hq))
  cases hlx:listed.getD x true with
  | true =>
   refine⟨b1,hR1,λq hq e=>?_,⟨hag.defers,hag.size,λt ht=>hag.tmps t (λ⟨q,x1,x2,x3⟩=>ht ⟨q,bU _ x1,x2,x3⟩)⟩⟩
   grind
  | false =>
   obtain⟨hq,o,ho,hst,hdn⟩:=hs x qB hlx;have hlt:=hl.2.1;obtain⟨hq1,hq2⟩:Jw o.op=true/\o.dst.isSome=true:=by grind[wb]
   obtain⟨d,hd⟩:=Aw.1 hq2;have hdi:uI ops x=some d:=oq;have hxx:x∉vJ ops x:=λhm=>hl.1 (hl.2.2.1 x hm)
   -- the operation,az the state holds it
   have hag':QG X (ops.toList.map (·.dst)) o (λs=>s=st) st:=by
    have hdX:=hdn d hd;have quiet:yk X.P st o=some (st.tm d)->At X o (λs=>s=st) st:=λhz=>⟨d,_,hd,hdX,hz,pW rfl⟩;unfold nj at hst;rw [hd] at hst;simp only at hst
    split at hst
    .rename_i hg;exact .inl ⟨hg,quiet hst⟩
    .rename_i j want hg
     split at hst
     .rename_i e hde
      split at hst
      .rename_i t ht;refine .inr (.inl ⟨j,want,e,t,hg,hde,ht,λe'=>quiet (hst.1 e'),λe'=>⟨hdn,?_⟩⟩)
       grind[pW]
      .rename_i v _ hv;refine .inr (.inr ⟨j,want,e,hg,hde,qP,hdn,?_⟩)
       grind[pW]
      simp_all
     simp_all
   obtain⟨d',v,st',hd',rfl,hR2,hP⟩:=GA hw ho hq hxx hR1 hag';rw [hd] at hd';obtain rfl:=sI hd';refine⟨b1.put (some d) v,hR2,λq hqc e=>?_,⟨hag.defers,by grind[Act.put,wh.size],λt ht=>?_⟩⟩
   .rcases vQ.1 hqc with rfl|hq'
    .exact hP
    .refine (hp1 q hq' e).put hw d v (λo' ho' hm=>?_) (λe'=>?_)
     .exact hl.1 (hl.2.2.2.vJ q hq' x (hw.look q o' d x ho' hm hlt hdi hq))
     .obtain rfl:=hw.Ec q x d (hl.2.2.2.lt q hq') hlt e' hdi;exact hl.1 hq'
   .have htd:t≠d:=λe=>ht ⟨x,qB,hlx,by rw [hdi,e]⟩;simp only [Act.put];rw [oT (λe=>htd e.symm)];exact hag.tmps t (λ⟨q,x1,x2,x3⟩=>ht ⟨q,bU _ x1,x2,x3⟩)
end
section
variable {X:Ctx} {ops:Array Oper} {st:St} {K:St->Prop}
theorem JM {p p':Nat->Bool}:∀ (l:List Nat),(∀ x∈l,p' x=true->p x=true)->(∃ x∈l,p x=true/\p' x=false)->(l.filter p').length<(l.filter p).length
 | [],_,h=>by simp_all
 | y::l,h1,h2=>by
  have le:∀ (l:List Nat),(∀ x∈l,p' x=true->p x=true)->(l.filter p').length<=(l.filter p).length:=by
   intro l
   induction l<;>grind
  have hle:=le l (λx hx=>h1 x (bU _ hx));obtain⟨x,hx,e1,e2⟩:=h2;rcases vQ.1 hx with rfl|hx
  .grind
  .have:=JM l (λx hx=>h1 x (bU _ hx)) ⟨x,hx,e1,e2⟩
   grind
def gI (ops:Array Oper) (listed:Array Bool):Nat:=((List.range ops.size).filter (λi=>!listed.getD i true)).length
theorem w5 {listed:Array Bool} {i j:Nat} (hi:i<listed.size):(listed.setIfInBounds i true).getD j true=if j=i then true else listed.getD j true:=by
 simp_all<;>grind
theorem tQ {listed:Array Bool} {i:Nat} (hs:listed.size=ops.size) (hi:i<ops.size) (h:listed.getD i true=false):gI ops (listed.setIfInBounds i true)<gI ops listed:=by
 unfold gI;refine JM _ (λx _ hx=>?_) ⟨i,gT.2 hi,gj,?_⟩<;>grind[w5]
theorem nT {listed:Array Bool} {i:Nat}:i∈Region.ready .any ops listed↔listed.getD i true=false/\i<ops.size/\∀ j∈vJ ops i,listed.getD j false=true:=by
 grind[mem_ready,vJ]
theorem E5 {listed:Array Bool}:∀ (l:List Nat),cC ops l->(∃ q∈l,listed.getD q true=false)->∃ q∈l,listed.getD q true=false/\∀ j∈vJ ops q,listed.getD j true=true
 | [],_,h=>by simp_all
 | x::l,hl,h=>by
  by_cases ht:∃ q∈l,listed.getD q true=false
  .obtain⟨q,h1,h2,h3⟩:=E5 l hl.2.2.2 ht
   grind
  grind[cC]
theorem qAw {P:Program} {o:Oper} {a b:Act} {K1 K2:Act->World->Prop} {Q:Exit->Act->World->Prop} {r:Result Next} (hdef:a.defers=b.defers)
  (hK:∀ v D w',K1 (Act.put { b with defers:=D } o.dst v) w'->K2 (Act.put { a with defers:=D } o.dst v) w') (h:o.upon P b K1 (λ_ _ _=>False) r):o.upon P a K2 Q r:=by
 have hb:({ b with defers:=b.defers }:Act)=b:=rfl;have ha:({ a with defers:=b.defers }:Act)=a:=by rw [<- hdef]
 have hv:∀ v w',K1 (b.put o.dst v) w'->K2 (a.put o.dst v) w':=λv w' h=>by
  simp_all
 cases r with
 | ok n w' =>
  cases n with
  | value v=>exact hv v w' h
  | skip=>exact hv undef w' h
  | defer d =>
   have h:K1 (Act.put { b with defers:=d::b.defers } o.dst undef) w':=h
   show K2 (Act.put { a with defers:=d::a.defers } o.dst undef) w'
   simp_all
  | enter f args =>
   refine Calls.mono h λe w'' he=>?_
   cases e with
   | returned v=>simp_all
   | panicked ch=>simp_all
   | outgrown=>obtain⟨_,_,h⟩:=he;grind
  | row row args=>exact Rows.mono h λv w'' he=>hv v w'' he
  | _=>exact h.elim
 | halt x w' =>
  cases x with
  | panic v=>exact h.elim
  | _=>exact h.elim
theorem CT {LV:List Nat} (h:jo ops .done LV=true):∀ i,i<ops.size->i∈LV:=by
 simp_all[jo]
theorem sp {LV:List Nat} {i:Nat}:i∈fw ops LV↔i<ops.size/\i∉LV/\∀ j∈vJ ops i,j∈LV:=by
 grind[fw,AY]
theorem JS {sch:qV} {LV:List Nat} {listed:Array Bool} {a b:Act} {w:World} {Q:Exit->Act->World->Prop} (hK:∀ a' w' st',Rw X st' a' w'->K st'->Q .normal a' w') (hD:DI X ops LV listed st a b w)
  (hnq:∀ i r,sch≠.q i r) (hok:jo ops sch LV=true) (hr:zi X ops.toList (ops.toList.map (·.dst)) K sch st) (hall:∀ i,i<ops.size->listed.getD i true=true):Q .normal a w:=by
 have hin:∀ i,i<ops.size->i∈LV:=λi hi=>hD.sub i hi (hall i hi)
 have no:∀ i,i∉fw ops LV:=λi hm=>by
  grind[sp]
 have hab:a=b:=by
  obtain⟨t1,d1⟩:=a;obtain⟨t2,d2⟩:=b;have hd:d1=d2:=hD.yv.defers
  have ht:t1=t2:=by
   apply Array.ext_getElem?;intro t;exact hD.yv.tmps t (λ⟨q,x1,x2,_⟩=>IW)
  rw [hd,ht]
 cases sch with
 | done=>grind[DI.rw,zi]
 | q i r=>simp_all
 | l i ps r =>
  simp_all[jo]
 | l2 i ps r j qs s =>
  simp only [jo,ju,beq_iff_eq] at hok
  simp_all<;>grind
 | l3 i ps r j qs s k us t =>
  simp only [jo,ju,beq_iff_eq] at hok
  simp_all<;>grind
theorem si {fuel i:Nat} {ps LV:List Nat} {r:qV} {listed:Array Bool} {a b:Act} {w:World} {Q:Exit->Act->World->Prop} {o:Oper} (hw:mC ops) (ho:ops[i]?=some o) (hq:wb ops i=false) (hD:DI X ops LV listed st a b w)
  (hni:i∉LV) (hlist:∀ j∈vJ ops i,listed.getD j false=true) (hps:∀ q∈iH ops LV i,q∈ps) (hok:jo ops r (i::LV)=true)
  (h:vd X (ops.toList.map (·.dst)) o (λs=>uX X ops.toList (ops.toList.map (·.dst)) ps s/\zi X ops.toList (ops.toList.map (·.dst)) K r s) (λ_ _=>False) st)
  (hun:gI ops listed<=fuel+1)
  (ih:∀ (sch:qV) (LV:List Nat) (listed:Array Bool) (st:St) (a b:Act) (w:World),DI X ops LV listed st a b w->jo ops sch LV=true->zi X ops.toList (ops.toList.map (·.dst)) K sch st->gI ops listed<=fuel->wpAny X.P .any ops Q fuel listed a w) :
  wpOp X.P ops Q i (wpAny X.P .any ops Q fuel (listed.setIfInBounds i true)) a w:=by
 have hlt:i<ops.size:=(mE.1 ho).1;have hlt':i<listed.size:=sG
 have lst:∀ j∈vJ ops i,j<ops.size->listed.getD j true=true:=λj hj hjlt=>by
  grind
 have hlook:∀ t∈o.looksAt ops,¬ ∃ q∈LV,listed.getD q true=false/\uI ops q=some t:=by
  rintro t ht ⟨q,x1,x2,x3⟩;have hqlt:=hD.ord.lt q x1;have:=hw.look i o t q ho ht hqlt x3 (hD.kz q x1 x2).1
  simp_all
 have hex:=hD.yv.exec (hw.tE i o · · ho) hlook;have hwt:=hD.yv.wanted hlook
 have hprd:∀ j∈vJ ops i,j∈LV:=λj hj=>by
  have hjl:=hlist j hj
  have hjlt:j<ops.size:=by
   grind[DI.len]
  exact hD.sub j hjlt (lst j hj hjlt)
 have hni':listed.getD i true=false:=by
  cases e:listed.getD i true with
  | false=>rfl
  | true=>exact absurd (hD.sub i hlt e) hni
 -- what comes behind
 have next:∀ (a' b':Act) (w':World) (s:St),Rw X s b' w'->uX X ops.toList (ops.toList.map (·.dst)) ps s->zi X ops.toList (ops.toList.map (·.dst)) K r s ->
   wh (λt=>∃ q∈LV,listed.getD q true=false/\uI ops q=some t) a' b'->wpAny X.P .any ops Q fuel (listed.setIfInBounds i true) a' w':=by
  intro a' b' w' s hR hst hrun hag
  have un':∀ q,(listed.setIfInBounds i true).getD q true=false->q≠i/\listed.getD q true=false:=by
   grind[w5]
  have lis':∀ k,listed.getD k true=true->(listed.setIfInBounds i true).getD k true=true:=by
   grind
  have hord:cC ops (i::LV):=⟨hni,hlt,hprd,hD.ord⟩
  obtain⟨b2,hR2,hP2,hag2⟩:=GE hw hR (listed:=listed.setIfInBounds i true) (i::LV) hord (λq hqm e=>by
   obtain⟨hne,eq⟩:=un' q e;have hqLV:q∈LV:=(vQ.1 hqm).resolve_left hne;obtain⟨x1,o',d',x2,x3,x4,_⟩:=hD.kz q hqLV eq;have hqlt:=hD.ord.lt q hqLV;refine⟨x1,?_⟩
   have hqp:q∈iH ops LV i:=by
    refine List.mem_filter.2 ⟨hqLV,?_⟩;simp only [x1,fJ,aj,List.any_eq_false];intro l hl hc;simp only [ju,aj] at hc;obtain⟨hlq,hlp⟩:=hc;have hlp:=au.1 hlp
    have hl1:∀ q'∈vJ ops l,listed.getD q' false=true:=by
     rcases vQ.1 hl with rfl|hl
     .exact hlist
     .exact hD.closed l (hD.ord.lt l hl) (by
       cases e':listed.getD l true with
       | true=>rfl
       | false=>rw [(hD.kz l hl e').1] at hlq;cases hlq)
    have this:listed.getD q false=true:=Fh (L:=λq=>listed.getD q false=true) (λq' h3=>by
     have hlt2:q'<ops.size:=by
      grind[DI.len]
     exact hD.closed q' hlt2 qw) _ _ hl1 q hlp
    grind
   obtain⟨o2,y1,y2⟩:=G4 hst q (hps q hqp);refine⟨o2,y1,y2,λd hd=>?_⟩;rw [x2] at y1;obtain rfl:=sI y1;rw [x3] at hd;obtain rfl:=sI hd;rw [<- hD.rw.size];exact x4)
  refine ih r (i::LV) (listed.setIfInBounds i true) s a' b2 w' ⟨hR2,sG,λk hk e=>?_,λk hk e j hj=>?_,λq hqm e=>?_,⟨?_,?_,λt ht=>?_⟩,hord⟩ hok hrun ?_
  .rw [w5 hlt'] at e
   split at e
   .simp_all
   .exact bU _ (hD.sub k hk e)
  .have:listed.getD j false=true:=by
    rw [w5 hlt'] at e
    split at e
    .simp_all
    .exact hD.closed k hk e j hj
   grind
  .obtain⟨hne,e'⟩:=un' q e;have hqLV:q∈LV:=(vQ.1 hqm).resolve_left hne;exact⟨(hD.kz q hqLV e').1,hP2 q hqm e⟩
  .rw [hag.defers,hag2.defers]
  .rw [hag.size,hag2.size]
  .rw [hag2.tmps t ht];refine hag.tmps t λ⟨q,x1,x2,x3⟩=>ht ⟨q,bU _ x1,?_,x3⟩
   grind[w5]
  .have:=tQ hD.len hlt hni';omega
 -- the operation itself
 have hop:=h ops i rfl ho b w (λ_ _ _=>False) hD.rw (λ_ _ _ _ _ h=>h.elim);have agr':∀ v,wh (λt=>∃ q∈LV,listed.getD q true=false/\uI ops q=some t) (a.put o.dst v) (b.put o.dst v):=λv=>hD.yv.put o.dst v (λt ht=>.inr ht);unfold wpOp at hop ⊢;simp only [ho] at hop ⊢;rw [hwt]
 split at hop
 .rename_i hwd;rw [if_pos hwd];rcases hop with hop|⟨_,_,_,hop⟩
  .left;unfold Oper.wp at hop ⊢;rw [hex];refine qAw hD.yv.defers ?_ hop;rintro v D w' ⟨s,hR,hst,hrun⟩;refine next _ _ w' s hR hst hrun ?_;have:wh (λt=>∃ q∈LV,listed.getD q true=false/\uI ops q=some t) { a with defers:=D } { b with defers:=D }:=⟨rfl,hD.yv.size,hD.yv.tmps⟩;exact this.put o.dst v (λt ht=>.inr ht)
  simp_all
 grind
theorem oL.U2 {E:AV->St->Prop} (sch:qV) (hwf:pk ops=true) (hok:jo ops sch []=true) (h:zi X ops.toList (ops.toList.map (·.dst)) K sch st):oL X ops K E st:=by
 have hw:=Nb hwf;intro a w Q hR hK _
 have main:∀ (fuel:Nat) (sch:qV) (LV:List Nat) (listed:Array Bool) (st:St) (a b:Act) (w:World),DI X ops LV listed st a b w->jo ops sch LV=true->zi X ops.toList (ops.toList.map (·.dst)) K sch st->gI ops listed<=fuel ->
   wpAny X.P .any ops Q fuel listed a w:=by
  intro fuel
  induction fuel with
  | zero =>
   intro sch0 LV0 listed wD a b0 w hD0 hok0 hr0 hun;obtain⟨sch,LV,st,b,hnq,hok,hr,hD⟩:=Hb hw sch0 hok0 hr0 hD0
   have hall:∀ i,i<ops.size->listed.getD i true=true:=by
    intro i hi
    cases e:listed.getD i true with
    | true=>rfl
    | false =>
     have:=tQ hD.len hi e;omega
   refine⟨?_,JS hK hD hnq hok hr hall⟩;apply Ax.2
   grind[nT]
  | succ fuel ih =>
   intro sch0 LV0 listed wD a b0 w hD0 hok0 hr0 hun;obtain⟨sch,LV,st,b,hnq,hok,hr,hD⟩:=Hb hw sch0 hok0 hr0 hD0;refine⟨λhnone=>JS hK hD hnq hok hr ?_,λi hi=>?_⟩
   · -- nothing is ready: all is done
    have tf:∀ j,listed.getD j false=true↔(j<ops.size/\listed.getD j true=true):=by
     grind[DI.len]
    have hLV:∀ q∈LV,listed.getD q true=true:=by
     intro q hq
     cases e:listed.getD q true with
     | true=>rfl
     | false =>
      obtain⟨q',h1,h2,h3⟩:=E5 LV hD.ord ⟨q,hq,e⟩;have:q'∈Region.ready .any ops listed:=nT.2 ⟨h2,hD.ord.lt q' h1,λj hj=>(tf j).2 ⟨hD.ord.lt j (hD.ord.vJ q' h1 j hj),h3 j hj⟩⟩
      simp_all
    have no:∀ i,i∉fw ops LV:=λi hm=>by
     obtain⟨h1,h2,h3⟩:=sp.1 hm
     have hnl:listed.getD i true=false:=by
      cases e:listed.getD i true with
      | false=>rfl
      | true=>exact absurd (hD.sub i h1 e) h2
     have:i∈Region.ready .any ops listed:=nT.2 ⟨hnl,h1,λj hj=>(tf j).2 ⟨hD.ord.lt j (h3 j hj),hLV j (h3 j hj)⟩⟩
     simp_all
    cases sch with
    | done=>grind[CT]
    | q i r=>simp_all
    | l i ps r =>
     simp_all[jo]
    | l2 i ps r j qs s =>
     simp only [jo,ju,beq_iff_eq] at hok
     simp_all<;>grind
    | l3 i ps r j qs s k us t =>
     simp only [jo,ju,beq_iff_eq] at hok
     simp_all<;>grind
   .obtain⟨h0,hlt,hlist⟩:=nT.1 hi;have ho:ops[i]?=some ops[i]:=io hlt;by_cases hin:i∈LV
    · -- a quiet one that is pending
     obtain⟨hq,o,d,ho',hd,hdlt,hP⟩:=hD.kz i hin h0;rw [ho] at ho';obtain rfl:=sI ho';have hdi:uI ops i=some d:=oq;have hlt':i<listed.size:=qw
     have hlook:∀ t∈ops[i].looksAt ops,¬ ∃ q∈LV,listed.getD q true=false/\uI ops q=some t:=by
      rintro t ht ⟨q,x1,x2,x3⟩;have hqlt:=hD.ord.lt q x1;have hqp:=hw.look i _ t q ho ht hqlt x3 (hD.kz q x1 x2).1
      grind
     have hex:=hD.yv.exec (hw.tE i _ · · ho) hlook;have hwt:=hD.yv.wanted hlook
     have nx:wpAny X.P .any ops Q fuel (listed.setIfInBounds i true) (a.put (some d) (b.tmps.getD d undef)) w:=by
      refine ih sch LV _ st _ b w ⟨hD.rw,sG,λk hk e=>?_,λk hk e j hj=>?_,λq hqm e=>?_,⟨hD.yv.defers,by simpa [Act.put] using hD.yv.size,λt ht=>?_⟩,hD.ord⟩ hok hr ?_
      .rw [w5 hlt'] at e
       split at e
       .simp_all
       .exact hD.sub k hk e
      .have hjl:listed.getD j false=true:=by
        rw [w5 hlt'] at e
        split at e
        .simp_all
        .exact hD.closed k hk e j hj
       grind[w5]
      .rw [w5 hlt'] at e
       split at e
       .cases e
       .exact hD.kz q hqm e
      .simp only [Act.put];by_cases htd:d=t
       .subst htd;rw [Array.getElem?_setIfInBounds_self_of_lt (by rw [hD.yv.size];exact hdlt),io hdlt]
        simp_all
       .rw [oT htd];refine hD.yv.tmps t λ⟨q,x1,x2,x3⟩=>ht ⟨q,x1,?_,x3⟩
        grind[w5]
      .have:=tQ hD.len hlt h0;omega
     grind[wpOp,Oper.wp,Oper.upon_value]
    · -- one that is not quiet
     have hprd:∀ j∈vJ ops i,j∈LV:=λj hj=>by
      have hjl:=hlist j hj
      have hjlt:j<ops.size:=by
       grind[DI.len]
      exact hD.sub j hjlt qw
     have hrd:i∈fw ops LV:=sp.2 ⟨hlt,hin,hprd⟩
     cases sch with
     | done=>grind[CT]
     | q i r=>simp_all
     | l i1 ps r =>
      simp only [jo,ju,beq_iff_eq,aj] at hok;obtain⟨⟨⟨k1,k2⟩,k3⟩,k4⟩:=hok;rw [k1] at hrd;obtain rfl:=vD.1 hrd;simp only [zi,ak,ho] at hr;exact si hw ho k2 hD hin hlist (λq hq=>au.1 (y5.1 k3 q hq)) k4 hr hun ih
     | l2 i1 ps r j1 qs s =>
      simp only [jo,ju,beq_iff_eq,aj] at hok;obtain⟨⟨⟨⟨⟨⟨k1,k2⟩,k3⟩,k4⟩,k5⟩,k6⟩,k7⟩:=hok;rw [k1] at hrd;simp only [zi,ak] at hr;rcases vQ.1 hrd with rfl|hrd
      .have hr1:=hr.1;simp only [ho] at hr1;exact si hw ho k2 hD hin hlist (λq hq=>au.1 (y5.1 k4 q hq)) k6 hr1 hun ih
      .obtain rfl:=vD.1 hrd;have hr2:=hr.2;simp only [ho] at hr2;exact si hw ho k3 hD hin hlist (λq hq=>au.1 (y5.1 k5 q hq)) k7 hr2 hun ih
     | l3 i1 ps r j1 qs s m1 us t =>
      simp only [jo,ju,beq_iff_eq,aj] at hok;obtain⟨⟨⟨⟨⟨⟨⟨⟨⟨k1,k2⟩,k3⟩,k4⟩,k5⟩,k6⟩,k7⟩,k8⟩,k9⟩,k10⟩:=hok;rw [k1] at hrd;simp only [zi,ak] at hr;rcases vQ.1 hrd with rfl|hrd
      .have hr1:=hr.1;simp only [ho] at hr1;exact si hw ho k2 hD hin hlist (λq hq=>au.1 (y5.1 k5 q hq)) k8 hr1 hun ih
      .rcases vQ.1 hrd with rfl|hrd
       .have hr2:=hr.2.1;simp only [ho] at hr2;exact si hw ho k3 hD hin hlist (λq hq=>au.1 (y5.1 k6 q hq)) k9 hr2 hun ih
       .obtain rfl:=vD.1 hrd;have hr3:=hr.2.2;simp only [ho] at hr3;exact si hw ho k4 hD hin hlist (λq hq=>au.1 (y5.1 k7 q hq)) k10 hr3 hun ih
 refine main ops.size sch [] (Array.replicate ops.size false) st a a w ⟨hR,qB,?_,?_,qB,⟨rfl,rfl,λ_ _=>rfl⟩,trivial⟩ hok h ?_
 .simp_all
 .simp_all
 grind[gI]
end
section
variable {X:Ctx} {st:St} {K:St->Prop} {E:AV->St->Prop} {ds:List (Option Nat)} {l:List Oper}
theorem ae {id:Nat} {l:List Oper} {Q:Ex->St->Prop} (h:∀ K:St->Prop,(∀ s,Q .normal s->K s)->yE X (l.map (·.dst)) K (λx=>Q (.a6 x)) l st):jD X (.region id l.toArray false) Q st :=
 qBO h
theorem qBP {id:Nat} {l:List Oper} {Q:Ex->St->Prop} (sch:qV) (hm:X.P.follows .mixedOrders=true) (hwf:pk l.toArray=true) (hok:jo l.toArray sch []=true)
  (h:∀ K:St->Prop,(∀ s,Q .normal s->K s)->zi X l (l.map (·.dst)) K sch st):jD X (.region id l.toArray true) Q st :=
 N4 hm λK hK=>oL.U2 sch hwf hok (h K hK)
theorem qQ {id:Nat} {l:List Oper} {Q:Ex->St->Prop} (sch:qV) (hm:X.P.follows .mixedOrders=true) (h:∀ K:St->Prop,(∀ s,Q .normal s->K s)->zi X l (l.map (·.dst)) K sch st) (hwf:pk l.toArray=true:=by kernel_rfl) (hok:jo l.toArray sch []=true:=by kernel_rfl):jD X (.region id l.toArray true) Q st:=qBP sch hm hwf hok h
theorem gA (h:K st):yE X ds K E [] st:=h
theorem uz {K':St->Prop} (hK:∀ s,K' s->K s) (h:K' st):yE X ds K E [] st:=hK st h
theorem cE {K':St->Prop} (hK:∀ s,K' s->K s) (h:K' st):zi X l ds K .done st:=hK st h
theorem dE {Q:Ex->St->Prop} {id:Nat} (h:Q (.exit id) st):thenS K Q (.exit id) st:=h
theorem bL {Q:Ex->St->Prop} (h:Q .ret st):thenS K Q .ret st:=h
theorem NU {Q:Ex->St->Prop} {id:Nat} (h:Q (.goto id) st):thenS K Q (.goto id) st:=h
theorem cY {Q:Ex->St->Prop} {id:Nat} (h:Q .normal st):mx id Q .normal st:=h
theorem bi {Q:Ex->St->Prop} {id:Nat} (h:Q .ret st):mx id Q .ret st:=h
theorem Yi {o:Oper} {j e:Nat} {want t:Bool} (_ho:o.guard=some (j,want)) (_hj:ds[j]?=some (some e)) (ht:st.tm e=.sc (.bool t)) (h1:t=true->yE X ds K E (o::l) (st.put (some e) (.sc (.bool true)))) (h2:t=false->yE X ds K E (o::l) (st.put (some e) (.sc (.bool false)))) :
  yE X ds K E (o::l) st:=by
 cases t<;>grind[pW]
theorem wB {dst:Option Nat} {op:Op} {ty:TypeId} {pos:String} {aft:Array Edge} (h:qn X ⟨dst,op,ty,pos,aft,none⟩ (yE X ds K E l) E st):yE X ds K E (⟨dst,op,ty,pos,aft,none⟩::l) st:=Jb rfl h
def Gx (X:Ctx) (ds:List (Option Nat)) (K:St->Prop) (E:AV->St->Prop) (l:List Oper) (st:St) (dst:Option Nat) (op:Op) (ty:TypeId) (pos:String) (aft:Array Edge) (j:Nat) (want:Bool) (e:Nat) (v:AV):Prop :=
 ds[j]?=some (some e)->st.tm e=v->yE X ds K E (⟨dst,op,ty,pos,aft,some (j,want)⟩::l) st
section
variable {dst:Option Nat} {op:Op} {ty:TypeId} {pos:String} {aft:Array Edge} {j e:Nat} {want:Bool} {v:AV}
theorem Yj (hj:ds[j]?=some (some e)) (ht:st.tm e=v) (h:Gx X ds K E l st dst op ty pos aft j want e v):yE X ds K E (⟨dst,op,ty,pos,aft,some (j,want)⟩::l) st:=h hj ht
theorem lM (h:qn X ⟨dst,op,ty,pos,aft,some (j,true)⟩ (yE X ds K E l) E st):Gx X ds K E l st dst op ty pos aft j true e (.sc (.bool true)):=λhj ht=>Jd rfl hj ht h
theorem mw (h:qn X ⟨dst,op,ty,pos,aft,some (j,false)⟩ (yE X ds K E l) E st):Gx X ds K E l st dst op ty pos aft j false e (.sc (.bool false)):=λhj ht=>Jd rfl hj ht h
theorem Rs (hn:∀ e,dst=some e->e<X.n) (h:yE X ds K E l (st.put dst (.sc undef))):Gx X ds K E l st dst op ty pos aft j true e (.sc (.bool false)):=λhj ht=>Ja rfl hj ht hn h
theorem Rq (hn:∀ e,dst=some e->e<X.n) (h:yE X ds K E l (st.put dst (.sc undef))):Gx X ds K E l st dst op ty pos aft j false e (.sc (.bool true)):=λhj ht=>Ja rfl hj ht hn h
theorem Rt (hn:∀ e,dst=some e->e<X.n) (h:yE X ds K E l (st.put dst (.sc undef))):Gx X ds K E l st dst op ty pos aft j want e (.sc undef):=λhj ht=>R9 rfl hj ht hn h
theorem ye {t:Bool} (h1:t=true->yE X ds K E (⟨dst,op,ty,pos,aft,some (j,want)⟩::l) (st.put (some e) (.sc (.bool true)))) (h2:t=false->yE X ds K E (⟨dst,op,ty,pos,aft,some (j,want)⟩::l) (st.put (some e) (.sc (.bool false)))) :
  Gx X ds K E l st dst op ty pos aft j want e (.sc (.bool t)):=λhj ht=>Yi rfl hj ht h1 h2
end
theorem vC {c:Nat} {x y:Code} {Q:Ex->St->Prop} {t:Bool} (ht:st.tm c=.sc (.bool t)) (h1:t=true->jD X x Q (st.put (some c) (.sc (.bool true)))) (h2:t=false->jD X y Q (st.put (some c) (.sc (.bool false)))):jD X (.cond (.tmp c) x y) Q st:=by
 cases t with
 | true=>have:=h1 rfl;rw [pW ht] at this;exact Cv (c:=.tmp c) ht (λ_=>this) (λe=>vS)
 | false=>have:=h2 rfl;rw [pW ht] at this;exact Cv (c:=.tmp c) ht (λe=>vS) (λ_=>this)
section
variable {d:Nat} {ty:TypeId} {pos:String} {aft:Array Edge} {g:Option (Nat×Bool)} {st' st1:St}
theorem UW {op:Op} {z:AV} (hd:d<X.n) (hz:yk X.P st ⟨some d,op,ty,pos,aft,g⟩=some z) (h:K (st.put (some d) z)):qn X ⟨some d,op,ty,pos,aft,g⟩ K E st :=
 (ZD (λ_ e=>qP) hz h)
theorem UR {x:Operand} (hd:d<X.n) (hs:oY X.P ty d (ev st x) st=st') (h:K st'):qn X ⟨some d,.assign x,ty,pos,aft,g⟩ K E st :=
 (Yv rfl rfl hd (hs ▸ h))
theorem US {T:TypeId} {x:Operand} {cs:List AV} (hd:d<X.n) (hq:(ev st x).cells=some cs) (hz:cs.length=qf X.P T) (hs:bZ X.P T d cs st=st') (h:K st'):qn X ⟨some d,.box T x,ty,pos,aft,g⟩ K E st :=
 (Yw rfl rfl hd hq hz (hs ▸ h))
theorem UN {T:TypeId} {zs:List AV} (hd:d<X.n) (hq:jx X.P T=some zs) (hs:bZ X.P T d zs st=st') (h:K st'):qn X ⟨some d,.alloc T,ty,pos,aft,g⟩ K E st :=
 (Yt rfl rfl hd hq (hs ▸ h))
theorem Ku {key:Nat->Nm} {es:List Nat}:∀ {v:List AV} {j:Nat},v.all (λx=>!jV x)=true->vG key es j v=[]
 := by intro x0;induction x0<;>simp_all[vG]
theorem OF {key:Nat->Nm} {es:List Nat}:∀ {v:List AV} {j:Nat},v.all (λx=>!jV x)=true->yu key es j v=v
 := by intro x0;induction x0<;>simp_all[yu,zc]
theorem UZ {T:TypeId} {p x:Operand} {n:Nm} {z i off:Nat} {v0:List AV} {rows:List (List AV)} (hT:(X.P.info? T).isSome=true) (hv0:(ev st x).cells=some v0) (hnil:v0.all (λx=>!jV x)=true) (hlen:v0.length=qf X.P T)
  (hp:pl (ev st p)=some (n,i,off)) (hrows:iN st (ev st p)=some (z,rows)) (hi:i<rows.length) (hoff:off+v0.length<=z) (hs:canon (kK (λj=>.c n i (off+j)) 0 v0) (st.zT n (.row z (j3 rows i off v0)))=st') (h:K st') :
  qn X ⟨none,.store T p x,ty,pos,aft,g⟩ K E st:=by
 have e1:wE X.P T n i off v0 st=st:=by simp only [wE,Ku hnil];rfl
 grind[iR,OF,Ma,ll]
theorem UY {T:TypeId} {p x:Operand} {n:Nm} {z i off:Nat} {v0 v1:List AV} {rows:List (List AV)} (hT:(X.P.info? T).isSome=true) (hv0:(ev st x).cells=some v0) (hlen:v0.length=qf X.P T)
  (hp:pl (ev st p)=some (n,i,off)) (hk:wE X.P T n i off v0 st=st1) (hp1:pl (ev st1 p)=some (n,i,off)) (hv1:(ev st1 x).cells=some v1) (hsame:v1.map jV=v0.map jV) (hrows:iN st1 (ev st1 p)=some (z,rows)) (hi:i<rows.length) (hoff:off+v1.length<=z)
  (hs:ll n z i off rows (iR X.P T n i off v1) st1=st') (h:K st'):qn X ⟨none,.store T p x,ty,pos,aft,g⟩ K E st:=by
 grind[Ma]
theorem UO {T F:TypeId} {s x:Operand} {z len:Nat} {n:Nm} {rows0 rows2:List (List AV)} (hd:d<X.n) (hT:yQ X.P T=some F) (hz:qf X.P F=z) (hs:ev st s=.hs n z 0 len) (hn:st.hp n=some (.row z rows0)) (hle:len<=rows0.length)
  (hx:bH st z (ev st x)=some rows2) (hlen:len+rows2.length<=4294967296) (hq:wH d z (len+rows2.length) (some n) (rows0.take len++rows2) st=st') (h:K st'):qn X ⟨some d,.call ⟨.builtin .append,#[s,x],#[T,T]⟩,ty,pos,aft,g⟩ K E st :=
 (M9 rfl rfl hd hT hz hs hn hle hx hlen (hq ▸ h))
theorem UP {T F:TypeId} {s x:Operand} {z:Nat} {rows2:List (List AV)} (hd:d<X.n) (hT:yQ X.P T=some F) (hz:qf X.P F=z) (hs:ev st s=.sc (.slice none 0 0)) (hx:bH st z (ev st x)=some rows2) (hlen:rows2.length<=4294967296)
  (hq:wH d z rows2.length none rows2 st=st') (h:K st'):qn X ⟨some d,.call ⟨.builtin .append,#[s,x],#[T,T]⟩,ty,pos,aft,g⟩ K E st :=
 (Yu rfl rfl hd hT hz hs hx hlen (hq ▸ h))
theorem UV {T F:TypeId} {x y:Operand} {ln z:Nat} {k k':IntKind} {zv:List AV} (hd:d<X.n) (hx:ev st x=.sc (.int k ln)) (hy:ev st y=.sc (.int k' ln)) (hE:yQ X.P T=some F) (hz:qf X.P F=z) (hzv:jx X.P F=some zv) (hl:ln<=4294967296)
  (hq:AE d z ln zv st=st') (h:K st'):qn X ⟨some d,.makeSlice T x y,ty,pos,aft,g⟩ K E st :=
 (ZA rfl rfl hd hx hy hE hz hzv hl (hq ▸ h))
theorem UT {T F:TypeId} {len z:Nat} {parts:Array (Nat×Operand)} {rows:List (List AV)} (hd:d<X.n) (hE:yQ X.P T=some F) (hz:qf X.P F=z) (hrows:iO st parts.toList=some rows) (c1:parts.toList.map (·.1)=List.range len) (c2:len * z<=16777216)
  (c3:rows.all (λr=>r.length==z)=true) (hs:iu X.P F d z rows st=st') (h:K st'):qn X ⟨some d,.buildSlice T len parts,ty,pos,aft,g⟩ K E st :=
 (Yx rfl rfl hd hE hz hrows c1 c2 c3 (hs ▸ h))
end
theorem OY {i d:Nat} {r:qV} {op:Op} {ty:TypeId} {pos:String} {aft:Array Edge} {z:AV} (ho:l[i]?=some ⟨some d,op,ty,pos,aft,none⟩) (hd:d<X.n) (hz:yk X.P st ⟨some d,op,ty,pos,aft,none⟩=some z) (h:zi X l ds K r (st.put (some d) z)):zi X l ds K (.q i r) st:=by
 unfold zi;rw [ho];exact .inl ⟨rfl,d,z,rfl,hd,hz,h⟩
theorem O0 {i d j e:Nat} {want:Bool} {r:qV} {op:Op} {ty:TypeId} {pos:String} {aft:Array Edge} {z:AV} (ho:l[i]?=some ⟨some d,op,ty,pos,aft,some (j,want)⟩) (hj:ds[j]?=some (some e)) (ht:st.tm e=.sc (.bool want)) (hd:d<X.n) (hz:yk X.P st ⟨some d,op,ty,pos,aft,some (j,want)⟩=some z)
  (h:zi X l ds K r (st.put (some d) z)):zi X l ds K (.q i r) st:=by
 unfold zi;rw [ho];exact .inr (.inl ⟨j,want,e,want,rfl,hj,ht,λ_=>⟨d,z,rfl,hd,hz,h⟩,λe=>qw⟩)
theorem OZ {i d j e:Nat} {want:Bool} {r:qV} {op:Op} {ty:TypeId} {pos:String} {aft:Array Edge} (ho:l[i]?=some ⟨some d,op,ty,pos,aft,some (j,want)⟩) (hj:ds[j]?=some (some e)) (ht:st.tm e=.sc (.bool (!want))) (hd:d<X.n)
  (h:zi X l ds K r (st.put (some d) (.sc undef))):zi X l ds K (.q i r) st:=by
 unfold zi;rw [ho];exact .inr (.inl ⟨j,want,e,!want,rfl,hj,ht,(λe=>qP),(λ_=>⟨λ_ e=>qP,h⟩)⟩)
theorem O1 {i d j e:Nat} {want:Bool} {r:qV} {op:Op} {ty:TypeId} {pos:String} {aft:Array Edge} (ho:l[i]?=some ⟨some d,op,ty,pos,aft,some (j,want)⟩) (hj:ds[j]?=some (some e)) (ht:st.tm e=.sc undef) (hd:d<X.n)
  (h:zi X l ds K r (st.put (some d) (.sc undef))):zi X l ds K (.q i r) st:=by
 unfold zi;rw [ho];exact .inr (.inr ⟨j,want,e,rfl,hj,ht,λ_ e=>qP,h⟩)
theorem OX {sch:qV} (e:Nat) {t:Bool} (ht:st.tm e=.sc (.bool t)) (h1:t=true->zi X l ds K sch (st.put (some e) (.sc (.bool true)))) (h2:t=false->zi X l ds K sch (st.put (some e) (.sc (.bool false)))):zi X l ds K sch st:=by
 cases t<;>grind[pW]
theorem ik {i:Nat} {ps:List Nat} {r:qV} {o:Oper} (ho:l[i]?=some o) (h:yE X ds (λs=>uX X l ds ps s/\zi X l ds K r s) (λ_ _=>False) [o] st):zi X l ds K (.l i ps r) st:=by
 unfold zi;rw [ho];exact h
theorem oN {i j:Nat} {ps qs:List Nat} {r s:qV} (h1:zi X l ds K (.l i ps r) st) (h2:zi X l ds K (.l j qs s) st):zi X l ds K (.l2 i ps r j qs s) st:=⟨h1,h2⟩
theorem oO {i j k:Nat} {ps qs us:List Nat} {r s t:qV} (h1:zi X l ds K (.l i ps r) st) (h2:zi X l ds K (.l j qs s) st) (h3:zi X l ds K (.l k us t) st):zi X l ds K (.l3 i ps r j qs s k us t) st:=⟨h1,h2,h3⟩
theorem iQ:uX X l ds [] st:=trivial
theorem Zo {q:Nat} {ps:List Nat} {o:Oper} (ho:l[q]?=some o) (h1:nj X ds o st) (h2:uX X l ds ps st):uX X l ds (q::ps) st:=by
 grind[uX]
theorem cj {dst:Option Nat} {f:FuncId} {args:Array Operand} {Ts:Array TypeId} {ty:TypeId} {pos:String} {aft:Array Edge} {g:Option (Nat×Bool)} (f':FuncId) (_hf:f=f') (h:qn X ⟨dst,.call ⟨.value (.func f),args,Ts⟩,ty,pos,aft,g⟩ K E st) :
  qn X ⟨dst,.call ⟨.value (.func f),args,Ts⟩,ty,pos,aft,g⟩ K E st:=h
theorem lL {dst:Option Nat} {op:Op} {ty:TypeId} {pos:String} {aft:Array Edge} {j:Nat} {want:Bool} (h:yE X ds K E (⟨dst,op,ty,pos,aft,some (j,want)⟩::l) st):yE X ds K E (⟨dst,op,ty,pos,aft,some (j,want)⟩::l) st:=h
theorem ah {i:Nat} {r:qV} (h:zi X l ds K (.q i r) st):zi X l ds K (.q i r) st:=h
theorem qn.Cx {o:Oper} {K':St->Prop} (h:qn X o K' E st) (hK:∀ s,K' s->∃ hp':Nm->Option AO,(∀ m ob,hp' m=some ob->s.hp m=some ob)/\K { tm:=s.tm,hp:=hp',n:=s.n,gl:=s.gl }):qn X o K E st:=by
 intro a w Q hR hE;refine Oper.wp_mono ?_ (h a w Q hR hE);rintro a' w' ⟨s,h1,h2⟩;obtain⟨hp',e1,e2⟩:=hK s h2;exact⟨_,h1.weaken hp' e1,e2⟩
theorem pA {d:Nat}:cf d zn yP=kl (.s d):=by
 grind[cf,kl,zn]
theorem GQ {o:Oper} {f:FuncId} {args:Array Operand} {Ts:Array TypeId} {az:List AV} {R:Nm->AV->(Nm->Option AO)->Prop} {d:Nat} (ho:o.op=.call ⟨.value (.func f),args,Ts⟩) (hd:o.dst=some d) (hn:d<X.n) (hF:qM X.P X.gl f az R)
  (hB:aP st.hp zn (args.toList.map (ev st)) az) (hK:∀ x H',R (.s d) x H'->K ((st.call d zn yP (vh H')).put (some d) (lv x))):qn X o K E st:=by
 refine lH (D:=zn) (H:=yP) (R:=R) hF (mr hF.1 ho) true hB (λ_ _=>rfl) (λn h=>kR) (λn h=>absurd rfl h) (λk i j _=>.inl rfl) (λe he=>qP) ?_ (λ_ _ h=>h.elim)
 simp_all
section
variable {d f:Nat} {ty:TypeId} {pos:String} {aft:Array Edge} {g:Option (Nat×Bool)} {args:Array Operand} {Ts:Array TypeId} {az avs:List AV}
theorem LF {x:AV} (hd:d<X.n) (ha:args.toList.map (ev st)=avs) (hB:aP st.hp zn avs az) (hF:qM X.P X.gl f az (λ_ y _=>y=x)) (hc:x.jU=true) (h:K ((st.kill (.s d)).put (some d) x)) :
  qn X ⟨some d,.call ⟨.value (.func f),args,Ts⟩,ty,pos,aft,g⟩ K E st:=by
 subst ha;refine (qn.Cx (GQ (K:=λs=>∃ H',s=(st.call d zn yP H').put (some d) x) rfl rfl hd hF hB ?_) ?_)
 .rintro y H' rfl;exact⟨vh H',by simp [lv,hc]⟩
 .rintro s ⟨H',rfl⟩;refine⟨(st.kill (.s d)).hp,λm ob e=>?_,?_⟩<;>simp_all[St.kill,St.nm,jw,St.put,St.call,zn,pA]
theorem LG {z n:Nat} {rows:List (List AV)} (hd:d<X.n) (ha:args.toList.map (ev st)=avs) (hB:aP st.hp zn avs az) (hF:qM X.P X.gl f az (λr y H'=>y=.hs r z 0 n/\H' r=some (.row z rows))) (hc:rows.all (λr=>r.all AV.jU)=true)
  (h:K (((st.kill (.s d)).zT (.s d) (.row z rows)).put (some d) (.hs (.s d) z 0 n))):qn X ⟨some d,.call ⟨.value (.func f),args,Ts⟩,ty,pos,aft,g⟩ K E st:=by
 subst ha;refine (qn.Cx (GQ (K:=λs=>∃ H',s=(st.call d zn yP H').put (some d) (.hs (.s d) z 0 n)/\H' (.s d)=some (.row z rows)) rfl rfl hd hF hB ?_) ?_)
 .rintro y H' ⟨rfl,e⟩;exact⟨_,rfl,by grind[vh,AO.jU]⟩
 .rintro s ⟨H',rfl,e'⟩;refine⟨((st.kill (.s d)).zT (.s d) (.row z rows)).hp,λm ob e=>?_,?_⟩
  .simp only [St.kill,St.nm,jw,St.zT] at e
   grind[St.put,St.call,St.nm,Nm.kj,zn,pA]
  simp_all[St.put,St.call,St.nm,St.kill,St.zT,pA]
end
end
section
variable {P:Program} {root:Nm} {rs:List ResultVar} {R E:Nm->AV->(Nm->Option AO)->Prop} {st:St} {D:Nm->Bool}
theorem qF {xs:List AV} (sbs:List (Nm×Nm)) (hok:dN D root sbs) (hx:wc P st rs=some xs) (h:R root ((fy xs).tr (zL D sbs)) (vF D sbs st.hp)):pI P D root rs R E .ret st:=⟨sbs,xs,hok,hx,h⟩
theorem yb {xs:List AV} (sbs:List (Nm×Nm)) (hok:dN D root sbs) (hx:wc P st rs=some xs) (h:R root ((fy xs).tr (zL D sbs)) (vF D sbs st.hp)):pI P D root rs R E .normal st:=⟨sbs,xs,hok,hx,h⟩
theorem y7 {t z n:Nat} {rows:List (List AV)} (hx:wc P st rs=some [.hs (.s t) z 0 n]) (hn:st.hp (.s t)=some (.row z rows)) (hc:∀ f:Nm->Option Nm,rows.map (λr=>r.map (AV.tr f))=rows) :
  pI P zn root rs (λr y H'=>y=.hs r z 0 n/\H' r=some (.row z rows)) E .ret st:=by
 refine qF [(.s t,root)] (.one rfl) hx ⟨?_,?_⟩
 .simp [fy,AV.tr,zL,Nm.under,Nm.qv]
 .have:Nm.qv root (.s t) root=.s t:=by cases root <;> simp [Nm.qv]
  simp_all[vF,zn,pG,Nm.kj,zL,Nm.qv,AO.tr]
end
end Go.Hm
end
