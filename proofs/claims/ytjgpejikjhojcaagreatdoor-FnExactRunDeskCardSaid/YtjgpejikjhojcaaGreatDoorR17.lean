import Derived.Test.YtjgpejikjhojcaaGreatDoorR16
import Derived.Lib.AppendIntMem
import Derived.Lib.LaidTab
set_option linter.unusedSimpArgs false
set_option linter.unusedVariables false
set_option maxRecDepth 100000
set_option maxHeartbeats 4000000

section
namespace Go.Hm
open Go Go.RowKit
def vR (X:Ctx) (ops:List Oper) (ds:List (Option Nat)) (E0:AV->Prop) (K:St->Prop):qV->St->Prop
 | .done,st=>K st
 | .q i r,st=>match ops[i]? with|some o=>QG X ds o (vR X ops ds E0 K r) st|none=>False
 | .l i ps r,st=>match ops[i]? with|some o=>vd X ds o (λs=>uX X ops ds ps s/\vR X ops ds E0 K r s) (λx _=>E0 x) st|none=>False
 | .l2 i ps r j qs s,st=>(match ops[i]? with|some o=>vd X ds o (λs=>uX X ops ds ps s/\vR X ops ds E0 K r s) (λx _=>E0 x) st|none=>False) /\
   (match ops[j]? with|some o=>vd X ds o (λs'=>uX X ops ds qs s'/\vR X ops ds E0 K s s') (λx _=>E0 x) st|none=>False)
 | .l3 i ps r j qs s k us t,st=>(match ops[i]? with|some o=>vd X ds o (λs=>uX X ops ds ps s/\vR X ops ds E0 K r s) (λx _=>E0 x) st|none=>False) /\
   (match ops[j]? with|some o=>vd X ds o (λs'=>uX X ops ds qs s'/\vR X ops ds E0 K s s') (λx _=>E0 x) st|none=>False) /\
   (match ops[k]? with|some o=>vd X ds o (λs'=>uX X ops ds us s'/\vR X ops ds E0 K t s') (λx _=>E0 x) st|none=>False)
section
variable {X:Ctx} {ops:Array Oper} {st:St} {K:St->Prop} {E0:AV->Prop}
def QE (X:Ctx) (E0:AV->Prop):Exit->Go.Act->World->Prop:=λe b w'=>∃ v x st',e=.panic [{ v:=v,recovered:=false }]/\fB X st' b w' v x/\E0 x
theorem fB.dh {a b:Go.Act} {w:World} {v:Value} {x:AV} (h:fB X st b w v x) (hd:a.defers=b.defers) (hs:a.tmps.size=b.tmps.size):fB X { st with tm:=λ_=>.bot } a w v x:=by
 obtain⟨C,g,h1,h2,h3,h4,h5,⟨i,d,s,sl,gl⟩,hv⟩:=h;exact⟨C,g,h1,h2,h3,h4,h5,⟨i,hd.trans d,hs.trans s,λt=>.bot _,gl⟩,hv⟩
theorem qAx {P:Program} {o:Oper} {a b:Go.Act} {K1 K2:Go.Act->World->Prop} {Q:Exit->Go.Act->World->Prop} {r:Result Next} (hdef:a.defers=b.defers)
  (hK:∀ v D w',K1 (Go.Act.put { b with defers:=D } o.dst v) w'->K2 (Go.Act.put { a with defers:=D } o.dst v) w') (hQ:∀ e w',QE X E0 e b w'->Q e a w') (h:o.upon P b K1 (QE X E0) r):o.upon P a K2 Q r:=by
 have hb:({ b with defers:=b.defers }:Go.Act)=b:=rfl;have ha:({ a with defers:=b.defers }:Go.Act)=a:=by rw [<- hdef]
 have hv:∀ v w',K1 (b.put o.dst v) w'->K2 (a.put o.dst v) w':=λv w' h=>by
  simp_all
 cases r with
 | ok n w' =>
  cases n with
  | value v=>exact hv v w' h
  | skip=>exact hv undef w' h
  | defer d =>
   have h:K1 (Go.Act.put { b with defers:=d::b.defers } o.dst undef) w':=h
   show K2 (Go.Act.put { a with defers:=d::a.defers } o.dst undef) w'
   simp_all
  | enter f args =>
   refine Calls.mono h λe w'' he=>?_
   cases e with
   | returned v=>simp_all
   | panicked ch=>simp_all
   | outgrown=>obtain⟨_,_,_,_,_,h,_⟩:=he;cases h
  | row row args=>exact Rows.mono h λv w'' he=>hv v w'' he
  | _=>exact h.elim
 | halt x w' =>
  cases x with
  | panic v=>exact hQ _ _ h
  | _=>exact h.elim
theorem Hc (hw:mC ops):∀ (sch:qV) {LV:List Nat} {listed:Array Bool} {st:St} {a b:Go.Act} {w:World},jo ops sch LV=true->vR X ops.toList (ops.toList.map (·.dst)) E0 K sch st->DI X ops LV listed st a b w ->
  ∃ sch' LV' st' b',(∀ i r,sch'≠.q i r)/\jo ops sch' LV'=true/\vR X ops.toList (ops.toList.map (·.dst)) E0 K sch' st'/\DI X ops LV' listed st' a b' w:=by
 intro sch
 induction sch with
 | done=>grind
 | l i ps r _=>grind
 | l2 i ps r j qs s _ _=>grind
 | l3 i ps r j qs s k us t _ _ _=>grind
 | q i r ih =>
  intro LV listed st a b w h1 h2 h3;simp only [jo,ju,decide_eq_true_eq] at h1;obtain⟨⟨⟨hlt,hq⟩,hr⟩,hok⟩:=h1;simp only [AY,ju,aj] at hr;obtain⟨hni,hpr⟩:=hr;have hni:i∉LV:=λhm=>qP;have hpr:∀ j∈vJ ops i,j∈LV:=λj hj=>au.1 (y5.1 hpr j hj);have ho:ops[i]?=some ops[i]:=io hlt;simp only [vR,ak,ho] at h2;obtain⟨d,v,st',hd,hK,hR',hP⟩:=GA hw ho hq (λhm=>hni (hpr i hm)) h3.rw h2;have hdi:uI ops i=some d:=oq
  have hnl:listed.getD i true=false:=by
   cases e:listed.getD i true with
   | false=>rfl
   | true=>exact absurd (h3.sub i hlt e) hni
  refine ih (LV:=i::LV) (listed:=listed) (st:=st') (a:=a) (b:=b.put (some d) v) (w:=w) hok hK ⟨hR',h3.len,λk hk e=>bU _ (h3.sub k hk e),h3.closed,?_,?_,⟨hni,hlt,hpr,h3.ord⟩⟩
  .intro q hqc e;rcases vQ.1 hqc with rfl|hqm
   .simp_all
   .obtain⟨x1,x2⟩:=h3.kz q hqm e;have hqlt:=h3.ord.lt q hqm;refine⟨x1,x2.put hw d v (λo' ho' hm=>?_) (λe'=>?_)⟩
    .have:=hw.look q o' d i ho' hm hlt hdi hq;exact hni (h3.ord.vJ q hqm i this)
    .obtain rfl:=hw.Ec q i d hqlt hlt e' hdi
     simp_all
  .refine⟨h3.yv.defers,by simpa [Go.Act.put] using h3.yv.size,λt ht=>?_⟩;have htd:t≠d:=λe=>ht ⟨i,qB,hnl,by rw [hdi,e]⟩;simp only [Go.Act.put];rw [oT (λe=>htd e.symm)];exact h3.yv.tmps t (λ⟨q,x1,x2,x3⟩=>ht ⟨q,bU _ x1,x2,x3⟩)
theorem JT {sch:qV} {LV:List Nat} {listed:Array Bool} {a b:Go.Act} {w:World} {Q:Exit->Go.Act->World->Prop} (hK:∀ a' w' st',Rw X st' a' w'->K st'->Q .normal a' w') (hD:DI X ops LV listed st a b w)
  (hnq:∀ i r,sch≠.q i r) (hok:jo ops sch LV=true) (hr:vR X ops.toList (ops.toList.map (·.dst)) E0 K sch st) (hall:∀ i,i<ops.size->listed.getD i true=true):Q .normal a w:=by
 have hin:∀ i,i<ops.size->i∈LV:=λi hi=>hD.sub i hi (hall i hi)
 have no:∀ i,i∉fw ops LV:=λi hm=>by
  grind[sp]
 have hab:a=b:=by
  obtain⟨t1,d1⟩:=a;obtain⟨t2,d2⟩:=b;have hd:d1=d2:=hD.yv.defers
  have ht:t1=t2:=by
   apply Array.ext_getElem?;intro t;exact hD.yv.tmps t (λ⟨q,x1,x2,_⟩=>IW)
  rw [hd,ht]
 cases sch with
 | done=>grind[DI.rw,vR]
 | q i r=>simp_all
 | l i ps r =>
  simp_all[jo]
 | l2 i ps r j qs s =>
  simp only [jo,ju,beq_iff_eq] at hok
  simp_all<;>grind
 | l3 i ps r j qs s k us t =>
  simp only [jo,ju,beq_iff_eq] at hok
  simp_all<;>grind
theorem sj {fuel i:Nat} {ps LV:List Nat} {r:qV} {listed:Array Bool} {a b:Go.Act} {w:World} {Q:Exit->Go.Act->World->Prop} {o:Oper} (hw:mC ops) (ho:ops[i]?=some o) (hq:wb ops i=false) (hD:DI X ops LV listed st a b w)
  (hni:i∉LV) (hlist:∀ j∈vJ ops i,listed.getD j false=true) (hps:∀ q∈iH ops LV i,q∈ps) (hok:jo ops r (i::LV)=true)
  (h:vd X (ops.toList.map (·.dst)) o (λs=>uX X ops.toList (ops.toList.map (·.dst)) ps s/\vR X ops.toList (ops.toList.map (·.dst)) E0 K r s) (λx _=>E0 x) st)
  (hQ:∀ a' v w' st' x,fB X st' a' w' v x->E0 x->Q (.panic [{ v:=v,recovered:=false }]) a' w') (hun:gI ops listed<=fuel+1)
  (ih:∀ (sch:qV) (LV:List Nat) (listed:Array Bool) (st:St) (a b:Go.Act) (w:World),DI X ops LV listed st a b w->jo ops sch LV=true->vR X ops.toList (ops.toList.map (·.dst)) E0 K sch st->gI ops listed<=fuel->wpAny X.P .any ops Q fuel listed a w) :
  wpOp X.P ops Q i (wpAny X.P .any ops Q fuel (listed.setIfInBounds i true)) a w:=by
 have hlt:i<ops.size:=(mE.1 ho).1;have hlt':i<listed.size:=sG
 have lst:∀ j∈vJ ops i,j<ops.size->listed.getD j true=true:=λj hj hjlt=>by
  grind
 have hlook:∀ t∈o.looksAt ops,¬ ∃ q∈LV,listed.getD q true=false/\uI ops q=some t:=by
  rintro t ht ⟨q,x1,x2,x3⟩;have hqlt:=hD.ord.lt q x1;have:=hw.look i o t q ho ht hqlt x3 (hD.kz q x1 x2).1
  simp_all
 have hex:=hD.yv.exec (hw.tE i o · · ho) hlook;have hwt:=hD.yv.wanted hlook
 have hprd:∀ j∈vJ ops i,j∈LV:=λj hj=>by
  have hjl:=hlist j hj
  have hjlt:j<ops.size:=by
   grind[DI.len]
  exact hD.sub j hjlt (lst j hj hjlt)
 have hni':listed.getD i true=false:=by
  cases e:listed.getD i true with
  | false=>rfl
  | true=>exact absurd (hD.sub i hlt e) hni
 -- what comes behind
 have next:∀ (a' b':Go.Act) (w':World) (s:St),Rw X s b' w'->uX X ops.toList (ops.toList.map (·.dst)) ps s->vR X ops.toList (ops.toList.map (·.dst)) E0 K r s ->
   wh (λt=>∃ q∈LV,listed.getD q true=false/\uI ops q=some t) a' b'->wpAny X.P .any ops Q fuel (listed.setIfInBounds i true) a' w':=by
  intro a' b' w' s hR hst hrun hag
  have un':∀ q,(listed.setIfInBounds i true).getD q true=false->q≠i/\listed.getD q true=false:=by
   grind[w5]
  have lis':∀ k,listed.getD k true=true->(listed.setIfInBounds i true).getD k true=true:=by
   grind
  have hord:cC ops (i::LV):=⟨hni,hlt,hprd,hD.ord⟩
  obtain⟨b2,hR2,hP2,hag2⟩:=GE hw hR (listed:=listed.setIfInBounds i true) (i::LV) hord (λq hqm e=>by
   obtain⟨hne,eq⟩:=un' q e;have hqLV:q∈LV:=(vQ.1 hqm).resolve_left hne;obtain⟨x1,o',d',x2,x3,x4,_⟩:=hD.kz q hqLV eq;have hqlt:=hD.ord.lt q hqLV;refine⟨x1,?_⟩
   have hqp:q∈iH ops LV i:=by
    refine List.mem_filter.2 ⟨hqLV,?_⟩;simp only [x1,fJ,aj,List.any_eq_false];intro l hl hc;simp only [ju,aj] at hc;obtain⟨hlq,hlp⟩:=hc;have hlp:=au.1 hlp
    have hl1:∀ q'∈vJ ops l,listed.getD q' false=true:=by
     rcases vQ.1 hl with rfl|hl
     .exact hlist
     .exact hD.closed l (hD.ord.lt l hl) (by
       cases e':listed.getD l true with
       | true=>rfl
       | false=>rw [(hD.kz l hl e').1] at hlq;cases hlq)
    have this:listed.getD q false=true:=Fh (L:=λq=>listed.getD q false=true) (λq' h3=>by
     have hlt2:q'<ops.size:=by
      grind[DI.len]
     exact hD.closed q' hlt2 qw) _ _ hl1 q hlp
    grind
   obtain⟨o2,y1,y2⟩:=G4 hst q (hps q hqp);refine⟨o2,y1,y2,λd hd=>?_⟩;rw [x2] at y1;obtain rfl:=sI y1;rw [x3] at hd;obtain rfl:=sI hd;rw [<- hD.rw.size];exact x4)
  refine ih r (i::LV) (listed.setIfInBounds i true) s a' b2 w' ⟨hR2,sG,λk hk e=>?_,λk hk e j hj=>?_,λq hqm e=>?_,⟨?_,?_,λt ht=>?_⟩,hord⟩ hok hrun ?_
  .rw [w5 hlt'] at e
   split at e
   .simp_all
   .exact bU _ (hD.sub k hk e)
  .have:listed.getD j false=true:=by
    rw [w5 hlt'] at e
    split at e
    .simp_all
    .exact hD.closed k hk e j hj
   grind
  .obtain⟨hne,e'⟩:=un' q e;have hqLV:q∈LV:=(vQ.1 hqm).resolve_left hne;exact⟨(hD.kz q hqLV e').1,hP2 q hqm e⟩
  .rw [hag.defers,hag2.defers]
  .rw [hag.size,hag2.size]
  .rw [hag2.tmps t ht];refine hag.tmps t λ⟨q,x1,x2,x3⟩=>ht ⟨q,bU _ x1,?_,x3⟩
   grind[w5]
  .have:=tQ hD.len hlt hni';omega
 -- the operation itself
 have hop:=h ops i rfl ho b w (QE X E0) hD.rw (λv w' st' x h1 h2=>⟨v,x,st',rfl,h1,h2⟩);have agr':∀ v,wh (λt=>∃ q∈LV,listed.getD q true=false/\uI ops q=some t) (a.put o.dst v) (b.put o.dst v):=λv=>hD.yv.put o.dst v (λt ht=>.inr ht);unfold wpOp at hop ⊢;simp only [ho] at hop ⊢;rw [hwt]
 split at hop
 .rename_i hwd;rw [if_pos hwd];rcases hop with hop|⟨_,_,_,_,_,_,hop,_⟩
  .left;unfold Oper.wp at hop ⊢;rw [hex];refine qAx hD.yv.defers ?_ ?_ hop
   case refine_2 =>
    rintro e w' ⟨v,x,st',rfl,h1,h2⟩;exact hQ a v w' _ x (h1.dh hD.yv.defers hD.yv.size) h2
   rintro v D w' ⟨s,hR,hst,hrun⟩;refine next _ _ w' s hR hst hrun ?_;have:wh (λt=>∃ q∈LV,listed.getD q true=false/\uI ops q=some t) { a with defers:=D } { b with defers:=D }:=⟨rfl,hD.yv.size,hD.yv.tmps⟩;exact this.put o.dst v (λt ht=>.inr ht)
  grind
 grind
theorem oL.U3 (sch:qV) (hwf:pk ops=true) (hok:jo ops sch []=true) (h:vR X ops.toList (ops.toList.map (·.dst)) E0 K sch st):oL X ops K (λx _=>E0 x) st:=by
 have hw:=Nb hwf;intro a w Q hR hK hQ
 have main:∀ (fuel:Nat) (sch:qV) (LV:List Nat) (listed:Array Bool) (st:St) (a b:Go.Act) (w:World),DI X ops LV listed st a b w->jo ops sch LV=true->vR X ops.toList (ops.toList.map (·.dst)) E0 K sch st->gI ops listed<=fuel ->
   wpAny X.P .any ops Q fuel listed a w:=by
  intro fuel
  induction fuel with
  | zero =>
   intro sch0 LV0 listed wD a b0 w hD0 hok0 hr0 hun;obtain⟨sch,LV,st,b,hnq,hok,hr,hD⟩:=Hc hw sch0 hok0 hr0 hD0
   have hall:∀ i,i<ops.size->listed.getD i true=true:=by
    intro i hi
    cases e:listed.getD i true with
    | true=>rfl
    | false =>
     have:=tQ hD.len hi e;omega
   refine⟨?_,JT hK hD hnq hok hr hall⟩;apply Ax.2
   grind[nT]
  | succ fuel ih =>
   intro sch0 LV0 listed wD a b0 w hD0 hok0 hr0 hun;obtain⟨sch,LV,st,b,hnq,hok,hr,hD⟩:=Hc hw sch0 hok0 hr0 hD0;refine⟨λhnone=>JT hK hD hnq hok hr ?_,λi hi=>?_⟩
   · -- nothing is ready: all is done
    have tf:∀ j,listed.getD j false=true↔(j<ops.size/\listed.getD j true=true):=by
     grind[DI.len]
    have hLV:∀ q∈LV,listed.getD q true=true:=by
     intro q hq
     cases e:listed.getD q true with
     | true=>rfl
     | false =>
      obtain⟨q',h1,h2,h3⟩:=E5 LV hD.ord ⟨q,hq,e⟩;have:q'∈Region.ready .any ops listed:=nT.2 ⟨h2,hD.ord.lt q' h1,λj hj=>(tf j).2 ⟨hD.ord.lt j (hD.ord.vJ q' h1 j hj),h3 j hj⟩⟩
      simp_all
    have no:∀ i,i∉fw ops LV:=λi hm=>by
     obtain⟨h1,h2,h3⟩:=sp.1 hm
     have hnl:listed.getD i true=false:=by
      cases e:listed.getD i true with
      | false=>rfl
      | true=>exact absurd (hD.sub i h1 e) h2
     have:i∈Region.ready .any ops listed:=nT.2 ⟨hnl,h1,λj hj=>(tf j).2 ⟨hD.ord.lt j (h3 j hj),hLV j (h3 j hj)⟩⟩
     simp_all
    cases sch with
    | done=>grind[CT]
    | q i r=>simp_all
    | l i ps r =>
     simp_all[jo]
    | l2 i ps r j qs s =>
     simp only [jo,ju,beq_iff_eq] at hok
     simp_all<;>grind
    | l3 i ps r j qs s k us t =>
     simp only [jo,ju,beq_iff_eq] at hok
     simp_all<;>grind
   .obtain⟨h0,hlt,hlist⟩:=nT.1 hi;have ho:ops[i]?=some ops[i]:=io hlt;by_cases hin:i∈LV
    · -- a quiet one that is pending
     obtain⟨hq,o,d,ho',hd,hdlt,hP⟩:=hD.kz i hin h0;rw [ho] at ho';obtain rfl:=sI ho';have hdi:uI ops i=some d:=oq;have hlt':i<listed.size:=qw
     have hlook:∀ t∈ops[i].looksAt ops,¬ ∃ q∈LV,listed.getD q true=false/\uI ops q=some t:=by
      rintro t ht ⟨q,x1,x2,x3⟩;have hqlt:=hD.ord.lt q x1;have hqp:=hw.look i _ t q ho ht hqlt x3 (hD.kz q x1 x2).1
      grind
     have hex:=hD.yv.exec (hw.tE i _ · · ho) hlook;have hwt:=hD.yv.wanted hlook
     have nx:wpAny X.P .any ops Q fuel (listed.setIfInBounds i true) (a.put (some d) (b.tmps.getD d undef)) w:=by
      refine ih sch LV _ st _ b w ⟨hD.rw,sG,λk hk e=>?_,λk hk e j hj=>?_,λq hqm e=>?_,⟨hD.yv.defers,by simpa [Go.Act.put] using hD.yv.size,λt ht=>?_⟩,hD.ord⟩ hok hr ?_
      .rw [w5 hlt'] at e
       split at e
       .simp_all
       .exact hD.sub k hk e
      .have hjl:listed.getD j false=true:=by
        rw [w5 hlt'] at e
        split at e
        .simp_all
        .exact hD.closed k hk e j hj
       grind[w5]
      .rw [w5 hlt'] at e
       split at e
       .cases e
       .exact hD.kz q hqm e
      .simp only [Go.Act.put];by_cases htd:d=t
       .subst htd;rw [Array.getElem?_setIfInBounds_self_of_lt (by rw [hD.yv.size];exact hdlt),io hdlt]
        simp_all
       .rw [oT htd];refine hD.yv.tmps t λ⟨q,x1,x2,x3⟩=>ht ⟨q,x1,?_,x3⟩
        grind[w5]
      .have:=tQ hD.len hlt h0;omega
     grind[wpOp,Oper.wp,Oper.upon_value]
    · -- one that is not quiet
     have hprd:∀ j∈vJ ops i,j∈LV:=λj hj=>by
      have hjl:=hlist j hj
      have hjlt:j<ops.size:=by
       grind[DI.len]
      exact hD.sub j hjlt qw
     have hrd:i∈fw ops LV:=sp.2 ⟨hlt,hin,hprd⟩
     cases sch with
     | done=>grind[CT]
     | q i r=>simp_all
     | l i1 ps r =>
      simp only [jo,ju,beq_iff_eq,aj] at hok;obtain⟨⟨⟨k1,k2⟩,k3⟩,k4⟩:=hok;rw [k1] at hrd;obtain rfl:=vD.1 hrd;simp only [vR,ak,ho] at hr;exact sj hw ho k2 hD hin hlist (λq hq=>au.1 (y5.1 k3 q hq)) k4 hr hQ hun ih
     | l2 i1 ps r j1 qs s =>
      simp only [jo,ju,beq_iff_eq,aj] at hok;obtain⟨⟨⟨⟨⟨⟨k1,k2⟩,k3⟩,k4⟩,k5⟩,k6⟩,k7⟩:=hok;rw [k1] at hrd;simp only [vR,ak] at hr;rcases vQ.1 hrd with rfl|hrd
      .have hr1:=hr.1;simp only [ho] at hr1;exact sj hw ho k2 hD hin hlist (λq hq=>au.1 (y5.1 k4 q hq)) k6 hr1 hQ hun ih
      .obtain rfl:=vD.1 hrd;have hr2:=hr.2;simp only [ho] at hr2;exact sj hw ho k3 hD hin hlist (λq hq=>au.1 (y5.1 k5 q hq)) k7 hr2 hQ hun ih
     | l3 i1 ps r j1 qs s m1 us t =>
      simp only [jo,ju,beq_iff_eq,aj] at hok;obtain⟨⟨⟨⟨⟨⟨⟨⟨⟨k1,k2⟩,k3⟩,k4⟩,k5⟩,k6⟩,k7⟩,k8⟩,k9⟩,k10⟩:=hok;rw [k1] at hrd;simp only [vR,ak] at hr;rcases vQ.1 hrd with rfl|hrd
      .have hr1:=hr.1;simp only [ho] at hr1;exact sj hw ho k2 hD hin hlist (λq hq=>au.1 (y5.1 k5 q hq)) k8 hr1 hQ hun ih
      .rcases vQ.1 hrd with rfl|hrd
       .have hr2:=hr.2.1;simp only [ho] at hr2;exact sj hw ho k3 hD hin hlist (λq hq=>au.1 (y5.1 k6 q hq)) k9 hr2 hQ hun ih
       .obtain rfl:=vD.1 hrd;have hr3:=hr.2.2;simp only [ho] at hr3;exact sj hw ho k4 hD hin hlist (λq hq=>au.1 (y5.1 k7 q hq)) k10 hr3 hQ hun ih
 refine main ops.size sch [] (Array.replicate ops.size false) st a a w ⟨hR,qB,?_,?_,qB,⟨rfl,rfl,λ_ _=>rfl⟩,trivial⟩ hok h ?_
 .simp_all
 .simp_all
 grind[gI]
theorem vd.sr {ds:List (Option Nat)} {o:Oper} {K1 K2:St->Prop} {E1 E2:AV->St->Prop} (h:vd X ds o K1 E1 st) (hK:∀ s,K1 s->K2 s) (hE:∀ x s,E1 x s->E2 x s):vd X ds o K2 E2 st :=
 λops i h1 h2 a w Q hR hQ=>wpOp_mono (λa' w' he=>qw) (h ops i h1 h2 a w Q hR λv w' st' x h5 h6=>hQ v w' st' x h5 (hE x st' h6))
theorem QG.mono {ds:List (Option Nat)} {o:Oper} {K1 K2:St->Prop} (h:QG X ds o K1 st) (hK:∀ s,K1 s->K2 s):QG X ds o K2 st:=by
 grind[At,QG]
theorem Ox {l:List Oper} {ds:List (Option Nat)}:∀ {sch:qV} {st:St},zi X l ds K sch st->vR X l ds E0 K sch st:=by
 intro sch
 induction sch with
 | done=>exact λh=>h
 | q i r ih =>
  grind[zi,vR,QG.mono]
 | l i ps r ih =>
  intro st h;unfold zi at h;unfold vR
  cases ho:l[i]? with
  | none=>simp_all
  | some o=>rw [ho] at h;exact vd.sr h (λs hs=>⟨hs.1,ih hs.2⟩) λ_ _ h=>h.elim
 | l2 i ps r j qs s ih1 ih2 =>
  intro st h;unfold zi at h;unfold vR;refine⟨?_,?_⟩
  .have h:=h.1
   cases ho:l[i]? with
   | none=>simp_all
   | some o=>rw [ho] at h;exact vd.sr h (λs hs=>⟨hs.1,ih1 hs.2⟩) λ_ _ h=>h.elim
  .have h:=h.2
   cases ho:l[j]? with
   | none=>simp_all
   | some o=>rw [ho] at h;exact vd.sr h (λs hs=>⟨hs.1,ih2 hs.2⟩) λ_ _ h=>h.elim
 | l3 i ps r j qs s k us t ih1 ih2 ih3 =>
  intro st h;unfold zi at h;unfold vR;refine⟨?_,?_,?_⟩
  .have h:=h.1
   cases ho:l[i]? with
   | none=>simp_all
   | some o=>rw [ho] at h;exact vd.sr h (λs hs=>⟨hs.1,ih1 hs.2⟩) λ_ _ h=>h.elim
  .have h:=h.2.1
   cases ho:l[j]? with
   | none=>simp_all
   | some o=>rw [ho] at h;exact vd.sr h (λs hs=>⟨hs.1,ih2 hs.2⟩) λ_ _ h=>h.elim
  .have h:=h.2.2
   cases ho:l[k]? with
   | none=>simp_all
   | some o=>rw [ho] at h;exact vd.sr h (λs hs=>⟨hs.1,ih3 hs.2⟩) λ_ _ h=>h.elim
theorem qBQ {id:Nat} {l:List Oper} {Q:Ex->St->Prop} (E0:AV->Prop) (hE:∀ x s,E0 x->Q (.a6 x) s) (sch:qV) (hm:X.P.follows .mixedOrders=true) (hwf:pk l.toArray=true) (hok:jo l.toArray sch []=true)
  (h:∀ K:St->Prop,(∀ s,Q .normal s->K s)->vR X l (l.map (·.dst)) E0 K sch st):jD X (.region id l.toArray true) Q st :=
 N4 hm λK hK a w Q' hR hK' hE'=>oL.U3 sch hwf hok (h K hK) a w Q' hR hK' λa' v w' st' x h1 h2=>hE' a' v w' st' x h1 (hE x st' h2)
section
variable {l:List Oper} {ds:List (Option Nat)} {i d:Nat} {r:qV} {op:Op} {ty:TypeId} {pos:String} {aft:Array Edge} {z:AV} {ps:List Nat}
theorem oQ (ho:l[i]?=some ⟨some d,op,ty,pos,aft,none⟩:=by rfl) (hd:d<X.n:=by first|(simp;done)|fail) (hz:yk X.P st ⟨some d,op,ty,pos,aft,none⟩=some z:=by simp [fx];first|done|rfl|exact (ve _).symm) (h:vR X l ds E0 K r (st.put (some d) z)):vR X l ds E0 K (.q i r) st:=by
 unfold vR;rw [ho];exact .inl ⟨rfl,d,z,rfl,hd,hz,h⟩
theorem Oe (ho:l[i]?=some ⟨some d,op,ty,pos,aft,none⟩:=by rfl) (h:qn X ⟨some d,op,ty,pos,aft,none⟩ (λs=>uX X l ds ps s/\vR X l ds E0 K r s) (λx _=>E0 x) st):vR X l ds E0 K (.l i ps r) st:=by
 grind[vR,Jb]
end
end
end Go.Hm
end
section
namespace Go.Hm
open Go Go.RowKit Go.Proofs Go.Shelf Go.Sort
section
variable {P:Program} {ρ:Ren}
abbrev fp:List Value:=Lib.pow10Tab.map λz=>.int .u64 z
theorem S1 (L:LaysM.n171 P ρ) (gl:Nat->Option (List AV)) (hg:gl (ρ.g 17)=some (fp.map .sc)) (n:Int) (h0:-1000000<=n) (h1:n<=1000000):qM P gl (ρ.f 171) [iv n] (λ_ y _=>y=tx (ug n)):=by
 refine⟨⟨_,L.f171,qc,qc⟩,λroot C w g args _ _ _ hinv hgl hsz hargs=>?_⟩
 have ha:args=#[.int .i64 n]:=by
  rw [Ow (vs:=[.int .i64 n]) hsz hargs]
 subst ha
 have htab:Lib.TabIs P w "internal/strconv.uint64pow10" .u64 Lib.pow10Tab:=by
  obtain⟨T,b,hb⟩:=(hgl _ _ hg).1.2 Lib.pow10Tab (by simp [Lib.pow10Tab]) (by simp [fp])
  grind[Lib.TabIs,World.var?,LaysM.n171.m17]
 refine (Any.strconv_Itoa L n qA qA w htab).mono λe w' he=>?_;obtain⟨rfl,k,os,rfl⟩:=he;have hb:Below w.heap.size w (grow (w.drewN k) os):=Lib.below_grow _ _ (qa _) _ _
 refine⟨C,g,yP,tx (ug n),⟨λ_ h=>h,λ_ h=>.inl h,⟨hb.os,hb.tape,hb.output,hb.size,λb hl _=>hb.block b hl,hinv.hC,λb hb'=>uQ (hinv.uU b hb') hb.size,λ_ _ e=>vS,λ_ _ _ e=>vS,λ_ _ _ _ _ e=>vS⟩,
  λ_ e=>absurd rfl e,λ_ _ _=>⟨rfl,rfl⟩,λ_ _ _ _=>⟨rfl,rfl⟩⟩,?_,rfl⟩
 rw [<- UK];exact .sc _
end
end Go.Hm
end
section
namespace Go.Hm
open Go Go.RowKit
theorem ID {hp:Nm->Option AO} {n:Nm} {p:qC} {b:Bool} (h:ew hp n p):Bw hp zn (.zX [.agg [.hs n 4 0 p.length],bv b]) (.zX [jB p,bv b]):=by
 refine .zX _ _ rfl λj a a' h1 h2=>?_
 match j,h1,h2 with
 | 0,h1,h2 =>
  grind[ga,gc]
 | 1,h1,h2 =>
  obtain rfl:=sI h1;obtain rfl:=sI h2;exact .refl _
 | j+2,h1,h2=>simp at h1
end Go.Hm
end
section
namespace Go.Hm
open Go Go.RowKit Go.ChangeShapes Go.WideShapes Go.Deep
theorem Qe {W:World} {g:Nat} {vs:List Value} {T:TypeId} {b:Bool} (h:∃ T b,W.heap[g]?=some (.cells vs.toArray T b)):cB W g (vs.map .sc):=by
 intro zs _ e
 have e2:vs=zs.map λz=>Value.int .u64 z:=by
  have h1:vs.map AV.sc=(zs.map λz=>Value.int .u64 z).map AV.sc:=qP
  grind[List.map_inj_right]
 simp_all
theorem MB {H:Type} {enc:TypeId×Value->H} {P:Program} {w:World} {base:Nat} {spare:Nat->Bool} {held:Bool} {m n g:Nat} {t e:TypeId} {s:String} {cs:Array Value} {d:DataW H} {x:List MemPlace}
  (ht:P.underlying t=some (.array n e)) (he:P.underlying e=some (.int .u64)) (hce:P.cellsOf e=1) (hct:P.cellsOf t=n) (hg:P.globalNamed s=some g) (hv:w.var? P s=some cs)
  (h:DataW.trod enc P w base spare held m t cs.toList=some (d,x)) (hd:d=Lib.tabData .u64 Lib.pow10Tab):(∀ i v,fp[i]?=some v->w.cell? ⟨g,i,none⟩=some v)/\cB w g (fp.map .sc):=by
 subst hd;have hcs:=Lib.cells_of_tab ht he hce hct h
 have hca:cs=fp.toArray:=by
  grind
 subst hca;refine⟨λi v hi=>?_,?_⟩
 .rw [World.var?_cell hg hv i]
  simp_all
 .refine Qe (T:=0) (b:=false) ?_
  grind[World.var?]
end Go.Hm
end
section
namespace Go.Hm
open Go Go.RowKit
theorem GS {l:List (Nm×Nat)} {st:St} {m:Nm}:(St.kL l st).hp m=match l.find? (λp=>decide (p.1=m)) with
  | some p=>some (.row p.2 [])
  | none=>st.hp m:=by
 induction l with
 | nil=>rfl
 | cons p l ih =>
  grind[ZF,St.zT]
section
variable {hp hp':Nm->Option AO} {p:qC} {n:Nm} {m m':qR} {dp dp':Nat} {fs L:List qO} {f g:qO} {o:Int×Int} {s:qr}
@[simp] theorem NY:(m.top fs f).cells=m.cells:=rfl
@[simp] theorem qAf:(m.top fs f).globals=m.globals:=rfl
@[simp] theorem pi:(m.top fs f).qH=m.qH:=rfl
@[simp] theorem qAd:(m.top fs f).qT=m.qT:=rfl
@[simp] theorem qAg:(m.top fs f).made=m.made:=rfl
@[simp] theorem top_deep:(m.top fs f).deep=m.deep:=rfl
@[simp] theorem qAh:(m.top fs f).out=m.out:=rfl
@[simp] theorem top_trace:(m.top fs f).trace=m.trace:=rfl
@[simp] theorem top_en:(m.top fs f).en=m.en:=rfl
@[simp] theorem top_left:(m.top fs f).left=m.left:=rfl
@[simp] theorem qAe:(m.top fs f).qN=fs++[f]:=rfl
@[simp] theorem stop_cells {e:Int}:(m.stop fs f e).cells=m.cells:=rfl
@[simp] theorem stop_globals {e:Int}:(m.stop fs f e).globals=m.globals:=rfl
@[simp] theorem stop_funs {e:Int}:(m.stop fs f e).qH=m.qH:=rfl
@[simp] theorem stop_classes {e:Int}:(m.stop fs f e).qT=m.qT:=rfl
@[simp] theorem stop_made {e:Int}:(m.stop fs f e).made=m.made:=rfl
@[simp] theorem stop_deep {e:Int}:(m.stop fs f e).deep=m.deep:=rfl
@[simp] theorem stop_out {e:Int}:(m.stop fs f e).out=m.out:=rfl
@[simp] theorem stop_trace {e:Int}:(m.stop fs f e).trace=m.trace:=rfl
@[simp] theorem stop_left {e:Int}:(m.stop fs f e).left=m.left:=rfl
@[simp] theorem stop_en {e:Int}:(m.stop fs f e).en=e:=rfl
@[simp] theorem stop_frames {e:Int}:(m.stop fs f e).qN=fs++[f]:=rfl
theorem RT {d:Nat} {v:qW} (hi:L[fs.length]?=some f):(j3 (ji p (.u 2 0 0) L) fs.length 6 [.hs (.s d) 2 0 (f.stack.length+1)]).map (λr=>r.map (AV.tr (mv (.s d) (.c (.u 2 0 0) fs.length 6))))=ji p (.u 2 0 0) (L.set fs.length (f.push v)):=by
 have hl:=(gS hi).1;apply y6;intro j;simp only [j3,jZ,fE,gq,dt];by_cases e:fs.length=j
 .simp_all[yd,qO.push,v7]
 .simp only [e,if_false]
  cases hj:L[j]? with
  | none=>rfl
  | some g =>
   have e':¬ j=fs.length:=λh=>e h.symm;simp [yd,e,e']
theorem qS.uY (h:qS hp p n m dp) (hm:m.qN=fs++[f]):∃ (L:List qO) (j:List qW),(∃ js,L=fs++f::js)/\L[fs.length]?=some f/\fs.length<L.length/\hp n=some (.row 7 (ji p n L))/\hp (.c n fs.length 3)=some (.row 3 (zA f.qq))/\hp (.c n fs.length 5)=some (.row 3 (zA f.names))/\hp (.c n fs.length 6)=some (.row 2 (zh (f.stack++j))):=by
 obtain⟨js,hj⟩:=h.fr.top;have hf:m.qN[fs.length]?=some f:=cR;obtain⟨j,hs⟩:=h.fr.stack _ f hf;refine⟨m.qN++js,j,⟨js,cR⟩,cR,cR,hj,h.fr.qq _ f hf,h.fr.names _ f hf,hs⟩
theorem qS.uC (h:qS hp p n m dp) (hm:m.qN=fs++[f]) (hL:∃ js,L=fs++f::js) (hm':m'.qN=fs++[g])
  (h8:hp' n=some (.row 7 (ji p n (L.set fs.length g))))
  (h9:hp' (.c n fs.length 3)=some (.row 3 (zA g.qq)))
  (hA:hp' (.c n fs.length 5)=some (.row 3 (zA g.names)))
  (hB:∃ j,hp' (.c n fs.length 6)=some (.row 2 (zh (g.stack++j))))
  (h0:hp' Xn=some (.row 13 [zp p n m' dp']):=by simp [h.top,zp])
  (h1:hp' (.c Xn 0 1)=some (.row 1 (ba lI p)):=by simp [h.yn])
  (h2:hp' (.c Xn 0 2)=some (.row 3 (zA m'.cells)):=by simp [h.cells])
  (h3:hp' (.c Xn 0 3)=some (.row 3 (zA m'.globals)):=by simp [h.zJ])
  (h4:hp' (.c Xn 0 4)=some (.row 2 (ax m'.qH)):=by simp [h.qH])
  (h5:hp' (.c Xn 0 5)=some (.row 1 (wK m'.qT)):=by simp [h.jA])
  (h6:hp' (.c Xn 0 9)=some (.row 1 (qj m'.out)):=by simp [h.out])
  (h7:hp' (.c Xn 0 10)=some (.row 2 (yy m'.trace)):=by simp [h.zo])
  (hC:∀ (i:Nat) (f':qO),i<fs.length->hp (.c n i 3)=some (.row 3 (zA f'.qq))->hp' (.c n i 3)=some (.row 3 (zA f'.qq)):=by intro i f' hi hf;simp [hf,rJ hi,Nat.ne_of_gt hi])
  (hD:∀ (i:Nat) (f':qO),i<fs.length->hp (.c n i 5)=some (.row 3 (zA f'.names))->hp' (.c n i 5)=some (.row 3 (zA f'.names)):=by intro i f' hi hf;simp [hf,rJ hi,Nat.ne_of_gt hi])
  (hE:∀ (i:Nat) (f':qO) j,i<fs.length->hp (.c n i 6)=some (.row 2 (zh (f'.stack++j)))->hp' (.c n i 6)=some (.row 2 (zh (f'.stack++j))):=by intro i f' j hi hf;simp [hf,rJ hi,Nat.ne_of_gt hi]):qS hp' p n m' dp':=by
 obtain⟨js,rfl⟩:=hL;have hs:(fs++f::js).set fs.length g=m'.qN++js:=qP;rw [hs] at h8
 have key:∀ (i:Nat) f',m'.qN[i]?=some f'->(i=fs.length/\f'=g)\/(i<fs.length/\m.qN[i]?=some f'):=by
  grind
 refine⟨h0,h1,h2,h3,h4,h5,h6,h7,⟨js,h8⟩,λi f' hf=>?_,λi f' hf=>?_,λi f' hf=>?_⟩
 .rcases key i f' hf with⟨rfl,rfl⟩|⟨hi,hf⟩
  .exact h9
  .exact hC i f' hi (h.fr.qq i f' hf)
 .rcases key i f' hf with⟨rfl,rfl⟩|⟨hi,hf⟩
  .exact hA
  .exact hD i f' hi (h.fr.names i f' hf)
 .rcases key i f' hf with⟨rfl,rfl⟩|⟨hi,hf⟩
  .exact hB
  .exact (h.fr.stack i f' hf).imp λj hj=>hE i f' j hi hj
def yL (n:Nm) (i:Nat) (o:Int×Int):Nm:=if o.1<=4 then .c n i 3 else if o.1<=7 then .c Xn 0 2 else if o.1<=10 then .c Xn 0 3 else .c n i 5
def uW (f:qO) (o:Int×Int):Nat:=if o.1<=4 then o.2.toNat else if o.1<=7 then f.cells.getD o.2.toNat 0 else o.2.toNat
def aM (m:qR) (f:qO) (o:Int×Int):List qr:=if o.1<=4 then f.qq else if o.1<=7 then m.cells else if o.1<=10 then m.globals else f.names
theorem Rb:kG m f o=jW (aM m f o) (uW f o):=by
 grind[kG,aM,uW]
theorem qS.Mi (h:qS hp p n (m.top fs f) dp):hp (yL n fs.length o)=some (.row 3 (zA (aM m f o))):=by
 have hf:(m.top fs f).qN[fs.length]?=some f:=qB;unfold yL aM
 repeat' split
 .exact h.fr.qq _ f hf
 .exact h.cells
 .exact h.zJ
 .exact h.fr.names _ f hf
theorem qS.jr (h:qS hp p n (m.top fs f) dp) (hn:n=.u 2 0 0) (hh:∀ k,zd k=true->hp' k=if k=yL n fs.length o then some (.row 3 (zA ((aM m f o).set (uW f o) s))) else hp k):qS hp' p n (Hm.jr m fs f o s) dp:=by
 subst hn;have hf:(m.top fs f).qN[fs.length]?=some f:=qB;have hX:∀ j,zd (.c Xn 0 j)=true:=λj=>qB;have hF:∀ i j,zd (.c (.u 2 0 0) i j)=true:=λi j=>qB;have h00:zd Xn=true:=qB;have h20:zd (.u 2 0 0)=true:=qB
 have fr:∀ {g:qO} (js:List qO),g.qG=f.qG->g.pc=f.pc->g.cells=f.cells->g.qq.length=f.qq.length->g.stack=f.stack->ji p (.u 2 0 0) (fs++[g]++js)=ji p (.u 2 0 0) (fs++[f]++js):=by
  intro g js e1 e2 e3 e4 e5;apply y6
  grind[gq,yd,v7]
 have key:∀ {g:qO} (i:Nat) f',(fs++[g])[i]?=some f'->(i=fs.length/\f'=g)\/(i<fs.length/\(m.top fs f).qN[i]?=some f'):=by
  grind[qR.top]
 have hlc:∀ {l:List qr} {i:Nat},(l.set i s).length=l.length:=qB;unfold Hm.jr;by_cases c4:o.1<=4
 .have e1:yL (.u 2 0 0) fs.length o=.c (.u 2 0 0) fs.length 3:=by simp [yL,c4]
  have e2:aM m f o=f.qq:=by simp [aM,c4]
  have e3:uW f o=o.2.toNat:=by simp [uW,c4]
  rw [e1,e2,e3] at hh;rw [if_pos c4];refine⟨?_,?_,?_,?_,?_,?_,?_,?_,?_,λi f' hf'=>?_,λi f' hf'=>?_,λi f' hf'=>?_⟩
  .rw [hh _ h00,h.top];simp_all[zp]
  .grind[yn]
  .rw [hh _ (hX 2),h.cells];simp
  .rw [hh _ (hX 3),h.zJ];simp
  .rw [hh _ (hX 4),h.qH];simp
  .rw [hh _ (hX 5),h.jA];simp
  .rw [hh _ (hX 9),h.out];simp
  .rw [hh _ (hX 10),h.zo];simp
  .obtain⟨js,hj⟩:=h.fr.top
   simp_all<;>grind
  .rcases key i f' hf' with⟨rfl,rfl⟩|⟨hi,hf'⟩
   .simp_all
   .rw [hh _ (hF _ _),h.fr.qq i f' hf'];grind
  .rcases key i f' hf' with⟨rfl,rfl⟩|⟨hi,hf'⟩
   .rw [hh _ (hF _ _),h.fr.names _ f hf];simp
   .rw [hh _ (hF _ _),h.fr.names i f' hf'];simp
  .rcases key i f' hf' with⟨rfl,rfl⟩|⟨hi,hf'⟩
   .exact (h.fr.stack _ f hf).imp λj hj=>qP
   .exact (h.fr.stack i f' hf').imp λj hj=>qP
 rw [if_neg c4];by_cases c7:o.1<=7
 .have e1:yL (.u 2 0 0) fs.length o=.c Xn 0 2:=by grind[yL]
  have e2:aM m f o=m.cells:=by grind[aM]
  have e3:uW f o=f.cells.getD o.2.toNat 0:=by grind[uW]
  rw [e1,e2,e3] at hh;rw [if_pos c7];refine⟨?_,?_,?_,?_,?_,?_,?_,?_,?_,λi f' hf'=>?_,λi f' hf'=>?_,λi f' hf'=>?_⟩
  .rw [hh _ h00,h.top];simp_all[zp]
  .grind[yn]
  .simp_all
  .grind[zJ]
  .grind[qH]
  .grind[jA]
  .grind[out]
  .grind[zo]
  .exact h.fr.top.imp λjs hj=>qP
  .rw [hh _ (hF _ _),h.fr.qq i f' hf'];simp
  .rw [hh _ (hF _ _),h.fr.names i f' hf'];simp
  .exact (h.fr.stack i f' hf').imp λj hj=>qP
 rw [if_neg c7];by_cases c10:o.1<=10
 .have e1:yL (.u 2 0 0) fs.length o=.c Xn 0 3:=by grind[yL]
  have e2:aM m f o=m.globals:=by grind[aM]
  have e3:uW f o=o.2.toNat:=by grind[uW]
  rw [e1,e2,e3] at hh;rw [if_pos c10];refine⟨?_,?_,?_,?_,?_,?_,?_,?_,?_,λi f' hf'=>?_,λi f' hf'=>?_,λi f' hf'=>?_⟩
  .rw [hh _ h00,h.top];grind[zp]
  .grind[yn]
  .grind[cells]
  .simp_all
  .grind[qH]
  .grind[jA]
  .grind[out]
  .grind[zo]
  .exact h.fr.top.imp λjs hj=>qP
  .rw [hh _ (hF _ _),h.fr.qq i f' hf'];simp
  .rw [hh _ (hF _ _),h.fr.names i f' hf'];simp
  .exact (h.fr.stack i f' hf').imp λj hj=>qP
 .have e1:yL (.u 2 0 0) fs.length o=.c (.u 2 0 0) fs.length 5:=by grind[yL]
  have e2:aM m f o=f.names:=by grind[aM]
  have e3:uW f o=o.2.toNat:=by grind[uW]
  rw [e1,e2,e3] at hh;rw [if_neg c10];refine⟨?_,?_,?_,?_,?_,?_,?_,?_,?_,λi f' hf'=>?_,λi f' hf'=>?_,λi f' hf'=>?_⟩
  .rw [hh _ h00,h.top];simp_all[zp]
  .grind[yn]
  .rw [hh _ (hX 2),h.cells];simp
  .rw [hh _ (hX 3),h.zJ];simp
  .rw [hh _ (hX 4),h.qH];simp
  .rw [hh _ (hX 5),h.jA];simp
  .rw [hh _ (hX 9),h.out];simp
  .rw [hh _ (hX 10),h.zo];simp
  .obtain⟨js,hj⟩:=h.fr.top
   simp_all<;>grind
  .rcases key i f' hf' with⟨rfl,rfl⟩|⟨hi,hf'⟩
   .rw [hh _ (hF _ _),h.fr.qq _ f hf];simp
   .rw [hh _ (hF _ _),h.fr.qq i f' hf'];simp
  .rcases key i f' hf' with⟨rfl,rfl⟩|⟨hi,hf'⟩
   .simp_all
   .rw [hh _ (hF _ _),h.fr.names i f' hf'];grind
  .rcases key i f' hf' with⟨rfl,rfl⟩|⟨hi,hf'⟩
   .exact (h.fr.stack _ f hf).imp λj hj=>qP
   .exact (h.fr.stack i f' hf').imp λj hj=>qP
theorem qS.nM {n':Nm} (h:qS hp p n m dp) (hn:(n=.c Xn 0 6/\n'=.u 2 0 0)\/(n=.u 2 0 0/\n'=.c Xn 0 6)):qS (jJ n n' hp) p n' m dp:=by
 rcases hn with⟨rfl,rfl⟩|⟨rfl,rfl⟩ <;>
 .refine⟨?_,?_,?_,?_,?_,?_,?_,?_,?_,λi f' hf'=>?_,λi f' hf'=>?_,λi f' hf'=>?_⟩
  .simp [jJ,Nm.under,mv,h.top,AO.tr,zp,AV.tr,Nm.qv,tO]
  .simp [jJ,Nm.under,h.yn,AO.tr]
  .simp [jJ,Nm.under,h.cells,AO.tr]
  .simp [jJ,Nm.under,h.zJ,AO.tr]
  .simp [jJ,Nm.under,h.qH,AO.tr]
  .simp [jJ,Nm.under,h.jA,AO.tr]
  .simp [jJ,Nm.under,h.out,AO.tr]
  .simp [jJ,Nm.under,h.zo,AO.tr]
  .refine h.fr.top.imp λjs hj=>?_
   simp_all[jJ,J8]
  .simp [jJ,Nm.under,mv,Nm.qv,h.fr.qq i f' hf',AO.tr]
  .simp [jJ,Nm.under,mv,Nm.qv,h.fr.names i f' hf',AO.tr]
  .exact (h.fr.stack i f' hf').imp λj hj=>by simp_all[jJ]
end
theorem Nm.C3 {k0 k1:Nm}:∀ {k:Nm},Nm.under k0 k=true->Nm.qv k1 k0 (Nm.qv k0 k1 k)=k:=by
 have base:∀ k:Nm,k=k0->Nm.qv k1 k0 (Nm.qv k0 k1 k)=k:=by
  simp
 intro k
 induction k<;>grind[under,qv,nN,ei]
def zP (n:Nm) (o:AO) (hp:Nm->Option AO):Nm->Option AO:=λm=>if m=n then some o else hp m
@[simp] theorem wrO_eq {n m:Nm} {o:AO} {hp:Nm->Option AO}:zP n o hp m=if m=n then some o else hp m:=rfl
def uF (D:Nm->Bool) (hp' hp:Nm->Option AO):Prop:=∃ F:Nm->Option Nm,(∀ k,D k=true->F k=some k)/\∀ k,D k=true->hp' k=(hp k).map (AO.tr F)
def rC (D:Nm->Bool) (v:AV) (n:Nm) (o:AO) (H:Nm->Option AO):Nm->AV->(Nm->Option AO)->Prop:=λ_ y H'=>y=v/\∀ k,D k=true->H' k=(zP n o H k).map (AO.tr (zL D []))
def nZ (D:Nm->Bool) (N V:Nm) (d:Nat) (hp:Nm->Option AO) (m:Nm):Option Nm :=
 if Nm.under N m then (if m=N then some N else none) else if Nm.under V m then none else if Nm.under (.s d) m then none else if D m then (if m.z7&&(hp m).isSome then some m else none) else some m
def St.eU (st:St) (N V:Nm) (d:Nat) (D:Nm->Bool) (hp':Nm->Option AO):St :=
 { tm:=λt=>(st.tm t).tr (nZ D N V d st.hp),
   hp:=λm=>if D m||Nm.under (.s d) m then hp' m else if Nm.under V m then none else (st.hp m).map (AO.tr (nZ D N V d st.hp)),
   n:=st.n,gl:=st.gl }
section
variable {st:St} {N V m n:Nm} {d t:Nat} {D:Nm->Bool} {hp hp' H':Nm->Option AO}
@[simp] theorem rtn_eq:nZ D N V d hp m=if Nm.under N m then (if m=N then some N else none) else if Nm.under V m then none else if Nm.under (.s d) m then none else if D m then (if m.z7&&(hp m).isSome then some m else none) else some m:=rfl
@[simp] theorem mutn_tm:(st.eU N V d D hp').tm t=(st.tm t).tr (nZ D N V d st.hp):=rfl
@[simp] theorem mutn_gl:(st.eU N V d D hp').gl=st.gl:=rfl
@[simp] theorem mutn_hp:(st.eU N V d D hp').hp m=if D m||Nm.under (.s d) m then hp' m else if Nm.under V m then none else (st.hp m).map (AO.tr (nZ D N V d st.hp)):=rfl
theorem YA (hV:V.z7=true) (hNV:Nm.under V N=false) (hDN:∀ k,Nm.under N k=true->D k=true) (hDV:∀ k,Nm.under V k=true->D k=false) (hs:(hp N).isSome=true) :
  (λm=>((mv N V m).bind (cf d (λk=>D k||Nm.under V k) (z6 (λk=>D k||Nm.under V k) (jJ N V hp)))).bind (mv V N))=nZ D N V d hp:=by
 funext x
 by_cases hx:Nm.under N x=true
 .have hu:Nm.under V (Nm.qv N V x)=true:=Nm.ei x hx;have hsd:=N1 (d:=d) hV hu;by_cases e:x=N<;>simp_all[jJ,MI]
 .simp only [wl] at hx;by_cases hv:Nm.under V x=true
  .simp_all
  .simp only [wl] at hv;by_cases hd:Nm.under (.s d) x=true
   .simp_all
   .simp only [wl] at hd;by_cases hD:D x=true
    .simp [hx,hv,hd,hD,jJ]
     cases hp x <;> cases x.z7 <;> simp [hx,hv]
    simp_all
theorem Ko {y:AV} (hV:V.z7=true) (hNV:Nm.under V N=false) (hDN:∀ k,Nm.under N k=true->D k=true) (hDV:∀ k,Nm.under V k=true->D k=false) (hDr:∀ k,D k=true->k.zg=false) (hs:(st.hp N).isSome=true) (hy:y.tr (mv V N)=y) :
  ∃ q,q=((((st.move N V).call d (λk=>D k||Nm.under V k) (z6 (λk=>D k||Nm.under V k) (st.move N V).hp) H').put (some d) y).move V N)/\q=(st.eU N V d D q.hp).put (some d) y:=by
 refine⟨_,rfl,?_⟩;have hc:=YA (hp:=st.hp) (d:=d) hV hNV hDN hDV hs
 have e1:∀ a:AV,((a.tr (mv N V)).tr (cf d (λk=>D k||Nm.under V k) (z6 (λk=>D k||Nm.under V k) (jJ N V st.hp)))).tr (mv V N)=a.tr (nZ D N V d st.hp):=by
  grind[AV.kO]
 have e2:∀ o:AO,((o.tr (mv N V)).tr (cf d (λk=>D k||Nm.under V k) (z6 (λk=>D k||Nm.under V k) (jJ N V st.hp)))).tr (mv V N)=o.tr (nZ D N V d st.hp):=by
  grind[AO.kO]
 generalize hq:((((st.move N V).call d (λk=>D k||Nm.under V k) (z6 (λk=>D k||Nm.under V k) (st.move N V).hp) H').put (some d) y).move V N)=q
 have h1:q.tm=((st.eU N V d D q.hp).put (some d) y).tm:=by
  subst hq
  funext t
  simp only [St.move,St.nm,St.put,St.eU,St.call]
  grind
 have h2:q.hp=((st.eU N V d D q.hp).put (some d) y).hp:=by
  funext m
  simp only [St.put,St.eU];by_cases hD:D m=true
  .simp [hD]
  simp only [wl] at hD;by_cases hd:Nm.under (.s d) m=true
  .simp [hd]
  simp only [wl] at hd
  have hN:Nm.under N m=false:=by
   grind
  simp only [hD,hd,Bool.or_false,wk,if_false];subst hq;simp only [St.move,St.nm,St.put,St.call,jJ,hN,wk,if_false];by_cases hv:Nm.under V m=true
  .simp [hv]
  .simp only [wl] at hv;simp only [hv,hD,hd,Bool.or_false,wk,if_false]
   cases hm:st.hp m<;>grind
 have h3:q.n=((st.eU N V d D q.hp).put (some d) y).n:=by subst hq;rfl
 have h4:q.gl=((st.eU N V d D q.hp).put (some d) y).gl:=by subst hq;rfl
 cases q<;>grind[St.put]
theorem Tz {o:AO} {y:AV} (hV:V.z7=true) (hNV:Nm.under V N=false) (hDN:∀ k,Nm.under N k=true->D k=true) (hDV:∀ k,Nm.under V k=true->D k=false) (hDn:D n=true) (hNn:Nm.under N n=false)
  (hR:∀ k,(D k||Nm.under V k)=true->H' k=(zP n (o.tr (mv N V)) (z6 (λk=>D k||Nm.under V k) (jJ N V st.hp)) k).map (AO.tr (zL (λk=>D k||Nm.under V k) []))) :
  uF D ((((st.move N V).call d (λk=>D k||Nm.under V k) (z6 (λk=>D k||Nm.under V k) (st.move N V).hp) H').put (some d) y).move V N).hp (zP n o st.hp):=by
 have hVn:Nm.under V n=false:=by
  grind
 refine⟨λk=>((mv N V k).bind (zL (λk=>D k||Nm.under V k) [])).bind (mv V N),λk hk=>?_,λk hk=>?_⟩
 .grind[Nm.ei,mv,zL,Nm.C3]
 .have e2:∀ o:AO,((o.tr (mv N V)).tr (zL (λk=>D k||Nm.under V k) [])).tr (mv V N)=o.tr (λk=>((mv N V k).bind (zL (λk=>D k||Nm.under V k) [])).bind (mv V N)):=by
   grind[AO.kO]
  by_cases hx:Nm.under N k=true
  .have hu:Nm.under V (Nm.qv N V k)=true:=Nm.ei k hx;have hne:¬ Nm.qv N V k=n:=λe=>qP;have hne2:¬ k=n:=λe=>qP;have hb:=Nm.C3 (k1:=V) hx;have hb2:mv V N (Nm.qv N V k)=some k:=qP;have hb3:mv N V k=some (Nm.qv N V k):=qP;have hR1:=hR (Nm.qv N V k) xB;simp only [zP,hne,if_false,z6,hu,Bool.or_true,if_true,jJ,hb,hb3] at hR1;simp only [St.move,St.nm,St.put,St.call];simp only [jJ,hx,if_true,hb2,hu,Bool.or_true,rK,hR1,zP,hne2,if_false]
   cases st.hp k<;>grind
  .simp only [wl] at hx
   have hv:Nm.under V k=false:=by
    grind
   have hR1:=hR k (by simp [hk]);simp only [zP,z6,hk,rK,if_true,jJ,hx,hv,wk,if_false] at hR1;simp only [St.move,St.nm,St.put,St.call];simp only [jJ,hx,hv,hk,wk,if_false,rK,if_true,hR1,zP];by_cases e:k=n
   .simp_all
   .simp only [e,if_false]
    cases st.hp k<;>grind
end
section
variable {D:Nm->Bool} {d i off:Nat} {rows:List (List AV)} {vals:List AV} {o:Option AO}
theorem A1 {F:Nm->Option Nm}:(j3 rows i off vals).map (λr=>r.map (AV.tr F))=j3 (rows.map (λr=>r.map (AV.tr F))) i off (vals.map (AV.tr F)):=by
 apply y6
 grind[j3,rL,List.map_drop]
theorem JN (hD:∀ k,D k=true->k.zg=false):(λm=>(kl (.s d) m).bind (zL D []))=zL D []:=by
 funext m
 by_cases h:Nm.under (.s d) m=true
 .have h1:=Nm.lj (a:=.s d) rfl h
  have h2:D m=false:=by
   grind
  simp_all
 simp_all
theorem JO (hD:∀ k,D k=true->k.zg=false) {a:AV}:(a.tr (kl (.s d))).tr (zL D [])=a.tr (zL D []):=by rw [AV.kO,JN hD]
theorem JQ (hD:∀ k,D k=true->k.zg=false):(o.map (AO.tr (kl (.s d)))).map (AO.tr (zL D []))=o.map (AO.tr (zL D [])):=by
 cases o with
 | none=>rfl
 | some o=>simp only [u7,AO.kO,JN hD]
theorem JR (hD:∀ k,D k=true->k.zg=false):(rows.map (λr=>r.map (AV.tr (kl (.s d))))).map (λr=>r.map (AV.tr (zL D [])))=rows.map (λr=>r.map (AV.tr (zL D []))):=by
 simp_all[JO]
theorem Qp {b:Nat} (hD:∀ k,D k=true->k.zg=false):(rows.map ((λr=>r.map (AV.tr (kl (.s b))))∘λr=>r.map (AV.tr (kl (.s d))))).map (λr=>r.map (AV.tr (zL D [])))=rows.map (λr=>r.map (AV.tr (zL D []))):=by
 rw [<- gU,JR hD,JR hD]
theorem jg (hD:∀ k,D k=true->k.zg=false) {q:Nm} (hq:D q=true) (d:Nat):¬ q=.s d/\Nm.under (.s d) q=false:=by
 have h:Nm.under (.s d) q=false:=by
  cases h:Nm.under (.s d) q with
  | false=>rfl
  | true=>have:=Nm.lj (a:=.s d) rfl h;simp_all
 refine⟨λe=>?_,h⟩
 simp_all
end
section
variable {X:Ctx} {st:St} {K:St->Prop} {E:AV->St->Prop} {d f:Nat} {ty:TypeId} {pos:String} {aft:Array Edge} {g:Option (Nat×Bool)} {args:Array Operand} {Ts:Array TypeId} {az:List AV}
theorem Cz (D:Nm->Bool) (N V n:Nm) (o:AO) (v:AV) (hV:V.z7=true:=by rfl) (hN:N.z7=false:=by rfl) (hVe:X.ext V=false) (hDr:∀ k,D k=true->k.zg=false) (hNV:Nm.under V N=false) (hDN:∀ k,Nm.under N k=true->D k=true) (hDV:∀ k,Nm.under V k=true->D k=false) (hs:(st.hp N).isSome=true)
  (hext:∀ k i j,X.ext (.u k i j)=true->D (.u k i j)=false\/st.hp (.u k i j)≠none) (hDn:D n=true) (hNn:Nm.under N n=false) (hv:v.tr (mv V N)=v) (hd:d<X.n:=by first|(simp;done)|fail)
  (ha:args.toList.map (ev (st.move N V))=az:=by simp [fx];first|done|rfl)
  (hF:qZ X.P X.gl f (λk=>D k||Nm.under V k) az (z6 (λk=>D k||Nm.under V k) (jJ N V st.hp)) (rC (λk=>D k||Nm.under V k) v n (o.tr (mv N V)) (z6 (λk=>D k||Nm.under V k) (jJ N V st.hp))) zG)
  (h:∀ hp',uF D hp' (zP n o st.hp)->K ((st.eU N V d D hp').put (some d) v)) :
  qn X ⟨some d,.call ⟨.value (.func f),args,Ts⟩,ty,pos,aft,g⟩ K E st:=by
 refine wa N V (.inl hN) (.inr hVe) (bn V N (.inr hVe) (.inl hN) ?_);refine po (λk=>D k||Nm.under V k) (λk hk=>?_) (λk i j he=>?_) hd ha hF ?_
 .grind[vN]
 .by_cases hD:D (.u k i j)=true
  .right;rcases hext k i j he with h|h
   .simp_all
   .have hn:Nm.under N (.u k i j)=false:=by grind[Nm.z7,Nm.under]
    have hv:Nm.under V (.u k i j)=false:=by
     grind
    simp_all
  grind[Nm.under]
 .rintro y H' ⟨rfl,hR⟩;obtain⟨q,hq,e⟩:=Ko (d:=d) (H':=H') (st:=st) hV hNV hDN hDV hDr hs hv
  grind[Tz]
end
section
variable {hp hp':Nm->Option AO} {p:qC} {n:Nm} {m m':qR} {dp dp' i k:Nat} {fs L:List qO} {f g:qO} {o:Int×Int} {s:qr} {rows:List (List AV)} {j:List qW}
theorem qS.same (h:qS hp p n m dp) (hn:Nm.under Xn n=true\/n=.u 2 0 0) (hs:uF zd hp' hp):qS hp' p n m dp:=by
 obtain⟨F,h1,h2⟩:=hs;exact h.qv hn h1 h2
theorem G5 (h:f.stack.length=k+1):f.stack=f.pop.stack++[f.zB]:=by
 have hne:f.stack≠[]:=λe=>qP
 grind[qO.pop,qO.zB,ip]
theorem gD (h:f.stack.length=k+1):(f.stack++j)[k]?=some f.zB:=by
 have h1:=G5 h
 simp_all
theorem tA (h:f.stack.length=k+1):f.pop.stack.length=k:=by simp [qO.pop,h]
theorem qS.cn (h:qS hp p (.u 2 0 0) (m.top fs f) dp) (hr:hp (.u 2 0 0)=some (.row 7 rows)) (hk:f.stack.length=k+1):qS (zP (.u 2 0 0) (.row 7 (j3 rows fs.length 6 [.hs (.c (.u 2 0 0) fs.length 6) 2 0 k])) hp) p (.u 2 0 0) (m.top fs f.pop) dp:=by
 obtain⟨L,j,hL,hat,hlt,hF,h3,h5,h6⟩:=h.uY rfl
 obtain rfl:rows=ji p (.u 2 0 0) L:=by
  simp_all
 have hs:j3 (ji p (.u 2 0 0) L) fs.length 6 [.hs (.c (.u 2 0 0) fs.length 6) 2 0 k]=ji p (.u 2 0 0) (L.set fs.length f.pop):=J6 hat (by simp [yd,qO.pop,hk,v7]);rw [hs];refine h.uC rfl hL (g:=f.pop) rfl qB (by simp [h3,qO.pop]) (by simp [h5,qO.pop]) ⟨[f.zB]++j,?_⟩ (h0:=by simp [h.top,zp,qR.top]) (h2:=by simp [h.cells,qR.top]) (h3:=by simp [h.zJ,qR.top]) (h4:=by simp [h.qH,qR.top]) (h5:=by simp [h.jA,qR.top]) (h6:=by simp [h.out,qR.top]) (h7:=by simp [h.zo,qR.top]);have e:=G5 hk
 simp_all
end
end Go.Hm
end
