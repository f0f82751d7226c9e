import Derived.Test.YtdnebaieamppbaaGreatDoorE04
set_option linter.unusedSimpArgs false
set_option linter.unusedVariables false
set_option maxRecDepth 100000
set_option maxHeartbeats 4000000

section
namespace Go.Hm
open Go Go.RowKit
def Ent (P:Program) (st:St) (o:Oper) (f:FuncId) (avs:List AV):Prop :=
 ∀ (own C:Nat->Prop) (w0:World) (g:Gh) (a:Act) (w:World),Rg P own C w0 g st a w ->
  ∃ args:Array Value,(execOp a.eval o).run P w=.ok (.enter f args) w/\args.size=avs.length/\∀ (j:Nat) v x,args[j]?=some v->avs[j]?=some x->RV g w v x
def BwL (hp:Nm->Option AO) (D:Nm->Bool) (l l':List AV):Prop:=l.length=l'.length/\∀ (j:Nat) a a',l[j]?=some a->l'[j]?=some a'->Bw hp D a a'
theorem BwL.nil {hp:Nm->Option AO} {D:Nm->Bool}:BwL hp D [] []:=⟨rfl,qB⟩
theorem BwL.cons {hp:Nm->Option AO} {D:Nm->Bool} {x y:AV} {l l':List AV} (h:Bw hp D x y) (h':BwL hp D l l'):BwL hp D (x::l) (y::l'):=by
 grind[BwL]
theorem fV {P:Program} {w:World} {f:FuncId} {xs:Array Value} (hc:cE P f):(callFunc f xs).run P w=.ok (.enter f xs) w:=by
 obtain⟨fn,h1,h2,h3⟩:=hc;have hp:(program:Sem Program).run P w=.ok P w:=rfl
 grind[callFunc,Sem.run_bind,Result.andThen_ok,Sem.run_pure]
section
variable {P:Program} {st:St} {o:Oper} {f:FuncId}
theorem iL {args:Array Operand} {Ts:Array TypeId} (hc:cE P f) (ho:o.op=.call ⟨.value (.func f),args,Ts⟩):Ent P st o f (args.toList.map (ev st)):=by
 intro own C w0 g a w h;refine⟨args.map a.eval,?_,qB,λj v x hv hx=>?_⟩
 .grind[execOp,resolve,Act.eval,Deferred.ofValue,invoke,fV]
 .rw [Array.getElem?_map] at hv;obtain⟨o',ho',rfl⟩:=ku.1 hv;rw [kx] at hx;obtain⟨o2,ho2,rfl⟩:=ku.1 hx;rw [C2,ho'] at ho2;obtain rfl:=sI ho2;exact h.ev o'
theorem N4 {args:Array Operand} {Ts:Array TypeId} {c:Operand} {xs ys:List AV} (hc:cE P f) (ho:o.op=.call ⟨.value c,args,Ts⟩) (hv:ev st c=.fn (.func f) xs ys):Ent P st o f (xs++args.toList.map (ev st)++ys):=by
 intro own C w0 g a w h;have hr:=h.ev c;rw [hv] at hr;generalize hcv:a.eval c=cv at hr
 cases hr with
 | fn _ vs us _ _ l1 l2 r1 r2 =>
  refine⟨vs.toArray++args.map a.eval++us.toArray,?_,qH,λj v x hv hx=>?_⟩
  .grind[execOp,resolve,Deferred.ofValue,invoke,fV]
  .rw [Ef] at hx;rw [Array.getElem?_append] at hv;have hsz:(vs.toArray++args.map a.eval).size=(xs++args.toList.map (ev st)).length:=by simp [l1]
   split at hx
   .rename_i hj;rw [if_pos qA] at hv;rw [Ef] at hx;rw [Array.getElem?_append] at hv
    split at hx
    .grind
    .rename_i hj';rw [if_neg qc] at hv;rw [Array.getElem?_map] at hv;obtain⟨o',ho',rfl⟩:=ku.1 hv;rw [kx] at hx;obtain⟨o2,ho2,rfl⟩:=ku.1 hx
     have:o'=o2:=by
      simp_all
     subst this;exact h.ev o'
   grind
def IQ (P:Program) (t:TypeId) (name:String):Option FuncId :=
 match P.info? t with
 | some i=>match i.methods.find? (·.name==name) with
  | some m=>match m.func,P.underlying t with
   | some (f,false),some d=>match d with
    | .pointer _=>none
    | _=>if m.path.isEmpty then some f else none
   | some (f,true),some (.pointer _)=>if m.path.isEmpty then some f else none
   | _,_=>none
  | none=>none
 | none=>none
theorem J8 {w:World} {t:TypeId} {name:String} {v:Value} (hm:IQ P t name=some f) (k:Nat):(method (k+1) t v name).run P w=.ok (f,v) w:=by
 unfold IQ at hm
 split at hm
 .rename_i i hi
  split at hm
  .rename_i m hfind
   split at hm
   .rename_i f' d hmf hu
    split at hm
    .cases hm
    .rename_i hd
     split at hm
     .rename_i hp;obtain rfl:=sI hm;have hp':m.path.toList=[]:=qH;simp only [method,typeInfo,Sem.run_bind,run_program,Result.andThen_ok,hi,Sem.run_pure,hfind,hp',follow,hmf]
      have:(receiverAt t (.val v) false (if m.path.isEmpty then some ((name.splitOn ".").getLastD name) else none)).run P w=.ok v w:=by
       unfold receiverAt;simp only [Sem.run_bind,jD hu,Result.andThen_ok];constructor<;>grind
      simp_all
     .cases hm
   .rename_i f' e hmf hu
    split at hm
    .rename_i hp;obtain rfl:=sI hm;have hp':m.path.toList=[]:=qH;simp only [method,typeInfo,Sem.run_bind,run_program,Result.andThen_ok,hi,Sem.run_pure,hfind,hp',follow,hmf]
     have:(receiverAt t (.val v) true (if m.path.isEmpty then some ((name.splitOn ".").getLastD name) else none)).run P w=.ok v w:=by
      unfold receiverAt;simp only [Sem.run_bind,jD hu,Result.andThen_ok]
      rfl
     simp_all
    .cases hm
   .cases hm
  .cases hm
 .cases hm
theorem Tt {args:Array Operand} {Ts:Array TypeId} {c:Operand} {name:String} {t:TypeId} {y:AV} (hc:cE P f) (ho:o.op=.call ⟨.invoke c name,args,Ts⟩) (hv:ev st c=.ifc t y) (hm:IQ P t name=some f):Ent P st o f (y::args.toList.map (ev st)):=by
 intro own C w0 g a w h;have hr:=h.ev c;rw [hv] at hr;generalize hcv:a.eval c=cv at hr
 cases hr with
 | ifc _ v _ hy =>
  refine⟨#[v]++args.map a.eval,?_,qc,λj u x hu hx=>?_⟩
  .have hmt:(method (P.types.size+Made.depth) t v name).run P w=.ok (f,v) w:=by
    have hpos:0<Made.depth:=qO;have hk:P.types.size+Made.depth=(P.types.size+Made.depth - 1)+1:=qA
    grind[J8]
   have hex:(#[Value.iface t v]++args.map a.eval).extract 1 (#[Value.iface t v]++args.map a.eval).size=args.map a.eval:=by
    simp
   have h0:(#[Value.iface t v]++args.map a.eval)[0]?=some (.iface t v):=by simp_all<;>grind
   simp only [execOp,ho,resolve,hcv,Sem.run_bind,Sem.run_pure,Result.andThen_ok,invoke,h0,hex,callMethod,run_program,hmt,fV hc]
  .cases j with
   | zero =>
    grind
   | succ j =>
    have hu':(args.map a.eval)[j]?=some u:=by
     grind
    rw [Array.getElem?_map] at hu';obtain⟨o',ho',rfl⟩:=ku.1 hu';simp only [Ed,kx] at hx;obtain⟨o2,ho2,rfl⟩:=ku.1 hx;rw [C2,ho'] at ho2;obtain rfl:=sI ho2;exact h.ev o'
end
section
variable {X:Ctx} {st:St} {K:St->Prop} {E:AV->St->Prop} {o:Oper} {f:FuncId} {D:Nm->Bool} {H:Nm->Option AO} {az avs:List AV} {R E0:Nm->AV->(Nm->Option AO)->Prop}
theorem eF (hF:Zj X.P X.gl f D az H R E0) (hEnt:Ent X.P st o f avs) (bor:Bool) (hB:BwL st.hp (if bor then D else λ_=>true) avs az) (hroot:∀ n,Nm.under (.s (o.dst.getD X.n)) n=true->D n=false)
  (hH:∀ n,D n=true->st.hp n=H n) (hHD:∀ n,H n≠none->D n=true) (hext:∀ k i j,X.ext (.u k i j)=true->D (.u k i j)=false\/H (.u k i j)≠none) (hdn:∀ d,o.dst=some d->d<X.n)
  (hK:∀ x H',R (.s (o.dst.getD X.n)) x H'->K ((st.call (o.dst.getD X.n) D H (if bor then qAH H' else H')).put o.dst (if bor then LE x else x)))
  (hE:∀ x H',E0 (.s (o.dst.getD X.n)) x H'->E (if bor then LE x else x) (st.call (o.dst.getD X.n) D H (if bor then qAH H' else H'))):qS X o K E st:=by
 intro a w Q hR hQ;obtain⟨C,g,h1,h2,h3,h4,h5,hg⟩:=hR;obtain⟨args,hrun,hsz,hrel⟩:=hEnt _ _ _ _ _ _ hg;unfold Oper.wp;rw [hrun,Oper.upon_enter]
 let C1:Nat->Prop:=if bor then (λb=>b<w.heap.size/\¬ oh g H b) else C
 have ownlt:∀ b,oh g H b->¬ C b/\b<w.heap.size:=by
  rintro b ⟨n,hn,hk⟩;obtain⟨o,ho⟩:=CZ.1 hn;obtain⟨x1,_,x3⟩:=hg.inv.Z1 n o b qH hk
  simp_all
 have hC1:∀ b,C b->C1 b:=by
  intro b hb
  cases bor with
  | true=>exact⟨hg.inv.clt b hb,λho=>(ownlt b ho).1 hb⟩
  | false=>exact hb
 have hC1lt:∀ b,C1 b->b<w.heap.size:=by
  intro b hb
  cases bor with
  | true=>exact hb.1
  | false=>exact hg.inv.clt b hb
 have hC1o:∀ b,oh g H b->¬ C1 b:=by
  intro b ho hb
  cases bor<;>grind
 have same:∀ {v:Value} {x:AV},RV g w v x->RV (g.more C1) w v x:=λhv=>hv.more (λb hb=>hC1 b (hg.inv.hC ▸ hb))
 have hinv:Inv (oh (g.more C1) H) C1 w (g.more C1) H w:=by
  have get:∀ n o,H n=some o->st.hp n=some o:=λn o e=>qH;refine⟨rfl,rfl,rfl,qf _,λ_ _ _=>rfl,rfl,hC1lt,?_,?_,?_⟩
  .intro n o e;have:=(hg.inv.obj n o (get n o e)).tr (g':=g.more C1) (w':=w) (n':=n) (f:=some) (λb hb=>hC1 b (hg.inv.hC ▸ hb)) (λ_ _=>rfl) (λk k' e=>by obtain rfl:=sI e;exact⟨rfl,rfl⟩) rfl (λ_ _=>rfl)
   grind[AO.Zr]
  .intro n o b e hk;have ho:oh g H b:=⟨n,qj,hk⟩;exact⟨hC1o b ho,.inr ho,(ownlt b ho).2⟩
  .intro n n' o o' b e e' hk hk';exact hg.inv.inj n n' o o' b (get n o e) (get n' o' e') hk hk'
 have hargs:args.size=az.length/\∀ (j:Nat) v x,args[j]?=some v->az[j]?=some x->RV (g.more C1) w v x:=by
  refine⟨hsz.trans hB.1,λj v x hv hx=>?_⟩;have hj:j<avs.length:=qj;have hb:=hB.2 j _ x (gE hj) hx;have hr:=hrel j v _ hv (gE hj);refine RV.bw hg.inv hC1 (λn o b hD hn hk=>?_) hb hr
  cases bor with
  | true =>
   obtain⟨_,_,x3⟩:=hg.inv.Z1 n o b hn hk;refine⟨x3,?_⟩;rintro⟨n',hn',hk'⟩;obtain⟨o',ho'⟩:=CZ.1 hn';have:=hg.inv.inj n n' o o' b hn qH hk hk'
   simp_all
  | false=>simp at hD
 have hgl:∀ i row,X.gl i=some row->(RV (g.more C1) w (.pointer (some ⟨i,0,none⟩)) (.el row 0)/\Exw w i row)/\∀ f:Nm->Option Nm,row.map (AV.tr f)=row:=by
  intro i row e;obtain⟨x1,x2⟩:=hg.Zg i row qH
  simp_all
 -- the state behind
 have fin:∀ {C':Nat->Prop} {g':Gh} {H':Nm->Option AO} {x:AV} {v:Value} {w':World},qB4 (oh (g.more C1) H) C1 w (g.more C1) D (.s (o.dst.getD X.n)) H H' C' g' w'->RV g' w' v x ->
   ∃ C'' g'',(∀ b,X.C0 b->C'' b)/\(∀ b,C'' b->X.C0 b\/X.w0.heap.size<=b\/X.own b)/\Ext X g''/\Rg X.P X.own C'' X.w0 g'' (st.call (o.dst.getD X.n) D H (if bor then qAH H' else H')) a w'/\RV g'' w' v (if bor then LE x else x):=by
  intro C' g' H' x v w' hA hv
  have ownw0:∀ b,oh g H b->X.w0.heap.size<=b\/X.own b:=by
   rintro b ⟨n,hn,hk⟩;obtain⟨o,ho⟩:=CZ.1 hn;exact (hg.inv.Z1 n o b qH hk).2.1
  have ext:∀ g'':Gh,(∀ k i j,D (.u k i j)=false\/H (.u k i j)≠none->g''.φ (.u k i j)=g.φ (.u k i j)/\g''.κ (.u k i j)=g.κ (.u k i j))->Ext X g'':=by
   intro g'' hu k i j e;obtain⟨x1,x2⟩:=hu k i j (hext k i j e);obtain⟨y1,y2⟩:=h5 k i j e
   simp_all
  cases bor with
  | false =>
   have hA':qB4 (oh g H) C1 w (g.more C1) D (.s (o.dst.getD X.n)) H H' C' g' w':=hA
   have gg:g'.more C'=g':=by
    have:=hA.inv.hC;obtain⟨c,p,k⟩:=g';simp only at this;subst this
    rfl
   obtain⟨r1,r2⟩:=hg.after (C'':=C') (H'':=H') hH hHD hA' (λb hb=>hA.mono b hb) (λb hb=>by
    rcases hA.new b hb with x|x
    .grind
    .exact .inr ⟨hb,x⟩) (λ_ _ e=>e) (λn o' e=>by rw [gg];exact hA.inv.obj n o' e)
   rw [gg] at r1 r2;refine⟨C',g',λb hb=>hA.mono b (h1 b hb),λb hb=>?_,ext g' r2,r1,hv⟩;rcases hA.new b hb with x|x|x
   .grind
   .exact .inr (.inl (vk hg.inv.size x))
   .exact .inr (ownw0 b x)
  | true =>
   have hA':qB4 (oh g H) C1 w (g.more C1) D (.s (o.dst.getD X.n)) H H' C' g' w':=hA
   obtain⟨r1,r2⟩:=hg.after (C'':=C) (H'':=qAH H') hH hHD hA' (λb hb=>hb) (λb hb=>.inl hb) (λn o' e=>by
    grind[qAH]) (λn o' e=>by
    simp only [qAH] at e
    split at e
    .rename_i o2 e2
     split at e
     .rename_i hcl;obtain rfl:=sI e;have ho:=hA.inv.obj n o2 e2
      cases o2 with
      | row z rows =>
       simp only [OAt] at ho ⊢
       change match g'.φ n with|some b=>Of (g'.more C) w' b (g'.κ n) z rows|none=>rows=[]
       cases hk:g'.φ n with
       | none=>simp_all
       | some b =>
        rw [hk] at ho;obtain⟨cur,T,c1,c2,c3,c4,c5,c6,c7⟩:=ho;exact⟨cur,T,c1,c2,c3,c4,c5,c6,λi row hrow j y hy=>(c7 i row hrow j y hy).cln C (dT.1 (dT.1 hcl row (gM hrow)) y (gM hy))⟩
      | qCG T z ex rows =>
       simp only [OAt] at ho ⊢
       change match g'.φ n with|some b=>SC (g'.more C) w' b (g'.κ n) T z rows/\(ex=true->g'.κ n=rows.length)/\(ex=false->0<g'.κ n)|none=>rows=[]
       cases hk:g'.φ n with
       | none=>simp_all
       | some b =>
        rw [hk] at ho;obtain⟨⟨cur,c1,c2,c3,c4,c5,c6,c7⟩,c8⟩:=ho;exact⟨⟨cur,c1,c2,c3,c4,c5,c6,λi row hrow j y hy=>(c7 i row hrow j y hy).cln C (dT.1 (dT.1 hcl row (gM hrow)) y (gM hy))⟩,c8⟩
      | map es =>
       simp only [OAt] at ho ⊢
       change match g'.φ n with|some b=>UK (g'.more C) w' b es|none=>False
       cases hk:g'.φ n with
       | none=>simp_all
       | some b =>
        rw [hk] at ho;obtain⟨ms,clock,c1,cs,c2,c3⟩:=ho;refine⟨ms,clock,c1,cs,c2,λi m e' hm he'=>?_⟩;have:=dT.1 hcl e' (gM he');simp only [ba] at this;exact⟨(c3 i m e' hm he').1.cln C this.1,(c3 i m e' hm he').2.cln C this.2⟩
     .cases e
    .cases e)
   refine⟨C,g'.more C,h1,h2,ext _ r2,r1,?_⟩;simp only [if_true,LE]
   split
   .rename_i hcl;exact hv.cln C hcl
   .exact .bot v
 refine (hF.2 (.s (o.dst.getD X.n)) C1 w (g.more C1) args hroot rfl hHD hinv hgl hargs.1 hargs.2).mono ?_;intro e w' he
 cases e with
 | returned v =>
  obtain⟨C',g',H',x,hA,hv,hRx⟩:=he;obtain⟨C'',g'',x1,x2,x3,x4,x5⟩:=fin hA hv;refine⟨_,⟨C'',g'',x1,x2,?_,?_,x3,x4.put (λt e=>?_) x5⟩,hK x H' hRx⟩
  .rw [Fb];exact h3
  .rw [r8];exact h4
  .show t<st.n
   simp_all
 | panicked ch =>
  obtain⟨C',g',H',x,v,hA,rfl,hv,hRx⟩:=he;obtain⟨C'',g'',x1,x2,x3,x4,x5⟩:=fin hA hv;exact hQ v w' (st.call (o.dst.getD X.n) D H (if bor then qAH H' else H')) (if bor then LE x else x) ⟨C'',g'',x1,x2,h3,h4,x3,x4,x5⟩ (hE x H' hRx)
 | outgrown=>simp_all
end
inductive Ex where
 | normal
 | exit (id:Nat)
 | goto (l:Nat)
 | ret
 | pan (x:AV)
def BA (X:Ctx) (Q:Ex->St->Prop):Exit->Act->World->Prop
 | .normal,a,w=>∃ st,Rw X st a w/\Q .normal st
 | .exit id,a,w=>∃ st,Rw X st a w/\Q (.exit id) st
 | .goto l,a,w=>∃ st,Rw X st a w/\Q (.goto l) st
 | .ret,a,w=>∃ st,Rw X st a w/\Q .ret st
 | .panic ch,a,w=>∃ st v x,RwV X st a w v x/\ch=[{ v:=v,recovered:=false }]/\Q (.pan x) st
 | .outgrown,_,_=>False
def qh (X:Ctx) (c:Code) (Q:Ex->St->Prop) (st:St):Prop:=∀ a w,Rw X st a w->c.wp X.P (BA X Q) a w
def Iy (X:Ctx) (ds:List (Option Nat)) (o:Oper) (K:St->Prop) (E:AV->St->Prop) (st:St):Prop :=
 ∀ (ops:Array Oper) (i:Nat),ops.toList.map (·.dst)=ds->ops[i]?=some o ->
  ∀ (a:Act) (w:World) (Q:Exit->Act->World->Prop),Rw X st a w->(∀ v w' st' x,RwV X st' a w' v x->E x st'->Q (.panic [{ v:=v,recovered:=false }]) a w') ->
   wpOp X.P ops Q i (λa' w'=>∃ st',Rw X st' a' w'/\K st') a w
def il (X:Ctx) (ds:List (Option Nat)) (K:St->Prop) (E:AV->St->Prop):List Oper->St->Prop
 | [],st=>K st
 | o::l,st=>Iy X ds o (il X ds K E l) E st
def W5 (X:Ctx) (ops:Array Oper) (K:St->Prop) (E:AV->St->Prop) (st:St):Prop :=
 ∀ (a:Act) (w:World) (Q:Exit->Act->World->Prop),Rw X st a w->(∀ a' w' st',Rw X st' a' w'->K st'->Q .normal a' w')->(∀ a' v w' st' x,RwV X st' a' w' v x->E x st'->Q (.panic [{ v:=v,recovered:=false }]) a' w') ->
  wpAny X.P .any ops Q ops.size (Array.replicate ops.size false) a w
section
variable {X:Ctx} {st:St} {a:Act} {w:World} {K:St->Prop} {E:AV->St->Prop} {ds:List (Option Nat)} {o:Oper}
theorem pn {o:Oper} {y:Nat->Option Bool} (h:o.guard=none):Region.wanted o y=true:=by simp [Region.wanted,h]
theorem dj {d:Nat} {x:AV} (h:st.tm d=x):st.put (some d) x=st:=by
 obtain⟨tm,hp,n,gl⟩:=st;simp only [St.put] at h ⊢
 congr 1
 grind
theorem Rw.qC6 {t:Nat} {u:Value} (h:Rw X st a w) (ht:st.tm t=.sc u):a.tmps.getD t undef=u:=by
 obtain⟨C,g,_,_,_,_,_,hr⟩:=h;have:=hr.qBr t
 grind[RV.Zo]
theorem Rw.size (h:Rw X st a w):a.tmps.size=X.n:=by
 grind[Rg.size,Rw]
theorem Rw.yielded {ops:Array Oper} {j d:Nat} {t:Bool} (h:Rw X st a w) (hd:(ops.toList.map (·.dst))[j]?=some (some d)) (ht:st.tm d=.sc (.bool t)):yielded ops a.tmps j=some t:=by
 have hd:(ops[j]?).bind (·.dst)=some d:=by
  grind
 have hv:=h.qC6 ht
 simp_all<;>grind[undef,Go.yielded]
theorem Rw.qEN (h:Rw X st a w) (dst:Option Nat) (hn:∀ d,dst=some d->d<X.n):Rw X (st.put dst (.sc undef)) (a.put dst undef) w:=by
 obtain⟨C,g,h1,h2,h3,h4,h5,hr⟩:=h;exact⟨C,g,h1,h2,(Fb _ _ _).trans h3,(r8 _ _ _).trans h4,h5,hr.put (λt e=>qH) (.sc _)⟩
theorem WI (hg:o.guard=none) (h:qS X o K E st):Iy X ds o K E st:=by
 grind[wpOp,pn,qS,Iy]
theorem NN {j d:Nat} {want t:Bool} (hg:o.guard=some (j,want)) (hd:ds[j]?=some (some d)) (ht:st.tm d=.sc (.bool t)) (h1:t=want->qS X o K E st) (h2:t=!want->(∀ e,o.dst=some e->e<X.n)/\K (st.put o.dst (.sc undef))):Iy X ds o K E st:=by
 intro ops i hds hi a w Q hR hE;unfold wpOp;simp only [hi];have hy:=hR.yielded (ops:=ops) (by rw [hds];exact hd) ht;by_cases htw:t=want
 .grind[Region.wanted,qS]
 .rw [if_neg By];have hnot:t=!want:=by cases t <;> cases want <;> simp_all
  obtain⟨hn,hK⟩:=h2 hnot;exact⟨_,hR.qEN o.dst hn,hK⟩
theorem Rx {j d:Nat} {want:Bool} (hg:o.guard=some (j,want)) (hd:ds[j]?=some (some d)) (ht:st.tm d=.sc (.bool want)) (h:qS X o K E st):Iy X ds o K E st :=
 NN hg hd ht (λ_=>h) (λe=>qj)
theorem NP {j d:Nat} {want:Bool} (hg:o.guard=some (j,want)) (hd:ds[j]?=some (some d)) (ht:st.tm d=.sc (.bool (!want))) (hn:∀ e,o.dst=some e->e<X.n) (h:K (st.put o.dst (.sc undef))):Iy X ds o K E st :=
 NN hg hd ht (λe=>qH) (λ_=>⟨hn,h⟩)
theorem Rw.qDJ {ops:Array Oper} {j d:Nat} {a:Act} {w:World} (hR:Rw X st a w) (hd:(ops.toList.map (·.dst))[j]?=some (some d)) (ht:st.tm d=.sc undef):Go.yielded ops a.tmps j=none:=by
 have hd:(ops[j]?).bind (·.dst)=some d:=by
  grind
 have hv:=hR.qC6 ht;unfold Go.yielded;rw [hd];simp only [Ee];rw [Kh] at hv
 grind[undef]
theorem To {j d:Nat} {want:Bool} (hg:o.guard=some (j,want)) (hd:ds[j]?=some (some d)) (ht:st.tm d=.sc undef) (hn:∀ e,o.dst=some e->e<X.n) (h:K (st.put o.dst (.sc undef))):Iy X ds o K E st:=by
 intro ops i hds hi a w Q hR hE;unfold wpOp;simp only [hi]
 have hy:yielded ops a.tmps j=none:=by
  have hd:(ops[j]?).bind (·.dst)=some d:=by
   grind
  have hv:=hR.qC6 ht;unfold Go.yielded;rw [hd];simp only [Ee];rw [Kh] at hv
  grind[undef]
 rw [if_neg By];exact⟨_,hR.qEN o.dst hn,h⟩
theorem il.qDi {ops:Array Oper} {Q:Exit->Act->World->Prop} (hQ:∀ a' w' st',Rw X st' a' w'->K st'->Q .normal a' w') (hE:∀ a' v w' st' x,RwV X st' a' w' v x->E x st'->Q (.panic [{ v:=v,recovered:=false }]) a' w') :
  ∀ (l:List Oper) (k:Nat),ops.toList.drop k=l->∀ st,il X (ops.toList.map (·.dst)) K E l st->∀ a w,Rw X st a w->wpOps X.P ops Q (List.range' k l.length) a w
 | [],k,_,st,h,a,w,hR=>hQ a w st hR h
 | o::l,k,hl,st,h,a,w,hR=>by
  have hk:ops[k]?=some o:=by
   rw [<- C2,<- C4 k,<- List.getElem?_drop,hl];rfl
  rw [Kg,List.range'_succ,wpOps_cons];refine wpOp_mono (λa' w' he=>?_) (h ops k rfl hk a w Q hR (λv w' st' x h1 h2=>hE a v w' st' x h1 h2));obtain⟨st',hR',hK'⟩:=he;refine il.qDi hQ hE l (k+1) ?_ st' hK' a' w' hR';rw [<- List.drop_drop,hl]
  rfl
theorem Rw.drawn (h:Rw X st a w) (k:Nat):Rw X st a { w with drawn:=k }:=by
 obtain⟨C,g,h1,h2,h3,h4,h5,hr⟩:=h
 have s1:=hr.step (g':=g) (w':={ w with drawn:=k }) (f:=some) (hp':=st.hp) rfl (λn n' e=>qH) rfl rfl rfl (qf _) (λ_ _=>rfl) (λ_ _ _=>rfl)
  (λn o e=>.inl ⟨n,o,rfl,e,(AO.Zr o).symm,λ_ _=>rfl⟩)
 have e:st.nm some st.hp=st:=by simp only [St.nm,AV.Zr]
 grind[Rw]
def FL (K:St->Prop) (Q:Ex->St->Prop):Ex->St->Prop
 | .normal,st=>K st
 | e,st=>Q e st
def bl (id:Nat) (Q:Ex->St->Prop):Ex->St->Prop
 | .exit id',st=>if id'=id then Q .normal st else Q (.exit id') st
 | e,st=>Q e st
theorem Jo {Q Q':Ex->St->Prop} (hQ:∀ e s,Q e s->Q' e s):∀ e a w,BA X Q e a w->BA X Q' e a w:=by
 intro e a w h
 cases e with
 | normal=>grind[BA]
 | exit id=>grind[BA]
 | goto l=>grind[BA]
 | ret=>grind[BA]
 | panic ch=>grind[BA]
 | outgrown=>exact h
theorem qh.mono {c:Code} {Q Q':Ex->St->Prop} (h:qh X c Q st) (hQ:∀ e s,Q e s->Q' e s):qh X c Q' st :=
 λa w hR=>wp_mono (h a w hR) (Jo hQ)
theorem yH {Q:Ex->St->Prop} (h:Q .normal st):qh X .skip Q st:=λ_ _ hR=>wp_skip ⟨st,hR,h⟩
theorem fJ {l:Nat} {Q:Ex->St->Prop} (h:Q .normal st):qh X (.label l) Q st:=λ_ _ hR=>wp_label ⟨st,hR,h⟩
theorem kR {id:Nat} {Q:Ex->St->Prop} (h:Q (.exit id) st):qh X (.exit id) Q st:=λ_ _ hR=>wp_exit ⟨st,hR,h⟩
theorem Rb {l:Nat} {Q:Ex->St->Prop} (h:Q (.goto l) st):qh X (.goto l) Q st:=λ_ _ hR=>wp_goto ⟨st,hR,h⟩
theorem aM {Q:Ex->St->Prop} (h:Q .ret st):qh X .ret Q st:=λ_ _ hR=>wp_ret ⟨st,hR,h⟩
theorem vH {c d:Code} {Q:Ex->St->Prop} (h:qh X c (FL (qh X d Q) Q) st):qh X (.seq c d) Q st:=by
 intro a w hR;refine wp_seq (wp_mono (h a w hR) λe a' w' he=>?_)
 cases e with
 | normal=>obtain⟨st',hR',hQ⟩:=he;exact hQ a' w' hR'
 | exit id=>exact he
 | goto l=>exact he
 | ret=>exact he
 | panic ch=>exact he
 | outgrown=>exact he
theorem Hg {c:Operand} {x y:Code} {Q:Ex->St->Prop} {t:Bool} (ht:ev st c=.sc (.bool t)) (h1:t=true->qh X x Q st) (h2:t=false->qh X y Q st):qh X (.cond c x y) Q st:=by
 intro a w hR
 have hv:a.eval c=.bool t:=by
  obtain⟨C,g,_,_,_,_,_,hr⟩:=hR;exact (ht ▸ hr.ev c).Zo
 grind[wp_cond_split,qh]
theorem PJ {c:Operand} {x y:Code} {Q:Ex->St->Prop} (h1:qh X x Q st) (ht:ev st c=.sc (.bool true)):qh X (.cond c x y) Q st:=Hg ht (λ_=>h1) (λe=>um)
theorem PK {c:Operand} {x y:Code} {Q:Ex->St->Prop} (h1:qh X y Q st) (ht:ev st c=.sc (.bool false)):qh X (.cond c x y) Q st:=Hg ht (λe=>um) (λ_=>h1)
theorem jd {id:Nat} {c:Code} {Q:Ex->St->Prop} (h:qh X c (bl id Q) st):qh X (.block id c) Q st:=by
 intro a w hR;refine wp_block (wp_mono (h a w hR) λe a' w' he=>?_)
 cases e with
 | exit id' =>
  obtain⟨st',hR',hQ⟩:=he;simp only [Exit.inBlock];simp only [bl] at hQ
  split
  .rename_i e;rw [if_pos e] at hQ;exact⟨st',hR',hQ⟩
  .rename_i e;rw [if_neg e] at hQ;exact⟨st',hR',hQ⟩
 | normal=>exact he
 | goto l=>exact he
 | ret=>exact he
 | panic ch=>exact he
 | outgrown=>exact he
theorem Q3 {p:Nat->Prop} (h:∃ n,p n):∃ n,p n/\∀ m,p m->n<=m:=by
 obtain⟨n,hn⟩:=h
 induction n using Nat.strongRecOn<;>grind
theorem qX {c:Code} {Q:Ex->St->Prop} (I:Nat->St->Prop) (n0:Nat) (h0:I n0 st) (hround:∀ n s,s.n=X.n->s.gl=X.gl->I n s->qh X c (FL (λs'=>∃ m,m<n/\I m s') Q) s):qh X (.loop c) Q st:=by
 intro a w hR
 let J:Nat->Act->World->Prop:=λn a w=>∃ st,Rw X st a w/\I n st
 let μ:Act->World->Nat:=λa w=>open Classical in if h:∃ n,J n a w then (Q3 h).choose else 0
 have hμ:∀ n a w,J n a w->μ a w<=n:=by
  intro n a w hJ;have hex:∃ n,J n a w:=⟨n,hJ⟩;simp only [μ,dif_pos hex];exact (Q3 hex).choose_spec.2 n hJ
 refine wp_loop (λa w=>∃ n,J n a w) μ ⟨n0,st,hR,h0⟩ λa w hJ=>?_
 have hspec:J (μ a w) a w:=by
  grind
 obtain⟨st1,hR1,hI1⟩:=hspec;have hR1':=hR1;obtain⟨C,g,x1,x2,x3,x4,x5,x6⟩:=hR1;refine wp_mono (hround _ st1 x3 x4 hI1 a w hR1') λe a' w' he=>?_
 cases e with
 | normal =>
  obtain⟨st',hR',m,hlt,hI⟩:=he;exact⟨⟨m,st',hR',hI⟩,Nat.lt_of_le_of_lt (hμ m a' w' ⟨st',hR',hI⟩) hlt⟩
 | exit id=>exact he
 | goto l=>exact he
 | ret=>exact he
 | panic ch=>exact he
 | outgrown=>exact he
theorem PI {id:Nat} {ops:Array Oper} {Q:Ex->St->Prop} (h:∀ K:St->Prop,(∀ s,Q .normal s->K s)->il X (ops.toList.map (·.dst)) K (λx=>Q (.pan x)) ops.toList st):qh X (.region id ops false) Q st:=by
 intro a w hR;refine wp_region ?_;rw [List.range_eq_range'];have:=il.qDi (ops:=ops) (Q:=BA X Q) (λa' w' st' h1 h2=>⟨st',h1,h2⟩) (λa' v w' st' x h1 h2=>⟨st',v,x,h1,rfl,h2⟩) ops.toList 0 rfl st (h _ (λ_ h=>h)) a w hR;omega
theorem Ue {id:Nat} {ops:Array Oper} {Q:Ex->St->Prop} (hm:X.P.follows .mixedOrders=true) (h:∀ K:St->Prop,(∀ s,Q .normal s->K s)->W5 X ops K (λx=>Q (.pan x)) st):qh X (.region id ops true) Q st:=by
 intro a w hR;exact wp_region_any hm (h _ (λ_ h=>h) a _ _ (hR.drawn _) (λa' w' st' h1 h2=>⟨st',h1,h2⟩) (λa' v w' st' x h1 h2=>⟨st',v,x,h1,rfl,h2⟩))
theorem qV {K:St->Prop} {Q:Ex->St->Prop} (h:K st):FL K Q .normal st:=h
theorem vW {Q:Ex->St->Prop} {id:Nat} (h:Q .normal st):bl id Q (.exit id) st:=by simp [bl,h]
theorem jx {Q:Ex->St->Prop} {id id':Nat} (hne:id'≠id) (h:Q (.exit id') st):bl id Q (.exit id') st:=by grind[bl]
theorem Cl {c:Code} {Q:Ex->St->Prop} (n0 n1:Nm) (h0:n0.isU=false\/X.ext n0=false) (h1:n1.isU=false\/X.ext n1=false) (h:qh X c Q (st.move n0 n1)):qh X c Q st :=
 λa w hR=>h a w (hR.move n0 n1 h0 h1)
end
def Nm.Zi:Nm->Bool
 | .s _=>true
 | .u _ _ _=>false
 | .c n _ _=>n.Zi
theorem Nm.qAJ {a b:Nm} (h:Nm.under a b=true):∀ {c:Nm},Nm.under b c=true->Nm.under a c=true:=by
 intro c
 induction c<;>grind[under]
theorem Nm.qAM {a b:Nm} (ha:a.Zi=true):Nm.under a b=true->b.Zi=true:=by
 induction b with
 | s d=>intro _;rfl
 | u k i j=>grind[under]
 | c n i j ih =>
  grind[under,Zi]
theorem Nm.qAS {n m:Nm} {i j:Nat} (h:Nm.under (.c n i j) m=true):Nm.under n m=true/\m≠n:=by
 induction m<;>grind[under,Z6,qAT]
theorem Nm.qDR {n m:Nm} {i j i' j':Nat} (hne:¬ (i=i'/\j=j')) (h:Nm.under (.c n i j) m=true):Nm.under (.c n i' j') m=false:=by
 induction m with
 | s d=>simp [Nm.under]
 | u k a b=>simp [Nm.under]
 | c q a b ih =>
  simp only [Nm.under,Kf,decide_eq_true_eq] at h;simp only [Nm.under,RN,decide_eq_false_iff_not];rcases h with h|h
  .injection h with e1 e2 e3
   subst e1;subst e2;subst e3;refine⟨λe=>?_,?_⟩
   .simp_all
   .cases hx:Nm.under (.c q i' j') q with
    | false=>rfl
    | true=>exact absurd rfl (Nm.qAS hx).2
  .refine⟨λe=>?_,ih h⟩
   injection e with e1 e2 e3
   subst e1;exact absurd rfl (Nm.qAS h).2
def jc (D:Nm->Bool):List (Nm×Nm)->Nm->Option Nm
 | [],m=>if D m then some m else none
 | p::l,m=>if Nm.under p.1 m then some (Nm.Zn p.1 p.2 m) else jc D l m
def Tq:List (Nm×Nm)->Nm->Option Nm
 | [],_=>none
 | p::l,m=>if Nm.under p.2 m then some (Nm.Zn p.2 p.1 m) else Tq l m
def lQ (D:Nm->Bool) (sbs:List (Nm×Nm)) (hp:Nm->Option AO):Nm->Option AO:=λm =>
 if D m then (hp m).map (AO.tr (jc D sbs)) else match Tq sbs m with
  | some q=>if jc D sbs q=some m then (hp q).map (AO.tr (jc D sbs)) else none
  | none=>none
structure OkS (D:Nm->Bool) (root:Nm) (sbs:List (Nm×Nm)):Prop where
 src:∀ p∈sbs,p.1.Zi=true
 tgt:∀ p∈sbs,Nm.under root p.2=true
 dis:sbs.Pairwise (λp q=>∀ m,Nm.under p.2 m=true->Nm.under q.2 m=false)
theorem OkS.nil {D:Nm->Bool} {root:Nm}:OkS D root []:=⟨qB,qB,qB⟩
theorem OkS.one {D:Nm->Bool} {root n:Nm} (h:n.Zi=true):OkS D root [(n,root)]:=⟨dO,by simp [Nm.Z6],qB⟩
theorem ox {D:Nm->Bool} {m:Nm} (hD:∀ m,D m=true->m.Zi=false) (hm:D m=true):∀ {sbs:List (Nm×Nm)},(∀ p∈sbs,p.1.Zi=true)->jc D sbs m=some m
 := by intro x0;induction x0<;>grind[jc,Nm.qAM]
theorem Ie {D:Nm->Bool} {root:Nm}:∀ {sbs:List (Nm×Nm)} {m x:Nm},(∀ p∈sbs,Nm.under root p.2=true)->jc D sbs m=some x->(D m=true/\x=m)\/∃ p∈sbs,Nm.under p.2 x=true
 := by intro x0;induction x0<;>grind[jc,Nm.qAK]
theorem Id {D:Nm->Bool} {root:Nm} (hroot:∀ m,Nm.under root m=true->D m=false):∀ {sbs:List (Nm×Nm)},(∀ p∈sbs,Nm.under root p.2=true)->sbs.Pairwise (λp q=>∀ m,Nm.under p.2 m=true->Nm.under q.2 m=false) ->
  ∀ k k' x,jc D sbs k=some x->jc D sbs k'=some x->k=k'
 | [],_,_,k,k',x,h,h'=>by
  grind[jc]
 | p::l,ht,hd,k,k',x,h,h'=>by
  have hl:=List.pairwise_cons.1 hd
  have cross:∀ k k' x,Nm.under p.1 k=true->some (Nm.Zn p.1 p.2 k)=some x->jc D l k'=some x->False:=by
   intro k k' x hu e e';obtain rfl:=sI e;have hx:=Nm.qAK (k1:=p.2) k hu;rcases Ie (λq hq=>ht q cU) e' with⟨hD,e2⟩|⟨q,hq,hq2⟩<;>grind[Nm.qAJ]
  simp only [jc] at h h'
  split at h
  .grind[Nm.qCC]
  .split at h'
   .grind
   .exact Id hroot (λq hq=>ht q cU) hl.2 k k' x h h'
def C8 (P:Program) (st:St):List ResultVar->Option (List AV)
 | []=>some []
 | .tmp t::l=>(C8 P st l).map (st.tm t::·)
 | .cell t T::l=>((qAP st (st.tm t)).bind (λp=>I7 P T p.1 p.2)).bind λx=>(C8 P st l).map (x::·)
def MK:List AV->AV
 | [x]=>x
 | l=>.tup l
def DU (tmps:Array Value):ResultVar->Sem Value
 | .tmp t=>pure (tmps.getD t undef)
 | .cell x t=>do loadVar t (<- asAddr (tmps.getD x undef))
section
variable {P:Program} {own:Nat->Prop} {C:Nat->Prop} {w0:World} {g:Gh} {st:St} {a:Act} {w:World}
theorem F7 (h:Rg P own C w0 g st a w):∀ (l:List ResultVar) (xs:List AV),C8 P st l=some xs ->
  ∃ vs:List Value,(l.mapM (DU a.tmps)).run P w=.ok vs w/\vs.length=xs.length/\∀ (j:Nat) v x,vs[j]?=some v->xs[j]?=some x->RV g w v x
 | [],xs,hq=>by
  simp_all[C8]
 | .tmp t::l,xs,hq=>by
  simp only [C8] at hq;obtain⟨m,hm,rfl⟩:=ku.1 hq;obtain⟨vs,e1,e2,e3⟩:=F7 h l m hm;refine⟨a.tmps.getD t undef::vs,?_,by simp [e2],λj v x hv hx=>?_⟩
  .simp_all[DU]
  .cases j with
   | zero =>
    obtain rfl:=sI hv;obtain rfl:=sI hx;exact h.qBr t
   | succ j=>grind
 | .cell t T::l,xs,hq=>by
  simp only [C8] at hq;obtain⟨y,hy,hq⟩:=xD.1 hq;obtain⟨m,hm,rfl⟩:=ku.1 hq;obtain⟨⟨cs,off⟩,h1,h2⟩:=xD.1 hy;obtain⟨vs,e1,e2,e3⟩:=F7 h l m hm;obtain⟨b,o,f,e,hcell,_,hr⟩:=h.qAP (h.qBr t) h1;obtain⟨v,hrun,hrv⟩:=Hz (P:=P) h2 hcell hr;refine⟨v::vs,?_,by simp [e2],λj u x hu hx=>?_⟩<;>grind[DU,Sem.run_bind,Sem.run_pure,Result.andThen_ok,asAddr]
theorem F1 {fn:Func} {xs:List AV} (h:Rg P own C w0 g st a w) (hq:C8 P st fn.results.toList=some xs) :
  ∃ v,(results fn a.tmps).run P w=.ok v w/\RV g w v (MK xs):=by
 obtain⟨vs,e1,e2,e3⟩:=F7 h fn.results.toList xs hq
 have hrun:(fn.results.mapM (DU a.tmps)).run P w=.ok vs.toArray w:=by
  simp_all[Array.mapM_eq_mapM_toList]
 have hres:results fn a.tmps=(do let vs <- fn.results.mapM (DU a.tmps);pure (if h:vs.size=1 then vs[0] else .tuple vs)):=rfl;rw [hres];simp only [Sem.run_bind,hrun,Result.andThen_ok,Sem.run_pure];refine⟨_,rfl,?_⟩
 cases xs with
 | nil =>
  obtain rfl:=gj e2;constructor<;>grind
 | cons x l =>
  cases vs with
  | nil=>simp at e2
  | cons v vs =>
   cases l with
   | nil =>
    obtain rfl:=gj (by simpa using e2);exact e3 0 v x rfl rfl
   | cons y l =>
    cases vs with
    | nil=>simp at e2
    | cons u vs =>
     constructor<;>grind
end
def s9 (P:Program) (D:Nm->Bool) (root:Nm) (rs:List ResultVar) (R E:Nm->AV->(Nm->Option AO)->Prop):Ex->St->Prop
 | .normal,st=>∃ sbs xs,OkS D root sbs/\C8 P st rs=some xs/\R root ((MK xs).tr (jc D sbs)) (lQ D sbs st.hp)
 | .ret,st=>∃ sbs xs,OkS D root sbs/\C8 P st rs=some xs/\R root ((MK xs).tr (jc D sbs)) (lQ D sbs st.hp)
 | .pan x,st=>∃ sbs,OkS D root sbs/\E root (x.tr (jc D sbs)) (lQ D sbs st.hp)
 | _,_=>False
def st0 (az:List AV) (H:Nm->Option AO) (n:Nat) (gl:Nat->Option (List AV)):St:={ tm:=λt=>az.getD t (.sc undef),hp:=H,n:=n,gl:=gl }
def dz (P:Program) (C:Nat->Prop) (w:World) (g:Gh) (H:Nm->Option AO) (n:Nat) (gl:Nat->Option (List AV)):Ctx :=
 { P:=P,own:=oh g H,C0:=C,w0:=w,n:=n,gl:=gl,ext:=λm=>(H m).isSome,g0:=g }
theorem Zj.qC7 {P:Program} {gl:Nat->Option (List AV)} {f:FuncId} {D:Nm->Bool} {az:List AV} {H:Nm->Option AO} {R E:Nm->AV->(Nm->Option AO)->Prop} {fn:Func} {c:Code} {rs:List ResultVar} {n:Nat}
  (hf:P.funcs[f]?=some fn) (hb:fn.body=some c) (hname:(fn.name == "runtime.NumGoroutine")=false) (hrs:fn.results.toList=rs) (hn:fn.ntmps=n) (hle:az.length<=n) (hD:∀ m,D m=true->m.Zi=false)
  (h:∀ C w g root,(∀ m,Nm.under root m=true->D m=false)->qh (dz P C w g H n gl) c (s9 P D root rs R E) (st0 az H n gl)):Zj P gl f D az H R E:=by
 refine⟨⟨fn,hf,hname,qj⟩,λroot C w g args hroot hru hHD hinv hgl hsz hargs=>?_⟩
 have hstart:Rw (dz P C w g H n gl) (st0 az H n gl) { tmps:=args++Array.replicate (fn.ntmps - args.size) undef,defers:=[] } w:=by
  refine⟨C,g,λ_ h=>h,λ_ h=>.inl h,rfl,rfl,λ_ _ _ _=>⟨rfl,rfl⟩,hinv,rfl,?_,?_,hgl⟩
  .grind[st0]
  .intro t;simp only [st0];by_cases ht:t<args.size
   .have h1:az[t]?=some (az[t]' qA):=gE _
    simp_all<;>grind
   .have h1:az[t]?=none:=pQ qA
    have h2:(args++Array.replicate (fn.ntmps - args.size) undef).getD t undef=undef:=by
     simp_all<;>grind
    rw [h2,xC,h1];exact RV.sc _
 have key:∀ {st:St} {a:Act} {w':World} {C':Nat->Prop} {g1:Gh} (sbs:List (Nm×Nm)),OkS D root sbs->(∀ b,C b->C' b)->(∀ b,C' b->C b\/w.heap.size<=b\/oh g H b)->Ext (dz P C w g H n gl) g1->Rg P (oh g H) C' w g1 st a w' ->
   ∃ g',qB4 (oh g H) C w g D root H (lQ D sbs st.hp) C' g' w'/\∀ v x,RV g1 w' v x->RV g' w' v (x.tr (jc D sbs)):=by
  intro st a w' C' g1 sbs hok hC1 hC2 hext hr;have hinj:=Id (D:=D) hroot hok.tgt hok.dis
  let g':Gh:={ C:=g1.C,φ:=λm=>if D m||Nm.under root m then (g1.tr (jc D sbs)).φ m else g.φ m,κ:=λm=>if D m||Nm.under root m then (g1.tr (jc D sbs)).κ m else g.κ m }
  have img:∀ m m',jc D sbs m=some m'->(D m'||Nm.under root m')=true:=by
   intro m m' e;rcases Ie hok.tgt e with⟨h1,rfl⟩|⟨p,hp,hp2⟩
   .simp [h1]
   .simp [Nm.qAJ (hok.tgt p hp) hp2]
  have gf:∀ m m',jc D sbs m=some m'->g'.φ m'=g1.φ m/\g'.κ m'=g1.κ m:=by
   grind[Gh.qAf]
  have old:∀ m' o',lQ D sbs st.hp m'=some o'->∃ m o,jc D sbs m=some m'/\st.hp m=some o/\o'=o.tr (jc D sbs):=by
   intro m' o' e;unfold lQ at e
   split at e
   .rename_i hm;obtain⟨o,e1,rfl⟩:=ku.1 e;exact⟨m',o,ox hD hm hok.src,e1,rfl⟩
   grind[ku]
  have hs:=hr.step (g':=g') (w':=w') (f:=jc D sbs) (hp':=lQ D sbs st.hp) rfl gf rfl rfl rfl (qf _) (λ_ _=>rfl) (λ_ _ _=>rfl) (λm' o' e=>by
   simp_all)
  refine⟨g',⟨hC1,hC2,hs.inv,λm hm=>?_,λm h1 h2=>qj,λk i j hk=>?_⟩,λv x hv=>hr.rv (g':=g') rfl (λ_ _=>rfl) gf hv⟩
  .obtain⟨o',ho'⟩:=CZ.1 hm
   grind
  .have hd:=hHD _ hk;obtain⟨x1,x2⟩:=gf _ _ (ox hD hd hok.src)
   have he:(dz P C w g H n gl).ext (.u k i j)=true:=by
    obtain⟨o',ho'⟩:=CZ.1 hk
    grind[dz]
   obtain⟨y1,y2⟩:=hext k i j he;exact⟨x1.trans y1,x2.trans y2⟩
 have done:∀ st (a:Act) w',Rw (dz P C w g H n gl) st a w'->(∃ sbs xs,OkS D root sbs/\C8 P st rs=some xs/\R root ((MK xs).tr (jc D sbs)) (lQ D sbs st.hp)) ->
   a.defers=[]/\∃ v,(results fn a.tmps).run P w'=.ok v w'/\∃ C' g' H' x,qB4 (oh g H) C w g D root H H' C' g' w'/\RV g' w' v x/\R root x H':=by
  intro st a w' hR hq;obtain⟨C',g1,h1,h2,_,_,h5,hr⟩:=hR;obtain⟨sbs,xs,hok,hx,hRx⟩:=hq;obtain⟨g',k1,k2⟩:=key sbs hok h1 h2 h5 hr;obtain⟨v,hrun,hv⟩:=F1 (fn:=fn) hr (by rw [hrs];exact hx);exact⟨hr.defers,v,hrun,C',g',_,_,k1,k2 v _ hv,hRx⟩
 refine calls_of_wp hf hb (wp_mono (h C w g root hroot _ _ hstart) λe a w' he=>?_)
 cases e with
 | normal=>obtain⟨st',hR,hQ⟩:=he;exact done st' a w' hR hQ
 | ret=>obtain⟨st',hR,hQ⟩:=he;exact done st' a w' hR hQ
 | panic ch =>
  obtain⟨st',v,x,hR,rfl,hQ⟩:=he;obtain⟨C',g1,h1,h2,_,_,h5,hr,hv⟩:=hR;obtain⟨sbs,hok,hEx⟩:=hQ;obtain⟨g',k1,k2⟩:=key sbs hok h1 h2 h5 hr;constructor<;>grind[Rg.defers]
 | exit id=>obtain⟨_,_,hQ⟩:=he;exact hQ.elim
 | goto l=>obtain⟨_,_,hQ⟩:=he;exact hQ.elim
 | outgrown=>exact he.elim
theorem Zj.Zl {P:Program} {gl:Nat->Option (List AV)} {f:FuncId} {D:Nm->Bool} {as:List AV} {H:Nm->Option AO} {R E:Nm->AV->(Nm->Option AO)->Prop} {fn:Func} {c:Code} {n:Nat} (hf:P.funcs[f]?=some fn) (rs:List ResultVar) (hn:fn.ntmps=n) (hD:∀ m,D m=true->m.Zi=false) (h:∀ C w g root,(∀ m,Nm.under root m=true->D m=false)->qh (dz P C w g H n gl) c (s9 P D root rs R E) (st0 as H n gl)) (hb:fn.body=some c:=by exact rfl) (hname:(fn.name== "runtime.NumGoroutine")=false:=by kernel_rfl) (hrs:fn.results.toList=rs:=by exact rfl) (hle:as.length<=n:=by exact lB rfl):Zj P gl f D as H R E:=Zj.qC7 hf hb hname hrs hn hle hD h
theorem Zj.mono {P:Program} {gl:Nat->Option (List AV)} {f:FuncId} {D:Nm->Bool} {az:List AV} {H:Nm->Option AO} {R E R' E':Nm->AV->(Nm->Option AO)->Prop} (h:Zj P gl f D az H R E)
  (hR:∀ r x H',R r x H'->R' r x H') (hE:∀ r x H',E r x H'->E' r x H'):Zj P gl f D az H R' E':=by
 refine⟨h.1,λroot C w g args h1 h2 h3 h4 h5 h6 h7=>(h.2 root C w g args h1 h2 h3 h4 h5 h6 h7).mono λe w' he=>?_⟩
 grind
inductive Zh where
 | done
 | q (i:Nat) (r:Zh)
 | l (i:Nat) (ps:List Nat) (r:Zh)
 | l2 (i:Nat) (ps:List Nat) (r:Zh) (j:Nat) (qs:List Nat) (s:Zh)
 | l3 (i:Nat) (ps:List Nat) (r:Zh) (j:Nat) (qs:List Nat) (s:Zh) (k:Nat) (us:List Nat) (t:Zh)
abbrev DH (s:Zh):Zh:=.q 0<|.q 1<|.q 2<|.q 3<|s
abbrev Hw (s:Zh):Zh:=.q 0<|.q 1<|.q 2<|.q 3<|.q 4<|s
abbrev wE (s:Zh):Zh:=.q 0<|.q 1<|.q 2<|.q 3<|.q 4<|.q 5<|s
abbrev bI (s:Zh):Zh:=.q 0<|.q 1<|.q 2<|.q 3<|.q 4<|.q 5<|.q 6<|s
abbrev aS (s:Zh):Zh:=.q 0<|.q 1<|.q 2<|.q 3<|.q 4<|.q 5<|.q 6<|.q 7<|s
abbrev wo (s:Zh):Zh:=.q 0<|.q 1<|.q 2<|.q 3<|.q 4<|.q 5<|.q 6<|.q 7<|.q 8<|s
abbrev ir (s:Zh):Zh:=.q 0<|.q 1<|.q 2<|.q 3<|.q 4<|.q 5<|.q 6<|.q 7<|.q 8<|.q 9<|s
abbrev yz (s:Zh):Zh:=.q 0<|.q 1<|.q 2<|.q 3<|.q 4<|.q 5<|.q 6<|.q 7<|.q 8<|.q 9<|.q 10<|s
abbrev vi (s:Zh):Zh:=.q 0<|.q 1<|.q 2<|.q 3<|.q 4<|.q 5<|.q 6<|.q 7<|.q 8<|.q 9<|.q 10<|.q 11<|s
abbrev nP (s:Zh):Zh:=.q 0<|.q 1<|.q 2<|.q 3<|.q 4<|.q 5<|.q 6<|.q 7<|.q 8<|.q 9<|.q 10<|.q 11<|.q 12<|s
abbrev wP (s:Zh):Zh:=.q 0<|.q 1<|.q 2<|.q 3<|.q 4<|.q 5<|.q 6<|.q 7<|.q 8<|.q 9<|.q 10<|.q 11<|.q 12<|.q 13<|s
abbrev FZ (s:Zh):Zh:=.q 0<|.q 1<|.q 2<|.q 3<|.q 4<|.q 5<|.q 6<|.q 7<|.q 8<|.q 9<|.q 10<|.q 11<|.q 12<|.q 13<|.q 14<|s
abbrev MC (s:Zh):Zh:=.q 0<|.q 1<|.q 2<|.q 3<|.q 4<|.q 5<|.q 6<|.q 7<|.q 8<|.q 9<|.q 10<|.q 11<|.q 12<|.q 13<|.q 14<|.q 15<|s
abbrev FY (s:Zh):Zh:=.q 0<|.q 1<|.q 2<|.q 3<|.q 4<|.q 5<|.q 6<|.q 7<|.q 8<|.q 9<|.q 10<|.q 11<|.q 12<|.q 13<|.q 14<|.q 15<|.q 16<|s
abbrev rP (s:Zh):Zh:=.q 0<|.q 1<|.q 2<|.q 3<|.q 4<|.q 5<|.q 6<|.q 7<|.q 8<|.q 9<|.q 10<|.q 11<|.q 12<|.q 13<|.q 14<|.q 15<|.q 16<|.q 17<|s
def isQ:Op->Bool
 | .move _|.pick _ _ _|.load _ _|.nilCheck _|.binOp _ _ _ _ _|.unOp _ _ _|.convert _ _ _|.makeInterface _ _|.slice _ _ _ _ none|.fieldAddr _ _ _|.field _ _ _
 | .indexAddr _ _ _|.index _ _ _|.extract _ _|.build _ _|.typeAssert _ _ _ _|.lookup _ _ _ _|.makeFunc _ _ _|.call ⟨.builtin .len,_,_⟩=>true
 | _=>false
def prd (ops:Array Oper) (i:Nat):List Nat:=match ops[i]? with|some o=>(o.after.toList.filter (λe=>Region.binds .any e)).map (·.on)|none=>[]
def dG (ops:Array Oper) (i:Nat):Option Nat:=(ops[i]?).bind (·.dst)
def qui (ops:Array Oper) (i:Nat):Bool:=match ops[i]? with|some o=>isQ o.op&&o.dst.isSome|none=>false
def rdy (ops:Array Oper) (LV:List Nat) (i:Nat):Bool:=!LV.contains i&&(prd ops i).all (λj=>LV.contains j)
def Rl (ops:Array Oper) (LV:List Nat):List Nat:=(List.range ops.size).filter (rdy ops LV)
def wfD (ops:Array Oper):Bool :=
 Region.noSelect ops &&
 (List.range ops.size).all (λi=>(List.range ops.size).all λj=>i==j||dG ops i==none||dG ops i != dG ops j) &&
 (List.range ops.size).all (λi=>match ops[i]? with|some o=>(o.looksAt ops).all (λt=>(List.range ops.size).all λj=>!(dG ops j==some t)||!qui ops j||(prd ops i).contains j)|none=>false)
def Y9 (ops:Array Oper):Nat->List Nat->List Nat
 | 0,s=>s
 | n+1,s=>s++Y9 ops n (s.flatMap (prd ops))
theorem IG {ops:Array Oper} {L:Nat->Prop} (h:∀ q,L q->∀ j∈prd ops q,L j):∀ (n:Nat) (s:List Nat),(∀ q∈s,L q)->∀ q∈Y9 ops n s,L q
 | 0,_,hs=>hs
 | n+1,s,hs=>λq hq=>by
  rcases dY.1 hq with e|e
  .grind
  .refine IG h n _ (λj hj=>?_) q e
   grind
def ZG (ops:Array Oper) (i:Nat):List Nat:=Y9 ops 3 (prd ops i)
def D5 (ops:Array Oper) (LV:List Nat) (i:Nat):List Nat :=
 LV.filter λq=>qui ops q&&!(i::LV).any (λl=>!qui ops l&&(ZG ops l).contains q)
def okD (ops:Array Oper):Zh->List Nat->Bool
 | .done,LV=>(List.range ops.size).all (λi=>LV.contains i)
 | .q i r,LV=>i<ops.size&&qui ops i&&rdy ops LV i&&okD ops r (i::LV)
 | .l i ps r,LV=>Rl ops LV==[i]&&!qui ops i&&(D5 ops LV i).all (λq=>ps.contains q)&&okD ops r (i::LV)
 | .l2 i ps r j qs s,LV=>Rl ops LV==[i,j]&&!qui ops i&&!qui ops j&&(D5 ops LV i).all (λq=>ps.contains q)&&(D5 ops LV j).all (λq=>qs.contains q)&&okD ops r (i::LV)&&okD ops s (j::LV)
 | .l3 i ps r j qs s k us t,LV=>Rl ops LV==[i,j,k]&&!qui ops i&&!qui ops j&&!qui ops k&&(D5 ops LV i).all (λq=>ps.contains q)&&(D5 ops LV j).all (λq=>qs.contains q)&&(D5 ops LV k).all (λq=>us.contains q)&&okD ops r (i::LV)&&okD ops s (j::LV)&&okD ops t (k::LV)
def Cy (X:Ctx) (ds:List (Option Nat)) (o:Oper) (st:St):Prop :=
 match o.dst with
 | some d=>(match o.guard with
  | none=>qev X.P st o=some (st.tm d)
  | some (j,want)=>match ds[j]? with
   | some (some e)=>match st.tm e with
    | .sc (.bool t)=>(t=want->qev X.P st o=some (st.tm d))/\(t=!want->st.tm d=.sc undef)
    | .sc v=>v=undef/\st.tm d=.sc undef
    | _=>False
   | _=>False)
 | none=>False
def fN (X:Ctx) (ops:List Oper) (ds:List (Option Nat)):List Nat->St->Prop
 | [],_=>True
 | q::l,st=>(match ops[q]? with|some o=>Cy X ds o st|none=>False)/\fN X ops ds l st
def QOp (X:Ctx) (o:Oper) (K:St->Prop) (st:St):Prop:=∃ d z,o.dst=some d/\d<X.n/\qev X.P st o=some z/\K (st.put (some d) z)
def QG (X:Ctx) (ds:List (Option Nat)) (o:Oper) (K:St->Prop) (st:St):Prop :=
 (o.guard=none/\QOp X o K st) \/
 (∃ j want d t,o.guard=some (j,want)/\ds[j]?=some (some d)/\st.tm d=.sc (.bool t)/\(t=want->QOp X o K st)/\(t=!want->(∀ e,o.dst=some e->e<X.n)/\K (st.put o.dst (.sc undef)))) \/
 ∃ j want d,o.guard=some (j,want)/\ds[j]?=some (some d)/\st.tm d=.sc undef/\(∀ e,o.dst=some e->e<X.n)/\K (st.put o.dst (.sc undef))
def ur (X:Ctx) (ops:List Oper) (ds:List (Option Nat)) (K:St->Prop):Zh->St->Prop
 | .done,st=>K st
 | .q i r,st=>match ops[i]? with|some o=>QG X ds o (ur X ops ds K r) st|none=>False
 | .l i ps r,st=>match ops[i]? with|some o=>Iy X ds o (λs=>fN X ops ds ps s/\ur X ops ds K r s) (λ_ _=>False) st|none=>False
 | .l2 i ps r j qs s,st=>(match ops[i]? with|some o=>Iy X ds o (λs=>fN X ops ds ps s/\ur X ops ds K r s) (λ_ _=>False) st|none=>False) /\
   (match ops[j]? with|some o=>Iy X ds o (λs'=>fN X ops ds qs s'/\ur X ops ds K s s') (λ_ _=>False) st|none=>False)
 | .l3 i ps r j qs s k us t,st=>(match ops[i]? with|some o=>Iy X ds o (λs=>fN X ops ds ps s/\ur X ops ds K r s) (λ_ _=>False) st|none=>False) /\
   (match ops[j]? with|some o=>Iy X ds o (λs'=>fN X ops ds qs s'/\ur X ops ds K s s') (λ_ _=>False) st|none=>False) /\
   (match ops[k]? with|some o=>Iy X ds o (λs'=>fN X ops ds us s'/\ur X ops ds K t s') (λ_ _=>False) st|none=>False)
section
variable {X:Ctx} {ops:Array Oper} {st:St}
structure WfD (ops:Array Oper):Prop where
 sel:∀ (j:Nat) (o:Oper) (cs:Array SelectCase) (b:Bool),ops[j]?=some o->o.op≠.select cs b
 qE0:∀ i j d,i<ops.size->j<ops.size->dG ops i=some d->dG ops j=some d->i=j
 look:∀ i o t j,ops[i]?=some o->t∈o.looksAt ops->j<ops.size->dG ops j=some t->qui ops j=true->j∈prd ops i
theorem PG (h:wfD ops=true):WfD ops:=by
 simp only [wfD,ba] at h;obtain⟨⟨h1,h2⟩,h3⟩:=h;refine⟨λj o cs b ho=>Region.noSelect_spec h1 j o cs b ho,λi j d hi hj e1 e2=>?_,λi o t j ho ht hj e1 e2=>?_⟩
 .simp_all<;>grind
 grind
structure Agr (D:Nat->Prop) (a b:Act):Prop where
 defers:a.defers=b.defers
 size:a.tmps.size=b.tmps.size
 tmps:∀ t,¬ D t->a.tmps[t]?=b.tmps[t]?
theorem Agr.exec {D:Nat->Prop} {a b:Act} {o:Oper} (h:Agr D a b) (hs:∀ cs b,o.op≠.select cs b) (hl:∀ t∈o.looksAt ops,¬ D t):execOp a.eval o=execOp b.eval o:=by
 refine execOp_congr o hs λx hx=>?_
 cases x with
 | tmp t =>
  have ht:t∈o.looksAt ops:=List.mem_append_left _ (List.mem_filterMap.2 ⟨.tmp t,qH,rfl⟩);simp only [Act.eval,Kh,h.tmps t (hl t ht)]
 | _=>rfl
theorem Agr.wanted {D:Nat->Prop} {a b:Act} {o:Oper} (h:Agr D a b) (hl:∀ t∈o.looksAt ops,¬ D t):Region.wanted o (yielded ops a.tmps)=Region.wanted o (yielded ops b.tmps):=by
 unfold Region.wanted
 cases hg:o.guard with
 | none=>rfl
 | some gw =>
  obtain⟨j,want⟩:=gw
  have hy:yielded ops a.tmps j=yielded ops b.tmps j:=by
   unfold yielded
   cases ht:(ops[j]?).bind (·.dst) with
   | none=>rfl
   | some t =>
    have hm:t∈o.looksAt ops:=by grind[Oper.looksAt]
    simp only [Ee,h.tmps t (hl t hm)]
  simp_all
theorem Agr.put {D D':Nat->Prop} {a b:Act} (h:Agr D a b) (dst:Option Nat) (v:Value) (hD:∀ t,¬ D' t->dst=some t\/¬ D t):Agr D' (a.put dst v) (b.put dst v):=by
 cases dst with
 | none=>exact⟨h.defers,h.size,λt ht=>h.tmps t ((hD t ht).resolve_left qB)⟩
 | some d =>
  refine⟨h.defers,by simp [Act.put,h.size],λt ht=>?_⟩;simp only [Act.put];by_cases e:d=t
  .grind[size]
  .rw [O7 e,O7 e];exact h.tmps t ((hD t ht).resolve_left qH)
def UJ (P:Program) (ops:Array Oper) (b:Act) (w:World) (q:Nat):Prop :=
 ∃ o d,ops[q]?=some o/\o.dst=some d/\d<b.tmps.size/\((Region.wanted o (yielded ops b.tmps)=true/\(execOp b.eval o).run P w=.ok (.value (b.tmps.getD d undef)) w)\/(Region.wanted o (yielded ops b.tmps)=false/\b.tmps.getD d undef=undef))
theorem UJ.put {P:Program} {b:Act} {w:World} {q:Nat} (h:UJ P ops b w q) (hw:WfD ops) (d:Nat) (v:Value) (hl:∀ o,ops[q]?=some o->d∉o.looksAt ops) (hd:dG ops q≠some d):UJ P ops (b.put (some d) v) w q:=by
 obtain⟨o,e,ho,he,hlt,h⟩:=h;have hag:Agr (λt=>t=d) (b.put (some d) v) b:=⟨rfl,by simp [Act.put],λt ht=>by grind[Act.put]⟩;have hla:∀ t∈o.looksAt ops,¬ t=d:=λt ht e=>hl o ho (e ▸ ht);have hne:e≠d:=λe'=>hd td
 have hslot:(b.put (some d) v).tmps.getD e undef=b.tmps.getD e undef:=by
  simp_all<;>grind[Act.put]
 refine⟨o,e,ho,he,by grind[Act.put],?_⟩;rw [hag.wanted hla,hag.exec (hw.sel q o · · ho) hla,hslot];exact h
def Kl (ops:Array Oper):List Nat->Prop
 | []=>True
 | x::l=>x∉l/\x<ops.size/\(∀ j∈prd ops x,j∈l)/\Kl ops l
theorem Kl.prd:∀ {l:List Nat},Kl ops l->∀ q∈l,∀ j∈prd ops q,j∈l
 | [],_,_,h,_,_=>by cases h
 | x::l,h,q,hq,j,hj=>by
  rcases aH.1 hq with rfl|hq
  .grind[Kl]
  .exact lj _ (Kl.prd h.2.2.2 q hq j hj)
theorem Kl.lt:∀ {l:List Nat},Kl ops l->∀ q∈l,q<ops.size
 | [],_,_,h=>by cases h
 | x::l,h,q,hq=>by
  rcases aH.1 hq with rfl|hq
  .exact h.2.1
  .exact Kl.lt h.2.2.2 q hq
structure DI (X:Ctx) (ops:Array Oper) (LV:List Nat) (listed:Array Bool) (st:St) (a b:Act) (w:World):Prop where
 rw:Rw X st b w
 len:listed.size=ops.size
 sub:∀ i,i<ops.size->listed.getD i true=true->i∈LV
 closed:∀ i,i<ops.size->listed.getD i true=true->∀ j∈prd ops i,listed.getD j false=true
 qBl:∀ q∈LV,listed.getD q true=false->qui ops q=true/\UJ X.P ops b w q
 agr:Agr (λt=>∃ q∈LV,listed.getD q true=false/\dG ops q=some t) a b
 ord:Kl ops LV
end
end Go.Hm
end
