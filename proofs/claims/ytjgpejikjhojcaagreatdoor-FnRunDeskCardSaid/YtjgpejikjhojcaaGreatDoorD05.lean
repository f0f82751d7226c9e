import Derived.Test.YtjgpejikjhojcaaGreatDoorD04
set_option linter.all false
set_option maxRecDepth 100000
set_option maxHeartbeats 4000000
open Option renaming some->Z,none->Y
open Bool renaming true->B,false->M
open List renaming length->O

section
namespace Go.Hm
open Go Go.RowKit
variable{D:Nm->Bool}{E R:Nm->AV->(Nm->Option AO)->Prop}{H hp:Nm->Option AO}{P:Program}{Ts:Array TypeId}{a b m n root:Nm}{c x y:Code}{d j l:Nat}{f:FuncId}{fn:Func}{gl:Nat->Option (List AV)}{ops:Array Oper}{t:TypeId}{w:World}{want:Bool}{xs:List AV}
def AL(P:Program)(st:St)(o:Oper)(f:FuncId)(avs:List AV):Prop:=
 ∀(own C:Nat->Prop)(w0:World)(g:Gh)(a:Act)(w:World),Rg P own C w0 g st a w ->
  ∃args:Array Value,(execOp a.eval o).run P w=.ok (.enter f args) w/\args.size=O avs/\∀(j:Nat)v x,args[j]?=Z v->avs[j]?=Z x->RV g w v x
def bJ(hp:Nm->Option AO)(D:Nm->Bool)(l l':List AV):Prop:=O l=O l'/\∀(j:Nat)a a',l[j]?=Z a->l'[j]?=Z a'->Bw hp D a a'
def bJ.nil:bJ hp D [] []:=⟨rfl,qB⟩
theorem bJ.cons{x y:AV}{l l':List AV}(h:Bw hp D x y)(h':bJ hp D l l'):bJ hp D (x::l) (y::l'):=by
 grind[bJ]
theorem EK{xs:Array Value}(hc:ly P f):(callFunc f xs).run P w=.ok (.enter f xs) w:=by
 obtain⟨fn,h1,h2,h3⟩:=hc;have hp:(program:Sem Program).run P w=.ok P w:=rfl
 grind[callFunc,Sem.run_bind,Result.andThen_ok,Sem.run_pure]
section
variable{P:Program}{st:St}{o:Oper}{f:FuncId}
theorem oc{args:Array Operand}(hc:ly P f)(ho:o.op=.call ⟨.value (.func f),args,Ts⟩):AL P st o f (args.toList.map (ev st)):=by
 intro own C w0 g a w h;refine⟨args.map a.eval,?_,qB,λj v x hv hx=>?_⟩
 .grind[execOp,resolve,Act.eval,Deferred.ofValue,invoke,EK]
 .rw [Array.getElem?_map]at hv;obtain⟨o',ho',rfl⟩:=zq.1 hv;rw[j3]at hx;obtain⟨o2,ho2,rfl⟩:=zq.1 hx;rw[bm,ho']at ho2;obtain rfl:=sI ho2;exact h.ev o'
theorem TB{args:Array Operand}{c:Operand}{ys:List AV}(hc:ly P f)(ho:o.op=.call ⟨.value c,args,Ts⟩)(hv:ev st c=.fn (.func f) xs ys):AL P st o f (xs++args.toList.map (ev st)++ys):=by
 intro own C w0 g a w h;have hr:=h.ev c;rw[hv]at hr;generalize hcv:a.eval c=cv at hr
 cases hr with
 |fn _ vs us _ _ l1 l2 r1 r2=>
  refine⟨vs.toArray++args.map a.eval++us.toArray,?_,qQ,λj v x hv hx=>?_⟩
  .grind[execOp,resolve,Deferred.ofValue,invoke,EK]
  .rw [iw]at hx;rw[Array.getElem?_append]at hv;have hsz:(vs.toArray++args.map a.eval).size=O (xs++args.toList.map (ev st)):=by simp[l1]
   split at hx
   .rename_i hj;rw[if_pos qA]at hv;rw[iw]at hx;rw[Array.getElem?_append]at hv
    split at hx
    .grind
    .rename_i hj';rw[if_neg qp]at hv;rw[Array.getElem?_map]at hv;obtain⟨o',ho',rfl⟩:=zq.1 hv;rw[j3]at hx;obtain⟨o2,ho2,rfl⟩:=zq.1 hx
     have:o'=o2:=by
      simp_all
     subst this;exact h.ev o'
   grind
def dt(P:Program)(t:TypeId)(name:String):Option FuncId:=
 match P.info? t with
 |some i=>match i.methods.find? (·.name==name)with
  |some m=>match m.func,P.underlying t with
   |some (f,M),Z d=>match d with
    |.pointer _=>Y
    |_=>if m.path.isEmpty then Z f else Y
   |some (f,B),Z (.pointer _)=>if m.path.isEmpty then Z f else Y
   |_,_=>Y
  |none=>Y
 |none=>Y
theorem qAj{name:String}{v:Value}(hm:dt P t name=Z f)(k:Nat):(method (k+1) t v name).run P w=.ok (f,v) w:=by
 unfold dt at hm
 split at hm
 .rename_i i hi
  split at hm
  .rename_i m hfind
   split at hm
   .rename_i f' d hmf hu
    split at hm
    .cases hm
    .rename_i hd
     split at hm
     .rename_i hp;obtain rfl:=sI hm;have hp':m.path.toList=[]:=qQ;simp only[method,typeInfo,Sem.run_bind,run_program,Result.andThen_ok,hi,Sem.run_pure,hfind,hp',follow,hmf]
      have:(receiverAt t (.val v) M (if m.path.isEmpty then Z ((name.splitOn ".").getLastD name)else Y)).run P w=.ok v w:=by
       unfold receiverAt;simp only[Sem.run_bind,uA hu,Result.andThen_ok];constructor<;>grind
      simp_all
     .cases hm
   .rename_i f' e hmf hu
    split at hm
    .rename_i hp;obtain rfl:=sI hm;have hp':m.path.toList=[]:=qQ;simp only[method,typeInfo,Sem.run_bind,run_program,Result.andThen_ok,hi,Sem.run_pure,hfind,hp',follow,hmf]
     have:(receiverAt t (.val v) B (if m.path.isEmpty then Z ((name.splitOn ".").getLastD name)else Y)).run P w=.ok v w:=by
      unfold receiverAt;simp only[Sem.run_bind,uA hu,Result.andThen_ok]
      rfl
     simp_all
    .cases hm
   .cases hm
  .cases hm
 .cases hm
theorem TA{args:Array Operand}{c:Operand}{name:String}{y:AV}(hc:ly P f)(ho:o.op=.call ⟨.invoke c name,args,Ts⟩)(hv:ev st c=.jL t y)(hm:dt P t name=Z f):AL P st o f (y::args.toList.map (ev st)):=by
 intro own C w0 g a w h;have hr:=h.ev c;rw[hv]at hr;generalize hcv:a.eval c=cv at hr
 cases hr with
 |jL _ v _ hy=>
  refine⟨#[v]++args.map a.eval,?_,qp,λj u x hu hx=>?_⟩
  .have hmt:(method (P.types.size+Made.depth) t v name).run P w=.ok (f,v) w:=by
    have hpos:0<Made.depth:=qf;have hk:P.types.size+Made.depth=(P.types.size+Made.depth-1)+1:=qA
    grind[qAj]
   have hex:(#[Value.iface t v]++args.map a.eval).extract 1 (#[Value.iface t v]++args.map a.eval).size=args.map a.eval:=by
    simp
   have h0:(#[Value.iface t v]++args.map a.eval)[0]?=Z (.iface t v):=by simp_all<;>grind
   simp only[execOp,ho,resolve,hcv,Sem.run_bind,Sem.run_pure,Result.andThen_ok,invoke,h0,hex,callMethod,run_program,hmt,EK hc]
  .cases j with
   |zero=>
    grind
   |succ j=>
    have hu':(args.map a.eval)[j]?=Z u:=by
     grind
    rw[Array.getElem?_map]at hu';obtain⟨o',ho',rfl⟩:=zq.1 hu';simp only[gi,j3]at hx;obtain⟨o2,ho2,rfl⟩:=zq.1 hx;rw[bm,ho']at ho2;obtain rfl:=sI ho2;exact h.ev o'
end
section
variable{X:Ctx}{st:St}{K:St->Prop}{E:AV->St->Prop}{o:Oper}{f:FuncId}{D:Nm->Bool}{H:Nm->Option AO}{az avs:List AV}{R E0:Nm->AV->(Nm->Option AO)->Prop}
theorem mY(hF:qX X.P X.gl f D az H R E0)(hEnt:AL X.P st o f avs)(bor:Bool)(hB:bJ st.hp (if bor then D else λ_=>B) avs az)(hroot:∀n,Nm.under (.s (o.dst.getD X.n)) n=B->D n=M)
  (hH:∀n,D n=B->st.hp n=H n)(hHD:∀n,H n≠Y->D n=B)(hext:∀k i j,X.ext (.u k i j)=B->D (.u k i j)=M\/H (.u k i j)≠Y)(hdn:∀d,o.dst=Z d->d<X.n)
  (hK:∀x H',R (.s (o.dst.getD X.n)) x H'->K ((st.call (o.dst.getD X.n) D H (if bor then vj H' else H')).put o.dst (if bor then ni x else x)))
  (hE:∀x H',E0 (.s (o.dst.getD X.n)) x H'->E (if bor then ni x else x) (st.call (o.dst.getD X.n) D H (if bor then vj H' else H'))):qe X o K E st:=by
 intro a w Q hR hQ;obtain⟨C,g,h1,h2,h3,h4,h5,hg⟩:=hR;obtain⟨args,hrun,hsz,hrel⟩:=hEnt _ _ _ _ _ _ hg;unfold Oper.wp;rw[hrun,Oper.upon_enter]
 let C1:Nat->Prop:=if bor then(λb=>b<w.heap.size/\¬vn g H b)else C
 have ownlt:∀b,vn g H b->¬C b/\b<w.heap.size:=by
  rintro b ⟨n,hn,hk⟩;obtain⟨o,ho⟩:=dM.1 hn;obtain⟨x1,_,x3⟩:=hg.inv.qG n o b qQ hk
  simp_all
 have hC1:∀b,C b->C1 b:=by
  intro b hb
  cases bor with
  |true=>exact⟨hg.inv.ur b hb,λho=>(ownlt b ho).1 hb⟩
  |false=>exact hb
 have hC1lt:∀b,C1 b->b<w.heap.size:=by
  intro b hb
  cases bor with
  |true=>exact hb.1
  |false=>exact hg.inv.ur b hb
 have hC1o:∀b,vn g H b->¬C1 b:=by
  intro b ho hb
  cases bor<;>grind
 have same:∀{v:Value}{x:AV},RV g w v x->RV (g.more C1) w v x:=λhv=>hv.more (λb hb=>hC1 b (hg.inv.hC ▸ hb))
 have hinv:Inv (vn (g.more C1) H) C1 w (g.more C1) H w:=by
  have get:∀n o,H n=Z o->st.hp n=Z o:=λn o e=>qQ;refine⟨rfl,rfl,rfl,qb _,λ_ _ _=>rfl,rfl,hC1lt,?_,?_,?_⟩
  .intro n o e;have:=(hg.inv.obj n o (get n o e)).tr (g':=g.more C1) (w':=w) (n':=n) (f:=Z) (λb hb=>hC1 b (hg.inv.hC ▸ hb)) (λ_ _=>rfl) (λk k' e=>by obtain rfl:=sI e;exact⟨rfl,rfl⟩) rfl (λ_ _=>rfl)
   grind[AO.uO]
  .intro n o b e hk;have ho:vn g H b:=⟨n,qx,hk⟩;exact⟨hC1o b ho,.inr ho,(ownlt b ho).2⟩
  .intro n n' o o' b e e' hk hk';exact hg.inv.inj n n' o o' b (get n o e) (get n' o' e') hk hk'
 have hargs:args.size=O az/\∀(j:Nat)v x,args[j]?=Z v->az[j]?=Z x->RV (g.more C1) w v x:=by
  refine⟨hsz.trans hB.1,λj v x hv hx=>?_⟩;have hj:j<O avs:=qx;have hb:=hB.2 j _ x (gE hj) hx;have hr:=hrel j v _ hv (gE hj);refine RV.bw hg.inv hC1 (λn o b hD hn hk=>?_) hb hr
  cases bor with
  |true=>
   obtain⟨_,_,x3⟩:=hg.inv.qG n o b hn hk;refine⟨x3,?_⟩;rintro⟨n',hn',hk'⟩;obtain⟨o',ho'⟩:=dM.1 hn';have:=hg.inv.inj n n' o o' b hn qQ hk hk'
   simp_all
  |false=>simp at hD
 have hgl:∀i row,X.gl i=Z row->(RV (g.more C1) w (.pointer (Z ⟨i,0,Y⟩)) (.el row 0)/\dI w i row)/\∀f:Nm->Option Nm,row.map (AV.tr f)=row:=by
  intro i row e;obtain⟨x1,x2⟩:=hg.zM i row qQ
  simp_all
 -- the state behind
 have fin:∀{C':Nat->Prop}{g':Gh}{H':Nm->Option AO}{x:AV}{v:Value}{w':World},dH (vn (g.more C1) H) C1 w (g.more C1) D (.s (o.dst.getD X.n)) H H' C' g' w'->RV g' w' v x ->
   ∃C'' g'',(∀b,X.C0 b->C'' b)/\(∀b,C'' b->X.C0 b\/X.w0.heap.size<=b\/X.own b)/\mA X g''/\Rg X.P X.own C'' X.w0 g'' (st.call (o.dst.getD X.n) D H (if bor then vj H' else H')) a w'/\RV g'' w' v (if bor then ni x else x):=by
  intro C' g' H' x v w' hA hv
  have ownw0:∀b,vn g H b->X.w0.heap.size<=b\/X.own b:=by
   rintro b ⟨n,hn,hk⟩;obtain⟨o,ho⟩:=dM.1 hn;exact(hg.inv.qG n o b qQ hk).2.1
  have ext:∀g'':Gh,(∀k i j,D (.u k i j)=M\/H (.u k i j)≠Y->g''.φ (.u k i j)=g.φ (.u k i j)/\g''.κ (.u k i j)=g.κ (.u k i j))->mA X g'':=by
   intro g'' hu k i j e;obtain⟨x1,x2⟩:=hu k i j (hext k i j e);obtain⟨y1,y2⟩:=h5 k i j e
   simp_all
  cases bor with
  |false=>
   have hA':dH (vn g H) C1 w (g.more C1) D (.s (o.dst.getD X.n)) H H' C' g' w':=hA
   have gg:g'.more C'=g':=by
    have:=hA.inv.hC;obtain⟨c,p,k⟩:=g';simp only at this;subst this
    rfl
   obtain⟨r1,r2⟩:=hg.after (C'':=C') (H'':=H') hH hHD hA' (λb hb=>hA.mono b hb) (λb hb=>by
    rcases hA.new b hb with x|x
    .grind
    .exact .inr ⟨hb,x⟩) (λ_ _ e=>e) (λn o' e=>by rw[gg];exact hA.inv.obj n o' e)
   rw[gg]at r1 r2;refine⟨C',g',λb hb=>hA.mono b (h1 b hb),λb hb=>?_,ext g' r2,r1,hv⟩;rcases hA.new b hb with x|x|x
   .grind
   .exact .inr (.inl (uV hg.inv.size x))
   .exact .inr (ownw0 b x)
  |true=>
   have hA':dH (vn g H) C1 w (g.more C1) D (.s (o.dst.getD X.n)) H H' C' g' w':=hA
   obtain⟨r1,r2⟩:=hg.after (C'':=C) (H'':=vj H') hH hHD hA' (λb hb=>hb) (λb hb=>.inl hb) (λn o' e=>by
    grind[vj]) (λn o' e=>by
    simp only[vj]at e
    split at e
    .rename_i o2 e2
     split at e
     .rename_i hcl;obtain rfl:=sI e;have ho:=hA.inv.obj n o2 e2
      cases o2 with
      |row z rows=>
       simp only[jd]at ho ⊢
       change match g'.φ n with|some b=>AQ (g'.more C) w' b (g'.κ n) z rows|none=>rows=[]
       cases hk:g'.φ n with
       |none=>simp_all
       |some b=>
        rw[hk]at ho;obtain⟨cur,T,c1,c2,c3,c4,c5,c6,c7⟩:=ho;exact⟨cur,T,c1,c2,c3,c4,c5,c6,λi row hrow j y hy=>(c7 i row hrow j y hy).jX C (yn.1 (yn.1 hcl row (gM hrow)) y (gM hy))⟩
      |uP T z ex rows=>
       simp only[jd]at ho ⊢
       change match g'.φ n with|some b=>J0 (g'.more C) w' b (g'.κ n) T z rows/\(ex=B->g'.κ n=O rows)/\(ex=M->0<g'.κ n)|none=>rows=[]
       cases hk:g'.φ n with
       |none=>simp_all
       |some b=>
        rw[hk]at ho;obtain⟨⟨cur,c1,c2,c3,c4,c5,c6,c7⟩,c8⟩:=ho;exact⟨⟨cur,c1,c2,c3,c4,c5,c6,λi row hrow j y hy=>(c7 i row hrow j y hy).jX C (yn.1 (yn.1 hcl row (gM hrow)) y (gM hy))⟩,c8⟩
      |map es=>
       simp only[jd]at ho ⊢
       change match g'.φ n with|some b=>JT (g'.more C) w' b es|none=>False
       cases hk:g'.φ n with
       |none=>simp_all
       |some b=>
        rw[hk]at ho;obtain⟨ms,clock,c1,cs,c2,c3⟩:=ho;refine⟨ms,clock,c1,cs,c2,λi m e' hm he'=>?_⟩;have:=yn.1 hcl e' (gM he');simp only[yF]at this;exact⟨(c3 i m e' hm he').1.jX C this.1,(c3 i m e' hm he').2.jX C this.2⟩
     .cases e
    .cases e)
   refine⟨C,g'.more C,h1,h2,ext _ r2,r1,?_⟩;simp only[if_true,ni]
   split
   .rename_i hcl;exact hv.jX C hcl
   .exact .bot v
 refine(hF.2 (.s (o.dst.getD X.n)) C1 w (g.more C1) args hroot rfl hHD hinv hgl hargs.1 hargs.2).mono ?_;intro e w' he
 cases e with
 |returned v=>
  obtain⟨C',g',H',x,hA,hv,hRx⟩:=he;obtain⟨C'',g'',x1,x2,x3,x4,x5⟩:=fin hA hv;refine⟨_,⟨C'',g'',x1,x2,?_,?_,x3,x4.put (λt e=>?_) x5⟩,hK x H' hRx⟩
  .rw [sC];exact h3
  .rw [sB];exact h4
  .show t<st.n
   simp_all
 |panicked ch=>
  obtain⟨C',g',H',x,v,hA,rfl,hv,hRx⟩:=he;obtain⟨C'',g'',x1,x2,x3,x4,x5⟩:=fin hA hv;exact hQ v w' (st.call (o.dst.getD X.n) D H (if bor then vj H' else H')) (if bor then ni x else x) ⟨C'',g'',x1,x2,h3,h4,x3,x4,x5⟩ (hE x H' hRx)
 |outgrown=>simp_all
end
inductive Ex where
 |normal
 |exit (id:Nat)
 |goto (l:Nat)
 |ret
 |b9 (x:AV)
def nF(X:Ctx)(Q:Ex->St->Prop):Exit->Act->World->Prop
 |.normal,a,w=>∃st,Rw X st a w/\Q .normal st
 |.exit id,a,w=>∃st,Rw X st a w/\Q (.exit id) st
 |.goto l,a,w=>∃st,Rw X st a w/\Q (.goto l) st
 |.ret,a,w=>∃st,Rw X st a w/\Q .ret st
 |.panic ch,a,w=>∃st v x,gW X st a w v x/\ch=[{v:=v,recovered:=M}]/\Q (.b9 x) st
 |.outgrown,_,_=>False
def jJ(X:Ctx)(c:Code)(Q:Ex->St->Prop)(st:St):Prop:=∀a w,Rw X st a w->c.wp X.P (nF X Q) a w
def uB(X:Ctx)(ds:List (Option Nat))(o:Oper)(K:St->Prop)(E:AV->St->Prop)(st:St):Prop:=
 ∀(ops:Array Oper)(i:Nat),ops.toList.map (·.dst)=ds->ops[i]?=Z o ->
  ∀(a:Act)(w:World)(Q:Exit->Act->World->Prop),Rw X st a w->(∀v w' st' x,gW X st' a w' v x->E x st'->Q (.panic [{v:=v,recovered:=M}]) a w') ->
   wpOp X.P ops Q i (λa' w'=>∃st',Rw X st' a' w'/\K st') a w
def yQ(X:Ctx)(ds:List (Option Nat))(K:St->Prop)(E:AV->St->Prop):List Oper->St->Prop
 |[],st=>K st
 |o::l,st=>uB X ds o (yQ X ds K E l) E st
def po(X:Ctx)(ops:Array Oper)(K:St->Prop)(E:AV->St->Prop)(st:St):Prop:=
 ∀(a:Act)(w:World)(Q:Exit->Act->World->Prop),Rw X st a w->(∀a' w' st',Rw X st' a' w'->K st'->Q .normal a' w')->(∀a' v w' st' x,gW X st' a' w' v x->E x st'->Q (.panic [{v:=v,recovered:=M}]) a' w') ->
  wpAny X.P .any ops Q ops.size (Array.replicate ops.size M) a w
section
variable{X:Ctx}{st:St}{a:Act}{w:World}{K:St->Prop}{E:AV->St->Prop}{ds:List (Option Nat)}{o:Oper}
theorem Pk{y:Nat->Option Bool}(h:o.guard=Y):Region.wanted o y=B:=by simp[Region.wanted,h]
theorem sD{x:AV}(h:st.tm d=x):st.put (Z d) x=st:=by
 obtain⟨tm,hp,n,gl⟩:=st;simp only[St.put]at h ⊢
 congr 1
 grind
theorem Rw.IV{t:Nat}{u:Value}(h:Rw X st a w)(ht:st.tm t=.sc u):a.tmps.getD t undef=u:=by
 obtain⟨C,g,_,_,_,_,_,hr⟩:=h;have:=hr.dG t
 grind[RV.jF]
theorem Rw.size(h:Rw X st a w):a.tmps.size=X.n:=by
 grind[Rg.size,Rw]
theorem Rw.yielded{ops:Array Oper}{j d:Nat}{t:Bool}(h:Rw X st a w)(hd:(ops.toList.map (·.dst))[j]?=Z (Z d))(ht:st.tm d=.sc (.bool t)):yielded ops a.tmps j=Z t:=by
 have hd:(ops[j]?).bind (·.dst)=Z d:=by
  grind
 have hv:=h.IV ht
 simp_all<;>grind[undef,Go.yielded]
def Rw.Nh(h:Rw X st a w)(dst:Option Nat)(hn:∀d,dst=Z d->d<X.n):Rw X (st.put dst (.sc undef)) (a.put dst undef) w:=by
 obtain⟨C,g,h1,h2,h3,h4,h5,hr⟩:=h;exact⟨C,g,h1,h2,(sC _ _ _).trans h3,(sB _ _ _).trans h4,h5,hr.put (λt e=>qQ) (.sc _)⟩
theorem Le(hg:o.guard=Y)(h:qe X o K E st):uB X ds o K E st:=by
 grind[wpOp,Pk,qe,uB]
theorem Lf{t:Bool}(hg:o.guard=Z (j,want))(hd:ds[j]?=Z (Z d))(ht:st.tm d=.sc (.bool t))(h1:t=want->qe X o K E st)(h2:t=!want->(∀e,o.dst=Z e->e<X.n)/\K (st.put o.dst (.sc undef))):uB X ds o K E st:=by
 intro ops i hds hi a w Q hR hE;unfold wpOp;simp only[hi];have hy:=hR.yielded (ops:=ops) (by rw[hds];exact hd) ht;by_cases htw:t=want
 .grind[Region.wanted,qe]
 .rw [if_neg Cm];have hnot:t=!want:=by cases t<;>cases want<;>simp_all
  obtain⟨hn,hK⟩:=h2 hnot;exact⟨_,hR.Nh o.dst hn,hK⟩
def Lg(hg:o.guard=Z (j,want))(hd:ds[j]?=Z (Z d))(ht:st.tm d=.sc (.bool want))(h:qe X o K E st):uB X ds o K E st:=
 Lf hg hd ht (λ_=>h) (λe=>qx)
def Ld(hg:o.guard=Z (j,want))(hd:ds[j]?=Z (Z d))(ht:st.tm d=.sc (.bool (!want)))(hn:∀e,o.dst=Z e->e<X.n)(h:K (st.put o.dst (.sc undef))):uB X ds o K E st:=
 Lf hg hd ht (λe=>qQ) (λ_=>⟨hn,h⟩)
theorem Rw.qFB(hR:Rw X st a w)(hd:(ops.toList.map (·.dst))[j]?=Z (Z d))(ht:st.tm d=.sc undef):Go.yielded ops a.tmps j=Y:=by
 have hd:(ops[j]?).bind (·.dst)=Z d:=by
  grind
 have hv:=hR.IV ht;unfold Go.yielded;rw[hd];simp only[oC];rw[oB]at hv
 grind[undef]
theorem UD(hg:o.guard=Z (j,want))(hd:ds[j]?=Z (Z d))(ht:st.tm d=.sc undef)(hn:∀e,o.dst=Z e->e<X.n)(h:K (st.put o.dst (.sc undef))):uB X ds o K E st:=by
 intro ops i hds hi a w Q hR hE;unfold wpOp;simp only[hi]
 have hy:yielded ops a.tmps j=Y:=by
  have hd:(ops[j]?).bind (·.dst)=Z d:=by
   grind
  have hv:=hR.IV ht;unfold Go.yielded;rw[hd];simp only[oC];rw[oB]at hv
  grind[undef]
 rw[if_neg Cm];exact⟨_,hR.Nh o.dst hn,h⟩
def yQ.PD{ops:Array Oper}{Q:Exit->Act->World->Prop}(hQ:∀a' w' st',Rw X st' a' w'->K st'->Q .normal a' w')(hE:∀a' v w' st' x,gW X st' a' w' v x->E x st'->Q (.panic [{v:=v,recovered:=M}]) a' w'):
  ∀(l:List Oper)(k:Nat),ops.toList.drop k=l->∀st,yQ X (ops.toList.map (·.dst)) K E l st->∀a w,Rw X st a w->wpOps X.P ops Q (List.range' k (O l)) a w
 |[],k,_,st,h,a,w,hR=>hQ a w st hR h
 |o::l,k,hl,st,h,a,w,hR=>by
  have hk:ops[k]?=Z o:=by
   rw[<- bm,<- fJ k,<- AW,hl];rfl
  rw[fK,List.range'_succ,wpOps_cons];refine wpOp_mono (λa' w' he=>?_) (h ops k rfl hk a w Q hR (λv w' st' x h1 h2=>hE a v w' st' x h1 h2));obtain⟨st',hR',hK'⟩:=he;refine yQ.PD hQ hE l (k+1) ?_ st' hK' a' w' hR';rw[<- List.drop_drop,hl]
  rfl
theorem Rw.drawn(h:Rw X st a w)(k:Nat):Rw X st a {w with drawn:=k}:=by
 obtain⟨C,g,h1,h2,h3,h4,h5,hr⟩:=h
 have s1:=hr.step (g':=g) (w':={w with drawn:=k}) (f:=Z) (hp':=st.hp) rfl (λn n' e=>qQ) rfl rfl rfl (qb _) (λ_ _=>rfl) (λ_ _ _=>rfl)
  (λn o e=>.inl ⟨n,o,rfl,e,(AO.uO o).symm,λ_ _=>rfl⟩)
 have e:st.nm Z st.hp=st:=by simp only[St.nm,AV.uO]
 grind[Rw]
def thenS(K:St->Prop)(Q:Ex->St->Prop):Ex->St->Prop
 |.normal,st=>K st
 |e,st=>Q e st
def og(id:Nat)(Q:Ex->St->Prop):Ex->St->Prop
 |.exit id',st=>if id'=id then Q .normal st else Q (.exit id') st
 |e,st=>Q e st
theorem Xo{Q Q':Ex->St->Prop}(hQ:∀e s,Q e s->Q' e s):∀e a w,nF X Q e a w->nF X Q' e a w:=by
 intro e a w h
 cases e with
 |normal=>grind[nF]
 |exit id=>grind[nF]
 |goto l=>grind[nF]
 |ret=>grind[nF]
 |panic ch=>grind[nF]
 |outgrown=>exact h
theorem jJ.mono{Q Q':Ex->St->Prop}(h:jJ X c Q st)(hQ:∀e s,Q e s->Q' e s):jJ X c Q' st:=
 λa w hR=>wp_mono (h a w hR) (Xo hQ)
def aZ{Q:Ex->St->Prop}(h:Q .normal st):jJ X .skip Q st:=λ_ _ hR=>wp_skip ⟨st,hR,h⟩
def pS{Q:Ex->St->Prop}(h:Q .normal st):jJ X (.label l) Q st:=λ_ _ hR=>wp_label ⟨st,hR,h⟩
def cQ{id:Nat}{Q:Ex->St->Prop}(h:Q (.exit id) st):jJ X (.exit id) Q st:=λ_ _ hR=>wp_exit ⟨st,hR,h⟩
def Pi{Q:Ex->St->Prop}(h:Q (.goto l) st):jJ X (.goto l) Q st:=λ_ _ hR=>wp_goto ⟨st,hR,h⟩
def bG{Q:Ex->St->Prop}(h:Q .ret st):jJ X .ret Q st:=λ_ _ hR=>wp_ret ⟨st,hR,h⟩
def wL{d:Code}{Q:Ex->St->Prop}(h:jJ X c (thenS (jJ X d Q) Q) st):jJ X (.seq c d) Q st:=by
 intro a w hR;refine wp_seq (wp_mono (h a w hR) λe a' w' he=>?_)
 cases e with
 |normal=>obtain⟨st',hR',hQ⟩:=he;exact hQ a' w' hR'
 |exit id=>exact he
 |goto l=>exact he
 |ret=>exact he
 |panic ch=>exact he
 |outgrown=>exact he
theorem Ec{c:Operand}{Q:Ex->St->Prop}{t:Bool}(ht:ev st c=.sc (.bool t))(h1:t=B->jJ X x Q st)(h2:t=M->jJ X y Q st):jJ X (.cond c x y) Q st:=by
 intro a w hR
 have hv:a.eval c=.bool t:=by
  obtain⟨C,g,_,_,_,_,_,hr⟩:=hR;exact(ht ▸ hr.ev c).jF
 grind[wp_cond_split,jJ]
def qDr{c:Operand}{Q:Ex->St->Prop}(h1:jJ X x Q st)(ht:ev st c=.sc (.bool B)):jJ X (.cond c x y) Q st:=Ec ht (λ_=>h1) (λe=>vi)
def qDq{c:Operand}{Q:Ex->St->Prop}(h1:jJ X y Q st)(ht:ev st c=.sc (.bool M)):jJ X (.cond c x y) Q st:=Ec ht (λe=>vi) (λ_=>h1)
def bF{id:Nat}{Q:Ex->St->Prop}(h:jJ X c (og id Q) st):jJ X (.block id c) Q st:=by
 intro a w hR;refine wp_block (wp_mono (h a w hR) λe a' w' he=>?_)
 cases e with
 |exit id'=>
  obtain⟨st',hR',hQ⟩:=he;simp only[Exit.inBlock];simp only[og]at hQ
  split
  .rename_i e;rw[if_pos e]at hQ;exact⟨st',hR',hQ⟩
  .rename_i e;rw[if_neg e]at hQ;exact⟨st',hR',hQ⟩
 |normal=>exact he
 |goto l=>exact he
 |ret=>exact he
 |panic ch=>exact he
 |outgrown=>exact he
theorem Di{p:Nat->Prop}(h:∃n,p n):∃n,p n/\∀m,p m->n<=m:=by
 obtain⟨n,hn⟩:=h
 induction n using Nat.strongRecOn<;>grind
theorem zK{Q:Ex->St->Prop}(I:Nat->St->Prop)(n0:Nat)(h0:I n0 st)(hround:∀n s,s.n=X.n->s.gl=X.gl->I n s->jJ X c (thenS (λs'=>∃m,m<n/\I m s') Q) s):jJ X (.loop c) Q st:=by
 intro a w hR
 let J:Nat->Act->World->Prop:=λn a w=>∃st,Rw X st a w/\I n st
 let μ:Act->World->Nat:=λa w=>open Classical in if h:∃n,J n a w then(Di h).choose else 0
 have hμ:∀n a w,J n a w->μ a w<=n:=by
  intro n a w hJ;have hex:∃n,J n a w:=⟨n,hJ⟩;simp only[μ,dif_pos hex];exact(Di hex).choose_spec.2 n hJ
 refine wp_loop (λa w=>∃n,J n a w) μ ⟨n0,st,hR,h0⟩ λa w hJ=>?_
 have hspec:J (μ a w) a w:=by
  grind
 obtain⟨st1,hR1,hI1⟩:=hspec;have hR1':=hR1;obtain⟨C,g,x1,x2,x3,x4,x5,x6⟩:=hR1;refine wp_mono (hround _ st1 x3 x4 hI1 a w hR1') λe a' w' he=>?_
 cases e with
 |normal=>
  obtain⟨st',hR',m,hlt,hI⟩:=he;exact⟨⟨m,st',hR',hI⟩,Nat.lt_of_le_of_lt (hμ m a' w' ⟨st',hR',hI⟩) hlt⟩
 |exit id=>exact he
 |goto l=>exact he
 |ret=>exact he
 |panic ch=>exact he
 |outgrown=>exact he
def qDv{id:Nat}{Q:Ex->St->Prop}(h:∀K:St->Prop,(∀s,Q .normal s->K s)->yQ X (ops.toList.map (·.dst)) K (λx=>Q (.b9 x)) ops.toList st):jJ X (.region id ops M) Q st:=by
 intro a w hR;refine wp_region ?_;rw[List.range_eq_range'];have:=yQ.PD (ops:=ops) (Q:=nF X Q) (λa' w' st' h1 h2=>⟨st',h1,h2⟩) (λa' v w' st' x h1 h2=>⟨st',v,x,h1,rfl,h2⟩) ops.toList 0 rfl st (h _ (λ_ h=>h)) a w hR;omega
def Ph{id:Nat}{Q:Ex->St->Prop}(hm:X.P.follows .mixedOrders=B)(h:∀K:St->Prop,(∀s,Q .normal s->K s)->po X ops K (λx=>Q (.b9 x)) st):jJ X (.region id ops B) Q st:=by
 intro a w hR;exact wp_region_any hm (h _ (λ_ h=>h) a _ _ (hR.drawn _) (λa' w' st' h1 h2=>⟨st',h1,h2⟩) (λa' v w' st' x h1 h2=>⟨st',v,x,h1,rfl,h2⟩))
def wK{Q:Ex->St->Prop}(h:K st):thenS K Q .normal st:=h
def cC{Q:Ex->St->Prop}{id:Nat}(h:Q .normal st):og id Q (.exit id) st:=by simp[og,h]
theorem cE{Q:Ex->St->Prop}{id id':Nat}(hne:id'≠id)(h:Q (.exit id') st):og id Q (.exit id') st:=by grind[og]
def Pj{Q:Ex->St->Prop}(n0 n1:Nm)(h0:n0.z6=M\/X.ext n0=M)(h1:n1.z6=M\/X.ext n1=M)(h:jJ X c Q (st.move n0 n1)):jJ X c Q st:=
 λa w hR=>h a w (hR.move n0 n1 h0 h1)
end
def Nm.zj:Nm->Bool
 |.s _=>B
 |.u _ _ _=>M
 |.c n _ _=>n.zj
theorem Nm.ie(h:Nm.under a b=B):∀{c:Nm},Nm.under b c=B->Nm.under a c=B:=by
 intro c
 induction c<;>grind[under]
theorem Nm.nO(ha:a.zj=B):Nm.under a b=B->b.zj=B:=by
 induction b with
 |s d=>intro _;rfl
 |u k i j=>grind[under]
 |c n i j ih=>
  grind[under,zj]
theorem Nm.E8{i:Nat}(h:Nm.under (.c n i j) m=B):Nm.under n m=B/\m≠n:=by
 induction m<;>grind[under,uQ,pC]
def zH(D:Nm->Bool):List (Nm×Nm)->Nm->Option Nm
 |[],m=>if D m then Z m else Y
 |p::l,m=>if Nm.under p.1 m then Z (Nm.qy p.1 p.2 m)else zH D l m
def rj:List (Nm×Nm)->Nm->Option Nm
 |[],_=>Y
 |p::l,m=>if Nm.under p.2 m then Z (Nm.qy p.2 p.1 m)else rj l m
def vW(D:Nm->Bool)(sbs:List (Nm×Nm))(hp:Nm->Option AO):Nm->Option AO:=λm=>
 if D m then(hp m).map (AO.tr (zH D sbs))else match rj sbs m with
  |some q=>if zH D sbs q=Z m then(hp q).map (AO.tr (zH D sbs))else Y
  |none=>Y
structure eU(D:Nm->Bool)(root:Nm)(sbs:List (Nm×Nm)):Prop where
 src:∀p∈sbs,p.1.zj=B
 AD:∀p∈sbs,Nm.under root p.2=B
 GV:sbs.Pairwise (λp q=>∀m,Nm.under p.2 m=B->Nm.under q.2 m=M)
def eU.nil:eU D root []:=⟨qB,qB,qB⟩
theorem eU.one(h:n.zj=B):eU D root [(n,root)]:=⟨iE,by simp[Nm.uQ],qB⟩
theorem mb(hD:∀m,D m=B->m.zj=M)(hm:D m=B):∀{sbs:List (Nm×Nm)},(∀p∈sbs,p.1.zj=B)->zH D sbs m=Z m
 :=by intro x0;induction x0<;>grind[zH,Nm.nO]
theorem GX:∀{sbs:List (Nm×Nm)}{m x:Nm},(∀p∈sbs,Nm.under root p.2=B)->zH D sbs m=Z x->(D m=B/\x=m)\/∃p∈sbs,Nm.under p.2 x=B
 :=by intro x0;induction x0<;>grind[zH,Nm.fG]
theorem GY{D:Nm->Bool}{root:Nm}(hroot:∀m,Nm.under root m=B->D m=M):∀{sbs:List (Nm×Nm)},(∀p∈sbs,Nm.under root p.2=B)->sbs.Pairwise (λp q=>∀m,Nm.under p.2 m=B->Nm.under q.2 m=M) ->
  ∀k k' x,zH D sbs k=Z x->zH D sbs k'=Z x->k=k'
 |[],_,_,k,k',x,h,h'=>by
  grind[zH]
 |p::l,ht,hd,k,k',x,h,h'=>by
  have hl:=List.pairwise_cons.1 hd
  have cross:∀k k' x,Nm.under p.1 k=B->Z (Nm.qy p.1 p.2 k)=Z x->zH D l k'=Z x->False:=by
   intro k k' x hu e e';obtain rfl:=sI e;have hx:=Nm.fG (k1:=p.2) k hu;rcases GX (λq hq=>ht q lL) e' with⟨hD,e2⟩|⟨q,hq,hq2⟩<;>grind[Nm.ie]
  simp only[zH]at h h'
  split at h
  .grind[Nm.EG]
  .split at h'
   .grind
   .exact GY hroot (λq hq=>ht q lL) hl.2 k k' x h h'
def aU(P:Program)(st:St):List ResultVar->Option (List AV)
 |[]=>Z []
 |.tmp t::l=>(aU P st l).map (st.tm t::·)
 |.cell t T::l=>((bu st (st.tm t)).bind (λp=>db P T p.1 p.2)).bind λx=>(aU P st l).map (x::·)
def iY:List AV->AV
 |[x]=>x
 |l=>.zT l
def Bj(tmps:Array Value):ResultVar->Sem Value
 |.tmp t=>pure (tmps.getD t undef)
 |.cell x t=>do loadVar t (<- asAddr (tmps.getD x undef))
section
variable{P:Program}{own:Nat->Prop}{C:Nat->Prop}{w0:World}{g:Gh}{st:St}{a:Act}{w:World}
theorem IA(h:Rg P own C w0 g st a w):∀(l:List ResultVar)(xs:List AV),aU P st l=Z xs ->
  ∃vs:List Value,(l.mapM (Bj a.tmps)).run P w=.ok vs w/\O vs=O xs/\∀(j:Nat)v x,vs[j]?=Z v->xs[j]?=Z x->RV g w v x
 |[],xs,hq=>by
  simp_all[aU]
 |.tmp t::l,xs,hq=>by
  simp only[aU]at hq;obtain⟨m,hm,rfl⟩:=zq.1 hq;obtain⟨vs,e1,e2,e3⟩:=IA h l m hm;refine⟨a.tmps.getD t undef::vs,?_,by simp[e2],λj v x hv hx=>?_⟩
  .simp_all[Bj]
  .cases j with
   |zero=>
    obtain rfl:=sI hv;obtain rfl:=sI hx;exact h.dG t
   |succ j=>grind
 |.cell t T::l,xs,hq=>by
  simp only[aU]at hq;obtain⟨y,hy,hq⟩:=gb.1 hq;obtain⟨m,hm,rfl⟩:=zq.1 hq;obtain⟨⟨cs,off⟩,h1,h2⟩:=gb.1 hy;obtain⟨vs,e1,e2,e3⟩:=IA h l m hm;obtain⟨b,o,f,e,hcell,_,hr⟩:=h.bu (h.dG t) h1;obtain⟨v,hrun,hrv⟩:=OX (P:=P) h2 hcell hr;refine⟨v::vs,?_,by simp[e2],λj u x hu hx=>?_⟩<;>grind[Bj,Sem.run_bind,Sem.run_pure,Result.andThen_ok,asAddr]
theorem O0(h:Rg P own C w0 g st a w)(hq:aU P st fn.results.toList=Z xs):
  ∃v,(results fn a.tmps).run P w=.ok v w/\RV g w v (iY xs):=by
 obtain⟨vs,e1,e2,e3⟩:=IA h fn.results.toList xs hq
 have hrun:(fn.results.mapM (Bj a.tmps)).run P w=.ok vs.toArray w:=by
  simp_all[Array.mapM_eq_mapM_toList]
 have hres:results fn a.tmps=(do let vs <- fn.results.mapM (Bj a.tmps);pure (if h:vs.size=1 then vs[0]else .tuple vs)):=rfl;rw[hres];simp only[Sem.run_bind,hrun,Result.andThen_ok,Sem.run_pure];refine⟨_,rfl,?_⟩
 cases xs with
 |nil=>
  obtain rfl:=bN e2;constructor<;>grind
 |cons x l=>
  cases vs with
  |nil=>simp at e2
  |cons v vs=>
   cases l with
   |nil=>
    obtain rfl:=bN (by simpa using e2);exact e3 0 v x rfl rfl
   |cons y l=>
    cases vs with
    |nil=>simp at e2
    |cons u vs=>
     constructor<;>grind
end
def rm(P:Program)(D:Nm->Bool)(root:Nm)(rs:List ResultVar)(R E:Nm->AV->(Nm->Option AO)->Prop):Ex->St->Prop
 |.normal,st=>∃sbs xs,eU D root sbs/\aU P st rs=Z xs/\R root ((iY xs).tr (zH D sbs)) (vW D sbs st.hp)
 |.ret,st=>∃sbs xs,eU D root sbs/\aU P st rs=Z xs/\R root ((iY xs).tr (zH D sbs)) (vW D sbs st.hp)
 |.b9 x,st=>∃sbs,eU D root sbs/\E root (x.tr (zH D sbs)) (vW D sbs st.hp)
 |_,_=>False
def w4(az:List AV)(H:Nm->Option AO)(n:Nat)(gl:Nat->Option (List AV)):St:={tm:=λt=>az.getD t (.sc undef),hp:=H,n:=n,gl:=gl}
def jt(P:Program)(C:Nat->Prop)(w:World)(g:Gh)(H:Nm->Option AO)(n:Nat)(gl:Nat->Option (List AV)):Ctx:=
 {P:=P,own:=vn g H,C0:=C,w0:=w,n:=n,gl:=gl,ext:=λm=>(H m).isSome,g0:=g}
theorem qX.Dt{az:List AV}{rs:List ResultVar}{n:Nat}
  (hf:P.funcs[f]?=Z fn)(hb:fn.body=Z c)(hname:(fn.name == "runtime.NumGoroutine")=M)(hrs:fn.results.toList=rs)(hn:fn.ntmps=n)(hle:O az<=n)(hD:∀m,D m=B->m.zj=M)
  (h:∀C w g root,(∀m,Nm.under root m=B->D m=M)->jJ (jt P C w g H n gl) c (rm P D root rs R E) (w4 az H n gl)):qX P gl f D az H R E:=by
 refine⟨⟨fn,hf,hname,qx⟩,λroot C w g args hroot hru hHD hinv hgl hsz hargs=>?_⟩
 have hstart:Rw (jt P C w g H n gl) (w4 az H n gl) {tmps:=args++Array.replicate (fn.ntmps-args.size) undef,defers:=[]} w:=by
  refine⟨C,g,λ_ h=>h,λ_ h=>.inl h,rfl,rfl,λ_ _ _ _=>⟨rfl,rfl⟩,hinv,rfl,?_,?_,hgl⟩
  .grind[w4]
  .intro t;simp only[w4];by_cases ht:t<args.size
   .have h1:az[t]?=Z (az[t]' qA):=gE _
    simp_all<;>grind
   .have h1:az[t]?=Y:=eX qA
    have h2:(args++Array.replicate (fn.ntmps-args.size) undef).getD t undef=undef:=by
     simp_all<;>grind
    rw[h2,bO,h1];exact RV.sc _
 have key:∀{st:St}{a:Act}{w':World}{C':Nat->Prop}{g1:Gh}(sbs:List (Nm×Nm)),eU D root sbs->(∀b,C b->C' b)->(∀b,C' b->C b\/w.heap.size<=b\/vn g H b)->mA (jt P C w g H n gl) g1->Rg P (vn g H) C' w g1 st a w' ->
   ∃g',dH (vn g H) C w g D root H (vW D sbs st.hp) C' g' w'/\∀v x,RV g1 w' v x->RV g' w' v (x.tr (zH D sbs)):=by
  intro st a w' C' g1 sbs hok hC1 hC2 hext hr;have hinj:=GY (D:=D) hroot hok.AD hok.GV
  let g':Gh:={C:=g1.C,φ:=λm=>if D m||Nm.under root m then(g1.tr (zH D sbs)).φ m else g.φ m,κ:=λm=>if D m||Nm.under root m then(g1.tr (zH D sbs)).κ m else g.κ m}
  have img:∀m m',zH D sbs m=Z m'->(D m'||Nm.under root m')=B:=by
   intro m m' e;rcases GX hok.AD e with⟨h1,rfl⟩|⟨p,hp,hp2⟩
   .simp [h1]
   .simp [Nm.ie (hok.AD p hp) hp2]
  have gf:∀m m',zH D sbs m=Z m'->g'.φ m'=g1.φ m/\g'.κ m'=g1.κ m:=by
   grind[Gh.gK]
  have old:∀m' o',vW D sbs st.hp m'=Z o'->∃m o,zH D sbs m=Z m'/\st.hp m=Z o/\o'=o.tr (zH D sbs):=by
   intro m' o' e;unfold vW at e
   split at e
   .rename_i hm;obtain⟨o,e1,rfl⟩:=zq.1 e;exact⟨m',o,mb hD hm hok.src,e1,rfl⟩
   grind[zq]
  have hs:=hr.step (g':=g') (w':=w') (f:=zH D sbs) (hp':=vW D sbs st.hp) rfl gf rfl rfl rfl (qb _) (λ_ _=>rfl) (λ_ _ _=>rfl) (λm' o' e=>by
   simp_all)
  refine⟨g',⟨hC1,hC2,hs.inv,λm hm=>?_,λm h1 h2=>qx,λk i j hk=>?_⟩,λv x hv=>hr.rv (g':=g') rfl (λ_ _=>rfl) gf hv⟩
  .obtain⟨o',ho'⟩:=dM.1 hm
   grind
  .have hd:=hHD _ hk;obtain⟨x1,x2⟩:=gf _ _ (mb hD hd hok.src)
   have he:(jt P C w g H n gl).ext (.u k i j)=B:=by
    obtain⟨o',ho'⟩:=dM.1 hk
    grind[jt]
   obtain⟨y1,y2⟩:=hext k i j he;exact⟨x1.trans y1,x2.trans y2⟩
 have done:∀st(a:Act)w',Rw (jt P C w g H n gl) st a w'->(∃sbs xs,eU D root sbs/\aU P st rs=Z xs/\R root ((iY xs).tr (zH D sbs)) (vW D sbs st.hp)) ->
   a.defers=[]/\∃v,(results fn a.tmps).run P w'=.ok v w'/\∃C' g' H' x,dH (vn g H) C w g D root H H' C' g' w'/\RV g' w' v x/\R root x H':=by
  intro st a w' hR hq;obtain⟨C',g1,h1,h2,_,_,h5,hr⟩:=hR;obtain⟨sbs,xs,hok,hx,hRx⟩:=hq;obtain⟨g',k1,k2⟩:=key sbs hok h1 h2 h5 hr;obtain⟨v,hrun,hv⟩:=O0 (fn:=fn) hr (by rw[hrs];exact hx);exact⟨hr.defers,v,hrun,C',g',_,_,k1,k2 v _ hv,hRx⟩
 refine calls_of_wp hf hb (wp_mono (h C w g root hroot _ _ hstart) λe a w' he=>?_)
 cases e with
 |normal=>obtain⟨st',hR,hQ⟩:=he;exact done st' a w' hR hQ
 |ret=>obtain⟨st',hR,hQ⟩:=he;exact done st' a w' hR hQ
 |panic ch=>
  obtain⟨st',v,x,hR,rfl,hQ⟩:=he;obtain⟨C',g1,h1,h2,_,_,h5,hr,hv⟩:=hR;obtain⟨sbs,hok,hEx⟩:=hQ;obtain⟨g',k1,k2⟩:=key sbs hok h1 h2 h5 hr;constructor<;>grind[Rg.defers]
 |exit id=>obtain⟨_,_,hQ⟩:=he;exact hQ.elim
 |goto l=>obtain⟨_,_,hQ⟩:=he;exact hQ.elim
 |outgrown=>exact he.elim
def qX.q9{as:List AV}{n:Nat}(hf:P.funcs[f]?=Z fn)(rs:List ResultVar)(hn:fn.ntmps=n)(hD:∀m,D m=B->m.zj=M)(h:∀C w g root,(∀m,Nm.under root m=B->D m=M)->jJ (jt P C w g H n gl) c (rm P D root rs R E) (w4 as H n gl))(hb:fn.body=Z c:=by exact rfl)(hname:(fn.1 ==  "runtime.NumGoroutine")=M:=by kernel_rfl)(hrs:fn.results.toList=rs:=by exact rfl)(hle:O as<=n:=by exact lB rfl):qX P gl f D as H R E:=qX.Dt hf hb hname hrs hn hle hD h
theorem qX.mono{P:Program}{gl:Nat->Option (List AV)}{f:FuncId}{D:Nm->Bool}{az:List AV}{H:Nm->Option AO}{R E R' E':Nm->AV->(Nm->Option AO)->Prop}(h:qX P gl f D az H R E)
  (hR:∀r x H',R r x H'->R' r x H')(hE:∀r x H',E r x H'->E' r x H'):qX P gl f D az H R' E':=by
 refine⟨h.1,λroot C w g args h1 h2 h3 h4 h5 h6 h7=>(h.2 root C w g args h1 h2 h3 h4 h5 h6 h7).mono λe w' he=>?_⟩
 grind
inductive qV where
 |done
 |q (i:Nat) (r:qV)
 |l (i:Nat) (ps:List Nat) (r:qV)
 |l2 (i:Nat) (ps:List Nat) (r:qV) (j:Nat) (qs:List Nat) (s:qV)
 |l3 (i:Nat) (ps:List Nat) (r:qV) (j:Nat) (qs:List Nat) (s:qV) (k:Nat) (us:List Nat) (t:qV)
abbrev xq(s:qV):qV:=.q 0<|.q 1<|.q 2<|.q 3<|s
abbrev bA(s:qV):qV:=.q 0<|.q 1<|.q 2<|.q 3<|.q 4<|.q 5<|s
abbrev ba(s:qV):qV:=.q 0<|.q 1<|.q 2<|.q 3<|.q 4<|.q 5<|.q 6<|s
abbrev bB(s:qV):qV:=.q 0<|.q 1<|.q 2<|.q 3<|.q 4<|.q 5<|.q 6<|.q 7<|s
abbrev eG(s:qV):qV:=.q 0<|.q 1<|.q 2<|.q 3<|.q 4<|.q 5<|.q 6<|.q 7<|.q 8<|s
abbrev Bq(s:qV):qV:=.q 0<|.q 1<|.q 2<|.q 3<|.q 4<|.q 5<|.q 6<|.q 7<|.q 8<|.q 9<|s
abbrev wG(s:qV):qV:=.q 0<|.q 1<|.q 2<|.q 3<|.q 4<|.q 5<|.q 6<|.q 7<|.q 8<|.q 9<|.q 10<|s
abbrev ax(s:qV):qV:=.q 0<|.q 1<|.q 2<|.q 3<|.q 4<|.q 5<|.q 6<|.q 7<|.q 8<|.q 9<|.q 10<|.q 11<|s
abbrev xp(s:qV):qV:=.q 0<|.q 1<|.q 2<|.q 3<|.q 4<|.q 5<|.q 6<|.q 7<|.q 8<|.q 9<|.q 10<|.q 11<|.q 12<|s
abbrev gA(s:qV):qV:=.q 0<|.q 1<|.q 2<|.q 3<|.q 4<|.q 5<|.q 6<|.q 7<|.q 8<|.q 9<|.q 10<|.q 11<|.q 12<|.q 13<|s
abbrev IK(s:qV):qV:=.q 0<|.q 1<|.q 2<|.q 3<|.q 4<|.q 5<|.q 6<|.q 7<|.q 8<|.q 9<|.q 10<|.q 11<|.q 12<|.q 13<|.q 14<|s
abbrev O8(s:qV):qV:=.q 0<|.q 1<|.q 2<|.q 3<|.q 4<|.q 5<|.q 6<|.q 7<|.q 8<|.q 9<|.q 10<|.q 11<|.q 12<|.q 13<|.q 14<|.q 15<|s
abbrev IL(s:qV):qV:=.q 0<|.q 1<|.q 2<|.q 3<|.q 4<|.q 5<|.q 6<|.q 7<|.q 8<|.q 9<|.q 10<|.q 11<|.q 12<|.q 13<|.q 14<|.q 15<|.q 16<|s
abbrev Br(s:qV):qV:=.q 0<|.q 1<|.q 2<|.q 3<|.q 4<|.q 5<|.q 6<|.q 7<|.q 8<|.q 9<|.q 10<|.q 11<|.q 12<|.q 13<|.q 14<|.q 15<|.q 16<|.q 17<|s
def MA:Op->Bool
 |.move _|.pick _ _ _|.load _ _|.nilCheck _|.binOp _ _ _ _ _|.unOp _ _ _|.convert _ _ _|.makeInterface _ _|.slice _ _ _ _ Y|.fieldAddr _ _ _|.field _ _ _
 |.indexAddr _ _ _|.index _ _ _|.extract _ _|.build _ _|.typeAssert _ _ _ _|.lookup _ _ _ _|.makeFunc _ _ _|.call ⟨.builtin .len,_,_⟩=>B
 |_=>M
def v8(ops:Array Oper)(i:Nat):List Nat:=match ops[i]? with|some o=>(o.after.toList.filter (λe=>Region.binds .any e)).map (·.on)|none=>[]
def uc(ops:Array Oper)(i:Nat):Option Nat:=(ops[i]?).bind (·.dst)
def aT(ops:Array Oper)(i:Nat):Bool:=match ops[i]? with|some o=>MA o.op&&o.dst.isSome|none=>M
def Bh(ops:Array Oper)(LV:List Nat)(i:Nat):Bool:=!LV.contains i&&(v8 ops i).all (λj=>LV.contains j)
def iX(ops:Array Oper)(LV:List Nat):List Nat:=(List.range ops.size).filter (Bh ops LV)
def sP(ops:Array Oper):Bool:=
 Region.noSelect ops &&
 (List.range ops.size).all (λi=>(List.range ops.size).all λj=>i==j||uc ops i==Y||uc ops i != uc ops j) &&
 (List.range ops.size).all (λi=>match ops[i]? with|some o=>(o.looksAt ops).all (λt=>(List.range ops.size).all λj=>!(uc ops j==Z t)||!aT ops j||(v8 ops i).contains j)|none=>M)
def H9(ops:Array Oper):Nat->List Nat->List Nat
 |0,s=>s
 |n+1,s=>s++H9 ops n (s.flatMap (v8 ops))
theorem Ha{ops:Array Oper}{L:Nat->Prop}(h:∀q,L q->∀j∈v8 ops q,L j):∀(n:Nat)(s:List Nat),(∀q∈s,L q)->∀q∈H9 ops n s,L q
 |0,_,hs=>hs
 |n+1,s,hs=>λq hq=>by
  rcases yI.1 hq with e|e
  .grind
  .refine Ha h n _ (λj hj=>?_) q e
   grind
def Xr(ops:Array Oper)(i:Nat):List Nat:=H9 ops 3 (v8 ops i)
def l8(ops:Array Oper)(LV:List Nat)(i:Nat):List Nat:=
 LV.filter λq=>aT ops q&&!(i::LV).any (λl=>!aT ops l&&(Xr ops l).contains q)
def yC(ops:Array Oper):qV->List Nat->Bool
 |.done,LV=>(List.range ops.size).all (λi=>LV.contains i)
 |.q i r,LV=>i<ops.size&&aT ops i&&Bh ops LV i&&yC ops r (i::LV)
 |.l i ps r,LV=>iX ops LV==[i]&&!aT ops i&&(l8 ops LV i).all (λq=>ps.contains q)&&yC ops r (i::LV)
 |.l2 i ps r j qs s,LV=>iX ops LV==[i,j]&&!aT ops i&&!aT ops j&&(l8 ops LV i).all (λq=>ps.contains q)&&(l8 ops LV j).all (λq=>qs.contains q)&&yC ops r (i::LV)&&yC ops s (j::LV)
 |.l3 i ps r j qs s k us t,LV=>iX ops LV==[i,j,k]&&!aT ops i&&!aT ops j&&!aT ops k&&(l8 ops LV i).all (λq=>ps.contains q)&&(l8 ops LV j).all (λq=>qs.contains q)&&(l8 ops LV k).all (λq=>us.contains q)&&yC ops r (i::LV)&&yC ops s (j::LV)&&yC ops t (k::LV)
def pO(X:Ctx)(ds:List (Option Nat))(o:Oper)(st:St):Prop:=
 match o.dst with
 |some d=>(match o.guard with
  |none=>vA X.P st o=Z (st.tm d)
  |some (j,want)=>match ds[j]? with
   |some (Z e)=>match st.tm e with
    |.sc (.bool t)=>(t=want->vA X.P st o=Z (st.tm d))/\(t=!want->st.tm d=.sc undef)
    |.sc v=>v=undef/\st.tm d=.sc undef
    |_=>False
   |_=>False)
 |none=>False
def uw(X:Ctx)(ops:List Oper)(ds:List (Option Nat)):List Nat->St->Prop
 |[],_=>True
 |q::l,st=>(match ops[q]? with|some o=>pO X ds o st|none=>False)/\uw X ops ds l st
def CR(X:Ctx)(o:Oper)(K:St->Prop)(st:St):Prop:=∃d z,o.dst=Z d/\d<X.n/\vA X.P st o=Z z/\K (st.put (Z d) z)
def QG(X:Ctx)(ds:List (Option Nat))(o:Oper)(K:St->Prop)(st:St):Prop:=
 (o.guard=Y/\CR X o K st) \/
 (∃j want d t,o.guard=Z (j,want)/\ds[j]?=Z (Z d)/\st.tm d=.sc (.bool t)/\(t=want->CR X o K st)/\(t=!want->(∀e,o.dst=Z e->e<X.n)/\K (st.put o.dst (.sc undef)))) \/
 ∃j want d,o.guard=Z (j,want)/\ds[j]?=Z (Z d)/\st.tm d=.sc undef/\(∀e,o.dst=Z e->e<X.n)/\K (st.put o.dst (.sc undef))
def zn(X:Ctx)(ops:List Oper)(ds:List (Option Nat))(K:St->Prop):qV->St->Prop
 |.done,st=>K st
 |.q i r,st=>match ops[i]? with|some o=>QG X ds o (zn X ops ds K r) st|none=>False
 |.l i ps r,st=>match ops[i]? with|some o=>uB X ds o (λs=>uw X ops ds ps s/\zn X ops ds K r s) (λ_ _=>False) st|none=>False
 |.l2 i ps r j qs s,st=>(match ops[i]? with|some o=>uB X ds o (λs=>uw X ops ds ps s/\zn X ops ds K r s) (λ_ _=>False) st|none=>False) /\
  (match ops[j]? with|some o=>uB X ds o (λs'=>uw X ops ds qs s'/\zn X ops ds K s s') (λ_ _=>False) st|none=>False)
 |.l3 i ps r j qs s k us t,st=>(match ops[i]? with|some o=>uB X ds o (λs=>uw X ops ds ps s/\zn X ops ds K r s) (λ_ _=>False) st|none=>False) /\
  (match ops[j]? with|some o=>uB X ds o (λs'=>uw X ops ds qs s'/\zn X ops ds K s s') (λ_ _=>False) st|none=>False) /\
  (match ops[k]? with|some o=>uB X ds o (λs'=>uw X ops ds us s'/\zn X ops ds K t s') (λ_ _=>False) st|none=>False)
section
variable{X:Ctx}{ops:Array Oper}{st:St}
structure ny(ops:Array Oper):Prop where
 xr:∀(j:Nat)(o:Oper)(cs:Array SelectCase)(b:Bool),ops[j]?=Z o->o.op≠.select cs b
 GW:∀i j d,i<ops.size->j<ops.size->uc ops i=Z d->uc ops j=Z d->i=j
 look:∀i o t j,ops[i]?=Z o->t∈o.looksAt ops->j<ops.size->uc ops j=Z t->aT ops j=B->j∈v8 ops i
theorem Pp(h:sP ops=B):ny ops:=by
 simp only[sP,yF]at h;obtain⟨⟨h1,h2⟩,h3⟩:=h;refine⟨λj o cs b ho=>Region.noSelect_spec h1 j o cs b ho,λi j d hi hj e1 e2=>?_,λi o t j ho ht hj e1 e2=>?_⟩
 .simp_all<;>grind
 grind
structure a8(D:Nat->Prop)(a b:Act):Prop where
 defers:a.defers=b.defers
 size:a.tmps.size=b.tmps.size
 tmps:∀t,¬D t->a.tmps[t]?=b.tmps[t]?
def a8.exec{D:Nat->Prop}{a b:Act}{o:Oper}(h:a8 D a b)(hs:∀cs b,o.op≠.select cs b)(hl:∀t∈o.looksAt ops,¬D t):execOp a.eval o=execOp b.eval o:=by
 refine execOp_congr o hs λx hx=>?_
 cases x with
 |tmp t=>
  have ht:t∈o.looksAt ops:=List.mem_append_left _ (List.mem_filterMap.2 ⟨.tmp t,qQ,rfl⟩);simp only[Act.eval,oB,h.tmps t (hl t ht)]
 |_=>rfl
theorem a8.wanted{D:Nat->Prop}{a b:Act}{o:Oper}(h:a8 D a b)(hl:∀t∈o.looksAt ops,¬D t):Region.wanted o (yielded ops a.tmps)=Region.wanted o (yielded ops b.tmps):=by
 unfold Region.wanted
 cases hg:o.guard with
 |none=>rfl
 |some gw=>
  obtain⟨j,want⟩:=gw
  have hy:yielded ops a.tmps j=yielded ops b.tmps j:=by
   unfold yielded
   cases ht:(ops[j]?).bind (·.dst)with
   |none=>rfl
   |some t=>
    have hm:t∈o.looksAt ops:=by grind[Oper.looksAt]
    simp only[oC,h.tmps t (hl t hm)]
  simp_all
theorem a8.put{D D':Nat->Prop}{a b:Act}(h:a8 D a b)(dst:Option Nat)(v:Value)(hD:∀t,¬D' t->dst=Z t\/¬D t):a8 D' (a.put dst v) (b.put dst v):=by
 cases dst with
 |none=>exact⟨h.defers,h.size,λt ht=>h.tmps t ((hD t ht).resolve_left qB)⟩
 |some d=>
  refine⟨h.defers,by simp[Act.put,h.size],λt ht=>?_⟩;simp only[Act.put];by_cases e:d=t
  .grind[size]
  .rw [rB e,rB e];exact h.tmps t ((hD t ht).resolve_left qQ)
def pg(P:Program)(ops:Array Oper)(b:Act)(w:World)(q:Nat):Prop:=
 ∃o d,ops[q]?=Z o/\o.dst=Z d/\d<b.tmps.size/\((Region.wanted o (yielded ops b.tmps)=B/\(execOp b.eval o).run P w=.ok (.value (b.tmps.getD d undef)) w)\/(Region.wanted o (yielded ops b.tmps)=M/\b.tmps.getD d undef=undef))
theorem pg.put{P:Program}{b:Act}{w:World}{q:Nat}(h:pg P ops b w q)(hw:ny ops)(d:Nat)(v:Value)(hl:∀o,ops[q]?=Z o->d∉o.looksAt ops)(hd:uc ops q≠Z d):pg P ops (b.put (Z d) v) w q:=by
 obtain⟨o,e,ho,he,hlt,h⟩:=h;have hag:a8 (λt=>t=d) (b.put (Z d) v) b:=⟨rfl,by simp[Act.put],λt ht=>by grind[Act.put]⟩;have hla:∀t∈o.looksAt ops,¬t=d:=λt ht e=>hl o ho (e ▸ ht);have hne:e≠d:=λe'=>hd rL
 have hslot:(b.put (Z d) v).tmps.getD e undef=b.tmps.getD e undef:=by
  simp_all<;>grind[Act.put]
 refine⟨o,e,ho,he,by grind[Act.put],?_⟩;rw[hag.wanted hla,hag.exec (hw.xr q o · · ho) hla,hslot];exact h
def dJ(ops:Array Oper):List Nat->Prop
 |[]=>True
 |x::l=>x∉l/\x<ops.size/\(∀j∈v8 ops x,j∈l)/\dJ ops l
theorem dJ.v8:∀{l:List Nat},dJ ops l->∀q∈l,∀j∈v8 ops q,j∈l
 |[],_,_,h,_,_=>by cases h
 |x::l,h,q,hq,j,hj=>by
  rcases vV.1 hq with rfl|hq
  .grind[dJ]
  .exact cY _ (dJ.v8 h.2.2.2 q hq j hj)
def dJ.lt:∀{l:List Nat},dJ ops l->∀q∈l,q<ops.size
 |[],_,_,h=>by cases h
 |x::l,h,q,hq=>by
  rcases vV.1 hq with rfl|hq
  .exact h.2.1
  .exact dJ.lt h.2.2.2 q hq
structure DI(X:Ctx)(ops:Array Oper)(LV:List Nat)(listed:Array Bool)(st:St)(a b:Act)(w:World):Prop where
 rw:Rw X st b w
 len:listed.size=ops.size
 sub:∀i,i<ops.size->listed.getD i B=B->i∈LV
 closed:∀i,i<ops.size->listed.getD i B=B->∀j∈v8 ops i,listed.getD j M=B
 wW:∀q∈LV,listed.getD q B=M->aT ops q=B/\pg X.P ops b w q
 vN:a8 (λt=>∃q∈LV,listed.getD q B=M/\uc ops q=Z t) a b
 ord:dJ ops LV
end
end Go.Hm
end
